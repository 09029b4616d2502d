import Derived.Test.YtjiblcncadekcaaGreatQOxPAx0
import Derived.Test.YtjiblcncadekcaaGreatQOxPAx4
namespace Go.Proofs.YtjiblcncadekcaaGreat.PA
open Go.Proofs.YtjiblcncadekcaaGreat.PL
open Go.RowKit Go.Proofs.YtjiblcncadekcaaGreatW.PrintWords Go.Proofs.YtjiblcncadekcaaGreatW.PrintLast Go.Proofs.YtjiblcncadekcaaGreatW.PrintMore
attribute [local go_sem] max2_int min2_int bl_leq max_two min_two max_three min_three max_four min_four
set_option linter.unusedVariables false
set_option linter.unusedSimpArgs false
def armoirelaw11_Own.l0 : Nat → List (S72) → Int → Int → Int → Int → List (S73) → Option (Int × Int × (List (S73)))
  | 0, _, _, _, _, _, _ => none
  | k + 1, x12, x13, x14, x192000, x192001, x192002 => if x14 < x13 then (if 0 ≤ x14 then (if x14 < (x12.length : Int) then (if x192002.length < 4398046511104 then (armoirelaw11_Own.l0 k x12 x13 (wrap64 (x14 + 1)) x192000 x192001 (x192002 ++ [(⟨(rd_T72 x12 x14).f0, (rd_T72 x12 x14).f1⟩ : S73)])) else (none)) else (none)) else (none)) else (some (x192000, x192001, x192002))
def armoirelaw11_Own.f (k : Nat) (a0_0 : Int) (a0_1 : Int) (l0_2 : List (S72)) : Option (Int × Int × (List (S73))) := armoirelaw11_Own.l0 k l0_2 (l0_2.length : Int) 0 a0_0 a0_1 ([] : List (S73))
set_option maxHeartbeats 8000000 in
set_option maxRecDepth 100000 in
theorem armoirelaw11_Own.calls (k : Nat) (a0_0 : Int) (a0_1 : Int) (A0_2 : Option Addr) (c0_2 : Nat) (l0_2 : List (S72)) (r1 : Int) (r2 : Int) (r3 : List (S73)) (w : World) (hr0_2 : Kd.C k72 w A0_2 l0_2.length l0_2) (hc0_2 : l0_2.length ≤ c0_2) (h : armoirelaw11_Own.f k a0_0 a0_1 l0_2 = some (r1, r2, r3)) :
    Calls Tryz.prog 6 #[.agg #[.int .i64 a0_0, .int .i64 a0_1, .slice A0_2 l0_2.length c0_2]] w fun e w' => ∃ v2_ : Value, e = .returned (.agg #[.int .i64 r1, .int .i64 r2, v2_]) ∧ Kd.R k73 73 w' w.heap.size (fun _ => True) v2_ r3 ∧ Below w.heap.size w w' := by
  have hu30 := Tryz.underlying30
  have hu24 := Tryz.underlying24
  have hu72 := Tryz.underlying72
  have HR0_2 := Z0.mk hr0_2
  have HC0_2 := Z0.mk hc0_2
  clear hr0_2 hc0_2
  have HB := Z0.mk (Below.refl w.heap.size w)
  have H : (armoirelaw11_Own.l0 k l0_2 (l0_2.length : Int) 0 a0_0 a0_1 ([] : List (S73))) = some (r1, r2, r3) := h
  clear h
  have H' := Z0.mk H
  clear H
  go_enter Tryz.func6, Tryz.ntmps6
  go_wp2_with (first | ((with_reducible refine gds (N := 1) rfl ?_); refine bx_ (N := 1) (cs := #[.int .i64 a0_0, .int .i64 a0_1, .slice A0_2 l0_2.length c0_2]) (t := 30) ?_; intro gb189 hg w2 hbox hb; have n0_ := Z0.mk (bsp bl_ hb); have n1_ := Z0.mk (hbox); have n2_ := Z0.mk ((by rw [hg]; exact bsz bl_ : w.heap.size ≤ gb189)); have n3_ := Z0.mk ((by rw [hg]; exact bsz bl_ : w.heap.size ≤ gb189)); clear HB; have HB := n0_; have BK189 := n1_; have GW189 := n2_; have GE189 := n3_; clear n0_ n1_ n2_ n3_; clear hb hbox hg) | ((with_reducible refine gds (N := 2) rfl ?_); refine bx_ (N := 2) (cs := #[.int .i64 0, .int .i64 0, .slice none 0 0]) (t := 24) ?_; intro gb190 hg w3 hbox hb; have n0_ := Z0.mk (kbl (g := gb189) bk_ hb); have n1_ := Z0.mk (bsp bl_ hb); have n2_ := Z0.mk (hbox); have n3_ := Z0.mk ((by rw [hg]; exact bsz bl_ : w.heap.size ≤ gb190)); have n4_ := Z0.mk ((by rw [hg]; exact bsz bl_ : w.heap.size ≤ gb190)); have n5_ := Z0.mk ((by rw [hg]; exact Nat.ne_of_lt (klt_ (g := gb189) bk_) : gb189 ≠ gb190)); have n6_ := Z0.mk ((by rw [hg]; exact Nat.ne_of_gt (klt_ (g := gb189) bk_) : gb190 ≠ gb189)); clear BK189; clear HB; have BK189 := n0_; have HB := n1_; have BK190 := n2_; have GW190 := n3_; have GE190 := n4_; have NB189_190 := n5_; have NB190_189 := n6_; clear n0_ n1_ n2_ n3_ n4_ n5_ n6_; clear hb hbox hg; have hnb4 := NB189_190.out; have hnc4 := NB190_189.out; have hcz5 := bc3 BK189.out) | ((with_reducible refine gds (N := 3) rfl ?_); refine bx_ (N := 3) (cs := #[.int .i64 0, .int .i64 0, .slice none 0 0]) (t := 24) ?_; intro gb191 hg w6 hbox hb; have n0_ := Z0.mk (kbl (g := gb189) bk_ hb); have n1_ := Z0.mk (kbl (g := gb190) bk_ hb); have n2_ := Z0.mk (bsp bl_ hb); have n3_ := Z0.mk (hbox); have n4_ := Z0.mk ((by rw [hg]; exact bsz bl_ : w.heap.size ≤ gb191)); have n5_ := Z0.mk ((by rw [hg]; exact bsz bl_ : w.heap.size ≤ gb191)); have n6_ := Z0.mk ((by rw [hg]; exact Nat.ne_of_lt (klt_ (g := gb189) bk_) : gb189 ≠ gb191)); have n7_ := Z0.mk ((by rw [hg]; exact Nat.ne_of_gt (klt_ (g := gb189) bk_) : gb191 ≠ gb189)); have n8_ := Z0.mk ((by rw [hg]; exact Nat.ne_of_lt (klt_ (g := gb190) bk_) : gb190 ≠ gb191)); have n9_ := Z0.mk ((by rw [hg]; exact Nat.ne_of_gt (klt_ (g := gb190) bk_) : gb191 ≠ gb190)); clear BK189; clear BK190; clear HB; have BK189 := n0_; have BK190 := n1_; have HB := n2_; have BK191 := n3_; have GW191 := n4_; have GE191 := n5_; have NB189_191 := n6_; have NB191_189 := n7_; have NB190_191 := n8_; have NB191_190 := n9_; clear n0_ n1_ n2_ n3_ n4_ n5_ n6_ n7_ n8_ n9_; clear hb hbox hg; have hnb7 := NB191_189.out; have hnc7 := NB189_191.out; have hnb8 := NB191_190.out; have hnc8 := NB190_191.out; have hcz9 := bc3 BK191.out; have hcz10 := bc3 BK189.out))
  go_loopg [14] k (fun kq v14 w' => ∃ (x14_1 : Int) (x192002_1 : List (S73)) (u192002 : Value), v14 = .int .i64 x14_1 ∧ Z0 (armoirelaw11_Own.l0 kq l0_2 (l0_2.length : Int) x14_1 a0_0 a0_1 x192002_1 = some (r1, r2, r3)) ∧ Z0 (kq ≤ k) ∧ Z0 (Kd.R k73 73 w' w.heap.size (fun _ => True) u192002 x192002_1) ∧ Z0 (w'.heap[gb189]? = some (.cells #[.int .i64 a0_0, .int .i64 a0_1, (.slice A0_2 l0_2.length c0_2)] 30 (0, 0))) ∧ Z0 (w'.heap[gb190]? = some (.cells #[.int .i64 0, .int .i64 0, (.slice none 0 0)] 24 (0, 0))) ∧ Z0 (w'.heap[gb191]? = some (.cells #[.int .i64 a0_0, .int .i64 a0_1, u192002] 24 (0, 0))) ∧ Z0 (Below w.heap.size w w'))
  case atStart => exact ⟨(0), (([] : List (S73))), (.slice none 0 0), eqv_, H', ⟨Nat.le_refl _⟩, ⟨by first | exact Kd.R_nil _ _ _ _ _ | exact Kd.N_nil _ _ _ _ _ | exact Kd.V_nil _ _ _ _ _ | exact Kd.Q_nil _ _ _ _ _ | exact Kd.S_nil _ _ _ _ _⟩, ⟨bk_⟩, ⟨bk_⟩, ⟨bk_⟩, ⟨bl_⟩⟩
  clear H'
  try clear p2
  try clear c4
  try clear c6
  try clear c7
  try clear c8
  try clear hcz10
  try clear hcz5
  try clear hcz9
  try clear hcz10
  try clear hcz5
  try clear hcz9
  obtain ⟨x14_1, x192002_1, u192002, rfl, HA, HK1, HO_192002, BK189, BK190, BK191, HB⟩ := hrel
  cases gk with
  | zero => exact absurd HA.out (by simp [armoirelaw11_Own.l0])
  | succ k1 =>
    have H := HA.out
    clear HA
    simp only [armoirelaw11_Own.l0] at H
    by_cases c11 : x14_1 < (l0_2.length : Int)
    rotate_left
    · rw [if_neg c11] at H
      have c11b0 : decide (x14_1 < (l0_2.length : Int)) = false := decide_eq_false c11
      clear c11
      simp only [Option.some.injEq, Prod.mk.injEq] at H
      obtain ⟨rfl, rfl, rfl⟩ := H
      have hnb26 := NB191_189.out
      have hnc26 := NB189_191.out
      have hnb27 := NB191_190.out
      have hnc27 := NB190_191.out
      have hcz28 := bc3 BK191.out
      have hnb29 := NB190_189.out
      have hnc29 := NB189_190.out
      have hcz30 := bc3 BK190.out
      obtain ⟨Ao31, co31, eo31⟩ := Kd.R_slice HO_192002.out
      subst eo31
      go_wp2
      refine bodyPost_ret (results_cell_row rfl _ _ gb190 24 #[.int .i64 a0_0, .int .i64 a0_1, .slice Ao31 x192002_1.length co31] (0, 0) _ rfl bk_ Tryz.underlying24 rfl (by kernel_rfl)) rfl ?_
      exact ⟨_, er_, by (with_reducible repeat (first | apply Kd.R_alloc | apply Kd.R_drewN | apply Kd.R_drew)); exact Kd.R_mono (Kd.R_far (p := ⟨gb190, 2, none⟩) (Kd.R_far (p := ⟨gb190, 1, none⟩) (Kd.R_far (p := ⟨gb190, 0, none⟩) (Kd.R_types HO_192002.out BK190.out (by decide)) (fun _ hk => hk.2) (.int .i64 a0_0)) (fun _ hk => hk.2) (.int .i64 a0_1)) (fun _ hk => hk.2) (.slice Ao31 x192002_1.length co31)) (fun _ hk => trivial), bl_⟩
    rw [if_pos c11] at H
    have c11b0 : decide (x14_1 < (l0_2.length : Int)) = true := decide_eq_true c11
    clear c11
    by_cases c12 : 0 ≤ x14_1
    rotate_left
    · rw [if_neg c12] at H
      exact absurd H (by simp)
    rw [if_pos c12] at H
    have c12b0 : decide (0 ≤ x14_1) = true := decide_eq_true c12
    clear c12
    by_cases c13 : x14_1 < (l0_2.length : Int)
    rotate_left
    · rw [if_neg c13] at H
      exact absurd H (by simp)
    rw [if_pos c13] at H
    have c13b0 : decide (x14_1 < (l0_2.length : Int)) = true := decide_eq_true c13
    clear c13
    by_cases c14 : x192002_1.length < 4398046511104
    rotate_left
    · rw [if_neg c14] at H
      exact absurd H (by simp)
    rw [if_pos c14] at H
    have LMc14 := Z0.mk c14
    clear c14
    obtain ⟨y194, hy194⟩ : ∃ y_ : List (S73), y_ = (x192002_1 ++ [(⟨(rd_T72 l0_2 x14_1).f0, (rd_T72 l0_2 x14_1).f1⟩ : S73)]) := ⟨_, rfl⟩
    replace H : (armoirelaw11_Own.l0 k1 l0_2 (l0_2.length : Int) (wrap64 (x14_1 + 1)) a0_0 a0_1 y194) = some (r1, r2, r3) := by first | (rw [hy194]; with_reducible exact H) | (have H2_ := (Option.bind_some _ _).symm.trans H; rw [hy194]; with_reducible exact H2_) | (have H2_ := (Option.bind_some _ _).symm.trans H; with_reducible exact H2_) | with_reducible exact H | (rw [hy194]; exact H) | exact H
    have Ny194 := Z0.mk hy194
    clear hy194
    have H' := Z0.mk H
    clear H
    have p192 : 0 ≤ (x14_1 : Int) := of_decide_eq_true (by first | (with_reducible assumption) | assumption)
    have q192 : x14_1 < (l0_2.length : Int) := of_decide_eq_true (by first | (with_reducible assumption) | assumption)
    obtain ⟨ad192, e192, hx192_0, hx192_1⟩ := at_T72 HR0_2.out x14_1 p192 q192
    cases e192
    replace hx192_0 := (HB.out.cell (World.block_lt_of_cell? w _ hx192_0)).trans hx192_0
    replace hx192_1 := (HB.out.cell (World.block_lt_of_cell? w _ hx192_1)).trans hx192_1
    replace p192 := eq_true p192
    replace q192 := eq_true q192
    go_wp2_with (first | ((with_reducible refine gds (N := 5) rfl ?_); refine bx_ (N := 5) (cs := #[.string (⟨#[]⟩ : ByteArray), .string (⟨#[]⟩ : ByteArray)]) (t := 72) ?_; intro gb193 hg w15 hbox hb; have n0_ := Z0.mk (Kd.R_below (by (with_reducible repeat (first | apply Kd.R_alloc | apply Kd.R_drewN | apply Kd.R_drew)); exact HO_192002.out) hb); have n1_ := Z0.mk (kbl (g := gb189) bk_ hb); have n2_ := Z0.mk (kbl (g := gb190) bk_ hb); have n3_ := Z0.mk (kbl (g := gb191) bk_ hb); have n4_ := Z0.mk (bsp bl_ hb); have n5_ := Z0.mk (hbox); have n6_ := Z0.mk ((by rw [hg]; exact bsz bl_ : w.heap.size ≤ gb193)); have n7_ := Z0.mk ((by rw [hg]; exact bsz bl_ : w.heap.size ≤ gb193)); have n8_ := Z0.mk ((by rw [hg]; exact Nat.ne_of_lt (klt_ (g := gb189) bk_) : gb189 ≠ gb193)); have n9_ := Z0.mk ((by rw [hg]; exact Nat.ne_of_gt (klt_ (g := gb189) bk_) : gb193 ≠ gb189)); have n10_ := Z0.mk ((by rw [hg]; exact Nat.ne_of_lt (klt_ (g := gb190) bk_) : gb190 ≠ gb193)); have n11_ := Z0.mk ((by rw [hg]; exact Nat.ne_of_gt (klt_ (g := gb190) bk_) : gb193 ≠ gb190)); have n12_ := Z0.mk ((by rw [hg]; exact Nat.ne_of_lt (klt_ (g := gb191) bk_) : gb191 ≠ gb193)); have n13_ := Z0.mk ((by rw [hg]; exact Nat.ne_of_gt (klt_ (g := gb191) bk_) : gb193 ≠ gb191)); clear HO_192002; clear BK189; clear BK190; clear BK191; clear HB; have HO_192002 := n0_; have BK189 := n1_; have BK190 := n2_; have BK191 := n3_; have HB := n4_; have BK193 := n5_; have GW193 := n6_; have GE193 := n7_; have NB189_193 := n8_; have NB193_189 := n9_; have NB190_193 := n10_; have NB193_190 := n11_; have NB191_193 := n12_; have NB193_191 := n13_; clear n0_ n1_ n2_ n3_ n4_ n5_ n6_ n7_ n8_ n9_ n10_ n11_ n12_ n13_; clear hb hbox hg; have hnb16 := NB193_189.out; have hnc16 := NB189_193.out; have hnb17 := NB193_190.out; have hnc17 := NB190_193.out; have hnb18 := NB193_191.out; have hnc18 := NB191_193.out; have hcz19 := bc2 BK193.out; have hnb20 := NB191_189.out; have hnc20 := NB189_191.out; have hnb21 := NB191_190.out; have hnc21 := NB190_191.out; have hcz22 := bc3 BK191.out) | ((with_reducible refine gate_builtin (b := .append) (xs := #[.tmp 19, .tmp 21]) rfl ?_); at_builtin; refine Kd.R_append k73 (w0 := w) w.heap.size rfl (.tmp 19) (.tmp 21) 22 73 (.agg #[(.string ⟨#[]⟩), (.string ⟨#[]⟩)]) 32 rfl Tryz.underlying22 info73 rfl (by decide) (by omega) u192002 x192002_1 (⟨(rd_T72 l0_2 x14_1).f0, (rd_T72 l0_2 x14_1).f1⟩ : S73) [.string ((rd_T72 l0_2 x14_1).f0), .string ((rd_T72 l0_2 x14_1).f1)] (fun _ => True) (fun _ => False) rfl (by first | (go_simp; done) | (go_simp; rfl)) ?aP (fun _ hk => hk.elim) ?aF ?aO ?aB ?aS ?aL ?_; (case aP => exact k73_mkM _ _ _ (⟨(rd_T72 l0_2 x14_1).f0, (rd_T72 l0_2 x14_1).f1⟩ : S73)); (case aB => exact bl_); (case aF => exact (fun _ _ => trivial)); (case aO => exact (by (with_reducible repeat (first | apply Kd.R_alloc | apply Kd.R_drewN | apply Kd.R_drew)); exact Kd.R_mono (Kd.R_far (p := ⟨gb193, 1, none⟩) (Kd.R_far (p := ⟨gb193, 0, none⟩) (Kd.R_types HO_192002.out BK193.out (by decide)) (fun _ hk => hk.2) (.string ((rd_T72 l0_2 x14_1).f0))) (fun _ hk => hk.2) (.string ((rd_T72 l0_2 x14_1).f1))) (fun _ hk => trivial))); (case aS => exact bsz bl_); (case aL => have := LMc14.out; omega); intro v195 w23 ho hb hg hat; rw [← Ny194.out] at ho; have n0_ := Z0.mk (kgr_ (g := gb189) bk_ hg (Kd.R_ne HO_192002.out BK189.out (by decide))); have n1_ := Z0.mk (kgr_ (g := gb190) bk_ hg (Kd.R_ne HO_192002.out BK190.out (by decide))); have n2_ := Z0.mk (kgr_ (g := gb191) bk_ hg (Kd.R_ne HO_192002.out BK191.out (by decide))); have n3_ := Z0.mk (kgr_ (g := gb193) bk_ hg (Kd.R_ne HO_192002.out BK193.out (by decide))); have n4_ := Z0.mk (hb); have n5_ := Z0.mk (ho); clear BK189; clear BK190; clear BK191; clear BK193; clear HB; clear HO_192002; have BK189 := n0_; have BK190 := n1_; have BK191 := n2_; have BK193 := n3_; have HB := n4_; have HO196 := n5_; clear n0_ n1_ n2_ n3_ n4_ n5_; clear ho hb hg hat; obtain ⟨Ao24, co24, eo24⟩ := Kd.R_slice HO196.out; subst eo24; have hcz25 := bc3 BK191.out))
    go_roundg k1
    case measure => have := HK1.out; omega
    case rel => exact ⟨(wrap64 (x14_1 + 1)), (y194), (.slice Ao24 y194.length co24), eqv_, H', ⟨by have := HK1.out; omega⟩, ⟨by (with_reducible repeat (first | apply Kd.R_alloc | apply Kd.R_drewN | apply Kd.R_drew)); exact Kd.R_mono (Kd.R_far (p := ⟨gb191, 2, none⟩) (Kd.R_types HO196.out BK191.out (by decide)) (fun _ hk => hk.2) (.slice Ao24 y194.length co24)) (fun _ hk => trivial)⟩, ⟨bk_⟩, ⟨bk_⟩, ⟨bk_⟩, ⟨bl_⟩⟩
def armoireref12_HasA.f (a0 : Int) : Option (Bool) := if a0 = 2 then (some true) else (if a0 ≥ 8 then (if a0 ≤ 14 then (some true) else (some (a0 == 16))) else (some (a0 == 16)))
set_option maxHeartbeats 8000000 in
set_option maxRecDepth 100000 in
theorem armoireref12_HasA.calls (a0 : Int) (r : Bool) (w : World) (h : armoireref12_HasA.f a0 = some r) :
    Calls Tryz.prog 49 #[.int .i64 a0] w fun e w' => e = .returned (.bool r) ∧ Drawn0 w w' := by
  have H : (if a0 = 2 then (some true) else (if a0 ≥ 8 then (if a0 ≤ 14 then (some true) else (some (a0 == 16))) else (some (a0 == 16)))) = some r := h
  clear h
  by_cases c2 : a0 = 2
  · rw [if_pos c2] at H
    have c2b0 : (a0 == 2) = true := beq_iff_eq.mpr c2
    have c2b1 : (a0 != 2) = false := bne_eq_false_iff_eq.mpr c2
    clear c2
    obtain rfl := Option.some.inj H
    go_enter Tryz.func49, Tryz.ntmps49
    go_wp2
    go_ret
    exact ⟨by first | rfl | (simp; done) | (simp [*]; done), by repeat (first | exact Drawn0.refl _ | apply Drawn0.step)⟩
  rw [if_neg c2] at H
  have c2b0 : (a0 == 2) = false := beq_eq_false_iff_ne.mpr c2
  have c2b1 : (a0 != 2) = true := bne_iff_ne.mpr c2
  by_cases c3 : a0 ≥ 8
  rotate_left
  · rw [if_neg c3] at H
    have c3b0 : decide (8 ≤ a0) = false := decide_eq_false c3
    clear c3
    obtain rfl := Option.some.inj H
    go_enter Tryz.func49, Tryz.ntmps49
    go_wp2
    go_ret
    exact ⟨by first | rfl | (simp; done) | (simp [*]; done), by repeat (first | exact Drawn0.refl _ | apply Drawn0.step)⟩
  rw [if_pos c3] at H
  have c3b0 : decide (8 ≤ a0) = true := decide_eq_true c3
  clear c3
  by_cases c4 : a0 ≤ 14
  · rw [if_pos c4] at H
    have c4b0 : decide (a0 ≤ 14) = true := decide_eq_true c4
    clear c4
    obtain rfl := Option.some.inj H
    go_enter Tryz.func49, Tryz.ntmps49
    go_wp2
    go_ret
    exact ⟨by first | rfl | (simp; done) | (simp [*]; done), by repeat (first | exact Drawn0.refl _ | apply Drawn0.step)⟩
  rw [if_neg c4] at H
  have c4b0 : decide (a0 ≤ 14) = false := decide_eq_false c4
  clear c4
  obtain rfl := Option.some.inj H
  go_enter Tryz.func49, Tryz.ntmps49
  go_wp2
  go_ret
  exact ⟨by first | rfl | (simp; done) | (simp [*]; done), by repeat (first | exact Drawn0.refl _ | apply Drawn0.step)⟩
def armoireref12_HasN.f (a0 : Int) : Option (Bool) := if a0 = 3 then (some true) else (if a0 = 5 then (some true) else (some (a0 == 6)))
set_option maxHeartbeats 8000000 in
set_option maxRecDepth 100000 in
theorem armoireref12_HasN.calls (a0 : Int) (r : Bool) (w : World) (h : armoireref12_HasN.f a0 = some r) :
    Calls Tryz.prog 50 #[.int .i64 a0] w fun e w' => e = .returned (.bool r) ∧ Drawn0 w w' := by
  have H : (if a0 = 3 then (some true) else (if a0 = 5 then (some true) else (some (a0 == 6)))) = some r := h
  clear h
  by_cases c2 : a0 = 3
  · rw [if_pos c2] at H
    have c2b0 : (a0 == 3) = true := beq_iff_eq.mpr c2
    have c2b1 : (a0 != 3) = false := bne_eq_false_iff_eq.mpr c2
    clear c2
    obtain rfl := Option.some.inj H
    go_enter Tryz.func50, Tryz.ntmps50
    go_wp2
    go_ret
    exact ⟨by first | rfl | (simp; done) | (simp [*]; done), by repeat (first | exact Drawn0.refl _ | apply Drawn0.step)⟩
  rw [if_neg c2] at H
  have c2b0 : (a0 == 3) = false := beq_eq_false_iff_ne.mpr c2
  have c2b1 : (a0 != 3) = true := bne_iff_ne.mpr c2
  by_cases c3 : a0 = 5
  rotate_left
  · rw [if_neg c3] at H
    have c3b0 : (a0 == 5) = false := beq_eq_false_iff_ne.mpr c3
    have c3b1 : (a0 != 5) = true := bne_iff_ne.mpr c3
    obtain rfl := Option.some.inj H
    go_enter Tryz.func50, Tryz.ntmps50
    go_wp2
    go_ret
    exact ⟨by first | rfl | (simp; done) | (simp [*]; done), by repeat (first | exact Drawn0.refl _ | apply Drawn0.step)⟩
  rw [if_pos c3] at H
  have c3b0 : (a0 == 5) = true := beq_iff_eq.mpr c3
  have c3b1 : (a0 != 5) = false := bne_eq_false_iff_eq.mpr c3
  clear c3
  obtain rfl := Option.some.inj H
  go_enter Tryz.func50, Tryz.ntmps50
  go_wp2
  go_ret
  exact ⟨by first | rfl | (simp; done) | (simp [*]; done), by repeat (first | exact Drawn0.refl _ | apply Drawn0.step)⟩
mutual
def armoirelaw12_Tidy.j0 : Nat → Int → ByteArray → ByteArray → Int → Int → ByteArray → ByteArray → Int → Option (Int × ByteArray × ByteArray × Int)
  | 0, _, _, _, _, _, _, _, _ => none
  | k + 1, x198000, x198001, x198002, x198003, x200000, x200001, x200002, x200003 => if x200000 = 11 then ((armoirelaw01_Cut.f x198002 24).bind fun t202 => (armoirelaw12_Tidy.j1 k x198000 x198001 x198002 x198003 x200000 x200001 t202 x200003)) else (armoirelaw12_Tidy.j1 k x198000 x198001 x198002 x198003 x200000 x200001 x200002 x200003)
def armoirelaw12_Tidy.j1 : Nat → Int → ByteArray → ByteArray → Int → Int → ByteArray → ByteArray → Int → Option (Int × ByteArray × ByteArray × Int)
  | 0, _, _, _, _, _, _, _, _ => none
  | k + 1, x198000, x198001, x198002, x198003, x200000, x200001, x200002, x200003 => (armoireref12_HasN.f x200000).bind fun t203 => (if t203 = true then (if x200000 > 3 then (some (x200000, x200001, x200002, wrap64 (1 + (Go.bits .and .i64 (wrap64 (x198003 - 1)) 1048575)))) else (some (x200000, x200001, x200002, x198003))) else (some (x200000, x200001, x200002, x200003)))
end
def armoirelaw12_Tidy.f (k : Nat) (a0_0 : Int) (a0_1 : ByteArray) (a0_2 : ByteArray) (a0_3 : Int) : Option (Int × ByteArray × ByteArray × Int) := (armoireref12_HasA.f (wrap64 (1 + (Int.tmod (Go.bits .and .i64 (wrap64 (a0_0 - 1)) 255) 17)))).bind fun t200 => (if t200 = true then ((armoirelaw01_Cut.f a0_1 24).bind fun t201 => (armoirelaw12_Tidy.j0 k a0_0 a0_1 a0_2 a0_3 (wrap64 (1 + (Int.tmod (Go.bits .and .i64 (wrap64 (a0_0 - 1)) 255) 17))) t201 (⟨#[]⟩ : ByteArray) 0)) else (armoirelaw12_Tidy.j0 k a0_0 a0_1 a0_2 a0_3 (wrap64 (1 + (Int.tmod (Go.bits .and .i64 (wrap64 (a0_0 - 1)) 255) 17))) (⟨#[]⟩ : ByteArray) (⟨#[]⟩ : ByteArray) 0))
set_option maxHeartbeats 8000000 in
set_option maxRecDepth 100000 in
theorem armoirelaw12_Tidy.calls (k : Nat) (a0_0 : Int) (a0_1 : ByteArray) (a0_2 : ByteArray) (a0_3 : Int) (r1 : Int) (r2 : ByteArray) (r3 : ByteArray) (r4 : Int) (w : World) (h : armoirelaw12_Tidy.f k a0_0 a0_1 a0_2 a0_3 = some (r1, r2, r3, r4)) :
    Calls Tryz.prog 22 #[.agg #[.int .i64 a0_0, .string a0_1, .string a0_2, .int .i64 a0_3]] w fun e w' => e = .returned (.agg #[.int .i64 r1, .string r2, .string r3, .int .i64 r4]) ∧ Below w.heap.size w w' := by
  have hu38 := Tryz.underlying38
  have hu44 := Tryz.underlying44
  have HB := Z0.mk (Below.refl w.heap.size w)
  have H : ((armoireref12_HasA.f (wrap64 (1 + (Int.tmod (Go.bits .and .i64 (wrap64 (a0_0 - 1)) 255) 17)))).bind fun t200 => (if t200 = true then ((armoirelaw01_Cut.f a0_1 24).bind fun t201 => (armoirelaw12_Tidy.j0 k a0_0 a0_1 a0_2 a0_3 (wrap64 (1 + (Int.tmod (Go.bits .and .i64 (wrap64 (a0_0 - 1)) 255) 17))) t201 (⟨#[]⟩ : ByteArray) 0)) else (armoirelaw12_Tidy.j0 k a0_0 a0_1 a0_2 a0_3 (wrap64 (1 + (Int.tmod (Go.bits .and .i64 (wrap64 (a0_0 - 1)) 255) 17))) (⟨#[]⟩ : ByteArray) (⟨#[]⟩ : ByteArray) 0))) = some (r1, r2, r3, r4) := h
  clear h
  replace H := Option.bind_eq_some_iff.mp H
  obtain ⟨t200, A20, H⟩ := H
  replace H : (if t200 = true then ((armoirelaw01_Cut.f a0_1 24).bind fun t201 => (armoirelaw12_Tidy.j0 k a0_0 a0_1 a0_2 a0_3 (wrap64 (1 + (Int.tmod (Go.bits .and .i64 (wrap64 (a0_0 - 1)) 255) 17))) t201 (⟨#[]⟩ : ByteArray) 0)) else (armoirelaw12_Tidy.j0 k a0_0 a0_1 a0_2 a0_3 (wrap64 (1 + (Int.tmod (Go.bits .and .i64 (wrap64 (a0_0 - 1)) 255) 17))) (⟨#[]⟩ : ByteArray) (⟨#[]⟩ : ByteArray) 0)) = some (r1, r2, r3, r4) := H
  have A2 := Z0.mk A20
  clear A20
  have HC3 := Z0.mk H
  clear H
  go_enter Tryz.func22, Tryz.ntmps22
  go_upto_if 13 with (first | ((with_reducible refine gds (N := 1) rfl ?_); refine bx_ (N := 1) (cs := #[.int .i64 a0_0, .string a0_1, .string a0_2, .int .i64 a0_3]) (t := 38) ?_; intro gb197 hg w4 hbox hb; have n0_ := Z0.mk (bsp bl_ hb); have n1_ := Z0.mk (hbox); have n2_ := Z0.mk ((by rw [hg]; exact bsz bl_ : w.heap.size ≤ gb197)); have n3_ := Z0.mk ((by rw [hg]; exact bsz bl_ : w.heap.size ≤ gb197)); clear HB; have HB := n0_; have BK197 := n1_; have GW197 := n2_; have GE197 := n3_; clear n0_ n1_ n2_ n3_; clear hb hbox hg) | ((with_reducible refine gds (N := 2) rfl ?_); refine bx_ (N := 2) (cs := #[.int .i64 0, .string (⟨#[]⟩ : ByteArray), .string (⟨#[]⟩ : ByteArray), .int .i64 0]) (t := 44) ?_; intro gb198 hg w5 hbox hb; have n0_ := Z0.mk (kbl (g := gb197) bk_ hb); have n1_ := Z0.mk (bsp bl_ hb); have n2_ := Z0.mk (hbox); have n3_ := Z0.mk ((by rw [hg]; exact bsz bl_ : w.heap.size ≤ gb198)); have n4_ := Z0.mk ((by rw [hg]; exact bsz bl_ : w.heap.size ≤ gb198)); have n5_ := Z0.mk ((by rw [hg]; exact Nat.ne_of_lt (klt_ (g := gb197) bk_) : gb197 ≠ gb198)); have n6_ := Z0.mk ((by rw [hg]; exact Nat.ne_of_gt (klt_ (g := gb197) bk_) : gb198 ≠ gb197)); clear BK197; clear HB; have BK197 := n0_; have HB := n1_; have BK198 := n2_; have GW198 := n3_; have GE198 := n4_; have NB197_198 := n5_; have NB198_197 := n6_; clear n0_ n1_ n2_ n3_ n4_ n5_ n6_; clear hb hbox hg; have hnb6 := NB197_198.out; have hnc6 := NB198_197.out; have hcz7 := bc4 BK197.out) | ((with_reducible refine gds (N := 3) rfl ?_); refine bx_ (N := 3) (cs := #[.int .i64 0, .string (⟨#[]⟩ : ByteArray), .string (⟨#[]⟩ : ByteArray), .int .i64 0]) (t := 44) ?_; intro gb199 hg w8 hbox hb; have n0_ := Z0.mk (kbl (g := gb197) bk_ hb); have n1_ := Z0.mk (kbl (g := gb198) bk_ hb); have n2_ := Z0.mk (bsp bl_ hb); have n3_ := Z0.mk (hbox); have n4_ := Z0.mk ((by rw [hg]; exact bsz bl_ : w.heap.size ≤ gb199)); have n5_ := Z0.mk ((by rw [hg]; exact bsz bl_ : w.heap.size ≤ gb199)); have n6_ := Z0.mk ((by rw [hg]; exact Nat.ne_of_lt (klt_ (g := gb197) bk_) : gb197 ≠ gb199)); have n7_ := Z0.mk ((by rw [hg]; exact Nat.ne_of_gt (klt_ (g := gb197) bk_) : gb199 ≠ gb197)); have n8_ := Z0.mk ((by rw [hg]; exact Nat.ne_of_lt (klt_ (g := gb198) bk_) : gb198 ≠ gb199)); have n9_ := Z0.mk ((by rw [hg]; exact Nat.ne_of_gt (klt_ (g := gb198) bk_) : gb199 ≠ gb198)); clear BK197; clear BK198; clear HB; have BK197 := n0_; have BK198 := n1_; have HB := n2_; have BK199 := n3_; have GW199 := n4_; have GE199 := n5_; have NB197_199 := n6_; have NB199_197 := n7_; have NB198_199 := n8_; have NB199_198 := n9_; clear n0_ n1_ n2_ n3_ n4_ n5_ n6_ n7_ n8_ n9_; clear hb hbox hg; have hnb9 := NB199_197.out; have hnc9 := NB197_199.out; have hnb10 := NB199_198.out; have hnc10 := NB198_199.out; have hcz11 := bc4 BK199.out) | ((with_reducible refine gcl (f := 49) rfl ?_); refine gl_ (some 13) rfl rfl Tryz.func49 (by kernel_rfl) rfl #[.int .i64 (wrap64 (1 + (Int.tmod (Go.bits .and .i64 (wrap64 (a0_0 - 1)) 255) 17)))] rfl ar_ ?_; (with_reducible refine (armoireref12_HasA.calls (wrap64 (1 + (Int.tmod (Go.bits .and .i64 (wrap64 (a0_0 - 1)) 255) 17))) t200 _ A2.out).mono ?_); rintro e w' ⟨rfl, ⟨nd, rfl⟩⟩; refine ⟨_, rfl, ?_⟩))
  (try simp only [Act.put, List.setIfInBounds_toArray, List.set_cons_zero, List.set_cons_succ])
  go_cut [] (fun wc => ∃ (kq : Nat) (x200001_2 : ByteArray), Z0 (armoirelaw12_Tidy.j0 kq a0_0 a0_1 a0_2 a0_3 (wrap64 (1 + (Int.tmod (Go.bits .and .i64 (wrap64 (a0_0 - 1)) 255) 17))) x200001_2 (⟨#[]⟩ : ByteArray) 0 = some (r1, r2, r3, r4)) ∧ Z0 (kq ≤ k) ∧ Z0 (wc.heap[gb197]? = some (.cells #[.int .i64 a0_0, .string a0_1, .string a0_2, .int .i64 a0_3] 38 (0, 0))) ∧ Z0 (wc.heap[gb198]? = some (.cells #[.int .i64 0, .string (⟨#[]⟩ : ByteArray), .string (⟨#[]⟩ : ByteArray), .int .i64 0] 44 (0, 0))) ∧ Z0 (wc.heap[gb199]? = some (.cells #[.int .i64 (wrap64 (1 + (Int.tmod (Go.bits .and .i64 (wrap64 (a0_0 - 1)) 255) 17))), .string x200001_2, .string (⟨#[]⟩ : ByteArray), .int .i64 0] 44 (0, 0))) ∧ Z0 (Below w.heap.size w wc))
  case first =>
    have H := HC3.out
    clear HC3
    by_cases c12 : t200 = true
    rotate_left
    · replace c12 := Bool.eq_false_iff.mpr c12
      subst c12
      have H1 : (armoirelaw12_Tidy.j0 k a0_0 a0_1 a0_2 a0_3 (wrap64 (1 + (Int.tmod (Go.bits .and .i64 (wrap64 (a0_0 - 1)) 255) 17))) (⟨#[]⟩ : ByteArray) (⟨#[]⟩ : ByteArray) 0) = some (r1, r2, r3, r4) := by rw [if_neg (show ¬ (false = true) by decide)] at H; exact H
      clear H
      have H := H1
      clear H1
      have H' := Z0.mk H
      clear H
      go_wp2
      go_meet
      case rel => exact ⟨_, ((⟨#[]⟩ : ByteArray)), H', ⟨by first | omega | exact Nat.le_refl _⟩, ⟨bk_⟩, ⟨bk_⟩, ⟨bk_⟩, ⟨bl_⟩⟩
    subst c12
    have H1 : ((armoirelaw01_Cut.f a0_1 24).bind fun t201 => (armoirelaw12_Tidy.j0 k a0_0 a0_1 a0_2 a0_3 (wrap64 (1 + (Int.tmod (Go.bits .and .i64 (wrap64 (a0_0 - 1)) 255) 17))) t201 (⟨#[]⟩ : ByteArray) 0)) = some (r1, r2, r3, r4) := by rw [if_pos rfl] at H; exact H
    clear H
    have H := H1
    clear H1
    replace H := Option.bind_eq_some_iff.mp H
    obtain ⟨t201, A130, H⟩ := H
    replace H : (armoirelaw12_Tidy.j0 k a0_0 a0_1 a0_2 a0_3 (wrap64 (1 + (Int.tmod (Go.bits .and .i64 (wrap64 (a0_0 - 1)) 255) 17))) t201 (⟨#[]⟩ : ByteArray) 0) = some (r1, r2, r3, r4) := H
    have A13 := Z0.mk A130
    clear A130
    have H' := Z0.mk H
    clear H
    have hnb14 := NB197_198.out
    have hnc14 := NB198_197.out
    have hnb15 := NB197_199.out
    have hnc15 := NB199_197.out
    have hcz16 := bc4 BK197.out
    go_wp2_with (first | ((with_reducible refine gcl (f := 46) rfl ?_); refine gl_ (some 16) rfl rfl Tryz.func46 (by kernel_rfl) rfl #[.string a0_1, .int .i64 24] rfl ar_ ?_; (with_reducible refine (armoirelaw01_Cut.calls a0_1 24 t201 _ A13.out).mono ?_); rintro e w' ⟨rfl, ⟨nd, rfl⟩⟩; refine ⟨_, rfl, ?_⟩; have hnb17 := NB199_198.out; have hnc17 := NB198_199.out; have hcz18 := bc4 BK199.out))
    go_meet
    case rel => exact ⟨_, (t201), H', ⟨by first | omega | exact Nat.le_refl _⟩, ⟨bk_⟩, ⟨bk_⟩, ⟨bk_⟩, ⟨bl_⟩⟩
  clear HC3
  try clear c1
  try clear c2
  try clear p2
  try clear c4
  try clear c6
  try clear p6
  try clear c9
  try clear c10
  try clear c12
  try clear c14
  try clear c15
  try clear c17
  try clear hcz11
  try clear hcz16
  try clear hcz18
  try clear hcz7
  try clear hcz11
  try clear hcz16
  try clear hcz18
  try clear hcz7
  obtain ⟨kq, x200001_2, HA, HJ2, BK197, BK198, BK199, HB⟩ := hcut
  cases kq with
  | zero => exact absurd HA.out (by simp [armoirelaw12_Tidy.j0])
  | succ kj2 =>
    have H := HA.out
    clear HA
    simp only [armoirelaw12_Tidy.j0] at H
    have HC19 := Z0.mk H
    clear H
    have hnb20 := NB199_197.out
    have hnc20 := NB197_199.out
    have hnb21 := NB199_198.out
    have hnc21 := NB198_199.out
    have hcz22 := bc4 BK199.out
    go_upto_if 20 with (fail)
    go_cut [] (fun wc => ∃ (kq : Nat) (x200002_18 : ByteArray), Z0 (armoirelaw12_Tidy.j1 kq a0_0 a0_1 a0_2 a0_3 (wrap64 (1 + (Int.tmod (Go.bits .and .i64 (wrap64 (a0_0 - 1)) 255) 17))) x200001_2 x200002_18 0 = some (r1, r2, r3, r4)) ∧ Z0 (kq ≤ kj2) ∧ Z0 (wc.heap[gb197]? = some (.cells #[.int .i64 a0_0, .string a0_1, .string a0_2, .int .i64 a0_3] 38 (0, 0))) ∧ Z0 (wc.heap[gb198]? = some (.cells #[.int .i64 0, .string (⟨#[]⟩ : ByteArray), .string (⟨#[]⟩ : ByteArray), .int .i64 0] 44 (0, 0))) ∧ Z0 (wc.heap[gb199]? = some (.cells #[.int .i64 (wrap64 (1 + (Int.tmod (Go.bits .and .i64 (wrap64 (a0_0 - 1)) 255) 17))), .string x200001_2, .string x200002_18, .int .i64 0] 44 (0, 0))) ∧ Z0 (Below w.heap.size w wc))
    case first =>
      have H := HC19.out
      clear HC19
      by_cases c23 : (wrap64 (1 + (Int.tmod (Go.bits .and .i64 (wrap64 (a0_0 - 1)) 255) 17))) = 11
      rotate_left
      · rw [if_neg c23] at H
        have c23b0 : ((wrap64 (1 + (Int.tmod (Go.bits .and .i64 (wrap64 (a0_0 - 1)) 255) 17))) == 11) = false := beq_eq_false_iff_ne.mpr c23
        have c23b1 : ((wrap64 (1 + (Int.tmod (Go.bits .and .i64 (wrap64 (a0_0 - 1)) 255) 17))) != 11) = true := bne_iff_ne.mpr c23
        (first | rw [c23b0] | (simp only [i64_w, i32_w]; rw [c23b0]) | skip)
        have H' := Z0.mk H
        clear H
        go_wp2
        go_meet
        case rel => exact ⟨_, ((⟨#[]⟩ : ByteArray)), H', ⟨by have := HJ2.out; first | omega | exact Nat.le_refl _⟩, ⟨bk_⟩, ⟨bk_⟩, ⟨bk_⟩, ⟨bl_⟩⟩
      rw [if_pos c23] at H
      have c23b0 : ((wrap64 (1 + (Int.tmod (Go.bits .and .i64 (wrap64 (a0_0 - 1)) 255) 17))) == 11) = true := beq_iff_eq.mpr c23
      have c23b1 : ((wrap64 (1 + (Int.tmod (Go.bits .and .i64 (wrap64 (a0_0 - 1)) 255) 17))) != 11) = false := bne_eq_false_iff_eq.mpr c23
      clear c23
      (first | rw [c23b0] | (simp only [i64_w, i32_w]; rw [c23b0]) | skip)
      replace H := Option.bind_eq_some_iff.mp H
      obtain ⟨t202, A240, H⟩ := H
      replace H : (armoirelaw12_Tidy.j1 kj2 a0_0 a0_1 a0_2 a0_3 (wrap64 (1 + (Int.tmod (Go.bits .and .i64 (wrap64 (a0_0 - 1)) 255) 17))) x200001_2 t202 0) = some (r1, r2, r3, r4) := H
      have A24 := Z0.mk A240
      clear A240
      have H' := Z0.mk H
      clear H
      have hnb25 := NB197_198.out
      have hnc25 := NB198_197.out
      have hnb26 := NB197_199.out
      have hnc26 := NB199_197.out
      have hcz27 := bc4 BK197.out
      go_wp2_with (first | ((with_reducible refine gcl (f := 46) rfl ?_); refine gl_ (some 23) rfl rfl Tryz.func46 (by kernel_rfl) rfl #[.string a0_2, .int .i64 24] rfl ar_ ?_; (with_reducible refine (armoirelaw01_Cut.calls a0_2 24 t202 _ A24.out).mono ?_); rintro e w' ⟨rfl, ⟨nd, rfl⟩⟩; refine ⟨_, rfl, ?_⟩; (try (rw [dns wc]; generalize hq_ : World.drewN wc _ = wc; have n0_ : Z0 (wc.heap[gb197]? = some (.cells #[.int .i64 a0_0, .string a0_1, .string a0_2, .int .i64 a0_3] 38 (0, 0))) := ⟨by rw [← hq_]; exact bk_⟩; have n1_ : Z0 (wc.heap[gb198]? = some (.cells #[.int .i64 0, .string (⟨#[]⟩ : ByteArray), .string (⟨#[]⟩ : ByteArray), .int .i64 0] 44 (0, 0))) := ⟨by rw [← hq_]; exact bk_⟩; have n2_ : Z0 (wc.heap[gb199]? = some (.cells #[.int .i64 (wrap64 (1 + (Int.tmod (Go.bits .and .i64 (wrap64 (a0_0 - 1)) 255) 17))), .string x200001_2, .string (⟨#[]⟩ : ByteArray), .int .i64 0] 44 (0, 0))) := ⟨by rw [← hq_]; exact bk_⟩; have n3_ : Z0 (Below w.heap.size w wc) := ⟨by rw [← hq_]; exact bl_⟩; clear BK197 BK198 BK199 HB hq_; have BK197 := n0_; have BK198 := n1_; have BK199 := n2_; have HB := n3_; clear n0_ n1_ n2_ n3_)); have hcz28 := bc4 BK197.out; have hnb29 := NB199_198.out; have hnc29 := NB198_199.out; have hcz30 := bc4 BK199.out))
      go_meet
      case rel => exact ⟨_, (t202), H', ⟨by have := HJ2.out; first | omega | exact Nat.le_refl _⟩, ⟨bk_⟩, ⟨bk_⟩, ⟨bk_⟩, ⟨bl_⟩⟩
    clear HC19
    try clear c1
    try clear c2
    try clear p2
    try clear c4
    try clear c6
    try clear p6
    try clear c9
    try clear c10
    try clear c12
    try clear c14
    try clear c15
    try clear c17
    try clear c20
    try clear c21
    try clear c22
    try clear c23
    try clear c23b0
    try clear c23b1
    try clear c25
    try clear c26
    try clear c29
    try clear hcz11
    try clear hcz16
    try clear hcz18
    try clear hcz22
    try clear hcz27
    try clear hcz28
    try clear hcz30
    try clear hcz7
    try clear hcz11
    try clear hcz16
    try clear hcz18
    try clear hcz22
    try clear hcz27
    try clear hcz28
    try clear hcz30
    try clear hcz7
    try clear p2
    try clear p6
    obtain ⟨kq, x200002_18, HA, HJ18, BK197, BK198, BK199, HB⟩ := hcut
    cases kq with
    | zero => exact absurd HA.out (by simp [armoirelaw12_Tidy.j1])
    | succ kj18 =>
      have H := HA.out
      clear HA
      simp only [armoirelaw12_Tidy.j1] at H
      replace H := Option.bind_eq_some_iff.mp H
      obtain ⟨t203, A310, H⟩ := H
      replace H : (if t203 = true then (if (wrap64 (1 + (Int.tmod (Go.bits .and .i64 (wrap64 (a0_0 - 1)) 255) 17))) > 3 then (some ((wrap64 (1 + (Int.tmod (Go.bits .and .i64 (wrap64 (a0_0 - 1)) 255) 17))), x200001_2, x200002_18, wrap64 (1 + (Go.bits .and .i64 (wrap64 (a0_3 - 1)) 1048575)))) else (some ((wrap64 (1 + (Int.tmod (Go.bits .and .i64 (wrap64 (a0_0 - 1)) 255) 17))), x200001_2, x200002_18, a0_3))) else (some ((wrap64 (1 + (Int.tmod (Go.bits .and .i64 (wrap64 (a0_0 - 1)) 255) 17))), x200001_2, x200002_18, 0))) = some (r1, r2, r3, r4) := H
      have A31 := Z0.mk A310
      clear A310
      have HS32 := Z0.mk H
      clear H
      have hnb33 := NB199_197.out
      have hnc33 := NB197_199.out
      have hnb34 := NB199_198.out
      have hnc34 := NB198_199.out
      have hcz35 := bc4 BK199.out
      go_upto_if 27 with (first | ((with_reducible refine gcl (f := 50) rfl ?_); refine gl_ (some 27) rfl rfl Tryz.func50 (by kernel_rfl) rfl #[.int .i64 (wrap64 (1 + (Int.tmod (Go.bits .and .i64 (wrap64 (a0_0 - 1)) 255) 17)))] rfl ar_ ?_; (with_reducible refine (armoireref12_HasN.calls (wrap64 (1 + (Int.tmod (Go.bits .and .i64 (wrap64 (a0_0 - 1)) 255) 17))) t203 _ A31.out).mono ?_); rintro e w' ⟨rfl, ⟨nd, rfl⟩⟩; refine ⟨_, rfl, ?_⟩))
      (try simp only [Act.put, List.setIfInBounds_toArray, List.set_cons_zero, List.set_cons_succ])
      have H := HS32.out
      clear HS32
      by_cases c36 : t203 = true
      rotate_left
      · replace c36 := Bool.eq_false_iff.mpr c36
        subst c36
        have H1 : (some ((wrap64 (1 + (Int.tmod (Go.bits .and .i64 (wrap64 (a0_0 - 1)) 255) 17))), x200001_2, x200002_18, 0)) = some (r1, r2, r3, r4) := by rw [if_neg (show ¬ (false = true) by decide)] at H; exact H
        clear H
        have H := H1
        clear H1
        simp only [Option.some.injEq, Prod.mk.injEq] at H
        obtain ⟨rfl, rfl, rfl, rfl⟩ := H
        have hnb55 := NB199_197.out
        have hnc55 := NB197_199.out
        have hnb56 := NB199_198.out
        have hnc56 := NB198_199.out
        have hcz57 := bc4 BK199.out
        have hnb58 := NB198_197.out
        have hnc58 := NB197_198.out
        have hcz59 := bc4 BK198.out
        go_wp2
        refine bodyPost_ret (results_cell_row rfl _ _ gb198 44 #[.int .i64 (wrap64 (1 + (Int.tmod (Go.bits .and .i64 (wrap64 (a0_0 - 1)) 255) 17))), .string x200001_2, .string x200002_18, .int .i64 0] (0, 0) _ rfl bk_ Tryz.underlying44 rfl (by kernel_rfl)) rfl ?_
        exact ⟨er_, bl_⟩
      subst c36
      have H1 : (if (wrap64 (1 + (Int.tmod (Go.bits .and .i64 (wrap64 (a0_0 - 1)) 255) 17))) > 3 then (some ((wrap64 (1 + (Int.tmod (Go.bits .and .i64 (wrap64 (a0_0 - 1)) 255) 17))), x200001_2, x200002_18, wrap64 (1 + (Go.bits .and .i64 (wrap64 (a0_3 - 1)) 1048575)))) else (some ((wrap64 (1 + (Int.tmod (Go.bits .and .i64 (wrap64 (a0_0 - 1)) 255) 17))), x200001_2, x200002_18, a0_3))) = some (r1, r2, r3, r4) := by rw [if_pos rfl] at H; exact H
      clear H
      have H := H1
      clear H1
      have HS37 := Z0.mk H
      clear H
      have hnb38 := NB197_198.out
      have hnc38 := NB198_197.out
      have hnb39 := NB197_199.out
      have hnc39 := NB199_197.out
      have hcz40 := bc4 BK197.out
      have hnb41 := NB199_198.out
      have hnc41 := NB198_199.out
      have hcz42 := bc4 BK199.out
      go_upto_if 33 with (fail)
      have H := HS37.out
      clear HS37
      by_cases c43 : (wrap64 (1 + (Int.tmod (Go.bits .and .i64 (wrap64 (a0_0 - 1)) 255) 17))) > 3
      rotate_left
      · rw [if_neg c43] at H
        have c43b0 : decide (3 < (wrap64 (1 + (Int.tmod (Go.bits .and .i64 (wrap64 (a0_0 - 1)) 255) 17)))) = false := decide_eq_false c43
        clear c43
        (first | rw [c43b0] | (simp only [i64_w, i32_w]; rw [c43b0]) | skip)
        simp only [Option.some.injEq, Prod.mk.injEq] at H
        obtain ⟨rfl, rfl, rfl, rfl⟩ := H
        have hnb50 := NB199_197.out
        have hnc50 := NB197_199.out
        have hnb51 := NB199_198.out
        have hnc51 := NB198_199.out
        have hcz52 := bc4 BK199.out
        have hnb53 := NB198_197.out
        have hnc53 := NB197_198.out
        have hcz54 := bc4 BK198.out
        go_wp2
        refine bodyPost_ret (results_cell_row rfl _ _ gb198 44 #[.int .i64 (wrap64 (1 + (Int.tmod (Go.bits .and .i64 (wrap64 (a0_0 - 1)) 255) 17))), .string x200001_2, .string x200002_18, .int .i64 a0_3] (0, 0) _ rfl bk_ Tryz.underlying44 rfl (by kernel_rfl)) rfl ?_
        exact ⟨er_, bl_⟩
      rw [if_pos c43] at H
      have c43b0 : decide (3 < (wrap64 (1 + (Int.tmod (Go.bits .and .i64 (wrap64 (a0_0 - 1)) 255) 17)))) = true := decide_eq_true c43
      clear c43
      (first | rw [c43b0] | (simp only [i64_w, i32_w]; rw [c43b0]) | skip)
      simp only [Option.some.injEq, Prod.mk.injEq] at H
      obtain ⟨rfl, rfl, rfl, rfl⟩ := H
      have hnb44 := NB197_198.out
      have hnc44 := NB198_197.out
      have hnb45 := NB197_199.out
      have hnc45 := NB199_197.out
      have hcz46 := bc4 BK197.out
      have hnb47 := NB199_198.out
      have hnc47 := NB198_199.out
      have hcz48 := bc4 BK199.out
      have hcz49 := bc4 BK198.out
      go_wp2
      refine bodyPost_ret (results_cell_row rfl _ _ gb198 44 #[.int .i64 (wrap64 (1 + (Int.tmod (Go.bits .and .i64 (wrap64 (a0_0 - 1)) 255) 17))), .string x200001_2, .string x200002_18, .int .i64 (wrap64 (1 + (Go.bits .and .i64 (wrap64 (a0_3 - 1)) 1048575)))] (0, 0) _ rfl bk_ Tryz.underlying44 rfl (by kernel_rfl)) rfl ?_
      exact ⟨er_, bl_⟩
def armoireref12_Kind.f (a0 : Int) : Option (Int) := (some (([0, 1, 1, 2, 2, 3, 3, 3, 4, 4, 4, 5, 5, 5, 6, 6, 7, 7] : List Int) : List Int)).bind fun y204 => (if 0 ≤ (mx 0 (mn a0 17)) then (if (mx 0 (mn a0 17)) < (y204.length : Int) then (some (rd y204 (mx 0 (mn a0 17)))) else (none)) else (none))
set_option maxHeartbeats 8000000 in
set_option maxRecDepth 100000 in
theorem armoireref12_Kind.calls (a0 : Int) (r : Int) (w : World) (h : armoireref12_Kind.f a0 = some r) :
    Calls Tryz.prog 23 #[.int .i64 a0] w fun e w' => e = .returned (.int .i64 r) ∧ Below w.heap.size w w' := by
  have HB := Z0.mk (Below.refl w.heap.size w)
  have H : ((some (([0, 1, 1, 2, 2, 3, 3, 3, 4, 4, 4, 5, 5, 5, 6, 6, 7, 7] : List Int) : List Int)).bind fun y204 => (if 0 ≤ (mx 0 (mn a0 17)) then (if (mx 0 (mn a0 17)) < (y204.length : Int) then (some (rd y204 (mx 0 (mn a0 17)))) else (none)) else (none))) = some r := h
  clear h
  obtain ⟨y204, hy204⟩ : ∃ y_ : List Int, y_ = (([0, 1, 1, 2, 2, 3, 3, 3, 4, 4, 4, 5, 5, 5, 6, 6, 7, 7] : List Int)) := ⟨_, rfl⟩
  replace H : (if 0 ≤ (mx 0 (mn a0 17)) then (if (mx 0 (mn a0 17)) < (y204.length : Int) then (some (rd y204 (mx 0 (mn a0 17)))) else (none)) else (none)) = some r := by first | (rw [hy204]; with_reducible exact H) | (have H2_ := (Option.bind_some _ _).symm.trans H; rw [hy204]; with_reducible exact H2_) | (have H2_ := (Option.bind_some _ _).symm.trans H; with_reducible exact H2_) | with_reducible exact H | (rw [hy204]; exact H) | exact H
  have Ny204 := Z0.mk hy204
  clear hy204
  obtain ⟨ji2, hji2⟩ : ∃ j_ : Int, (mn a0 17) = j_ := ⟨_, rfl⟩
  replace H : (if 0 ≤ (mx 0 (ji2)) then (if (mx 0 (ji2)) < (y204.length : Int) then (some (rd y204 (mx 0 (ji2)))) else (none)) else (none)) = some r := by first | (rw [hji2] at H; exact H) | (simp only [hji2] at H ⊢; exact H)
  (try (have hji2h : ji2 ≤ 17 := by (rw [← hji2]; unfold mn; (repeat' split) <;> omega)))
  (try (have hji2g : ji2 ≤ 64 := by omega))
  have hji2_ : (if 17 < a0 then 17 else a0) = ji2 := hji2
  obtain ⟨ji3, hji3⟩ : ∃ j_ : Int, (mx 0 (ji2)) = j_ := ⟨_, rfl⟩
  replace H : (if 0 ≤ (ji3) then (if (ji3) < (y204.length : Int) then (some (rd y204 (ji3))) else (none)) else (none)) = some r := by first | (rw [hji3] at H; exact H) | (simp only [hji3] at H ⊢; exact H)
  have hji3_ : (if 0 < (ji2) then (ji2) else 0) = ji3 := hji3
  by_cases c4 : 0 ≤ (ji3)
  rotate_left
  · rw [if_neg c4] at H
    exact absurd H (by simp)
  rw [if_pos c4] at H
  have c4b0 : decide (0 ≤ (ji3)) = true := decide_eq_true c4
  clear c4
  by_cases c5 : (ji3) < (y204.length : Int)
  rotate_left
  · rw [if_neg c5] at H
    exact absurd H (by simp)
  rw [if_pos c5] at H
  have c5b0 : decide ((ji3) < (y204.length : Int)) = true := decide_eq_true c5
  clear c5
  obtain rfl := Option.some.inj H
  go_enter Tryz.func23, Tryz.ntmps23
  go_wp2_with (first | ((with_reducible refine gds (N := 3) rfl ?_); refine Kd.R_lit (Kd.int .i64) _ 3 ?hg (N := 3) ?hd (xs := ([0, 1, 1, 2, 2, 3, 3, 3, 4, 4, 4, 5, 5, 5, 6, 6, 7, 7] : List Int)) (inner := [.int .i64 0, .int .i64 1, .int .i64 1, .int .i64 2, .int .i64 2, .int .i64 3, .int .i64 3, .int .i64 3, .int .i64 4, .int .i64 4, .int .i64 4, .int .i64 5, .int .i64 5, .int .i64 5, .int .i64 6, .int .i64 6, .int .i64 7, .int .i64 7]) (ok := fun _ => True) (okp := fun _ => True) ?hr ?hp (fun _ hk => hk) trivial (Below.refl _ _) (Nat.le_refl _) (by simp) ?_; (case hd => rfl); (case hg => rfl); (case hr => first | (go_simp; done) | (go_simp; rfl)); (case hp => exact (Reps.one (show Kd.M (Kd.int .i64) _ _ _ 0 [.int .i64 0] from rfl) (Reps.one (show Kd.M (Kd.int .i64) _ _ _ 1 [.int .i64 1] from rfl) (Reps.one (show Kd.M (Kd.int .i64) _ _ _ 1 [.int .i64 1] from rfl) (Reps.one (show Kd.M (Kd.int .i64) _ _ _ 2 [.int .i64 2] from rfl) (Reps.one (show Kd.M (Kd.int .i64) _ _ _ 2 [.int .i64 2] from rfl) (Reps.one (show Kd.M (Kd.int .i64) _ _ _ 3 [.int .i64 3] from rfl) (Reps.one (show Kd.M (Kd.int .i64) _ _ _ 3 [.int .i64 3] from rfl) (Reps.one (show Kd.M (Kd.int .i64) _ _ _ 3 [.int .i64 3] from rfl) (Reps.one (show Kd.M (Kd.int .i64) _ _ _ 4 [.int .i64 4] from rfl) (Reps.one (show Kd.M (Kd.int .i64) _ _ _ 4 [.int .i64 4] from rfl) (Reps.one (show Kd.M (Kd.int .i64) _ _ _ 4 [.int .i64 4] from rfl) (Reps.one (show Kd.M (Kd.int .i64) _ _ _ 5 [.int .i64 5] from rfl) (Reps.one (show Kd.M (Kd.int .i64) _ _ _ 5 [.int .i64 5] from rfl) (Reps.one (show Kd.M (Kd.int .i64) _ _ _ 5 [.int .i64 5] from rfl) (Reps.one (show Kd.M (Kd.int .i64) _ _ _ 6 [.int .i64 6] from rfl) (Reps.one (show Kd.M (Kd.int .i64) _ _ _ 6 [.int .i64 6] from rfl) (Reps.one (show Kd.M (Kd.int .i64) _ _ _ 7 [.int .i64 7] from rfl) (Reps.one (show Kd.M (Kd.int .i64) _ _ _ 7 [.int .i64 7] from rfl) (Reps.none _ _)))))))))))))))))))); intro v205 w6 ho7 hb hg_ hnew_; clear hg_ hnew_; (first | rw [← Ny204.out] at ho7 | (simp only [Int.reduceToNat] at ho7; rw [← Ny204.out] at ho7)); have n0_ := Z0.mk (Kd.R_lower ho7 (bsz bl_)); have n1_ := Z0.mk (bsp bl_ hb); clear HB; have HO206 := n0_; have HB := n1_; clear n0_ n1_; clear hb ho7; obtain ⟨Ao8, co8, eo8⟩ := Kd.R_slice HO206.out; subst eo8; have p207 : 0 ≤ ((ji3) : Int) := of_decide_eq_true (by first | (with_reducible assumption) | assumption); have q207 : (ji3) < (y204.length : Int) := of_decide_eq_true (by first | (with_reducible assumption) | assumption); obtain ⟨ad207, e207, hx207_0⟩ := Kd.at_int (Kd.R_reads' HO206.out).2.2 (ji3) p207 q207; cases e207; replace p207 := eq_true p207; replace q207 := eq_true q207))
  go_ret
  exact ⟨by first | rfl | (simp [errW_none, errW_some] <;> rfl) | (simp only [← hji2, ← hji3]; first | rfl | (simp [errW_none, errW_some] <;> rfl)) | (simp [*, errW_none, errW_some] <;> rfl), bl_⟩
def armoirelaw13_Of.l0 : Nat → Int → Int → Int → List (S72) → Int → ByteArray → ByteArray → Int → Int → ByteArray → ByteArray → Int → Option (Int × ByteArray × ByteArray × Int)
  | 0, _, _, _, _, _, _, _, _, _, _, _, _ => none
  | k + 1, x8, x209000, x209001, x209002, x210000, x210001, x210002, x210003, x216000, x216001, x216002, x216003 => if x8 < 17 then ((armoireref12_Kind.f x216000).bind fun t216 => (if t216 = x209000 then (some (x216000, x216001, x216002, x216003)) else ((armoirelaw12_Tidy.f k (wrap64 (x216000 + 1)) x210001 x210002 x210003).bind fun bt217 => (armoirelaw13_Of.l0 k (wrap64 (x8 + 1)) x209000 x209001 x209002 (wrap64 (x216000 + 1)) x210001 x210002 x210003 bt217.1 bt217.2.1 bt217.2.2.1 bt217.2.2.2)))) else (some (x216000, x216001, x216002, x216003))
def armoirelaw13_Of.f (k : Nat) (a0_0 : Int) (a0_1 : Int) (l0_2 : List (S72)) (a1_0 : Int) (a1_1 : ByteArray) (a1_2 : ByteArray) (a1_3 : Int) : Option (Int × ByteArray × ByteArray × Int) := (armoirelaw12_Tidy.f k a1_0 a1_1 a1_2 a1_3).bind fun bt211 => (armoirelaw13_Of.l0 k 0 a0_0 a0_1 l0_2 a1_0 a1_1 a1_2 a1_3 bt211.1 bt211.2.1 bt211.2.2.1 bt211.2.2.2)
set_option maxHeartbeats 8000000 in
set_option maxRecDepth 100000 in
theorem armoirelaw13_Of.calls (k : Nat) (a0_0 : Int) (a0_1 : Int) (A0_2 : Option Addr) (c0_2 : Nat) (l0_2 : List (S72)) (a1_0 : Int) (a1_1 : ByteArray) (a1_2 : ByteArray) (a1_3 : Int) (r1 : Int) (r2 : ByteArray) (r3 : ByteArray) (r4 : Int) (w : World) (hr0_2 : Kd.C k72 w A0_2 l0_2.length l0_2) (hc0_2 : l0_2.length ≤ c0_2) (h : armoirelaw13_Of.f k a0_0 a0_1 l0_2 a1_0 a1_1 a1_2 a1_3 = some (r1, r2, r3, r4)) :
    Calls Tryz.prog 8 #[.agg #[.int .i64 a0_0, .int .i64 a0_1, .slice A0_2 l0_2.length c0_2], .agg #[.int .i64 a1_0, .string a1_1, .string a1_2, .int .i64 a1_3]] w fun e w' => e = .returned (.agg #[.int .i64 r1, .string r2, .string r3, .int .i64 r4]) ∧ Below w.heap.size w w' := by
  have hu30 := Tryz.underlying30
  have hu38 := Tryz.underlying38
  have hu44 := Tryz.underlying44
  have HR0_2 := Z0.mk hr0_2
  have HC0_2 := Z0.mk hc0_2
  clear hr0_2 hc0_2
  have HB := Z0.mk (Below.refl w.heap.size w)
  have H : ((armoirelaw12_Tidy.f k a1_0 a1_1 a1_2 a1_3).bind fun bt211 => (armoirelaw13_Of.l0 k 0 a0_0 a0_1 l0_2 a1_0 a1_1 a1_2 a1_3 bt211.1 bt211.2.1 bt211.2.2.1 bt211.2.2.2)) = some (r1, r2, r3, r4) := h
  clear h
  replace H := Option.bind_eq_some_iff.mp H
  obtain ⟨⟨t211, t212, t213, t214⟩, A30, H⟩ := H
  replace H : (armoirelaw13_Of.l0 k 0 a0_0 a0_1 l0_2 a1_0 a1_1 a1_2 a1_3 t211 t212 t213 t214) = some (r1, r2, r3, r4) := H
  have A3 := Z0.mk A30
  clear A30
  have H' := Z0.mk H
  clear H
  go_enter Tryz.func8, Tryz.ntmps8
  go_wp2_with (first | ((with_reducible refine gds (N := 2) rfl ?_); refine bx_ (N := 2) (cs := #[.int .i64 a0_0, .int .i64 a0_1, .slice A0_2 l0_2.length c0_2]) (t := 30) ?_; intro gb208 hg w4 hbox hb; have n0_ := Z0.mk (bsp bl_ hb); have n1_ := Z0.mk (hbox); have n2_ := Z0.mk ((by rw [hg]; exact bsz bl_ : w.heap.size ≤ gb208)); have n3_ := Z0.mk ((by rw [hg]; exact bsz bl_ : w.heap.size ≤ gb208)); clear HB; have HB := n0_; have BK208 := n1_; have GW208 := n2_; have GE208 := n3_; clear n0_ n1_ n2_ n3_; clear hb hbox hg) | ((with_reducible refine gds (N := 3) rfl ?_); refine bx_ (N := 3) (cs := #[.int .i64 a1_0, .string a1_1, .string a1_2, .int .i64 a1_3]) (t := 38) ?_; intro gb209 hg w5 hbox hb; have n0_ := Z0.mk (kbl (g := gb208) bk_ hb); have n1_ := Z0.mk (bsp bl_ hb); have n2_ := Z0.mk (hbox); have n3_ := Z0.mk ((by rw [hg]; exact bsz bl_ : w.heap.size ≤ gb209)); have n4_ := Z0.mk ((by rw [hg]; exact bsz bl_ : w.heap.size ≤ gb209)); have n5_ := Z0.mk ((by rw [hg]; exact Nat.ne_of_lt (klt_ (g := gb208) bk_) : gb208 ≠ gb209)); have n6_ := Z0.mk ((by rw [hg]; exact Nat.ne_of_gt (klt_ (g := gb208) bk_) : gb209 ≠ gb208)); clear BK208; clear HB; have BK208 := n0_; have HB := n1_; have BK209 := n2_; have GW209 := n3_; have GE209 := n4_; have NB208_209 := n5_; have NB209_208 := n6_; clear n0_ n1_ n2_ n3_ n4_ n5_ n6_; clear hb hbox hg) | ((with_reducible refine gds (N := 4) rfl ?_); refine bx_ (N := 4) (cs := #[.int .i64 0, .string (⟨#[]⟩ : ByteArray), .string (⟨#[]⟩ : ByteArray), .int .i64 0]) (t := 44) ?_; intro gb210 hg w6 hbox hb; have n0_ := Z0.mk (kbl (g := gb208) bk_ hb); have n1_ := Z0.mk (kbl (g := gb209) bk_ hb); have n2_ := Z0.mk (bsp bl_ hb); have n3_ := Z0.mk (hbox); have n4_ := Z0.mk ((by rw [hg]; exact bsz bl_ : w.heap.size ≤ gb210)); have n5_ := Z0.mk ((by rw [hg]; exact bsz bl_ : w.heap.size ≤ gb210)); have n6_ := Z0.mk ((by rw [hg]; exact Nat.ne_of_lt (klt_ (g := gb208) bk_) : gb208 ≠ gb210)); have n7_ := Z0.mk ((by rw [hg]; exact Nat.ne_of_gt (klt_ (g := gb208) bk_) : gb210 ≠ gb208)); have n8_ := Z0.mk ((by rw [hg]; exact Nat.ne_of_lt (klt_ (g := gb209) bk_) : gb209 ≠ gb210)); have n9_ := Z0.mk ((by rw [hg]; exact Nat.ne_of_gt (klt_ (g := gb209) bk_) : gb210 ≠ gb209)); clear BK208; clear BK209; clear HB; have BK208 := n0_; have BK209 := n1_; have HB := n2_; have BK210 := n3_; have GW210 := n4_; have GE210 := n5_; have NB208_210 := n6_; have NB210_208 := n7_; have NB209_210 := n8_; have NB210_209 := n9_; clear n0_ n1_ n2_ n3_ n4_ n5_ n6_ n7_ n8_ n9_; clear hb hbox hg; have hnb7 := NB209_208.out; have hnc7 := NB208_209.out; have hnb8 := NB209_210.out; have hnc8 := NB210_209.out; have hcz9 := bc4 BK209.out) | ((with_reducible refine gcl (f := 22) rfl ?_); refine gl_ (some 7) rfl rfl Tryz.func22 (by kernel_rfl) rfl #[.agg #[.int .i64 a1_0, .string a1_1, .string a1_2, .int .i64 a1_3]] rfl ar_ ?_; (with_reducible refine (armoirelaw12_Tidy.calls k a1_0 a1_1 a1_2 a1_3 t211 t212 t213 t214 _ A3.out).mono ?_); rintro e w10 ⟨rfl, hb⟩; refine ⟨_, rfl, ?_⟩; have n0_ := Z0.mk (kbl (g := gb208) bk_ hb); have n1_ := Z0.mk (kbl (g := gb209) bk_ hb); have n2_ := Z0.mk (kbl (g := gb210) bk_ hb); have n3_ := Z0.mk (bsp bl_ hb); clear BK208; clear BK209; clear BK210; clear HB; have BK208 := n0_; have BK209 := n1_; have BK210 := n2_; have HB := n3_; clear n0_ n1_ n2_ n3_; (try clear hb); (try clear hb2); (try clear hk); (try clear hi)) | ((with_reducible refine gds (N := 5) rfl ?_); refine bx_ (N := 5) (cs := #[.int .i64 0, .string (⟨#[]⟩ : ByteArray), .string (⟨#[]⟩ : ByteArray), .int .i64 0]) (t := 44) ?_; intro gb215 hg w11 hbox hb; have n0_ := Z0.mk (kbl (g := gb208) bk_ hb); have n1_ := Z0.mk (kbl (g := gb209) bk_ hb); have n2_ := Z0.mk (kbl (g := gb210) bk_ hb); have n3_ := Z0.mk (bsp bl_ hb); have n4_ := Z0.mk (hbox); have n5_ := Z0.mk ((by rw [hg]; exact bsz bl_ : w.heap.size ≤ gb215)); have n6_ := Z0.mk ((by rw [hg]; exact bsz bl_ : w.heap.size ≤ gb215)); have n7_ := Z0.mk ((by rw [hg]; exact Nat.ne_of_lt (klt_ (g := gb208) bk_) : gb208 ≠ gb215)); have n8_ := Z0.mk ((by rw [hg]; exact Nat.ne_of_gt (klt_ (g := gb208) bk_) : gb215 ≠ gb208)); have n9_ := Z0.mk ((by rw [hg]; exact Nat.ne_of_lt (klt_ (g := gb209) bk_) : gb209 ≠ gb215)); have n10_ := Z0.mk ((by rw [hg]; exact Nat.ne_of_gt (klt_ (g := gb209) bk_) : gb215 ≠ gb209)); have n11_ := Z0.mk ((by rw [hg]; exact Nat.ne_of_lt (klt_ (g := gb210) bk_) : gb210 ≠ gb215)); have n12_ := Z0.mk ((by rw [hg]; exact Nat.ne_of_gt (klt_ (g := gb210) bk_) : gb215 ≠ gb210)); clear BK208; clear BK209; clear BK210; clear HB; have BK208 := n0_; have BK209 := n1_; have BK210 := n2_; have HB := n3_; have BK215 := n4_; have GW215 := n5_; have GE215 := n6_; have NB208_215 := n7_; have NB215_208 := n8_; have NB209_215 := n9_; have NB215_209 := n10_; have NB210_215 := n11_; have NB215_210 := n12_; clear n0_ n1_ n2_ n3_ n4_ n5_ n6_ n7_ n8_ n9_ n10_ n11_ n12_; clear hb hbox hg; have hnb12 := NB215_208.out; have hnc12 := NB208_215.out; have hnb13 := NB215_209.out; have hnc13 := NB209_215.out; have hnb14 := NB215_210.out; have hnc14 := NB210_215.out; have hcz15 := bc4 BK215.out))
  go_loopg [8] k (fun kq v8 w' => ∃ (x8_1 : Int) (x210000_1 : Int) (x211000_1 : Int) (x211001_1 : ByteArray) (x211002_1 : ByteArray) (x211003_1 : Int) (x216000_1 : Int) (x216001_1 : ByteArray) (x216002_1 : ByteArray) (x216003_1 : Int), v8 = .int .i64 x8_1 ∧ Z0 (armoirelaw13_Of.l0 kq x8_1 a0_0 a0_1 l0_2 x210000_1 a1_1 a1_2 a1_3 x216000_1 x216001_1 x216002_1 x216003_1 = some (r1, r2, r3, r4)) ∧ Z0 (kq ≤ k) ∧ Z0 (w'.heap[gb208]? = some (.cells #[.int .i64 a0_0, .int .i64 a0_1, (.slice A0_2 l0_2.length c0_2)] 30 (0, 0))) ∧ Z0 (w'.heap[gb209]? = some (.cells #[.int .i64 x210000_1, .string a1_1, .string a1_2, .int .i64 a1_3] 38 (0, 0))) ∧ Z0 (w'.heap[gb210]? = some (.cells #[.int .i64 x211000_1, .string x211001_1, .string x211002_1, .int .i64 x211003_1] 44 (0, 0))) ∧ Z0 (w'.heap[gb215]? = some (.cells #[.int .i64 x216000_1, .string x216001_1, .string x216002_1, .int .i64 x216003_1] 44 (0, 0))) ∧ Z0 (Below w.heap.size w w'))
  case atStart => exact ⟨(0), (a1_0), (0), ((⟨#[]⟩ : ByteArray)), ((⟨#[]⟩ : ByteArray)), (0), (t211), (t212), (t213), (t214), eqv_, H', ⟨Nat.le_refl _⟩, ⟨bk_⟩, ⟨bk_⟩, ⟨bk_⟩, ⟨bk_⟩, ⟨bl_⟩⟩
  clear H'
  try clear c1
  try clear c2
  try clear p2
  try clear c7
  try clear c8
  try clear c12
  try clear c13
  try clear c14
  try clear hcz15
  try clear hcz9
  try clear hcz15
  try clear hcz9
  obtain ⟨x8_1, x210000_1, x211000_1, x211001_1, x211002_1, x211003_1, x216000_1, x216001_1, x216002_1, x216003_1, rfl, HA, HK1, BK208, BK209, BK210, BK215, HB⟩ := hrel
  cases gk with
  | zero => exact absurd HA.out (by simp [armoirelaw13_Of.l0])
  | succ k1 =>
    have H := HA.out
    clear HA
    simp only [armoirelaw13_Of.l0] at H
    by_cases c16 : x8_1 < 17
    rotate_left
    · rw [if_neg c16] at H
      have c16b0 : decide (x8_1 < 17) = false := decide_eq_false c16
      clear c16
      simp only [Option.some.injEq, Prod.mk.injEq] at H
      obtain ⟨rfl, rfl, rfl, rfl⟩ := H
      have hnb39 := NB215_208.out
      have hnc39 := NB208_215.out
      have hnb40 := NB215_209.out
      have hnc40 := NB209_215.out
      have hnb41 := NB215_210.out
      have hnc41 := NB210_215.out
      have hcz42 := bc4 BK215.out
      have hnb43 := NB210_208.out
      have hnc43 := NB208_210.out
      have hnb44 := NB210_209.out
      have hnc44 := NB209_210.out
      have hcz45 := bc4 BK210.out
      go_wp2
      refine bodyPost_ret (results_cell_row rfl _ _ gb210 44 #[.int .i64 x216000_1, .string x216001_1, .string x216002_1, .int .i64 x216003_1] (0, 0) _ rfl bk_ Tryz.underlying44 rfl (by kernel_rfl)) rfl ?_
      exact ⟨er_, bl_⟩
    rw [if_pos c16] at H
    have c16b0 : decide (x8_1 < 17) = true := decide_eq_true c16
    clear c16
    replace H := Option.bind_eq_some_iff.mp H
    obtain ⟨t216, A170, H⟩ := H
    replace H : (if t216 = a0_0 then (some (x216000_1, x216001_1, x216002_1, x216003_1)) else ((armoirelaw12_Tidy.f k1 (wrap64 (x216000_1 + 1)) a1_1 a1_2 a1_3).bind fun bt217 => (armoirelaw13_Of.l0 k1 (wrap64 (x8_1 + 1)) a0_0 a0_1 l0_2 (wrap64 (x216000_1 + 1)) a1_1 a1_2 a1_3 bt217.1 bt217.2.1 bt217.2.2.1 bt217.2.2.2))) = some (r1, r2, r3, r4) := H
    have A17 := Z0.mk A170
    clear A170
    have HS18 := Z0.mk H
    clear H
    try go_wp2
    have n0_ := Z0.mk (kdw BK208.out)
    have n1_ := Z0.mk (kdw BK209.out)
    have n2_ := Z0.mk (kdw BK210.out)
    have n3_ := Z0.mk (kdw BK215.out)
    have n4_ := Z0.mk (bd1 HB.out)
    clear BK208
    clear BK209
    clear BK210
    clear BK215
    clear HB
    have BK208 := n0_
    have BK209 := n1_
    have BK210 := n2_
    have BK215 := n3_
    have HB := n4_
    clear n0_ n1_ n2_ n3_ n4_
    refine start_ (n := 6) (S := fun w' => w'.cell? ⟨gb215, 0, none⟩ = some (.int .i64 x216000_1) ∧ w'.cell? ⟨gb215, 1, none⟩ = some (.string x216001_1) ∧ w'.cell? ⟨gb215, 2, none⟩ = some (.string x216002_1) ∧ w'.cell? ⟨gb215, 3, none⟩ = some (.int .i64 x216003_1) ∧ w'.cell? ⟨gb208, 0, none⟩ = some (.int .i64 a0_0) ∧ w'.cell? ⟨gb208, 1, none⟩ = some (.int .i64 a0_1) ∧ w'.cell? ⟨gb208, 2, none⟩ = some (.slice A0_2 l0_2.length c0_2)) (ds := []) #[false,false,false,false,false,false] (by kernel_rfl) rfl rfl ⟨(kcl BK215.out 0).trans rfl, (kcl BK215.out 1).trans rfl, (kcl BK215.out 2).trans rfl, (kcl BK215.out 3).trans rfl, (kcl BK208.out 0).trans rfl, (kcl BK208.out 1).trans rfl, (kcl BK208.out 2).trans rfl⟩ (fun hHeld => ?_)
    generalize wr.drew = w19 at BK208 BK209 BK210 BK215 HB hHeld ⊢
    refine pure_ (i := 0) (N := some 10) (v := ?_) (a' := ?_) (bA 6 1) rfl rfl (by kernel_rfl) (fun _ _ _ h => h) (Or.inl ⟨by rfl, ?_⟩) ?_ ?_
    rotate_left; (intro w'; go_simp; with_reducible rfl); rotate_left; (simp only [Act.put, List.setIfInBounds_toArray, List.set_cons_zero, List.set_cons_succ, i64_w, i32_w]; rfl)
    refine pure_ (i := 3) (N := some 13) (v := ?_) (a' := ?_) (bA 6 9) rfl rfl (by kernel_rfl) (fun _ _ _ h => h) (Or.inl ⟨by rfl, ?_⟩) ?_ ?_
    rotate_left; (intro w'; go_simp; with_reducible rfl); rotate_left; (simp only [Act.put, List.setIfInBounds_toArray, List.set_cons_zero, List.set_cons_succ, i64_w, i32_w]; rfl)
    refine take_ (i := 1) (N := some 11) (v := ?_) (a' := ?_) (bA 6 11) rfl rfl (by kernel_rfl) (fun _ _ _ h => h) (Or.inl ⟨by rfl, ?_⟩) hHeld ?_ ?_
    rotate_left
    · rintro w' ⟨s0, s1, s2, s3, s4, s5, s6⟩
      go_simp
      with_reducible rfl
    rotate_left; (simp only [Act.put, List.setIfInBounds_toArray, List.set_cons_zero, List.set_cons_succ, i64_w, i32_w]; rfl)
    refine take_ (i := 4) (N := some 14) (v := ?_) (a' := ?_) (bA 6 27) rfl rfl (by kernel_rfl) (fun _ _ _ h => h) (Or.inl ⟨by rfl, ?_⟩) hHeld ?_ ?_
    rotate_left
    · rintro w' ⟨s0, s1, s2, s3, s4, s5, s6⟩
      go_simp
      with_reducible rfl
    rotate_left; (simp only [Act.put, List.setIfInBounds_toArray, List.set_cons_zero, List.set_cons_succ, i64_w, i32_w]; rfl)
    refine one_ (i := 2) (N := some 12) (bA 6 31) rfl rfl (by kernel_rfl) (by decide) (fun K hK => ?_)
    refine goes_ Tryz.func23 (by kernel_rfl) rfl #[.int .i64 x216000_1] (by rfl) rfl rfl (by (try simp only [List.map_toArray, List.map_cons, List.map_nil]); first | done | rfl | (simp only [List.length_drop, List.length_take]; rfl) | (simp only [Act.eval, Array.getD_eq_getD_getElem?, Option.getD_some, *]; done) | (simp only [Array.mk.injEq, List.cons.injEq, Value.int.injEq, true_and, and_true]; first | omega | (simp [IntKind.wrap, IntKind.bits, IntKind.signed]; omega))) ?_
    with_reducible refine (armoireref12_Kind.calls x216000_1 t216 _ A17.out).mono ?_
    rintro e w20 ⟨rfl, hb⟩
    refine ⟨_, rfl, ?_⟩
    have n0_ := Z0.mk (kbl (g := gb208) bk_ hb)
    have n1_ := Z0.mk (kbl (g := gb209) bk_ hb)
    have n2_ := Z0.mk (kbl (g := gb210) bk_ hb)
    have n3_ := Z0.mk (kbl (g := gb215) bk_ hb)
    have n4_ := Z0.mk (bsp bl_ hb)
    clear BK208
    clear BK209
    clear BK210
    clear BK215
    clear HB
    have BK208 := n0_
    have BK209 := n1_
    have BK210 := n2_
    have BK215 := n3_
    have HB := n4_
    clear n0_ n1_ n2_ n3_ n4_
    (try clear hb)
    (try clear hb2)
    (try clear hk)
    (try clear hi)
    refine hK.out _ _ ⟨(kcl BK215.out 0).trans rfl, (kcl BK215.out 1).trans rfl, (kcl BK215.out 2).trans rfl, (kcl BK215.out 3).trans rfl, (kcl BK208.out 0).trans rfl, (kcl BK208.out 1).trans rfl, (kcl BK208.out 2).trans rfl⟩ (fun hHeld => ?_)
    clear hK K
    refine norm_ (a' := ?_) ?_ ?_
    rotate_left
    · show Act.put _ (some 12) _ = _
      simp only [Act.put, List.setIfInBounds_toArray, List.set_cons_zero, List.set_cons_succ, i64_w, i32_w]
      rfl
    refine pure_ (i := 5) (N := some 15) (v := ?_) (a' := ?_) (bA 6 63) rfl rfl (by kernel_rfl) (fun _ _ _ h => h) (Or.inl ⟨by rfl, ?_⟩) ?_ ?_
    rotate_left; (intro w'; go_simp; with_reducible rfl); rotate_left; (simp only [Act.put, List.setIfInBounds_toArray, List.set_cons_zero, List.set_cons_succ, i64_w, i32_w]; rfl)
    refine done_ (by kernel_rfl) ?_
    go_upto_if 15 with (fail)
    have H := HS18.out
    clear HS18
    by_cases c21 : t216 = a0_0
    · rw [if_pos c21] at H
      have c21b0 : (t216 == a0_0) = true := beq_iff_eq.mpr c21
      have c21b1 : (t216 != a0_0) = false := bne_eq_false_iff_eq.mpr c21
      clear c21
      (first | rw [c21b0] | (simp only [i64_w, i32_w]; rw [c21b0]) | skip)
      simp only [Option.some.injEq, Prod.mk.injEq] at H
      obtain ⟨rfl, rfl, rfl, rfl⟩ := H
      have hnb22 := NB215_208.out
      have hnc22 := NB208_215.out
      have hnb23 := NB215_209.out
      have hnc23 := NB209_215.out
      have hnb24 := NB215_210.out
      have hnc24 := NB210_215.out
      have hcz25 := bc4 BK215.out
      have hnb26 := NB210_208.out
      have hnc26 := NB208_210.out
      have hnb27 := NB210_209.out
      have hnc27 := NB209_210.out
      have hcz28 := bc4 BK210.out
      go_wp2
      refine bodyPost_ret (results_cell_row rfl _ _ gb210 44 #[.int .i64 x216000_1, .string x216001_1, .string x216002_1, .int .i64 x216003_1] (0, 0) _ rfl bk_ Tryz.underlying44 rfl (by kernel_rfl)) rfl ?_
      exact ⟨er_, bl_⟩
    rw [if_neg c21] at H
    have c21b0 : (t216 == a0_0) = false := beq_eq_false_iff_ne.mpr c21
    have c21b1 : (t216 != a0_0) = true := bne_iff_ne.mpr c21
    (first | rw [c21b0] | (simp only [i64_w, i32_w]; rw [c21b0]) | skip)
    replace H := Option.bind_eq_some_iff.mp H
    obtain ⟨⟨t217, t218, t219, t220⟩, A290, H⟩ := H
    replace H : (armoirelaw13_Of.l0 k1 (wrap64 (x8_1 + 1)) a0_0 a0_1 l0_2 (wrap64 (x216000_1 + 1)) a1_1 a1_2 a1_3 t217 t218 t219 t220) = some (r1, r2, r3, r4) := H
    have A29 := Z0.mk A290
    clear A290
    have H' := Z0.mk H
    clear H
    have hnb30 := NB215_208.out
    have hnc30 := NB208_215.out
    have hnb31 := NB215_209.out
    have hnc31 := NB209_215.out
    have hnb32 := NB215_210.out
    have hnc32 := NB210_215.out
    have hcz33 := bc4 BK215.out
    have hnb34 := NB209_208.out
    have hnc34 := NB208_209.out
    have hnb35 := NB209_210.out
    have hnc35 := NB210_209.out
    have hcz36 := bc4 BK209.out
    go_wp2_with (first | ((with_reducible refine gcl (f := 22) rfl ?_); refine gl_ (some 22) rfl rfl Tryz.func22 (by kernel_rfl) rfl #[.agg #[.int .i64 (wrap64 (x216000_1 + 1)), .string a1_1, .string a1_2, .int .i64 a1_3]] rfl ar_ ?_; (with_reducible refine (armoirelaw12_Tidy.calls k1 (wrap64 (x216000_1 + 1)) a1_1 a1_2 a1_3 t217 t218 t219 t220 _ A29.out).mono ?_); rintro e w37 ⟨rfl, hb⟩; refine ⟨_, rfl, ?_⟩; have n0_ := Z0.mk (kbl (g := gb208) bk_ hb); have n1_ := Z0.mk (kbl (g := gb209) bk_ hb); have n2_ := Z0.mk (kbl (g := gb210) bk_ hb); have n3_ := Z0.mk (kbl (g := gb215) bk_ hb); have n4_ := Z0.mk (bsp bl_ hb); clear BK208; clear BK209; clear BK210; clear BK215; clear HB; have BK208 := n0_; have BK209 := n1_; have BK210 := n2_; have BK215 := n3_; have HB := n4_; clear n0_ n1_ n2_ n3_ n4_; (try clear hb); (try clear hb2); (try clear hk); (try clear hi); have hcz38 := bc4 BK215.out))
    go_roundg k1
    case measure => have := HK1.out; omega
    case rel => exact ⟨(wrap64 (x8_1 + 1)), (wrap64 (x216000_1 + 1)), (x211000_1), (x211001_1), (x211002_1), (x211003_1), (t217), (t218), (t219), (t220), eqv_, H', ⟨by have := HK1.out; omega⟩, ⟨bk_⟩, ⟨bk_⟩, ⟨bk_⟩, ⟨bk_⟩, ⟨bl_⟩⟩
def method_shapes.f  : Option ((List (S122))) := some (([(⟨1, (⟨#[114, 101, 97, 100]⟩ : ByteArray), false, false, false⟩ : S122), (⟨1, (⟨#[119, 114, 105, 116, 101]⟩ : ByteArray), true, false, false⟩ : S122), (⟨2, (⟨#[97, 100, 100]⟩ : ByteArray), false, false, true⟩ : S122), (⟨2, (⟨#[99, 111, 117, 110, 116]⟩ : ByteArray), false, false, false⟩ : S122), (⟨3, (⟨#[99, 114, 101, 100, 105, 116]⟩ : ByteArray), false, false, true⟩ : S122), (⟨3, (⟨#[100, 101, 98, 105, 116]⟩ : ByteArray), false, false, true⟩ : S122), (⟨3, (⟨#[98, 97, 108, 97, 110, 99, 101]⟩ : ByteArray), false, false, false⟩ : S122), (⟨4, (⟨#[105, 110, 115, 101, 114, 116]⟩ : ByteArray), true, false, false⟩ : S122), (⟨4, (⟨#[114, 101, 109, 111, 118, 101]⟩ : ByteArray), true, false, false⟩ : S122), (⟨4, (⟨#[104, 97, 115]⟩ : ByteArray), true, false, false⟩ : S122), (⟨5, (⟨#[98, 105, 110, 100]⟩ : ByteArray), true, true, false⟩ : S122), (⟨5, (⟨#[117, 110, 98, 105, 110, 100]⟩ : ByteArray), true, false, false⟩ : S122), (⟨5, (⟨#[108, 111, 111, 107]⟩ : ByteArray), true, false, false⟩ : S122), (⟨6, (⟨#[101, 110, 113]⟩ : ByteArray), true, false, false⟩ : S122), (⟨6, (⟨#[100, 101, 113]⟩ : ByteArray), false, false, false⟩ : S122), (⟨7, (⟨#[112, 117, 116]⟩ : ByteArray), true, false, false⟩ : S122), (⟨7, (⟨#[116, 97, 107, 101]⟩ : ByteArray), false, false, false⟩ : S122)] : List (S122)))
set_option maxHeartbeats 8000000 in
set_option maxRecDepth 100000 in
theorem method_shapes.calls  (r : List (S122)) (w : World) (h : method_shapes.f  = some r) :
    Calls Tryz.prog 68 #[] w fun e w' => ∃ v0_ : Value, e = .returned (v0_) ∧ Kd.R k122 122 w' w.heap.size (fun _ => True) v0_ r ∧ Below w.heap.size w w' := by
  have hu122 := Tryz.underlying122
  have HB := Z0.mk (Below.refl w.heap.size w)
  have H : (some (([(⟨1, (⟨#[114, 101, 97, 100]⟩ : ByteArray), false, false, false⟩ : S122), (⟨1, (⟨#[119, 114, 105, 116, 101]⟩ : ByteArray), true, false, false⟩ : S122), (⟨2, (⟨#[97, 100, 100]⟩ : ByteArray), false, false, true⟩ : S122), (⟨2, (⟨#[99, 111, 117, 110, 116]⟩ : ByteArray), false, false, false⟩ : S122), (⟨3, (⟨#[99, 114, 101, 100, 105, 116]⟩ : ByteArray), false, false, true⟩ : S122), (⟨3, (⟨#[100, 101, 98, 105, 116]⟩ : ByteArray), false, false, true⟩ : S122), (⟨3, (⟨#[98, 97, 108, 97, 110, 99, 101]⟩ : ByteArray), false, false, false⟩ : S122), (⟨4, (⟨#[105, 110, 115, 101, 114, 116]⟩ : ByteArray), true, false, false⟩ : S122), (⟨4, (⟨#[114, 101, 109, 111, 118, 101]⟩ : ByteArray), true, false, false⟩ : S122), (⟨4, (⟨#[104, 97, 115]⟩ : ByteArray), true, false, false⟩ : S122), (⟨5, (⟨#[98, 105, 110, 100]⟩ : ByteArray), true, true, false⟩ : S122), (⟨5, (⟨#[117, 110, 98, 105, 110, 100]⟩ : ByteArray), true, false, false⟩ : S122), (⟨5, (⟨#[108, 111, 111, 107]⟩ : ByteArray), true, false, false⟩ : S122), (⟨6, (⟨#[101, 110, 113]⟩ : ByteArray), true, false, false⟩ : S122), (⟨6, (⟨#[100, 101, 113]⟩ : ByteArray), false, false, false⟩ : S122), (⟨7, (⟨#[112, 117, 116]⟩ : ByteArray), true, false, false⟩ : S122), (⟨7, (⟨#[116, 97, 107, 101]⟩ : ByteArray), false, false, false⟩ : S122)] : List (S122)))) = some r := h
  clear h
  obtain ⟨y221, hy221⟩ : ∃ y_ : List (S122), y_ = (([(⟨1, (⟨#[114, 101, 97, 100]⟩ : ByteArray), false, false, false⟩ : S122), (⟨1, (⟨#[119, 114, 105, 116, 101]⟩ : ByteArray), true, false, false⟩ : S122), (⟨2, (⟨#[97, 100, 100]⟩ : ByteArray), false, false, true⟩ : S122), (⟨2, (⟨#[99, 111, 117, 110, 116]⟩ : ByteArray), false, false, false⟩ : S122), (⟨3, (⟨#[99, 114, 101, 100, 105, 116]⟩ : ByteArray), false, false, true⟩ : S122), (⟨3, (⟨#[100, 101, 98, 105, 116]⟩ : ByteArray), false, false, true⟩ : S122), (⟨3, (⟨#[98, 97, 108, 97, 110, 99, 101]⟩ : ByteArray), false, false, false⟩ : S122), (⟨4, (⟨#[105, 110, 115, 101, 114, 116]⟩ : ByteArray), true, false, false⟩ : S122), (⟨4, (⟨#[114, 101, 109, 111, 118, 101]⟩ : ByteArray), true, false, false⟩ : S122), (⟨4, (⟨#[104, 97, 115]⟩ : ByteArray), true, false, false⟩ : S122), (⟨5, (⟨#[98, 105, 110, 100]⟩ : ByteArray), true, true, false⟩ : S122), (⟨5, (⟨#[117, 110, 98, 105, 110, 100]⟩ : ByteArray), true, false, false⟩ : S122), (⟨5, (⟨#[108, 111, 111, 107]⟩ : ByteArray), true, false, false⟩ : S122), (⟨6, (⟨#[101, 110, 113]⟩ : ByteArray), true, false, false⟩ : S122), (⟨6, (⟨#[100, 101, 113]⟩ : ByteArray), false, false, false⟩ : S122), (⟨7, (⟨#[112, 117, 116]⟩ : ByteArray), true, false, false⟩ : S122), (⟨7, (⟨#[116, 97, 107, 101]⟩ : ByteArray), false, false, false⟩ : S122)] : List (S122))) := ⟨_, rfl⟩
  replace H : (some y221) = some r := by first | (rw [hy221]; with_reducible exact H) | (have H2_ := (Option.bind_some _ _).symm.trans H; rw [hy221]; with_reducible exact H2_) | (have H2_ := (Option.bind_some _ _).symm.trans H; with_reducible exact H2_) | with_reducible exact H | (rw [hy221]; exact H) | exact H
  have Ny221 := Z0.mk hy221
  clear hy221
  obtain rfl := Option.some.inj H
  go_enter Tryz.func68, Tryz.ntmps68
  go_wp2_with (first | ((with_reducible refine gds (N := 18) rfl ?_); refine Kd.R_lit k122 _ 122 ?hg (N := 18) ?hd (xs := ([(⟨1, (⟨#[114, 101, 97, 100]⟩ : ByteArray), false, false, false⟩ : S122), (⟨1, (⟨#[119, 114, 105, 116, 101]⟩ : ByteArray), true, false, false⟩ : S122), (⟨2, (⟨#[97, 100, 100]⟩ : ByteArray), false, false, true⟩ : S122), (⟨2, (⟨#[99, 111, 117, 110, 116]⟩ : ByteArray), false, false, false⟩ : S122), (⟨3, (⟨#[99, 114, 101, 100, 105, 116]⟩ : ByteArray), false, false, true⟩ : S122), (⟨3, (⟨#[100, 101, 98, 105, 116]⟩ : ByteArray), false, false, true⟩ : S122), (⟨3, (⟨#[98, 97, 108, 97, 110, 99, 101]⟩ : ByteArray), false, false, false⟩ : S122), (⟨4, (⟨#[105, 110, 115, 101, 114, 116]⟩ : ByteArray), true, false, false⟩ : S122), (⟨4, (⟨#[114, 101, 109, 111, 118, 101]⟩ : ByteArray), true, false, false⟩ : S122), (⟨4, (⟨#[104, 97, 115]⟩ : ByteArray), true, false, false⟩ : S122), (⟨5, (⟨#[98, 105, 110, 100]⟩ : ByteArray), true, true, false⟩ : S122), (⟨5, (⟨#[117, 110, 98, 105, 110, 100]⟩ : ByteArray), true, false, false⟩ : S122), (⟨5, (⟨#[108, 111, 111, 107]⟩ : ByteArray), true, false, false⟩ : S122), (⟨6, (⟨#[101, 110, 113]⟩ : ByteArray), true, false, false⟩ : S122), (⟨6, (⟨#[100, 101, 113]⟩ : ByteArray), false, false, false⟩ : S122), (⟨7, (⟨#[112, 117, 116]⟩ : ByteArray), true, false, false⟩ : S122), (⟨7, (⟨#[116, 97, 107, 101]⟩ : ByteArray), false, false, false⟩ : S122)] : List (S122))) (inner := [.int .i64 1, .string (⟨#[114, 101, 97, 100]⟩ : ByteArray), .bool false, .bool false, .bool false, .int .i64 1, .string (⟨#[119, 114, 105, 116, 101]⟩ : ByteArray), .bool true, .bool false, .bool false, .int .i64 2, .string (⟨#[97, 100, 100]⟩ : ByteArray), .bool false, .bool false, .bool true, .int .i64 2, .string (⟨#[99, 111, 117, 110, 116]⟩ : ByteArray), .bool false, .bool false, .bool false, .int .i64 3, .string (⟨#[99, 114, 101, 100, 105, 116]⟩ : ByteArray), .bool false, .bool false, .bool true, .int .i64 3, .string (⟨#[100, 101, 98, 105, 116]⟩ : ByteArray), .bool false, .bool false, .bool true, .int .i64 3, .string (⟨#[98, 97, 108, 97, 110, 99, 101]⟩ : ByteArray), .bool false, .bool false, .bool false, .int .i64 4, .string (⟨#[105, 110, 115, 101, 114, 116]⟩ : ByteArray), .bool true, .bool false, .bool false, .int .i64 4, .string (⟨#[114, 101, 109, 111, 118, 101]⟩ : ByteArray), .bool true, .bool false, .bool false, .int .i64 4, .string (⟨#[104, 97, 115]⟩ : ByteArray), .bool true, .bool false, .bool false, .int .i64 5, .string (⟨#[98, 105, 110, 100]⟩ : ByteArray), .bool true, .bool true, .bool false, .int .i64 5, .string (⟨#[117, 110, 98, 105, 110, 100]⟩ : ByteArray), .bool true, .bool false, .bool false, .int .i64 5, .string (⟨#[108, 111, 111, 107]⟩ : ByteArray), .bool true, .bool false, .bool false, .int .i64 6, .string (⟨#[101, 110, 113]⟩ : ByteArray), .bool true, .bool false, .bool false, .int .i64 6, .string (⟨#[100, 101, 113]⟩ : ByteArray), .bool false, .bool false, .bool false, .int .i64 7, .string (⟨#[112, 117, 116]⟩ : ByteArray), .bool true, .bool false, .bool false, .int .i64 7, .string (⟨#[116, 97, 107, 101]⟩ : ByteArray), .bool false, .bool false, .bool false]) (ok := fun _ => True) (okp := fun _ => True) ?hr ?hp (fun _ hk => hk) trivial (Below.refl _ _) (Nat.le_refl _) (by simp) ?_; (case hd => rfl); (case hg => rfl); (case hr => first | (go_simp; done) | (go_simp; rfl)); (case hp => exact (Reps.c5 (show Kd.M k122 _ _ _ (⟨1, (⟨#[114, 101, 97, 100]⟩ : ByteArray), false, false, false⟩ : S122) [.int .i64 1, .string (⟨#[114, 101, 97, 100]⟩ : ByteArray), .bool false, .bool false, .bool false] from (k122_mkM _ _ _ (⟨1, (⟨#[114, 101, 97, 100]⟩ : ByteArray), false, false, false⟩ : S122) )) (Reps.c5 (show Kd.M k122 _ _ _ (⟨1, (⟨#[119, 114, 105, 116, 101]⟩ : ByteArray), true, false, false⟩ : S122) [.int .i64 1, .string (⟨#[119, 114, 105, 116, 101]⟩ : ByteArray), .bool true, .bool false, .bool false] from (k122_mkM _ _ _ (⟨1, (⟨#[119, 114, 105, 116, 101]⟩ : ByteArray), true, false, false⟩ : S122) )) (Reps.c5 (show Kd.M k122 _ _ _ (⟨2, (⟨#[97, 100, 100]⟩ : ByteArray), false, false, true⟩ : S122) [.int .i64 2, .string (⟨#[97, 100, 100]⟩ : ByteArray), .bool false, .bool false, .bool true] from (k122_mkM _ _ _ (⟨2, (⟨#[97, 100, 100]⟩ : ByteArray), false, false, true⟩ : S122) )) (Reps.c5 (show Kd.M k122 _ _ _ (⟨2, (⟨#[99, 111, 117, 110, 116]⟩ : ByteArray), false, false, false⟩ : S122) [.int .i64 2, .string (⟨#[99, 111, 117, 110, 116]⟩ : ByteArray), .bool false, .bool false, .bool false] from (k122_mkM _ _ _ (⟨2, (⟨#[99, 111, 117, 110, 116]⟩ : ByteArray), false, false, false⟩ : S122) )) (Reps.c5 (show Kd.M k122 _ _ _ (⟨3, (⟨#[99, 114, 101, 100, 105, 116]⟩ : ByteArray), false, false, true⟩ : S122) [.int .i64 3, .string (⟨#[99, 114, 101, 100, 105, 116]⟩ : ByteArray), .bool false, .bool false, .bool true] from (k122_mkM _ _ _ (⟨3, (⟨#[99, 114, 101, 100, 105, 116]⟩ : ByteArray), false, false, true⟩ : S122) )) (Reps.c5 (show Kd.M k122 _ _ _ (⟨3, (⟨#[100, 101, 98, 105, 116]⟩ : ByteArray), false, false, true⟩ : S122) [.int .i64 3, .string (⟨#[100, 101, 98, 105, 116]⟩ : ByteArray), .bool false, .bool false, .bool true] from (k122_mkM _ _ _ (⟨3, (⟨#[100, 101, 98, 105, 116]⟩ : ByteArray), false, false, true⟩ : S122) )) (Reps.c5 (show Kd.M k122 _ _ _ (⟨3, (⟨#[98, 97, 108, 97, 110, 99, 101]⟩ : ByteArray), false, false, false⟩ : S122) [.int .i64 3, .string (⟨#[98, 97, 108, 97, 110, 99, 101]⟩ : ByteArray), .bool false, .bool false, .bool false] from (k122_mkM _ _ _ (⟨3, (⟨#[98, 97, 108, 97, 110, 99, 101]⟩ : ByteArray), false, false, false⟩ : S122) )) (Reps.c5 (show Kd.M k122 _ _ _ (⟨4, (⟨#[105, 110, 115, 101, 114, 116]⟩ : ByteArray), true, false, false⟩ : S122) [.int .i64 4, .string (⟨#[105, 110, 115, 101, 114, 116]⟩ : ByteArray), .bool true, .bool false, .bool false] from (k122_mkM _ _ _ (⟨4, (⟨#[105, 110, 115, 101, 114, 116]⟩ : ByteArray), true, false, false⟩ : S122) )) (Reps.c5 (show Kd.M k122 _ _ _ (⟨4, (⟨#[114, 101, 109, 111, 118, 101]⟩ : ByteArray), true, false, false⟩ : S122) [.int .i64 4, .string (⟨#[114, 101, 109, 111, 118, 101]⟩ : ByteArray), .bool true, .bool false, .bool false] from (k122_mkM _ _ _ (⟨4, (⟨#[114, 101, 109, 111, 118, 101]⟩ : ByteArray), true, false, false⟩ : S122) )) (Reps.c5 (show Kd.M k122 _ _ _ (⟨4, (⟨#[104, 97, 115]⟩ : ByteArray), true, false, false⟩ : S122) [.int .i64 4, .string (⟨#[104, 97, 115]⟩ : ByteArray), .bool true, .bool false, .bool false] from (k122_mkM _ _ _ (⟨4, (⟨#[104, 97, 115]⟩ : ByteArray), true, false, false⟩ : S122) )) (Reps.c5 (show Kd.M k122 _ _ _ (⟨5, (⟨#[98, 105, 110, 100]⟩ : ByteArray), true, true, false⟩ : S122) [.int .i64 5, .string (⟨#[98, 105, 110, 100]⟩ : ByteArray), .bool true, .bool true, .bool false] from (k122_mkM _ _ _ (⟨5, (⟨#[98, 105, 110, 100]⟩ : ByteArray), true, true, false⟩ : S122) )) (Reps.c5 (show Kd.M k122 _ _ _ (⟨5, (⟨#[117, 110, 98, 105, 110, 100]⟩ : ByteArray), true, false, false⟩ : S122) [.int .i64 5, .string (⟨#[117, 110, 98, 105, 110, 100]⟩ : ByteArray), .bool true, .bool false, .bool false] from (k122_mkM _ _ _ (⟨5, (⟨#[117, 110, 98, 105, 110, 100]⟩ : ByteArray), true, false, false⟩ : S122) )) (Reps.c5 (show Kd.M k122 _ _ _ (⟨5, (⟨#[108, 111, 111, 107]⟩ : ByteArray), true, false, false⟩ : S122) [.int .i64 5, .string (⟨#[108, 111, 111, 107]⟩ : ByteArray), .bool true, .bool false, .bool false] from (k122_mkM _ _ _ (⟨5, (⟨#[108, 111, 111, 107]⟩ : ByteArray), true, false, false⟩ : S122) )) (Reps.c5 (show Kd.M k122 _ _ _ (⟨6, (⟨#[101, 110, 113]⟩ : ByteArray), true, false, false⟩ : S122) [.int .i64 6, .string (⟨#[101, 110, 113]⟩ : ByteArray), .bool true, .bool false, .bool false] from (k122_mkM _ _ _ (⟨6, (⟨#[101, 110, 113]⟩ : ByteArray), true, false, false⟩ : S122) )) (Reps.c5 (show Kd.M k122 _ _ _ (⟨6, (⟨#[100, 101, 113]⟩ : ByteArray), false, false, false⟩ : S122) [.int .i64 6, .string (⟨#[100, 101, 113]⟩ : ByteArray), .bool false, .bool false, .bool false] from (k122_mkM _ _ _ (⟨6, (⟨#[100, 101, 113]⟩ : ByteArray), false, false, false⟩ : S122) )) (Reps.c5 (show Kd.M k122 _ _ _ (⟨7, (⟨#[112, 117, 116]⟩ : ByteArray), true, false, false⟩ : S122) [.int .i64 7, .string (⟨#[112, 117, 116]⟩ : ByteArray), .bool true, .bool false, .bool false] from (k122_mkM _ _ _ (⟨7, (⟨#[112, 117, 116]⟩ : ByteArray), true, false, false⟩ : S122) )) (Reps.c5 (show Kd.M k122 _ _ _ (⟨7, (⟨#[116, 97, 107, 101]⟩ : ByteArray), false, false, false⟩ : S122) [.int .i64 7, .string (⟨#[116, 97, 107, 101]⟩ : ByteArray), .bool false, .bool false, .bool false] from (k122_mkM _ _ _ (⟨7, (⟨#[116, 97, 107, 101]⟩ : ByteArray), false, false, false⟩ : S122) )) (Reps.none _ _))))))))))))))))))); intro v222 w1 ho2 hb hg_ hnew_; clear hg_ hnew_; (first | rw [← Ny221.out] at ho2 | (simp only [Int.reduceToNat] at ho2; rw [← Ny221.out] at ho2)); have n0_ := Z0.mk (Kd.R_lower ho2 (bsz bl_)); have n1_ := Z0.mk (bsp bl_ hb); clear HB; have HO223 := n0_; have HB := n1_; clear n0_ n1_; clear hb ho2))
  go_ret
  exact ⟨_, er_, by (with_reducible repeat (first | apply Kd.R_alloc | apply Kd.R_drewN | apply Kd.R_drew)); exact HO223.out, bl_⟩
end Go.Proofs.YtjiblcncadekcaaGreat.PA

