import Derived.Test.YtjiblcncadekcaaGreatQOxPAx0
import Derived.Test.YtjiblcncadekcaaGreatQOxPAx4
import Derived.Test.YtjiblcncadekcaaGreatQOxPAx6
namespace Go.Proofs.YtjiblcncadekcaaGreat.PA
open Go.Proofs.YtjiblcncadekcaaGreat.PL
open Go.RowKit Go.Proofs.YtjiblcncadekcaaGreatW.PrintWords Go.Proofs.YtjiblcncadekcaaGreatW.PrintLast Go.Proofs.YtjiblcncadekcaaGreatW.PrintMore
attribute [local go_sem] max2_int min2_int bl_leq max_two min_two max_three min_three max_four min_four
set_option linter.unusedVariables false
set_option linter.unusedSimpArgs false
mutual
def armoirelaw11_Tidy.j0 : Nat → Bool → Int → Int → List (S73) → Int → Int → Option (Int × Int × (List (S72)))
  | 0, _, _, _, _, _, _ => none
  | k + 1, x21, x175000, x175001, x175002, x177000, x177001 => if x21 = true then (if x177000 = 3 then (if x175001 < 0 then (some (x177000, wrap64 (-(wrap64 (x175001 + 1))), ([] : List (S72)))) else (some (x177000, x175001, ([] : List (S72))))) else (some (x177000, x175001, ([] : List (S72))))) else (if x177000 = 1 then (armoirelaw11_Tidy.j1 k 1 x175000 x175001 x175002 x177000 x177001) else (armoirelaw11_Tidy.j1 k 8 x175000 x175001 x175002 x177000 x177001))
def armoirelaw11_Tidy.j1 : Nat → Int → Int → Int → List (S73) → Int → Int → Option (Int × Int × (List (S72)))
  | 0, _, _, _, _, _, _ => none
  | k + 1, x4, x175000, x175001, x175002, x177000, x177001 => armoirelaw11_Tidy.l0 k x4 0 x175000 x175001 x175002 x177000 x177001 ([] : List (S72))
def armoirelaw11_Tidy.l0 : Nat → Int → Int → Int → Int → List (S73) → Int → Int → List (S72) → Option (Int × Int × (List (S72)))
  | 0, _, _, _, _, _, _, _, _ => none
  | k + 1, x4, x5, x175000, x175001, x175002, x177000, x177001, x177002 => if x5 < (x175002.length : Int) then (if (x177002.length : Int) < x4 then (armoirelaw11_Tidy.j3 k x4 x5 (decide (x5 < 20)) x175000 x175001 x175002 x177000 x177001 x177002) else (armoirelaw11_Tidy.j3 k x4 x5 false x175000 x175001 x175002 x177000 x177001 x177002)) else (armoirelaw11_Tidy.j3 k x4 x5 false x175000 x175001 x175002 x177000 x177001 x177002)
def armoirelaw11_Tidy.j3 : Nat → Int → Int → Bool → Int → Int → List (S73) → Int → Int → List (S72) → Option (Int × Int × (List (S72)))
  | 0, _, _, _, _, _, _, _, _, _ => none
  | k + 1, x4, x5, x57, x175000, x175001, x175002, x177000, x177001, x177002 => if x57 = true then (if 0 ≤ x5 then (if x5 < (x175002.length : Int) then ((armoirelaw01_Cut.f ((rd_T73 x175002 x5).f0) 24).bind fun t178 => (if x177000 = 5 then ((armoirelaw01_Cut.f ((rd_T73 x175002 x5).f1) 24).bind fun t181 => (armoirelaw11_Tidy.j4 k x4 x5 x175000 x175001 x175002 x177000 x177001 x177002 t178 t181)) else (armoirelaw11_Tidy.j4 k x4 x5 x175000 x175001 x175002 x177000 x177001 x177002 t178 (⟨#[]⟩ : ByteArray)))) else (none)) else (none)) else (some (x177000, x177001, x177002))
def armoirelaw11_Tidy.j4 : Nat → Int → Int → Int → Int → List (S73) → Int → Int → List (S72) → ByteArray → ByteArray → Option (Int × Int × (List (S72)))
  | 0, _, _, _, _, _, _, _, _, _, _ => none
  | k + 1, x4, x5, x175000, x175001, x175002, x177000, x177001, x177002, x180000, x180001 => (armoireref11_With.f k x177000 x177001 x177002 x180000 x180001).bind fun bt182 => ((armoireref11_Check.f k bt182.1 bt182.2.1 bt182.2.2).bind fun t188 => (if t188 = 0 then (armoirelaw11_Tidy.l0 k x4 (wrap64 (x5 + 1)) x175000 x175001 x175002 bt182.1 bt182.2.1 bt182.2.2) else (armoirelaw11_Tidy.l0 k x4 (wrap64 (x5 + 1)) x175000 x175001 x175002 x177000 x177001 x177002)))
end
def armoirelaw11_Tidy.f (k : Nat) (a0_0 : Int) (a0_1 : Int) (l0_2 : List (S73)) : Option (Int × Int × (List (S72))) := if (wrap64 (1 + (Int.tmod (Go.bits .and .i64 a0_0 255) 7))) = 2 then (armoirelaw11_Tidy.j0 k true a0_0 a0_1 l0_2 (wrap64 (1 + (Int.tmod (Go.bits .and .i64 a0_0 255) 7))) 0) else (armoirelaw11_Tidy.j0 k ((wrap64 (1 + (Int.tmod (Go.bits .and .i64 a0_0 255) 7))) == 3) a0_0 a0_1 l0_2 (wrap64 (1 + (Int.tmod (Go.bits .and .i64 a0_0 255) 7))) 0)
set_option maxHeartbeats 8000000 in
set_option maxRecDepth 100000 in
theorem armoirelaw11_Tidy.calls (k : Nat) (a0_0 : Int) (a0_1 : Int) (A0_2 : Option Addr) (c0_2 : Nat) (l0_2 : List (S73)) (r1 : Int) (r2 : Int) (r3 : List (S72)) (w : World) (hr0_2 : Kd.C k73 w A0_2 l0_2.length l0_2) (hc0_2 : l0_2.length ≤ c0_2) (h : armoirelaw11_Tidy.f k a0_0 a0_1 l0_2 = some (r1, r2, r3)) :
    Calls Tryz.prog 21 #[.agg #[.int .i64 a0_0, .int .i64 a0_1, .slice A0_2 l0_2.length c0_2]] w fun e w' => ∃ v2_ : Value, e = .returned (.agg #[.int .i64 r1, .int .i64 r2, v2_]) ∧ Kd.R k72 72 w' w.heap.size (fun _ => True) v2_ r3 ∧ Below w.heap.size w w' := by
  have hu24 := Tryz.underlying24
  have hu30 := Tryz.underlying30
  have hu72 := Tryz.underlying72
  have HR0_2 := Z0.mk hr0_2
  have HC0_2 := Z0.mk hc0_2
  clear hr0_2 hc0_2
  have HB := Z0.mk (Below.refl w.heap.size w)
  have H : (if (wrap64 (1 + (Int.tmod (Go.bits .and .i64 a0_0 255) 7))) = 2 then (armoirelaw11_Tidy.j0 k true a0_0 a0_1 l0_2 (wrap64 (1 + (Int.tmod (Go.bits .and .i64 a0_0 255) 7))) 0) else (armoirelaw11_Tidy.j0 k ((wrap64 (1 + (Int.tmod (Go.bits .and .i64 a0_0 255) 7))) == 3) a0_0 a0_1 l0_2 (wrap64 (1 + (Int.tmod (Go.bits .and .i64 a0_0 255) 7))) 0)) = some (r1, r2, r3) := h
  clear h
  have HC2 := Z0.mk H
  clear H
  go_enter Tryz.func21, Tryz.ntmps21
  go_upto_region 2 with (first | ((with_reducible refine gds (N := 1) rfl ?_); (try (refine gate_guard (by rfl) ?_; dsimp only)); refine bx_ (N := 1) (cs := #[.int .i64 a0_0, .int .i64 a0_1, .slice A0_2 l0_2.length c0_2]) (t := 24) ?_; intro gb174 hg w3 hbox hb; have n0_ := Z0.mk (bsp bl_ hb); have n1_ := Z0.mk (hbox); have n2_ := Z0.mk ((by rw [hg]; exact bsz bl_ : w.heap.size ≤ gb174)); have n3_ := Z0.mk ((by rw [hg]; exact bsz bl_ : w.heap.size ≤ gb174)); clear HB; have HB := n0_; have BK174 := n1_; have GW174 := n2_; have GE174 := n3_; clear n0_ n1_ n2_ n3_; clear hb hbox hg) | ((with_reducible refine gds (N := 2) rfl ?_); (try (refine gate_guard (by rfl) ?_; dsimp only)); refine bx_ (N := 2) (cs := #[.int .i64 0, .int .i64 0, .slice none 0 0]) (t := 30) ?_; intro gb175 hg w4 hbox hb; have n0_ := Z0.mk (kbl (g := gb174) (o := .cells #[.int .i64 a0_0, .int .i64 a0_1, .slice A0_2 l0_2.length c0_2] 24 (0, 0)) bk_ hb); have n1_ := Z0.mk (bsp bl_ hb); have n2_ := Z0.mk (hbox); have n3_ := Z0.mk ((by rw [hg]; exact bsz bl_ : w.heap.size ≤ gb175)); have n4_ := Z0.mk ((by rw [hg]; exact bsz bl_ : w.heap.size ≤ gb175)); have n5_ := Z0.mk ((by rw [hg]; exact Nat.ne_of_lt (klt_ (g := gb174) (o := .cells #[.int .i64 a0_0, .int .i64 a0_1, .slice A0_2 l0_2.length c0_2] 24 (0, 0)) bk_) : gb174 ≠ gb175)); have n6_ := Z0.mk ((by rw [hg]; exact Nat.ne_of_gt (klt_ (g := gb174) (o := .cells #[.int .i64 a0_0, .int .i64 a0_1, .slice A0_2 l0_2.length c0_2] 24 (0, 0)) bk_) : gb175 ≠ gb174)); clear BK174; clear HB; have BK174 := n0_; have HB := n1_; have BK175 := n2_; have GW175 := n3_; have GE175 := n4_; have NB174_175 := n5_; have NB175_174 := n6_; clear n0_ n1_ n2_ n3_ n4_ n5_ n6_; clear hb hbox hg; have hnb5 := NB174_175.out; have hnc5 := NB175_174.out; have hcz6 := bc3 BK174.out) | ((with_reducible refine gds (N := 3) rfl ?_); (try (refine gate_guard (by rfl) ?_; dsimp only)); refine bx_ (N := 3) (cs := #[.int .i64 0, .int .i64 0, .slice none 0 0]) (t := 30) ?_; intro gb176 hg w7 hbox hb; have n0_ := Z0.mk (kbl (g := gb174) (o := .cells #[.int .i64 a0_0, .int .i64 a0_1, .slice A0_2 l0_2.length c0_2] 24 (0, 0)) bk_ hb); have n1_ := Z0.mk (kbl (g := gb175) (o := .cells #[.int .i64 0, .int .i64 0, .slice none 0 0] 30 (0, 0)) bk_ hb); have n2_ := Z0.mk (bsp bl_ hb); have n3_ := Z0.mk (hbox); have n4_ := Z0.mk ((by rw [hg]; exact bsz bl_ : w.heap.size ≤ gb176)); have n5_ := Z0.mk ((by rw [hg]; exact bsz bl_ : w.heap.size ≤ gb176)); have n6_ := Z0.mk ((by rw [hg]; exact Nat.ne_of_lt (klt_ (g := gb174) (o := .cells #[.int .i64 a0_0, .int .i64 a0_1, .slice A0_2 l0_2.length c0_2] 24 (0, 0)) bk_) : gb174 ≠ gb176)); have n7_ := Z0.mk ((by rw [hg]; exact Nat.ne_of_gt (klt_ (g := gb174) (o := .cells #[.int .i64 a0_0, .int .i64 a0_1, .slice A0_2 l0_2.length c0_2] 24 (0, 0)) bk_) : gb176 ≠ gb174)); have n8_ := Z0.mk ((by rw [hg]; exact Nat.ne_of_lt (klt_ (g := gb175) (o := .cells #[.int .i64 0, .int .i64 0, .slice none 0 0] 30 (0, 0)) bk_) : gb175 ≠ gb176)); have n9_ := Z0.mk ((by rw [hg]; exact Nat.ne_of_gt (klt_ (g := gb175) (o := .cells #[.int .i64 0, .int .i64 0, .slice none 0 0] 30 (0, 0)) bk_) : gb176 ≠ gb175)); clear BK174; clear BK175; clear HB; have BK174 := n0_; have BK175 := n1_; have HB := n2_; have BK176 := n3_; have GW176 := n4_; have GE176 := n5_; have NB174_176 := n6_; have NB176_174 := n7_; have NB175_176 := n8_; have NB176_175 := n9_; clear n0_ n1_ n2_ n3_ n4_ n5_ n6_ n7_ n8_ n9_; clear hb hbox hg; have hnb8 := NB176_174.out; have hnc8 := NB174_176.out; have hnb9 := NB176_175.out; have hnc9 := NB175_176.out; have hcz10 := bc3 BK176.out))
  (try simp only [Act.put, List.setIfInBounds_toArray, List.set_cons_zero, List.set_cons_succ])
  go_cut [21] (fun v21 wc => ∃ (kq : Nat) (x21_1 : Bool), v21 = .bool x21_1 ∧ Z0 (armoirelaw11_Tidy.j0 kq x21_1 a0_0 a0_1 l0_2 (wrap64 (1 + (Int.tmod (Go.bits .and .i64 a0_0 255) 7))) 0 = some (r1, r2, r3)) ∧ Z0 (kq ≤ k) ∧ Z0 (wc.heap[gb174]? = some (.cells #[.int .i64 a0_0, .int .i64 a0_1, (.slice A0_2 l0_2.length c0_2)] 24 (0, 0))) ∧ Z0 (wc.heap[gb175]? = some (.cells #[.int .i64 0, .int .i64 0, (.slice none 0 0)] 30 (0, 0))) ∧ Z0 (wc.heap[gb176]? = some (.cells #[.int .i64 (wrap64 (1 + (Int.tmod (Go.bits .and .i64 a0_0 255) 7))), .int .i64 0, (.slice none 0 0)] 30 (0, 0))) ∧ Z0 (Below w.heap.size w wc))
  case first =>
    have H := HC2.out
    clear HC2
    by_cases c11 : (wrap64 (1 + (Int.tmod (Go.bits .and .i64 a0_0 255) 7))) = 2
    · rw [if_pos c11] at H
      have c11b0 : ((wrap64 (1 + (Int.tmod (Go.bits .and .i64 a0_0 255) 7))) == 2) = true := beq_iff_eq.mpr c11
      have c11b1 : ((wrap64 (1 + (Int.tmod (Go.bits .and .i64 a0_0 255) 7))) != 2) = false := bne_eq_false_iff_eq.mpr c11
      clear c11
      (first | rw [c11b0] | (simp only [i64_w, i32_w]; rw [c11b0]) | skip)
      have H' := Z0.mk H
      clear H
      have hnb12 := NB176_174.out
      have hnc12 := NB174_176.out
      have hnb13 := NB176_175.out
      have hnc13 := NB175_176.out
      have hcz14 := bc3 BK176.out
      go_wp2
      go_meet
      case rel => exact ⟨_, (true), eqv_, H', ⟨by first | omega | exact Nat.le_refl _⟩, ⟨bk_⟩, ⟨bk_⟩, ⟨bk_⟩, ⟨bl_⟩⟩
    rw [if_neg c11] at H
    have c11b0 : ((wrap64 (1 + (Int.tmod (Go.bits .and .i64 a0_0 255) 7))) == 2) = false := beq_eq_false_iff_ne.mpr c11
    have c11b1 : ((wrap64 (1 + (Int.tmod (Go.bits .and .i64 a0_0 255) 7))) != 2) = true := bne_iff_ne.mpr c11
    (first | rw [c11b0] | (simp only [i64_w, i32_w]; rw [c11b0]) | skip)
    have H' := Z0.mk H
    clear H
    have hnb15 := NB176_174.out
    have hnc15 := NB174_176.out
    have hnb16 := NB176_175.out
    have hnc16 := NB175_176.out
    have hcz17 := bc3 BK176.out
    go_wp2
    go_meet
    case rel => exact ⟨_, (((wrap64 (1 + (Int.tmod (Go.bits .and .i64 a0_0 255) 7))) == 3)), eqv_, H', ⟨by first | omega | exact Nat.le_refl _⟩, ⟨bk_⟩, ⟨bk_⟩, ⟨bk_⟩, ⟨bl_⟩⟩
  clear HC2
  try clear c1
  try clear c2
  try clear p2
  try clear c5
  try clear p6
  try clear c8
  try clear c9
  try clear c11
  try clear c11b0
  try clear c11b1
  try clear c12
  try clear c13
  try clear c15
  try clear c16
  try clear hcz10
  try clear hcz14
  try clear hcz17
  try clear hcz6
  try clear hcz10
  try clear hcz14
  try clear hcz17
  try clear hcz6
  obtain ⟨kq, x21_1, rfl, HA, HJ1, BK174, BK175, BK176, HB⟩ := hcut
  cases kq with
  | zero => exact absurd HA.out (by simp [armoirelaw11_Tidy.j0])
  | succ kj1 =>
    have H := HA.out
    clear HA
    simp only [armoirelaw11_Tidy.j0] at H
    by_cases c18 : x21_1 = true
    · subst c18
      have H1 : (if (wrap64 (1 + (Int.tmod (Go.bits .and .i64 a0_0 255) 7))) = 3 then (if a0_1 < 0 then (some ((wrap64 (1 + (Int.tmod (Go.bits .and .i64 a0_0 255) 7))), wrap64 (-(wrap64 (a0_1 + 1))), ([] : List (S72)))) else (some ((wrap64 (1 + (Int.tmod (Go.bits .and .i64 a0_0 255) 7))), a0_1, ([] : List (S72))))) else (some ((wrap64 (1 + (Int.tmod (Go.bits .and .i64 a0_0 255) 7))), a0_1, ([] : List (S72))))) = some (r1, r2, r3) := by rw [if_pos rfl] at H; exact H
      clear H
      have H := H1
      clear H1
      by_cases c19 : (wrap64 (1 + (Int.tmod (Go.bits .and .i64 a0_0 255) 7))) = 3
      rotate_left
      · rw [if_neg c19] at H
        have c19b0 : ((wrap64 (1 + (Int.tmod (Go.bits .and .i64 a0_0 255) 7))) == 3) = false := beq_eq_false_iff_ne.mpr c19
        have c19b1 : ((wrap64 (1 + (Int.tmod (Go.bits .and .i64 a0_0 255) 7))) != 3) = true := bne_iff_ne.mpr c19
        simp only [Option.some.injEq, Prod.mk.injEq] at H
        obtain ⟨rfl, rfl, rfl⟩ := H
        have hnb37 := NB174_175.out
        have hnc37 := NB175_174.out
        have hnb38 := NB174_176.out
        have hnc38 := NB176_174.out
        have hcz39 := bc3 BK174.out
        have hnb40 := NB176_175.out
        have hnc40 := NB175_176.out
        have hcz41 := bc3 BK176.out
        have hcz42 := bc3 BK175.out
        go_wp2
        refine bodyPost_ret (results_cell_row rfl _ _ gb175 30 #[.int .i64 (wrap64 (1 + (Int.tmod (Go.bits .and .i64 a0_0 255) 7))), .int .i64 a0_1, .slice none 0 0] (0, 0) _ rfl bk_ Tryz.underlying30 rfl (by kernel_rfl)) rfl ?_
        exact ⟨_, er_, by first | exact Kd.R_nil _ _ _ _ _ | exact Kd.N_nil _ _ _ _ _ | exact Kd.V_nil _ _ _ _ _ | exact Kd.Q_nil _ _ _ _ _ | exact Kd.S_nil _ _ _ _ _, bl_⟩
      rw [if_pos c19] at H
      have c19b0 : ((wrap64 (1 + (Int.tmod (Go.bits .and .i64 a0_0 255) 7))) == 3) = true := beq_iff_eq.mpr c19
      have c19b1 : ((wrap64 (1 + (Int.tmod (Go.bits .and .i64 a0_0 255) 7))) != 3) = false := bne_eq_false_iff_eq.mpr c19
      clear c19
      have HS20 := Z0.mk H
      clear H
      have hnb21 := NB174_175.out
      have hnc21 := NB175_174.out
      have hnb22 := NB174_176.out
      have hnc22 := NB176_174.out
      have hcz23 := bc3 BK174.out
      have hnb24 := NB176_175.out
      have hnc24 := NB175_176.out
      have hcz25 := bc3 BK176.out
      go_upto_if 32 with (fail)
      have H := HS20.out
      clear HS20
      by_cases c26 : a0_1 < 0
      rotate_left
      · rw [if_neg c26] at H
        have c26b0 : decide (a0_1 < 0) = false := decide_eq_false c26
        clear c26
        (first | rw [c26b0] | (simp only [i64_w, i32_w]; rw [c26b0]) | skip)
        simp only [Option.some.injEq, Prod.mk.injEq] at H
        obtain ⟨rfl, rfl, rfl⟩ := H
        have hnb32 := NB176_174.out
        have hnc32 := NB174_176.out
        have hnb33 := NB176_175.out
        have hnc33 := NB175_176.out
        have hcz34 := bc3 BK176.out
        have hnb35 := NB175_174.out
        have hnc35 := NB174_175.out
        have hcz36 := bc3 BK175.out
        go_wp2
        refine bodyPost_ret (results_cell_row rfl _ _ gb175 30 #[.int .i64 (wrap64 (1 + (Int.tmod (Go.bits .and .i64 a0_0 255) 7))), .int .i64 a0_1, .slice none 0 0] (0, 0) _ rfl bk_ Tryz.underlying30 rfl (by kernel_rfl)) rfl ?_
        exact ⟨_, er_, by first | exact Kd.R_nil _ _ _ _ _ | exact Kd.N_nil _ _ _ _ _ | exact Kd.V_nil _ _ _ _ _ | exact Kd.Q_nil _ _ _ _ _ | exact Kd.S_nil _ _ _ _ _, bl_⟩
      rw [if_pos c26] at H
      have c26b0 : decide (a0_1 < 0) = true := decide_eq_true c26
      clear c26
      (first | rw [c26b0] | (simp only [i64_w, i32_w]; rw [c26b0]) | skip)
      simp only [Option.some.injEq, Prod.mk.injEq] at H
      obtain ⟨rfl, rfl, rfl⟩ := H
      have hnb27 := NB176_174.out
      have hnc27 := NB174_176.out
      have hnb28 := NB176_175.out
      have hnc28 := NB175_176.out
      have hcz29 := bc3 BK176.out
      have hnb30 := NB175_174.out
      have hnc30 := NB174_175.out
      have hcz31 := bc3 BK175.out
      go_wp2
      refine bodyPost_ret (results_cell_row rfl _ _ gb175 30 #[.int .i64 (wrap64 (1 + (Int.tmod (Go.bits .and .i64 a0_0 255) 7))), .int .i64 (wrap64 (-(wrap64 (a0_1 + 1)))), .slice none 0 0] (0, 0) _ rfl bk_ Tryz.underlying30 rfl (by kernel_rfl)) rfl ?_
      exact ⟨_, er_, by first | exact Kd.R_nil _ _ _ _ _ | exact Kd.N_nil _ _ _ _ _ | exact Kd.V_nil _ _ _ _ _ | exact Kd.Q_nil _ _ _ _ _ | exact Kd.S_nil _ _ _ _ _, bl_⟩
    replace c18 := Bool.eq_false_iff.mpr c18
    subst c18
    have H1 : (if (wrap64 (1 + (Int.tmod (Go.bits .and .i64 a0_0 255) 7))) = 1 then (armoirelaw11_Tidy.j1 kj1 1 a0_0 a0_1 l0_2 (wrap64 (1 + (Int.tmod (Go.bits .and .i64 a0_0 255) 7))) 0) else (armoirelaw11_Tidy.j1 kj1 8 a0_0 a0_1 l0_2 (wrap64 (1 + (Int.tmod (Go.bits .and .i64 a0_0 255) 7))) 0)) = some (r1, r2, r3) := by rw [if_neg (show ¬ (false = true) by decide)] at H; exact H
    clear H
    have H := H1
    clear H1
    have HC43 := Z0.mk H
    clear H
    have hnb44 := NB176_174.out
    have hnc44 := NB174_176.out
    have hnb45 := NB176_175.out
    have hnc45 := NB175_176.out
    have hcz46 := bc3 BK176.out
    go_upto_if 41 with (fail)
    go_cut [4] (fun v4 wc => ∃ (kq : Nat) (x4_42 : Int), v4 = .int .i64 x4_42 ∧ Z0 (armoirelaw11_Tidy.j1 kq x4_42 a0_0 a0_1 l0_2 (wrap64 (1 + (Int.tmod (Go.bits .and .i64 a0_0 255) 7))) 0 = some (r1, r2, r3)) ∧ Z0 (kq ≤ kj1) ∧ Z0 (wc.heap[gb174]? = some (.cells #[.int .i64 a0_0, .int .i64 a0_1, (.slice A0_2 l0_2.length c0_2)] 24 (0, 0))) ∧ Z0 (wc.heap[gb175]? = some (.cells #[.int .i64 0, .int .i64 0, (.slice none 0 0)] 30 (0, 0))) ∧ Z0 (wc.heap[gb176]? = some (.cells #[.int .i64 (wrap64 (1 + (Int.tmod (Go.bits .and .i64 a0_0 255) 7))), .int .i64 0, (.slice none 0 0)] 30 (0, 0))) ∧ Z0 (Below w.heap.size w wc))
    case first =>
      have H := HC43.out
      clear HC43
      by_cases c47 : (wrap64 (1 + (Int.tmod (Go.bits .and .i64 a0_0 255) 7))) = 1
      rotate_left
      · rw [if_neg c47] at H
        have c47b0 : ((wrap64 (1 + (Int.tmod (Go.bits .and .i64 a0_0 255) 7))) == 1) = false := beq_eq_false_iff_ne.mpr c47
        have c47b1 : ((wrap64 (1 + (Int.tmod (Go.bits .and .i64 a0_0 255) 7))) != 1) = true := bne_iff_ne.mpr c47
        (first | rw [c47b0] | (simp only [i64_w, i32_w]; rw [c47b0]) | skip)
        have H' := Z0.mk H
        clear H
        go_wp2
        go_meet
        case rel => exact ⟨_, (8), eqv_, H', ⟨by have := HJ1.out; first | omega | exact Nat.le_refl _⟩, ⟨bk_⟩, ⟨bk_⟩, ⟨bk_⟩, ⟨bl_⟩⟩
      rw [if_pos c47] at H
      have c47b0 : ((wrap64 (1 + (Int.tmod (Go.bits .and .i64 a0_0 255) 7))) == 1) = true := beq_iff_eq.mpr c47
      have c47b1 : ((wrap64 (1 + (Int.tmod (Go.bits .and .i64 a0_0 255) 7))) != 1) = false := bne_eq_false_iff_eq.mpr c47
      clear c47
      (first | rw [c47b0] | (simp only [i64_w, i32_w]; rw [c47b0]) | skip)
      have H' := Z0.mk H
      clear H
      go_wp2
      go_meet
      case rel => exact ⟨_, (1), eqv_, H', ⟨by have := HJ1.out; first | omega | exact Nat.le_refl _⟩, ⟨bk_⟩, ⟨bk_⟩, ⟨bk_⟩, ⟨bl_⟩⟩
    clear HC43
    try clear c1
    try clear c2
    try clear p2
    try clear c3
    try clear c4
    try clear c5
    try clear p6
    try clear c8
    try clear c9
    try clear c11
    try clear c11b0
    try clear c11b1
    try clear c12
    try clear c13
    try clear c15
    try clear c16
    try clear c18
    try clear c19
    try clear c19b0
    try clear c19b1
    try clear c21
    try clear c22
    try clear c24
    try clear c26
    try clear c26b0
    try clear c27
    try clear c28
    try clear c30
    try clear c32
    try clear c33
    try clear c35
    try clear c37
    try clear c38
    try clear c40
    try clear c44
    try clear c45
    try clear c47
    try clear c47b0
    try clear c47b1
    try clear hcz10
    try clear hcz14
    try clear hcz17
    try clear hcz23
    try clear hcz25
    try clear hcz29
    try clear hcz31
    try clear hcz34
    try clear hcz36
    try clear hcz39
    try clear hcz41
    try clear hcz42
    try clear hcz46
    try clear hcz6
    try clear hcz10
    try clear hcz14
    try clear hcz17
    try clear hcz23
    try clear hcz25
    try clear hcz29
    try clear hcz31
    try clear hcz34
    try clear hcz36
    try clear hcz39
    try clear hcz41
    try clear hcz42
    try clear hcz46
    try clear hcz6
    try clear p2
    try clear p6
    obtain ⟨kq, x4_42, rfl, HA, HJ42, BK174, BK175, BK176, HB⟩ := hcut
    cases kq with
    | zero => exact absurd HA.out (by simp [armoirelaw11_Tidy.j1])
    | succ kj42 =>
      have H := HA.out
      clear HA
      simp only [armoirelaw11_Tidy.j1] at H
      have H' := Z0.mk H
      clear H
      go_wp2
      go_loopg [5] kj42 (fun kq v5 w' => ∃ (x5_3 : Int) (x177000_3 : Int) (x177001_3 : Int) (x177002_3 : List (S72)) (u177002 : Value), v5 = .int .i64 x5_3 ∧ Z0 (armoirelaw11_Tidy.l0 kq x4_42 x5_3 a0_0 a0_1 l0_2 x177000_3 x177001_3 x177002_3 = some (r1, r2, r3)) ∧ Z0 (kq ≤ kj42) ∧ Z0 (Kd.R k72 72 w' w.heap.size (fun _ => True) u177002 x177002_3) ∧ Z0 (w'.heap[gb174]? = some (.cells #[.int .i64 a0_0, .int .i64 a0_1, (.slice A0_2 l0_2.length c0_2)] 24 (0, 0))) ∧ Z0 (w'.heap[gb175]? = some (.cells #[.int .i64 0, .int .i64 0, (.slice none 0 0)] 30 (0, 0))) ∧ Z0 (w'.heap[gb176]? = some (.cells #[.int .i64 x177000_3, .int .i64 x177001_3, u177002] 30 (0, 0))) ∧ Z0 (Below w.heap.size w w'))
      case atStart => exact ⟨(0), ((wrap64 (1 + (Int.tmod (Go.bits .and .i64 a0_0 255) 7)))), (0), (([] : List (S72))), (.slice none 0 0), eqv_, H', ⟨Nat.le_refl _⟩, ⟨by first | exact Kd.R_nil _ _ _ _ _ | exact Kd.N_nil _ _ _ _ _ | exact Kd.V_nil _ _ _ _ _ | exact Kd.Q_nil _ _ _ _ _ | exact Kd.S_nil _ _ _ _ _⟩, ⟨bk_⟩, ⟨bk_⟩, ⟨bk_⟩, ⟨bl_⟩⟩
      clear H'
      try clear c1
      try clear c2
      try clear p2
      try clear c3
      try clear c4
      try clear c5
      try clear p6
      try clear c8
      try clear c9
      try clear c11
      try clear c11b0
      try clear c11b1
      try clear c12
      try clear c13
      try clear c15
      try clear c16
      try clear c18
      try clear c19
      try clear c19b0
      try clear c19b1
      try clear c21
      try clear c22
      try clear c24
      try clear c26
      try clear c26b0
      try clear c27
      try clear c28
      try clear c30
      try clear c32
      try clear c33
      try clear c35
      try clear c37
      try clear c38
      try clear c40
      try clear c44
      try clear c45
      try clear c47
      try clear c47b0
      try clear c47b1
      try clear hcz10
      try clear hcz14
      try clear hcz17
      try clear hcz23
      try clear hcz25
      try clear hcz29
      try clear hcz31
      try clear hcz34
      try clear hcz36
      try clear hcz39
      try clear hcz41
      try clear hcz42
      try clear hcz46
      try clear hcz6
      try clear hcz10
      try clear hcz14
      try clear hcz17
      try clear hcz23
      try clear hcz25
      try clear hcz29
      try clear hcz31
      try clear hcz34
      try clear hcz36
      try clear hcz39
      try clear hcz41
      try clear hcz42
      try clear hcz46
      try clear hcz6
      try clear p2
      try clear p6
      obtain ⟨x5_3, x177000_3, x177001_3, x177002_3, u177002, rfl, HA, HK3, HO_177002, BK174, BK175, BK176, HB⟩ := hrel
      cases gk with
      | zero => exact absurd HA.out (by simp [armoirelaw11_Tidy.l0])
      | succ k3 =>
        have H := HA.out
        clear HA
        simp only [armoirelaw11_Tidy.l0] at H
        have HC48 := Z0.mk H
        clear H
        go_upto_region 11 with (fail)
        go_cut [57] (fun v57 wc => ∃ (kq : Nat) (x57_47 : Bool), v57 = .bool x57_47 ∧ Z0 (armoirelaw11_Tidy.j3 kq x4_42 x5_3 x57_47 a0_0 a0_1 l0_2 x177000_3 x177001_3 x177002_3 = some (r1, r2, r3)) ∧ Z0 (kq ≤ k3) ∧ Z0 (Kd.R k72 72 wc w.heap.size (fun _ => True) u177002 x177002_3) ∧ Z0 (wc.heap[gb174]? = some (.cells #[.int .i64 a0_0, .int .i64 a0_1, (.slice A0_2 l0_2.length c0_2)] 24 (0, 0))) ∧ Z0 (wc.heap[gb175]? = some (.cells #[.int .i64 0, .int .i64 0, (.slice none 0 0)] 30 (0, 0))) ∧ Z0 (wc.heap[gb176]? = some (.cells #[.int .i64 x177000_3, .int .i64 x177001_3, u177002] 30 (0, 0))) ∧ Z0 (Below w.heap.size w wc))
        case first =>
          have H := HC48.out
          clear HC48
          by_cases c49 : x5_3 < (l0_2.length : Int)
          rotate_left
          · rw [if_neg c49] at H
            have c49b0 : decide (x5_3 < (l0_2.length : Int)) = false := decide_eq_false c49
            clear c49
            (first | rw [c49b0] | (simp only [i64_w, i32_w]; rw [c49b0]) | skip)
            have H' := Z0.mk H
            clear H
            have hnb63 := NB174_175.out
            have hnc63 := NB175_174.out
            have hnb64 := NB174_176.out
            have hnc64 := NB176_174.out
            have hcz65 := bc3 BK174.out
            go_wp2
            go_meet
            case rel => exact ⟨_, (false), eqv_, H', ⟨by have := HJ1.out; have := HJ42.out; have := HK3.out; first | omega | exact Nat.le_refl _⟩, ⟨by (with_reducible repeat (first | apply Kd.R_alloc | apply Kd.R_drewN | apply Kd.R_drew)); exact HO_177002.out⟩, ⟨bk_⟩, ⟨bk_⟩, ⟨bk_⟩, ⟨bl_⟩⟩
          rw [if_pos c49] at H
          have c49b0 : decide (x5_3 < (l0_2.length : Int)) = true := decide_eq_true c49
          clear c49
          (first | rw [c49b0] | (simp only [i64_w, i32_w]; rw [c49b0]) | skip)
          by_cases c50 : (x177002_3.length : Int) < x4_42
          rotate_left
          · rw [if_neg c50] at H
            have c50b0 : decide ((x177002_3.length : Int) < x4_42) = false := decide_eq_false c50
            clear c50
            have H' := Z0.mk H
            clear H
            have hnb57 := NB174_175.out
            have hnc57 := NB175_174.out
            have hnb58 := NB174_176.out
            have hnc58 := NB176_174.out
            have hcz59 := bc3 BK174.out
            have hnb60 := NB176_175.out
            have hnc60 := NB175_176.out
            have hcz61 := bc3 BK176.out
            obtain ⟨Ao62, co62, eo62⟩ := Kd.R_slice HO_177002.out
            subst eo62
            go_wp2
            go_meet
            case rel => exact ⟨_, (false), eqv_, H', ⟨by have := HJ1.out; have := HJ42.out; have := HK3.out; first | omega | exact Nat.le_refl _⟩, ⟨by (with_reducible repeat (first | apply Kd.R_alloc | apply Kd.R_drewN | apply Kd.R_drew)); exact HO_177002.out⟩, ⟨bk_⟩, ⟨bk_⟩, ⟨bk_⟩, ⟨bl_⟩⟩
          rw [if_pos c50] at H
          have c50b0 : decide ((x177002_3.length : Int) < x4_42) = true := decide_eq_true c50
          clear c50
          have H' := Z0.mk H
          clear H
          have hnb51 := NB174_175.out
          have hnc51 := NB175_174.out
          have hnb52 := NB174_176.out
          have hnc52 := NB176_174.out
          have hcz53 := bc3 BK174.out
          have hnb54 := NB176_175.out
          have hnc54 := NB175_176.out
          have hcz55 := bc3 BK176.out
          obtain ⟨Ao56, co56, eo56⟩ := Kd.R_slice HO_177002.out
          subst eo56
          go_wp2
          go_meet
          case rel => exact ⟨_, (decide (x5_3 < 20)), eqv_, H', ⟨by have := HJ1.out; have := HJ42.out; have := HK3.out; first | omega | exact Nat.le_refl _⟩, ⟨by (with_reducible repeat (first | apply Kd.R_alloc | apply Kd.R_drewN | apply Kd.R_drew)); exact HO_177002.out⟩, ⟨bk_⟩, ⟨bk_⟩, ⟨bk_⟩, ⟨bl_⟩⟩
        clear HC48
        try clear c1
        try clear c2
        try clear p2
        try clear c3
        try clear c4
        try clear c5
        try clear c6
        try clear p6
        try clear c8
        try clear c9
        try clear c11
        try clear c11b0
        try clear c11b1
        try clear c12
        try clear c13
        try clear c15
        try clear c16
        try clear c18
        try clear c19
        try clear c19b0
        try clear c19b1
        try clear c21
        try clear c22
        try clear c24
        try clear c26
        try clear c26b0
        try clear c27
        try clear c28
        try clear c30
        try clear c32
        try clear c33
        try clear c35
        try clear c37
        try clear c38
        try clear c40
        try clear c44
        try clear c45
        try clear c47
        try clear c47b0
        try clear c47b1
        try clear c49
        try clear c49b0
        try clear c50
        try clear c50b0
        try clear c51
        try clear c52
        try clear c54
        try clear c57
        try clear c58
        try clear c60
        try clear c63
        try clear c64
        try clear p64
        try clear hcz10
        try clear hcz14
        try clear hcz17
        try clear hcz23
        try clear hcz25
        try clear hcz29
        try clear hcz31
        try clear hcz34
        try clear hcz36
        try clear hcz39
        try clear hcz41
        try clear hcz42
        try clear hcz46
        try clear hcz53
        try clear hcz55
        try clear hcz59
        try clear hcz61
        try clear hcz65
        try clear hcz6
        try clear hcz10
        try clear hcz14
        try clear hcz17
        try clear hcz23
        try clear hcz25
        try clear hcz29
        try clear hcz31
        try clear hcz34
        try clear hcz36
        try clear hcz39
        try clear hcz41
        try clear hcz42
        try clear hcz46
        try clear hcz53
        try clear hcz55
        try clear hcz59
        try clear hcz61
        try clear hcz65
        try clear hcz6
        try clear p2
        try clear p6
        obtain ⟨kq, x57_47, rfl, HA, HJ47, HO_177002, BK174, BK175, BK176, HB⟩ := hcut
        cases kq with
        | zero => exact absurd HA.out (by simp [armoirelaw11_Tidy.j3])
        | succ kj47 =>
          have H := HA.out
          clear HA
          simp only [armoirelaw11_Tidy.j3] at H
          by_cases c66 : x57_47 = true
          rotate_left
          · replace c66 := Bool.eq_false_iff.mpr c66
            subst c66
            have H1 : (some (x177000_3, x177001_3, x177002_3)) = some (r1, r2, r3) := by rw [if_neg (show ¬ (false = true) by decide)] at H; exact H
            clear H
            have H := H1
            clear H1
            simp only [Option.some.injEq, Prod.mk.injEq] at H
            obtain ⟨rfl, rfl, rfl⟩ := H
            have hnb121 := NB176_174.out
            have hnc121 := NB174_176.out
            have hnb122 := NB176_175.out
            have hnc122 := NB175_176.out
            have hcz123 := bc3 BK176.out
            have hnb124 := NB175_174.out
            have hnc124 := NB174_175.out
            have hcz125 := bc3 BK175.out
            obtain ⟨Ao126, co126, eo126⟩ := Kd.R_slice HO_177002.out
            subst eo126
            go_wp2
            refine bodyPost_ret (results_cell_row rfl _ _ gb175 30 #[.int .i64 x177000_3, .int .i64 x177001_3, .slice Ao126 x177002_3.length co126] (0, 0) _ rfl bk_ Tryz.underlying30 rfl (by kernel_rfl)) rfl ?_
            exact ⟨_, er_, by (with_reducible repeat (first | apply Kd.R_alloc | apply Kd.R_drewN | apply Kd.R_drew)); exact Kd.R_mono (Kd.R_far (p := ⟨gb175, 2, none⟩) (Kd.R_far (p := ⟨gb175, 1, none⟩) (Kd.R_far (p := ⟨gb175, 0, none⟩) (Kd.R_types HO_177002.out BK175.out (by decide)) (fun _ hk => hk.2) (.int .i64 x177000_3)) (fun _ hk => hk.2) (.int .i64 x177001_3)) (fun _ hk => hk.2) (.slice Ao126 x177002_3.length co126)) (fun _ hk => trivial), bl_⟩
          subst c66
          have H1 : (if 0 ≤ x5_3 then (if x5_3 < (l0_2.length : Int) then ((armoirelaw01_Cut.f ((rd_T73 l0_2 x5_3).f0) 24).bind fun t178 => (if x177000_3 = 5 then ((armoirelaw01_Cut.f ((rd_T73 l0_2 x5_3).f1) 24).bind fun t181 => (armoirelaw11_Tidy.j4 kj47 x4_42 x5_3 a0_0 a0_1 l0_2 x177000_3 x177001_3 x177002_3 t178 t181)) else (armoirelaw11_Tidy.j4 kj47 x4_42 x5_3 a0_0 a0_1 l0_2 x177000_3 x177001_3 x177002_3 t178 (⟨#[]⟩ : ByteArray)))) else (none)) else (none)) = some (r1, r2, r3) := by rw [if_pos rfl] at H; exact H
          clear H
          have H := H1
          clear H1
          by_cases c67 : 0 ≤ x5_3
          rotate_left
          · rw [if_neg c67] at H
            exact absurd H (by simp)
          rw [if_pos c67] at H
          have c67b0 : decide (0 ≤ x5_3) = true := decide_eq_true c67
          clear c67
          by_cases c68 : x5_3 < (l0_2.length : Int)
          rotate_left
          · rw [if_neg c68] at H
            exact absurd H (by simp)
          rw [if_pos c68] at H
          have c68b0 : decide (x5_3 < (l0_2.length : Int)) = true := decide_eq_true c68
          clear c68
          replace H := Option.bind_eq_some_iff.mp H
          obtain ⟨t178, A690, H⟩ := H
          replace H : (if x177000_3 = 5 then ((armoirelaw01_Cut.f ((rd_T73 l0_2 x5_3).f1) 24).bind fun t181 => (armoirelaw11_Tidy.j4 kj47 x4_42 x5_3 a0_0 a0_1 l0_2 x177000_3 x177001_3 x177002_3 t178 t181)) else (armoirelaw11_Tidy.j4 kj47 x4_42 x5_3 a0_0 a0_1 l0_2 x177000_3 x177001_3 x177002_3 t178 (⟨#[]⟩ : ByteArray))) = some (r1, r2, r3) := H
          have A69 := Z0.mk A690
          clear A690
          have HC70 := Z0.mk H
          clear H
          have hnb71 := NB174_175.out
          have hnc71 := NB175_174.out
          have hnb72 := NB174_176.out
          have hnc72 := NB176_174.out
          have hcz73 := bc3 BK174.out
          have p177 : 0 ≤ (x5_3 : Int) := of_decide_eq_true (by first | (with_reducible assumption) | assumption)
          have q177 : x5_3 < (l0_2.length : Int) := of_decide_eq_true (by first | (with_reducible assumption) | assumption)
          obtain ⟨ad177, e177, hx177_0, hx177_1⟩ := at_T73 HR0_2.out x5_3 p177 q177
          cases e177
          replace hx177_0 := (HB.out.cell (World.block_lt_of_cell? w _ hx177_0)).trans hx177_0
          replace hx177_1 := (HB.out.cell (World.block_lt_of_cell? w _ hx177_1)).trans hx177_1
          replace p177 := eq_true p177
          replace q177 := eq_true q177
          go_upto_if 70 with (first | ((with_reducible refine gcl (f := 46) rfl ?_); refine gl_ (some 66) rfl rfl Tryz.func46 (by kernel_rfl) rfl #[.string ((rd_T73 l0_2 x5_3).f0), .int .i64 24] rfl ar_ ?_; (with_reducible refine (armoirelaw01_Cut.calls ((rd_T73 l0_2 x5_3).f0) 24 t178 _ A69.out).mono ?_); rintro e w' ⟨rfl, ⟨nd, rfl⟩⟩; refine ⟨_, rfl, ?_⟩; (try (rw [dns wc]; generalize hq_ : World.drewN wc _ = wc; have n0_ : Z0 (Kd.R k72 72 wc w.heap.size (fun _ => True) u177002 x177002_3) := ⟨by rw [← hq_]; exact (by (with_reducible repeat (first | apply Kd.R_alloc | apply Kd.R_drewN | apply Kd.R_drew)); exact HO_177002.out)⟩; have n1_ : Z0 (wc.heap[gb174]? = some (.cells #[.int .i64 a0_0, .int .i64 a0_1, .slice (some ad177) l0_2.length c0_2] 24 (0, 0))) := ⟨by rw [← hq_]; exact bk_⟩; have n2_ : Z0 (wc.heap[gb175]? = some (.cells #[.int .i64 0, .int .i64 0, .slice none 0 0] 30 (0, 0))) := ⟨by rw [← hq_]; exact bk_⟩; have n3_ : Z0 (wc.heap[gb176]? = some (.cells #[.int .i64 x177000_3, .int .i64 x177001_3, u177002] 30 (0, 0))) := ⟨by rw [← hq_]; exact bk_⟩; have n4_ : Z0 (Below w.heap.size w wc) := ⟨by rw [← hq_]; exact bl_⟩; clear HO_177002 BK174 BK175 BK176 HB hq_; have HO_177002 := n0_; have BK174 := n1_; have BK175 := n2_; have BK176 := n3_; have HB := n4_; clear n0_ n1_ n2_ n3_ n4_)); have hcz74 := bc3 BK174.out) | ((with_reducible refine gds (N := 6) rfl ?_); (try (refine gate_guard (by rfl) ?_; dsimp only)); refine bx_ (N := 6) (cs := #[.string (⟨#[]⟩ : ByteArray), .string (⟨#[]⟩ : ByteArray)]) (t := 72) ?_; intro gb179 hg w75 hbox hb; have n0_ := Z0.mk (Kd.R_below (Kd.R_elderB (by (with_reducible repeat (first | apply Kd.R_alloc | apply Kd.R_drewN | apply Kd.R_drew)); exact HO_177002.out) gb179 (Nat.le_of_eq hg.symm)) hb); have n1_ := Z0.mk (kbl (g := gb174) (o := .cells #[.int .i64 a0_0, .int .i64 a0_1, .slice (some ad177) l0_2.length c0_2] 24 (0, 0)) bk_ hb); have n2_ := Z0.mk (kbl (g := gb175) (o := .cells #[.int .i64 0, .int .i64 0, .slice none 0 0] 30 (0, 0)) bk_ hb); have n3_ := Z0.mk (kbl (g := gb176) (o := .cells #[.int .i64 x177000_3, .int .i64 x177001_3, u177002] 30 (0, 0)) bk_ hb); have n4_ := Z0.mk (bsp bl_ hb); have n5_ := Z0.mk (hbox); have n6_ := Z0.mk ((by rw [hg]; exact bsz bl_ : w.heap.size ≤ gb179)); have n7_ := Z0.mk ((by rw [hg]; exact bsz bl_ : w.heap.size ≤ gb179)); have n8_ := Z0.mk ((by rw [hg]; exact Nat.ne_of_lt (klt_ (g := gb174) (o := .cells #[.int .i64 a0_0, .int .i64 a0_1, .slice (some ad177) l0_2.length c0_2] 24 (0, 0)) bk_) : gb174 ≠ gb179)); have n9_ := Z0.mk ((by rw [hg]; exact Nat.ne_of_gt (klt_ (g := gb174) (o := .cells #[.int .i64 a0_0, .int .i64 a0_1, .slice (some ad177) l0_2.length c0_2] 24 (0, 0)) bk_) : gb179 ≠ gb174)); have n10_ := Z0.mk ((by rw [hg]; exact Nat.ne_of_lt (klt_ (g := gb175) (o := .cells #[.int .i64 0, .int .i64 0, .slice none 0 0] 30 (0, 0)) bk_) : gb175 ≠ gb179)); have n11_ := Z0.mk ((by rw [hg]; exact Nat.ne_of_gt (klt_ (g := gb175) (o := .cells #[.int .i64 0, .int .i64 0, .slice none 0 0] 30 (0, 0)) bk_) : gb179 ≠ gb175)); have n12_ := Z0.mk ((by rw [hg]; exact Nat.ne_of_lt (klt_ (g := gb176) (o := .cells #[.int .i64 x177000_3, .int .i64 x177001_3, u177002] 30 (0, 0)) bk_) : gb176 ≠ gb179)); have n13_ := Z0.mk ((by rw [hg]; exact Nat.ne_of_gt (klt_ (g := gb176) (o := .cells #[.int .i64 x177000_3, .int .i64 x177001_3, u177002] 30 (0, 0)) bk_) : gb179 ≠ gb176)); clear HO_177002; clear BK174; clear BK175; clear BK176; clear HB; have HO_177002 := n0_; have BK174 := n1_; have BK175 := n2_; have BK176 := n3_; have HB := n4_; have BK179 := n5_; have GW179 := n6_; have GE179 := n7_; have NB174_179 := n8_; have NB179_174 := n9_; have NB175_179 := n10_; have NB179_175 := n11_; have NB176_179 := n12_; have NB179_176 := n13_; clear n0_ n1_ n2_ n3_ n4_ n5_ n6_ n7_ n8_ n9_ n10_ n11_ n12_ n13_; clear hb hbox hg; have hnb76 := NB179_174.out; have hnc76 := NB174_179.out; have hnb77 := NB179_175.out; have hnc77 := NB175_179.out; have hnb78 := NB179_176.out; have hnc78 := NB176_179.out; have hcz79 := bc2 BK179.out; have hnb80 := NB176_175.out; have hnc80 := NB175_176.out; have hcz81 := bc3 BK176.out))
          (try simp only [Act.put, List.setIfInBounds_toArray, List.set_cons_zero, List.set_cons_succ])
          go_cut [] (fun wc => ∃ (kq : Nat) (x180001_69 : ByteArray), Z0 (armoirelaw11_Tidy.j4 kq x4_42 x5_3 a0_0 a0_1 l0_2 x177000_3 x177001_3 x177002_3 t178 x180001_69 = some (r1, r2, r3)) ∧ Z0 (kq ≤ kj47) ∧ Z0 (Kd.R k72 72 wc w.heap.size (fun k_ => k_ ≠ gb179) u177002 x177002_3) ∧ Z0 (wc.heap[gb174]? = some (.cells #[.int .i64 a0_0, .int .i64 a0_1, (.slice (some ad177) l0_2.length c0_2)] 24 (0, 0))) ∧ Z0 (wc.heap[gb175]? = some (.cells #[.int .i64 0, .int .i64 0, (.slice none 0 0)] 30 (0, 0))) ∧ Z0 (wc.heap[gb176]? = some (.cells #[.int .i64 x177000_3, .int .i64 x177001_3, u177002] 30 (0, 0))) ∧ Z0 (wc.heap[gb179]? = some (.cells #[.string t178, .string x180001_69] 72 (0, 0))) ∧ Z0 (Below w.heap.size w wc))
          case first =>
            have H := HC70.out
            clear HC70
            by_cases c82 : x177000_3 = 5
            rotate_left
            · rw [if_neg c82] at H
              have c82b0 : (x177000_3 == 5) = false := beq_eq_false_iff_ne.mpr c82
              have c82b1 : (x177000_3 != 5) = true := bne_iff_ne.mpr c82
              (first | rw [c82b0] | (simp only [i64_w, i32_w]; rw [c82b0]) | skip)
              have H' := Z0.mk H
              clear H
              go_wp2
              go_meet
              case rel => exact ⟨_, ((⟨#[]⟩ : ByteArray)), H', ⟨by have := HJ1.out; have := HJ42.out; have := HK3.out; have := HJ47.out; first | omega | exact Nat.le_refl _⟩, ⟨by (with_reducible repeat (first | apply Kd.R_alloc | apply Kd.R_drewN | apply Kd.R_drew)); exact Kd.R_mono (Kd.R_far (p := ⟨gb179, 1, none⟩) (Kd.R_far (p := ⟨gb179, 0, none⟩) (Kd.R_mono HO_177002.out (fun k_ hk => (⟨hk, hk.2⟩ : _ ∧ k_ ≠ gb179))) (fun _ hk => hk.2) (.string t178)) (fun _ hk => hk.2) (.string (⟨#[]⟩ : ByteArray))) (fun _ hk => hk.1.2)⟩, ⟨bk_⟩, ⟨bk_⟩, ⟨bk_⟩, ⟨bk_⟩, ⟨bl_⟩⟩
            rw [if_pos c82] at H
            have c82b0 : (x177000_3 == 5) = true := beq_iff_eq.mpr c82
            have c82b1 : (x177000_3 != 5) = false := bne_eq_false_iff_eq.mpr c82
            clear c82
            (first | rw [c82b0] | (simp only [i64_w, i32_w]; rw [c82b0]) | skip)
            replace H := Option.bind_eq_some_iff.mp H
            obtain ⟨t181, A830, H⟩ := H
            replace H : (armoirelaw11_Tidy.j4 kj47 x4_42 x5_3 a0_0 a0_1 l0_2 x177000_3 x177001_3 x177002_3 t178 t181) = some (r1, r2, r3) := H
            have A83 := Z0.mk A830
            clear A830
            have H' := Z0.mk H
            clear H
            have hnb84 := NB174_175.out
            have hnc84 := NB175_174.out
            have hnb85 := NB174_176.out
            have hnc85 := NB176_174.out
            have hnb86 := NB174_179.out
            have hnc86 := NB179_174.out
            have hcz87 := bc3 BK174.out
            have p180 : 0 ≤ (x5_3 : Int) := of_decide_eq_true (by first | (with_reducible assumption) | assumption)
            have q180 : x5_3 < (l0_2.length : Int) := of_decide_eq_true (by first | (with_reducible assumption) | assumption)
            obtain ⟨ad180, e180, hx180_0, hx180_1⟩ := at_T73 HR0_2.out x5_3 p180 q180
            obtain rfl : ad177 = ad180 := (by injection e180)
            have hn180_0 : ad177.block ≠ gb179 := Nat.ne_of_lt (Nat.lt_of_lt_of_le (by have := World.block_lt_of_cell? _ _ hx180_0; first | rwa [adb_] at this | exact this) GW179.out)
            have hn180_1 : ad177.block ≠ gb179 := Nat.ne_of_lt (Nat.lt_of_lt_of_le (by have := World.block_lt_of_cell? _ _ hx180_0; first | rwa [adb_] at this | exact this) GW179.out)
            replace hx180_0 := (HB.out.cell (World.block_lt_of_cell? w _ hx180_0)).trans hx180_0
            replace hx180_1 := (HB.out.cell (World.block_lt_of_cell? w _ hx180_1)).trans hx180_1
            replace hx180_0 := (cell_far (p := ⟨gb179, 0, none⟩) (by first | (rw [adb_]; exact hn180_0) | (show (Addr.add _ _).block ≠ _; rw [adb_]; exact hn180_0) | exact hn180_0) (.string t178)).trans hx180_0
            replace hx180_1 := (cell_far (p := ⟨gb179, 0, none⟩) (by first | (rw [adb_]; exact hn180_0) | (show (Addr.add _ _).block ≠ _; rw [adb_]; exact hn180_0) | exact hn180_0) (.string t178)).trans hx180_1
            replace hx180_0 := (cell_far (p := ⟨gb179, 1, none⟩) (by first | (rw [adb_]; exact hn180_1) | (show (Addr.add _ _).block ≠ _; rw [adb_]; exact hn180_1) | exact hn180_1) (.string (⟨#[]⟩ : ByteArray))).trans hx180_0
            replace hx180_1 := (cell_far (p := ⟨gb179, 1, none⟩) (by first | (rw [adb_]; exact hn180_1) | (show (Addr.add _ _).block ≠ _; rw [adb_]; exact hn180_1) | exact hn180_1) (.string (⟨#[]⟩ : ByteArray))).trans hx180_1
            clear hn180_0
            clear hn180_1
            replace p180 := eq_true p180
            replace q180 := eq_true q180
            go_wp2_with (first | ((with_reducible refine gcl (f := 46) rfl ?_); refine gl_ (some 77) rfl rfl Tryz.func46 (by kernel_rfl) rfl #[.string ((rd_T73 l0_2 x5_3).f1), .int .i64 24] rfl ar_ ?_; (with_reducible refine (armoirelaw01_Cut.calls ((rd_T73 l0_2 x5_3).f1) 24 t181 _ A83.out).mono ?_); rintro e w' ⟨rfl, ⟨nd, rfl⟩⟩; refine ⟨_, rfl, ?_⟩; have hnb88 := NB179_175.out; have hnc88 := NB175_179.out; have hnb89 := NB179_176.out; have hnc89 := NB176_179.out; have hcz90 := bc2 BK179.out))
            go_meet
            case rel => exact ⟨_, (t181), H', ⟨by have := HJ1.out; have := HJ42.out; have := HK3.out; have := HJ47.out; first | omega | exact Nat.le_refl _⟩, ⟨by (with_reducible repeat (first | apply Kd.R_alloc | apply Kd.R_drewN | apply Kd.R_drew)); exact Kd.R_mono (Kd.R_far (p := ⟨gb179, 1, none⟩) (Kd.R_far (p := ⟨gb179, 1, none⟩) (Kd.R_far (p := ⟨gb179, 0, none⟩) (Kd.R_mono HO_177002.out (fun k_ hk => (⟨hk, hk.2⟩ : _ ∧ k_ ≠ gb179))) (fun _ hk => hk.2) (.string t178)) (fun _ hk => hk.2) (.string (⟨#[]⟩ : ByteArray))) (fun _ hk => hk.2) (.string t181)) (fun _ hk => hk.1.2)⟩, ⟨bk_⟩, ⟨bk_⟩, ⟨bk_⟩, ⟨bk_⟩, ⟨bl_⟩⟩
          clear HC70
          try clear c1
          try clear p1
          try clear q1
          try clear hx1
          try clear c2
          try clear p2
          try clear c3
          try clear c4
          try clear c5
          try clear c6
          try clear p6
          try clear c7
          try clear c8
          try clear c9
          try clear c11
          try clear c11b0
          try clear c11b1
          try clear c12
          try clear c13
          try clear c15
          try clear c16
          try clear p17
          try clear q17
          try clear hx17
          try clear c18
          try clear p18
          try clear q18
          try clear hx18
          try clear c19
          try clear c19b0
          try clear c19b1
          try clear c21
          try clear c22
          try clear c24
          try clear c26
          try clear c26b0
          try clear c27
          try clear c28
          try clear c30
          try clear c32
          try clear c33
          try clear c35
          try clear c37
          try clear c38
          try clear c40
          try clear c44
          try clear c45
          try clear c46
          try clear c47
          try clear c47b0
          try clear c47b1
          try clear c49
          try clear c49b0
          try clear c50
          try clear c50b0
          try clear c51
          try clear c52
          try clear c54
          try clear c57
          try clear c58
          try clear c60
          try clear c63
          try clear c64
          try clear p64
          try clear c66
          try clear c67
          try clear c67b0
          try clear c68
          try clear c68b0
          try clear c71
          try clear c72
          try clear c76
          try clear c77
          try clear c78
          try clear c80
          try clear c82
          try clear c82b0
          try clear c82b1
          try clear c84
          try clear c85
          try clear c86
          try clear c88
          try clear c89
          try clear hcz10
          try clear hcz14
          try clear hcz17
          try clear hcz23
          try clear hcz25
          try clear hcz29
          try clear hcz31
          try clear hcz34
          try clear hcz36
          try clear hcz39
          try clear hcz41
          try clear hcz42
          try clear hcz46
          try clear hcz53
          try clear hcz55
          try clear hcz59
          try clear hcz61
          try clear hcz65
          try clear hcz6
          try clear hcz73
          try clear hcz74
          try clear hcz79
          try clear hcz81
          try clear hcz87
          try clear hcz90
          try clear hcz10
          try clear hcz14
          try clear hcz17
          try clear hcz23
          try clear hcz25
          try clear hcz29
          try clear hcz31
          try clear hcz34
          try clear hcz36
          try clear hcz39
          try clear hcz41
          try clear hcz42
          try clear hcz46
          try clear hcz53
          try clear hcz55
          try clear hcz59
          try clear hcz61
          try clear hcz65
          try clear hcz6
          try clear hcz73
          try clear hcz74
          try clear hcz79
          try clear hcz81
          try clear hcz87
          try clear hcz90
          try clear hx177_0
          try clear hx177_1
          try clear hx180_0
          try clear hx180_1
          try clear p177
          try clear p180
          try clear p2
          try clear p6
          try clear p64
          try clear q177
          try clear q180
          obtain ⟨kq, x180001_69, HA, HJ69, HO_177002, BK174, BK175, BK176, BK179, HB⟩ := hcut
          cases kq with
          | zero => exact absurd HA.out (by simp [armoirelaw11_Tidy.j4])
          | succ kj69 =>
            have H := HA.out
            clear HA
            simp only [armoirelaw11_Tidy.j4] at H
            replace H := Option.bind_eq_some_iff.mp H
            obtain ⟨⟨t182, t183, t184⟩, A910, H⟩ := H
            replace H : ((armoireref11_Check.f kj69 t182 t183 t184).bind fun t188 => (if t188 = 0 then (armoirelaw11_Tidy.l0 kj69 x4_42 (wrap64 (x5_3 + 1)) a0_0 a0_1 l0_2 t182 t183 t184) else (armoirelaw11_Tidy.l0 kj69 x4_42 (wrap64 (x5_3 + 1)) a0_0 a0_1 l0_2 x177000_3 x177001_3 x177002_3))) = some (r1, r2, r3) := H
            have A91 := Z0.mk A910
            clear A910
            replace H := Option.bind_eq_some_iff.mp H
            obtain ⟨t188, A920, H⟩ := H
            replace H : (if t188 = 0 then (armoirelaw11_Tidy.l0 kj69 x4_42 (wrap64 (x5_3 + 1)) a0_0 a0_1 l0_2 t182 t183 t184) else (armoirelaw11_Tidy.l0 kj69 x4_42 (wrap64 (x5_3 + 1)) a0_0 a0_1 l0_2 x177000_3 x177001_3 x177002_3)) = some (r1, r2, r3) := H
            have A92 := Z0.mk A920
            clear A920
            have HS93 := Z0.mk H
            clear H
            have hnb94 := NB176_174.out
            have hnc94 := NB174_176.out
            have hnb95 := NB176_175.out
            have hnc95 := NB175_176.out
            have hnb96 := NB176_179.out
            have hnc96 := NB179_176.out
            have hcz97 := bc3 BK176.out
            have hnb98 := NB179_174.out
            have hnc98 := NB174_179.out
            have hnb99 := NB179_175.out
            have hnc99 := NB175_179.out
            have hcz100 := bc2 BK179.out
            obtain ⟨Ao101, co101, eo101⟩ := Kd.R_slice HO_177002.out
            subst eo101
            go_upto_if 84 with (first | ((with_reducible refine gcl (f := 47) rfl ?_); refine gl_ (some 81) rfl rfl Tryz.func47 (by kernel_rfl) rfl #[.agg #[.int .i64 x177000_3, .int .i64 x177001_3, .slice Ao101 x177002_3.length co101], .agg #[.string t178, .string x180001_69]] rfl ar_ ?_; (with_reducible refine (armoireref11_With.calls kj69 x177000_3 x177001_3 _ _ x177002_3 t178 x180001_69 t182 t183 t184 _ ?side1 ?side2 A91.out).mono ?_); (case side1 => repeat (first | exact (Kd.R_reads' HO_177002.out).2.2 | (with_reducible refine Kd.C_alloc ?_ _) | (with_reducible refine Kd.C_drewN ?_ _) | (with_reducible refine Kd.C_drew ?_))); (case side2 => exact (Kd.R_reads' HO_177002.out).2.1); rintro e w102 ⟨v185, rfl, ho0, hb⟩; refine ⟨_, rfl, ?_⟩; have n0_ := Z0.mk (Kd.R_elder' (by (with_reducible repeat (first | apply Kd.R_alloc | apply Kd.R_drewN | apply Kd.R_drew)); exact HO_177002.out) (Kd.R_base ho0) hb); have n1_ := Z0.mk (Kd.R_lower (Kd.R_newB (Kd.R_new' ho0 (Kd.R_lt (by (with_reducible repeat (first | apply Kd.R_alloc | apply Kd.R_drewN | apply Kd.R_drew)); exact HO_177002.out))) (g := gb179) (o := .cells #[.string t178, .string x180001_69] 72 (0, 0)) bk_) (bsz bl_)); have n2_ := Z0.mk (kbl (g := gb174) (o := .cells #[.int .i64 a0_0, .int .i64 a0_1, .slice (some ad177) l0_2.length c0_2] 24 (0, 0)) bk_ hb); have n3_ := Z0.mk (kbl (g := gb175) (o := .cells #[.int .i64 0, .int .i64 0, .slice none 0 0] 30 (0, 0)) bk_ hb); have n4_ := Z0.mk (kbl (g := gb176) (o := .cells #[.int .i64 x177000_3, .int .i64 x177001_3, .slice Ao101 x177002_3.length co101] 30 (0, 0)) bk_ hb); have n5_ := Z0.mk (kbl (g := gb179) (o := .cells #[.string t178, .string x180001_69] 72 (0, 0)) bk_ hb); have n6_ := Z0.mk (bsp bl_ hb); clear HO_177002; clear BK174; clear BK175; clear BK176; clear BK179; clear HB; have HO_177002 := n0_; have HO186 := n1_; have BK174 := n2_; have BK175 := n3_; have BK176 := n4_; have BK179 := n5_; have HB := n6_; clear n0_ n1_ n2_ n3_ n4_ n5_ n6_; (try clear hb); (try clear hb2); (try clear hk); (try clear hi); (try clear ho0)) | ((with_reducible refine gds (N := 7) rfl ?_); (try (refine gate_guard (by rfl) ?_; dsimp only)); refine bx_ (N := 7) (cs := #[.int .i64 0, .int .i64 0, .slice none 0 0]) (t := 30) ?_; intro gb187 hg w103 hbox hb; have n0_ := Z0.mk (Kd.R_below (by (with_reducible repeat (first | apply Kd.R_alloc | apply Kd.R_drewN | apply Kd.R_drew)); exact HO_177002.out) hb); have n1_ := Z0.mk (Kd.R_below (by (with_reducible repeat (first | apply Kd.R_alloc | apply Kd.R_drewN | apply Kd.R_drew)); exact HO186.out) hb); have n2_ := Z0.mk (kbl (g := gb174) (o := .cells #[.int .i64 a0_0, .int .i64 a0_1, .slice (some ad177) l0_2.length c0_2] 24 (0, 0)) bk_ hb); have n3_ := Z0.mk (kbl (g := gb175) (o := .cells #[.int .i64 0, .int .i64 0, .slice none 0 0] 30 (0, 0)) bk_ hb); have n4_ := Z0.mk (kbl (g := gb176) (o := .cells #[.int .i64 x177000_3, .int .i64 x177001_3, .slice Ao101 x177002_3.length co101] 30 (0, 0)) bk_ hb); have n5_ := Z0.mk (kbl (g := gb179) (o := .cells #[.string t178, .string x180001_69] 72 (0, 0)) bk_ hb); have n6_ := Z0.mk (bsp bl_ hb); have n7_ := Z0.mk (hbox); have n8_ := Z0.mk ((by rw [hg]; exact bsz bl_ : w.heap.size ≤ gb187)); have n9_ := Z0.mk ((by rw [hg]; exact bsz bl_ : w.heap.size ≤ gb187)); have n10_ := Z0.mk ((by rw [hg]; exact Nat.ne_of_lt (klt_ (g := gb174) (o := .cells #[.int .i64 a0_0, .int .i64 a0_1, .slice (some ad177) l0_2.length c0_2] 24 (0, 0)) bk_) : gb174 ≠ gb187)); have n11_ := Z0.mk ((by rw [hg]; exact Nat.ne_of_gt (klt_ (g := gb174) (o := .cells #[.int .i64 a0_0, .int .i64 a0_1, .slice (some ad177) l0_2.length c0_2] 24 (0, 0)) bk_) : gb187 ≠ gb174)); have n12_ := Z0.mk ((by rw [hg]; exact Nat.ne_of_lt (klt_ (g := gb175) (o := .cells #[.int .i64 0, .int .i64 0, .slice none 0 0] 30 (0, 0)) bk_) : gb175 ≠ gb187)); have n13_ := Z0.mk ((by rw [hg]; exact Nat.ne_of_gt (klt_ (g := gb175) (o := .cells #[.int .i64 0, .int .i64 0, .slice none 0 0] 30 (0, 0)) bk_) : gb187 ≠ gb175)); have n14_ := Z0.mk ((by rw [hg]; exact Nat.ne_of_lt (klt_ (g := gb176) (o := .cells #[.int .i64 x177000_3, .int .i64 x177001_3, .slice Ao101 x177002_3.length co101] 30 (0, 0)) bk_) : gb176 ≠ gb187)); have n15_ := Z0.mk ((by rw [hg]; exact Nat.ne_of_gt (klt_ (g := gb176) (o := .cells #[.int .i64 x177000_3, .int .i64 x177001_3, .slice Ao101 x177002_3.length co101] 30 (0, 0)) bk_) : gb187 ≠ gb176)); have n16_ := Z0.mk ((by rw [hg]; exact Nat.ne_of_lt (klt_ (g := gb179) (o := .cells #[.string t178, .string x180001_69] 72 (0, 0)) bk_) : gb179 ≠ gb187)); have n17_ := Z0.mk ((by rw [hg]; exact Nat.ne_of_gt (klt_ (g := gb179) (o := .cells #[.string t178, .string x180001_69] 72 (0, 0)) bk_) : gb187 ≠ gb179)); clear HO_177002; clear HO186; clear BK174; clear BK175; clear BK176; clear BK179; clear HB; have HO_177002 := n0_; have HO186 := n1_; have BK174 := n2_; have BK175 := n3_; have BK176 := n4_; have BK179 := n5_; have HB := n6_; have BK187 := n7_; have GW187 := n8_; have GE187 := n9_; have NB174_187 := n10_; have NB187_174 := n11_; have NB175_187 := n12_; have NB187_175 := n13_; have NB176_187 := n14_; have NB187_176 := n15_; have NB179_187 := n16_; have NB187_179 := n17_; clear n0_ n1_ n2_ n3_ n4_ n5_ n6_ n7_ n8_ n9_ n10_ n11_ n12_ n13_ n14_ n15_ n16_ n17_; clear hb hbox hg; have hnb104 := NB187_174.out; have hnc104 := NB174_187.out; have hnb105 := NB187_175.out; have hnc105 := NB175_187.out; have hnb106 := NB187_176.out; have hnc106 := NB176_187.out; have hnb107 := NB187_179.out; have hnc107 := NB179_187.out; have hcz108 := bc3 BK187.out; obtain ⟨Ao109, co109, eo109⟩ := Kd.R_slice HO186.out; subst eo109) | ((with_reducible refine gcl (f := 48) rfl ?_); refine gl_ (some 83) rfl rfl Tryz.func48 (by kernel_rfl) rfl #[.agg #[.int .i64 t182, .int .i64 t183, .slice Ao109 t184.length co109]] rfl ar_ ?_; (with_reducible refine (armoireref11_Check.calls kj69 t182 t183 _ _ t184 t188 _ ?side1 ?side2 A92.out).mono ?_); (case side1 => refine (Kd.R_reads' (e := 72) (base := w.heap.size) (ok := fun k_ => ((True ∧ some k_ ≠ (.slice Ao101 x177002_3.length co101 : Value).ownBlock) ∧ k_ ≠ gb179)) (n := t184.length) (c := co109) ?_).2.2; exact (by (with_reducible repeat (first | apply Kd.R_alloc | apply Kd.R_drewN | apply Kd.R_drew)); exact (Kd.R_mono (Kd.R_far (p := ⟨gb187, 2, none⟩) (Kd.R_far (p := ⟨gb187, 1, none⟩) (Kd.R_far (p := ⟨gb187, 0, none⟩) (Kd.R_types HO186.out BK187.out (by decide)) (fun _ hk => hk.2) (.int .i64 t182)) (fun _ hk => hk.2) (.int .i64 t183)) (fun _ hk => hk.2) (.slice Ao109 t184.length co109)) (fun _ h_ => h_.1)))); (case side2 => exact (Kd.R_reads' HO186.out).2.1); rintro e w110 ⟨rfl, hb⟩; refine ⟨_, rfl, ?_⟩; have n0_ := Z0.mk (Kd.R_below (by (with_reducible repeat (first | apply Kd.R_alloc | apply Kd.R_drewN | apply Kd.R_drew)); exact (Kd.R_mono (Kd.R_far (p := ⟨gb187, 2, none⟩) (Kd.R_far (p := ⟨gb187, 1, none⟩) (Kd.R_far (p := ⟨gb187, 0, none⟩) (Kd.R_types HO_177002.out BK187.out (by decide)) (fun _ hk => hk.2) (.int .i64 t182)) (fun _ hk => hk.2) (.int .i64 t183)) (fun _ hk => hk.2) (.slice Ao109 t184.length co109)) (fun _ h_ => h_.1))) hb); have n1_ := Z0.mk (Kd.R_below (by (with_reducible repeat (first | apply Kd.R_alloc | apply Kd.R_drewN | apply Kd.R_drew)); exact (Kd.R_mono (Kd.R_far (p := ⟨gb187, 2, none⟩) (Kd.R_far (p := ⟨gb187, 1, none⟩) (Kd.R_far (p := ⟨gb187, 0, none⟩) (Kd.R_types HO186.out BK187.out (by decide)) (fun _ hk => hk.2) (.int .i64 t182)) (fun _ hk => hk.2) (.int .i64 t183)) (fun _ hk => hk.2) (.slice Ao109 t184.length co109)) (fun _ h_ => h_.1))) hb); have n2_ := Z0.mk (kbl (g := gb174) (o := .cells #[.int .i64 a0_0, .int .i64 a0_1, .slice (some ad177) l0_2.length c0_2] 24 (0, 0)) bk_ hb); have n3_ := Z0.mk (kbl (g := gb175) (o := .cells #[.int .i64 0, .int .i64 0, .slice none 0 0] 30 (0, 0)) bk_ hb); have n4_ := Z0.mk (kbl (g := gb176) (o := .cells #[.int .i64 x177000_3, .int .i64 x177001_3, .slice Ao101 x177002_3.length co101] 30 (0, 0)) bk_ hb); have n5_ := Z0.mk (kbl (g := gb179) (o := .cells #[.string t178, .string x180001_69] 72 (0, 0)) bk_ hb); have n6_ := Z0.mk (kbl (g := gb187) (o := .cells #[.int .i64 t182, .int .i64 t183, .slice Ao109 t184.length co109] 30 (0, 0)) bk_ hb); have n7_ := Z0.mk (bsp bl_ hb); clear HO_177002; clear HO186; clear BK174; clear BK175; clear BK176; clear BK179; clear BK187; clear HB; have HO_177002 := n0_; have HO186 := n1_; have BK174 := n2_; have BK175 := n3_; have BK176 := n4_; have BK179 := n5_; have BK187 := n6_; have HB := n7_; clear n0_ n1_ n2_ n3_ n4_ n5_ n6_ n7_; (try clear hb); (try clear hb2); (try clear hk); (try clear hi)))
            (try simp only [Act.put, List.setIfInBounds_toArray, List.set_cons_zero, List.set_cons_succ])
            have H := HS93.out
            clear HS93
            by_cases c111 : t188 = 0
            rotate_left
            · rw [if_neg c111] at H
              have c111b0 : (t188 == 0) = false := beq_eq_false_iff_ne.mpr c111
              have c111b1 : (t188 != 0) = true := bne_iff_ne.mpr c111
              (first | rw [c111b0] | (simp only [i64_w, i32_w]; rw [c111b0]) | skip)
              have H' := Z0.mk H
              clear H
              go_wp2
              go_roundg kj69
              case measure => have := HJ1.out; have := HJ42.out; have := HK3.out; have := HJ47.out; have := HJ69.out; omega
              case rel => exact ⟨(wrap64 (x5_3 + 1)), (x177000_3), (x177001_3), (x177002_3), (.slice Ao101 x177002_3.length co101), eqv_, H', ⟨by have := HJ1.out; have := HJ42.out; have := HK3.out; have := HJ47.out; have := HJ69.out; omega⟩, ⟨by (with_reducible repeat (first | apply Kd.R_alloc | apply Kd.R_drewN | apply Kd.R_drew)); exact Kd.R_mono HO_177002.out (fun _ hk => trivial)⟩, ⟨bk_⟩, ⟨bk_⟩, ⟨bk_⟩, ⟨bl_⟩⟩
            rw [if_pos c111] at H
            have c111b0 : (t188 == 0) = true := beq_iff_eq.mpr c111
            have c111b1 : (t188 != 0) = false := bne_eq_false_iff_eq.mpr c111
            clear c111
            (first | rw [c111b0] | (simp only [i64_w, i32_w]; rw [c111b0]) | skip)
            have H' := Z0.mk H
            clear H
            have hnb112 := NB187_174.out
            have hnc112 := NB174_187.out
            have hnb113 := NB187_175.out
            have hnc113 := NB175_187.out
            have hnb114 := NB187_176.out
            have hnc114 := NB176_187.out
            have hnb115 := NB187_179.out
            have hnc115 := NB179_187.out
            have hcz116 := bc3 BK187.out
            have hnb117 := NB176_174.out
            have hnc117 := NB174_176.out
            have hnb118 := NB176_175.out
            have hnc118 := NB175_176.out
            have hnb119 := NB176_179.out
            have hnc119 := NB179_176.out
            have hcz120 := bc3 BK176.out
            go_wp2
            go_roundg kj69
            case measure => have := HJ1.out; have := HJ42.out; have := HK3.out; have := HJ47.out; have := HJ69.out; omega
            case rel => exact ⟨(wrap64 (x5_3 + 1)), (t182), (t183), (t184), (.slice Ao109 t184.length co109), eqv_, H', ⟨by have := HJ1.out; have := HJ42.out; have := HK3.out; have := HJ47.out; have := HJ69.out; omega⟩, ⟨by (with_reducible repeat (first | apply Kd.R_alloc | apply Kd.R_drewN | apply Kd.R_drew)); exact Kd.R_mono (Kd.R_far (p := ⟨gb176, 2, none⟩) (Kd.R_far (p := ⟨gb176, 1, none⟩) (Kd.R_far (p := ⟨gb176, 0, none⟩) (Kd.R_types HO186.out BK176.out (by decide)) (fun _ hk => hk.2) (.int .i64 t182)) (fun _ hk => hk.2) (.int .i64 t183)) (fun _ hk => hk.2) (.slice Ao109 t184.length co109)) (fun _ hk => trivial)⟩, ⟨bk_⟩, ⟨bk_⟩, ⟨bk_⟩, ⟨bl_⟩⟩
end Go.Proofs.YtjiblcncadekcaaGreat.PA

