import Derived.Test.YtfllpmmfjbjgoaaQScxPAx0
import Derived.Test.YtfllpmmfjbjgoaaQScxPAx1
namespace Go.Proofs.Ytfllpmmfjbjgoaa.PA
open Go.Proofs.Ytfllpmmfjbjgoaa.PL
open Go.RowKit Go.Proofs.YtfllpmmfjbjgoaaW.PrintWords Go.Proofs.YtfllpmmfjbjgoaaW.PrintLast Go.Proofs.YtfllpmmfjbjgoaaW.PrintMore
attribute [local go_sem] max2_int min2_int max_two min_two max_three min_three max_four min_four
set_option linter.unusedVariables false
set_option linter.unusedSimpArgs false
attribute [local go_sem high] eqA62
mutual
def armoireref05_Scan.l0 : Nat → List (S89) → Int → List (S62) → ByteArray → Int → Int → Option ((List (S62)) × Int)
  | 0, _, _, _, _, _, _ => none
  | k + 1, x0, x1, x6, x7, x8, x9 => if x9 < (wrap64 (x1 + (x0.length : Int))) then (if (x0.length : Int) = 0 then (none) else (if 0 ≤ (Int.tmod x9 (x0.length : Int)) then (if (Int.tmod x9 (x0.length : Int)) < (x0.length : Int) then (if ((rd_T89 x0 (Int.tmod x9 (x0.length : Int))).f0) = x9 then (if ((rd_T89 x0 (Int.tmod x9 (x0.length : Int))).f1) > 3 then (armoireref05_Scan.j1 k x0 x1 x6 x7 x8 x9 ((Int.tmod ((rd_T89 x0 (Int.tmod x9 (x0.length : Int))).f1) 2) == 1) true ((rd_T89 x0 (Int.tmod x9 (x0.length : Int))).f0) ((rd_T89 x0 (Int.tmod x9 (x0.length : Int))).f1) ((rd_T89 x0 (Int.tmod x9 (x0.length : Int))).f2)) else (armoireref05_Scan.j1 k x0 x1 x6 x7 x8 x9 ((Int.tmod ((rd_T89 x0 (Int.tmod x9 (x0.length : Int))).f1) 2) == 1) (((Int.tmod ((rd_T89 x0 (Int.tmod x9 (x0.length : Int))).f1) 2) == 1) != (x8 == 0)) ((rd_T89 x0 (Int.tmod x9 (x0.length : Int))).f0) ((rd_T89 x0 (Int.tmod x9 (x0.length : Int))).f1) ((rd_T89 x0 (Int.tmod x9 (x0.length : Int))).f2))) else (armoireref05_Scan.j1 k x0 x1 x6 x7 x8 x9 ((Int.tmod ((rd_T89 x0 (Int.tmod x9 (x0.length : Int))).f1) 2) == 1) true ((rd_T89 x0 (Int.tmod x9 (x0.length : Int))).f0) ((rd_T89 x0 (Int.tmod x9 (x0.length : Int))).f1) ((rd_T89 x0 (Int.tmod x9 (x0.length : Int))).f2))) else (none)) else (none))) else (if x8 > 0 then (some (x6, x8)) else (some (x6, wrap64 (x1 + (x0.length : Int)))))
def armoireref05_Scan.j1 : Nat → List (S89) → Int → List (S62) → ByteArray → Int → Int → Bool → Bool → Int → Int → ByteArray → Option ((List (S62)) × Int)
  | 0, _, _, _, _, _, _, _, _, _, _, _ => none
  | k + 1, x0, x1, x6, x7, x8, x9, x11, x47, x237000, x237001, x237002 => if x47 = true then (if x8 > 0 then (some (x6, x8)) else (some (x6, x9))) else (if x11 = true then (if x7.size + x237002.size ≤ 9223372036854775807 then (if x237001 > 1 then (if x6.length < 4398046511104 then (armoireref05_Scan.l0 k x0 x1 (x6 ++ [(⟨x9, x9, x7 ++ x237002⟩ : S62)]) (⟨#[]⟩ : ByteArray) 0 (wrap64 (x9 + 1))) else (none)) else (armoireref05_Scan.l0 k x0 x1 x6 (x7 ++ x237002) x9 (wrap64 (x9 + 1)))) else (none)) else (if x7.size + x237002.size ≤ 9223372036854775807 then (if x237001 > 1 then (if x6.length < 4398046511104 then (armoireref05_Scan.l0 k x0 x1 (x6 ++ [(⟨x8, x9, x7 ++ x237002⟩ : S62)]) (⟨#[]⟩ : ByteArray) 0 (wrap64 (x9 + 1))) else (none)) else (armoireref05_Scan.l0 k x0 x1 x6 (x7 ++ x237002) x8 (wrap64 (x9 + 1)))) else (none)))
end
def armoireref05_Scan.f (k : Nat) (l0 : List (S89)) (a1 : Int) : Option ((List (S62)) × Int) := armoireref05_Scan.l0 k l0 a1 (([] : List (S62))) (⟨#[]⟩ : ByteArray) 0 a1
set_option maxHeartbeats 2000000 in
set_option maxRecDepth 100000 in
theorem armoireref05_Scan.calls (k : Nat) (A0 : Option Addr) (c0 : Nat) (l0 : List (S89)) (a1 : Int) (r1 : List (S62)) (r2 : Int) (w : World) (hr0 : Kd.C k89 w A0 l0.length l0) (hc0 : l0.length ≤ c0) (h : armoireref05_Scan.f k l0 a1 = some (r1, r2)) :
    Calls Try.prog 21 #[.slice A0 l0.length c0, .int .i64 a1] w fun e w' => ∃ v0_ : Value, e = .returned (.tuple #[v0_, .int .i64 r2]) ∧ Kd.R k62 62 w' w.heap.size (fun _ => True) v0_ r1 ∧ Below w.heap.size w w' := by
  have hu89 := Try.underlying89
  have hu62 := Try.underlying62
  have HR0 := Aside0.mk hr0
  have HC0 := Aside0.mk hc0
  clear hr0 hc0
  have HB := Aside0.mk (Below.refl w.heap.size w)
  have H : (armoireref05_Scan.l0 k l0 a1 (([] : List (S62))) (⟨#[]⟩ : ByteArray) 0 a1) = some (r1, r2) := h
  clear h
  obtain ⟨y232, hy232⟩ : ∃ y_ : List (S62), y_ = (([] : List (S62))) := ⟨_, rfl⟩
  replace H : (armoireref05_Scan.l0 k l0 a1 y232 (⟨#[]⟩ : ByteArray) 0 a1) = some (r1, r2) := by first | (rw [hy232]; with_reducible exact H) | (have H2_ := (Option.bind_some _ _).symm.trans H; rw [hy232]; with_reducible exact H2_) | (have H2_ := (Option.bind_some _ _).symm.trans H; with_reducible exact H2_) | with_reducible exact H | (rw [hy232]; exact H) | exact H
  have Ny232 := Aside0.mk hy232
  clear hy232
  have H' := Aside0.mk H
  clear H
  go_enter Try.func21, Try.ntmps21
  go_wp2_with (first | ((with_reducible refine gds (N := 12) rfl ?_); refine Kd.R_lit k62 _ 62 ?hg (N := 12) ?hd (xs := ([] : List (S62))) (inner := []) (ok := fun _ => True) (okp := fun _ => True) ?hr ?hp (fun _ hk => hk) trivial (Below.refl _ _) (Nat.le_refl _) (by simp) ?_; (case hd => rfl); (case hg => rfl); (case hr => first | (go_simp; done) | (go_simp; rfl)); (case hp => exact (Reps.none _ _)); intro v233 w3 ho4 hb hg_ hnew_; clear hg_ hnew_; (first | rw [← Ny232.out] at ho4 | (simp only [Int.reduceToNat] at ho4; rw [← Ny232.out] at ho4)); have n0_ := Aside0.mk (Kd.R_lower ho4 (bsz bl_)); have n1_ := Aside0.mk (bsp bl_ hb); clear HB; have HO234 := n0_; have HB := n1_; clear n0_ n1_; clear hb ho4))
  go_loopg [6, 7, 8, 9] k (fun kq v6 v7 v8 v9 w' => ∃ (x6_1 : List (S62)) (x7_1 : ByteArray) (x8_1 : Int) (x9_1 : Int), v7 = .string x7_1 ∧ v8 = .int .i64 x8_1 ∧ v9 = .int .i64 x9_1 ∧ Aside0 (armoireref05_Scan.l0 kq l0 a1 x6_1 x7_1 x8_1 x9_1 = some (r1, r2)) ∧ Aside0 (kq ≤ k) ∧ Aside0 (Kd.R k62 62 w' w.heap.size (fun _ => True) v6 x6_1) ∧ Aside0 (Below w.heap.size w w'))
  case atStart => exact ⟨(y232), ((⟨#[]⟩ : ByteArray)), (0), (a1), (by first | rfl | (simp; done) | (simp [*]; done) | exact emp1_ _ | exact (emp1_ _).symm | exact emp2_ _ | exact (emp2_ _).symm), (by first | rfl | (simp; done) | (simp [*]; done) | exact emp1_ _ | exact (emp1_ _).symm | exact emp2_ _ | exact (emp2_ _).symm), (by first | rfl | (simp; done) | (simp [*]; done) | exact emp1_ _ | exact (emp1_ _).symm | exact emp2_ _ | exact (emp2_ _).symm), H', ⟨Nat.le_refl _⟩, ⟨by (with_reducible repeat (first | apply Kd.R_alloc | apply Kd.R_drewN | apply Kd.R_drew)); exact HO234.out⟩, ⟨bl_⟩⟩
  clear H'
  try clear c2
  try clear p2
  obtain ⟨x6_1, x7_1, x8_1, x9_1, rfl, rfl, rfl, HA, HK1, HO_6, HB⟩ := hrel
  cases gk with
  | zero => exact absurd HA.out (by simp [armoireref05_Scan.l0])
  | succ k1 =>
    have H := HA.out
    clear HA
    simp only [armoireref05_Scan.l0] at H
    by_cases c5 : x9_1 < (wrap64 (a1 + (l0.length : Int)))
    rotate_left
    · rw [if_neg c5] at H
      have c5b0 : decide (x9_1 < (wrap64 (a1 + (l0.length : Int)))) = false := decide_eq_false c5
      clear c5
      by_cases c33 : x8_1 > 0
      · rw [if_pos c33] at H
        have c33b0 : decide (0 < x8_1) = true := decide_eq_true c33
        clear c33
        simp only [Option.some.injEq, Prod.mk.injEq] at H
        obtain ⟨rfl, rfl⟩ := H
        go_wp2
        go_ret2
        exact ⟨_, er_, by (with_reducible repeat (first | apply Kd.R_alloc | apply Kd.R_drewN | apply Kd.R_drew)); exact HO_6.out, bl_⟩
      rw [if_neg c33] at H
      have c33b0 : decide (0 < x8_1) = false := decide_eq_false c33
      clear c33
      simp only [Option.some.injEq, Prod.mk.injEq] at H
      obtain ⟨rfl, rfl⟩ := H
      go_wp2
      go_ret2
      exact ⟨_, er_, by (with_reducible repeat (first | apply Kd.R_alloc | apply Kd.R_drewN | apply Kd.R_drew)); exact HO_6.out, bl_⟩
    rw [if_pos c5] at H
    have c5b0 : decide (x9_1 < (wrap64 (a1 + (l0.length : Int)))) = true := decide_eq_true c5
    clear c5
    by_cases c6 : (l0.length : Int) = 0
    · rw [if_pos c6] at H
      exact absurd H (by simp)
    rw [if_neg c6] at H
    have c6b0 : ((l0.length : Int) == 0) = false := beq_eq_false_iff_ne.mpr c6
    have c6b1 : ((l0.length : Int) != 0) = true := bne_iff_ne.mpr c6
    have c6b2 : ¬ (l0 = []) := fun h_ => c6 (by rw [h_]; rfl)
    obtain ⟨ji7, hji7⟩ : ∃ j_ : Int, (Int.tmod x9_1 (l0.length : Int)) = j_ := ⟨_, rfl⟩
    replace H : (if 0 ≤ (ji7) then (if (ji7) < (l0.length : Int) then (if ((rd_T89 l0 (ji7)).f0) = x9_1 then (if ((rd_T89 l0 (ji7)).f1) > 3 then (armoireref05_Scan.j1 k1 l0 a1 x6_1 x7_1 x8_1 x9_1 ((Int.tmod ((rd_T89 l0 (ji7)).f1) 2) == 1) true ((rd_T89 l0 (ji7)).f0) ((rd_T89 l0 (ji7)).f1) ((rd_T89 l0 (ji7)).f2)) else (armoireref05_Scan.j1 k1 l0 a1 x6_1 x7_1 x8_1 x9_1 ((Int.tmod ((rd_T89 l0 (ji7)).f1) 2) == 1) (((Int.tmod ((rd_T89 l0 (ji7)).f1) 2) == 1) != (x8_1 == 0)) ((rd_T89 l0 (ji7)).f0) ((rd_T89 l0 (ji7)).f1) ((rd_T89 l0 (ji7)).f2))) else (armoireref05_Scan.j1 k1 l0 a1 x6_1 x7_1 x8_1 x9_1 ((Int.tmod ((rd_T89 l0 (ji7)).f1) 2) == 1) true ((rd_T89 l0 (ji7)).f0) ((rd_T89 l0 (ji7)).f1) ((rd_T89 l0 (ji7)).f2))) else (none)) else (none)) = some (r1, r2) := by first | (rw [hji7] at H; exact H) | (simp only [hji7] at H ⊢; exact H)
    by_cases c8 : 0 ≤ (ji7)
    rotate_left
    · rw [if_neg c8] at H
      exact absurd H (by simp)
    rw [if_pos c8] at H
    have c8b0 : decide (0 ≤ (ji7)) = true := decide_eq_true c8
    clear c8
    by_cases c9 : (ji7) < (l0.length : Int)
    rotate_left
    · rw [if_neg c9] at H
      exact absurd H (by simp)
    rw [if_pos c9] at H
    have c9b0 : decide ((ji7) < (l0.length : Int)) = true := decide_eq_true c9
    clear c9
    have HC10 := Aside0.mk H
    clear H
    have p235 : 0 ≤ ((ji7) : Int) := of_decide_eq_true (by first | (with_reducible assumption) | assumption)
    have q235 : (ji7) < (l0.length : Int) := of_decide_eq_true (by first | (with_reducible assumption) | assumption)
    obtain ⟨ad235, e235, hx235_0, hx235_1, hx235_2⟩ := at_T89 HR0.out (ji7) p235 q235
    cases e235
    replace hx235_0 := (HB.out.cell (World.block_lt_of_cell? w _ hx235_0)).trans hx235_0
    replace hx235_1 := (HB.out.cell (World.block_lt_of_cell? w _ hx235_1)).trans hx235_1
    replace hx235_2 := (HB.out.cell (World.block_lt_of_cell? w _ hx235_2)).trans hx235_2
    replace p235 := eq_true p235
    replace q235 := eq_true q235
    go_upto_region 9 with (first | ((with_reducible refine gds (N := 10) rfl ?_); refine bev ?hg (N := 10) ?hd (cs := #[.int .i64 0, .int .i64 0, .string (⟨#[]⟩ : ByteArray)]) (t := 89) ?hr ?_; (case hd => rfl); (case hg => rfl); (case hr => first | (go_simp; done) | (go_simp; rfl)); intro gb236 hg w11 hbox hb; have n0_ := Aside0.mk (Kd.R_below (by (with_reducible repeat (first | apply Kd.R_alloc | apply Kd.R_drewN | apply Kd.R_drew)); exact HO_6.out) hb); have n1_ := Aside0.mk (bsp bl_ hb); have n2_ := Aside0.mk (hbox); have n3_ := Aside0.mk ((by rw [hg]; exact bsz bl_ : w.heap.size ≤ gb236)); have n4_ := Aside0.mk ((by rw [hg]; exact bsz bl_ : w.heap.size ≤ gb236)); clear HO_6; clear HB; have HO_6 := n0_; have HB := n1_; have BK236 := n2_; have GW236 := n3_; have GE236 := n4_; clear n0_ n1_ n2_ n3_ n4_; clear hb hbox hg; have hcz12 := bc3 BK236.out))
    (try simp only [Act.put, List.setIfInBounds_toArray, List.set_cons_zero, List.set_cons_succ])
    go_cut [47] (fun v47 wc => ∃ (kq : Nat) (x47_9 : Bool), v47 = .bool x47_9 ∧ Aside0 (armoireref05_Scan.j1 kq l0 a1 x6_1 x7_1 x8_1 x9_1 ((Int.tmod ((rd_T89 l0 (ji7)).f1) 2) == 1) x47_9 ((rd_T89 l0 (ji7)).f0) ((rd_T89 l0 (ji7)).f1) ((rd_T89 l0 (ji7)).f2) = some (r1, r2)) ∧ Aside0 (kq ≤ k1) ∧ Aside0 (Kd.R k62 62 wc w.heap.size (fun _ => True) u6 x6_1) ∧ Aside0 (wc.heap[gb236]? = some (.cells #[.int .i64 ((rd_T89 l0 (ji7)).f0), .int .i64 ((rd_T89 l0 (ji7)).f1), .string ((rd_T89 l0 (ji7)).f2)] 89 (0, 0))) ∧ Aside0 (Below w.heap.size w wc))
    case first =>
      have H := HC10.out
      clear HC10
      by_cases c13 : ((rd_T89 l0 (ji7)).f0) = x9_1
      rotate_left
      · rw [if_neg c13] at H
        have c13b0 : (((rd_T89 l0 (ji7)).f0) == x9_1) = false := beq_eq_false_iff_ne.mpr c13
        have c13b1 : (((rd_T89 l0 (ji7)).f0) != x9_1) = true := bne_iff_ne.mpr c13
        (first | rw [c13b0] | (simp only [i64_w, i32_w]; rw [c13b0]) | skip)
        have H' := Aside0.mk H
        clear H
        have hcz17 := bc3 BK236.out
        go_wp2
        go_meet
        case rel => exact ⟨_, (true), (by first | rfl | (simp; done) | (simp [*]; done) | exact emp1_ _ | exact (emp1_ _).symm | exact emp2_ _ | exact (emp2_ _).symm), H', ⟨by have := HK1.out; first | omega | exact Nat.le_refl _⟩, ⟨by (with_reducible repeat (first | apply Kd.R_alloc | apply Kd.R_drewN | apply Kd.R_drew)); exact Kd.R_mono (Kd.R_far (p := ⟨gb236, 2, none⟩) (Kd.R_far (p := ⟨gb236, 1, none⟩) (Kd.R_far (p := ⟨gb236, 0, none⟩) (Kd.R_types HO_6.out BK236.out (by decide)) (fun _ hk => hk.2) (.int .i64 ((rd_T89 l0 (ji7)).f0))) (fun _ hk => hk.2) (.int .i64 ((rd_T89 l0 (ji7)).f1))) (fun _ hk => hk.2) (.string ((rd_T89 l0 (ji7)).f2))) (fun _ hk => trivial)⟩, ⟨bk_⟩, ⟨bl_⟩⟩
      rw [if_pos c13] at H
      have c13b0 : (((rd_T89 l0 (ji7)).f0) == x9_1) = true := beq_iff_eq.mpr c13
      have c13b1 : (((rd_T89 l0 (ji7)).f0) != x9_1) = false := bne_eq_false_iff_eq.mpr c13
      clear c13
      (first | rw [c13b0] | (simp only [i64_w, i32_w]; rw [c13b0]) | skip)
      by_cases c14 : ((rd_T89 l0 (ji7)).f1) > 3
      · rw [if_pos c14] at H
        have c14b0 : decide (3 < ((rd_T89 l0 (ji7)).f1)) = true := decide_eq_true c14
        clear c14
        have H' := Aside0.mk H
        clear H
        have hcz15 := bc3 BK236.out
        go_wp2
        go_meet
        case rel => exact ⟨_, (true), (by first | rfl | (simp; done) | (simp [*]; done) | exact emp1_ _ | exact (emp1_ _).symm | exact emp2_ _ | exact (emp2_ _).symm), H', ⟨by have := HK1.out; first | omega | exact Nat.le_refl _⟩, ⟨by (with_reducible repeat (first | apply Kd.R_alloc | apply Kd.R_drewN | apply Kd.R_drew)); exact Kd.R_mono (Kd.R_far (p := ⟨gb236, 2, none⟩) (Kd.R_far (p := ⟨gb236, 1, none⟩) (Kd.R_far (p := ⟨gb236, 0, none⟩) (Kd.R_types HO_6.out BK236.out (by decide)) (fun _ hk => hk.2) (.int .i64 ((rd_T89 l0 (ji7)).f0))) (fun _ hk => hk.2) (.int .i64 ((rd_T89 l0 (ji7)).f1))) (fun _ hk => hk.2) (.string ((rd_T89 l0 (ji7)).f2))) (fun _ hk => trivial)⟩, ⟨bk_⟩, ⟨bl_⟩⟩
      rw [if_neg c14] at H
      have c14b0 : decide (3 < ((rd_T89 l0 (ji7)).f1)) = false := decide_eq_false c14
      clear c14
      have H' := Aside0.mk H
      clear H
      have hcz16 := bc3 BK236.out
      go_wp2
      go_meet
      case rel => exact ⟨_, ((((Int.tmod ((rd_T89 l0 (ji7)).f1) 2) == 1) != (x8_1 == 0))), (by first | rfl | (simp; done) | (simp only [← hji7] <;> (first | rfl | simp)) | (simp [*]; done)), H', ⟨by have := HK1.out; first | omega | exact Nat.le_refl _⟩, ⟨by (with_reducible repeat (first | apply Kd.R_alloc | apply Kd.R_drewN | apply Kd.R_drew)); exact Kd.R_mono (Kd.R_far (p := ⟨gb236, 2, none⟩) (Kd.R_far (p := ⟨gb236, 1, none⟩) (Kd.R_far (p := ⟨gb236, 0, none⟩) (Kd.R_types HO_6.out BK236.out (by decide)) (fun _ hk => hk.2) (.int .i64 ((rd_T89 l0 (ji7)).f0))) (fun _ hk => hk.2) (.int .i64 ((rd_T89 l0 (ji7)).f1))) (fun _ hk => hk.2) (.string ((rd_T89 l0 (ji7)).f2))) (fun _ hk => trivial)⟩, ⟨bk_⟩, ⟨bl_⟩⟩
    clear HC10
    try clear c1
    try clear c2
    try clear p2
    try clear q2
    try clear hx2
    try clear c5
    try clear c5b0
    try clear c6
    try clear c6b0
    try clear c6b1
    try clear c6b2
    try clear p6
    try clear c8
    try clear c8b0
    try clear c9
    try clear c9b0
    try clear c13
    try clear c13b0
    try clear c13b1
    try clear c14
    try clear c14b0
    try clear hcz12
    try clear hcz15
    try clear hcz16
    try clear hcz17
    try clear hcz12
    try clear hcz15
    try clear hcz16
    try clear hcz17
    try clear hx235_0
    try clear hx235_1
    try clear hx235_2
    try clear p2
    try clear p235
    try clear q235
    obtain ⟨kq, x47_9, rfl, HA, HJ9, HO_6, BK236, HB⟩ := hcut
    cases kq with
    | zero => exact absurd HA.out (by simp [armoireref05_Scan.j1])
    | succ kj9 =>
      have H := HA.out
      clear HA
      simp only [armoireref05_Scan.j1] at H
      by_cases c18 : x47_9 = true
      · subst c18
        have H1 : (if x8_1 > 0 then (some (x6_1, x8_1)) else (some (x6_1, x9_1))) = some (r1, r2) := by rw [if_pos rfl] at H; exact H
        clear H
        have H := H1
        clear H1
        by_cases c19 : x8_1 > 0
        · rw [if_pos c19] at H
          have c19b0 : decide (0 < x8_1) = true := decide_eq_true c19
          clear c19
          simp only [Option.some.injEq, Prod.mk.injEq] at H
          obtain ⟨rfl, rfl⟩ := H
          go_wp2
          go_ret2
          exact ⟨_, by first | rfl | (simp [errW_none, errW_some] <;> rfl) | (simp only [← hji7]; first | rfl | (simp [errW_none, errW_some] <;> rfl)) | (simp [*, errW_none, errW_some] <;> rfl), by (with_reducible repeat (first | apply Kd.R_alloc | apply Kd.R_drewN | apply Kd.R_drew)); exact HO_6.out, bl_⟩
        rw [if_neg c19] at H
        have c19b0 : decide (0 < x8_1) = false := decide_eq_false c19
        clear c19
        simp only [Option.some.injEq, Prod.mk.injEq] at H
        obtain ⟨rfl, rfl⟩ := H
        go_wp2
        go_ret2
        exact ⟨_, by first | rfl | (simp [errW_none, errW_some] <;> rfl) | (simp only [← hji7]; first | rfl | (simp [errW_none, errW_some] <;> rfl)) | (simp [*, errW_none, errW_some] <;> rfl), by (with_reducible repeat (first | apply Kd.R_alloc | apply Kd.R_drewN | apply Kd.R_drew)); exact HO_6.out, bl_⟩
      replace c18 := Bool.eq_false_iff.mpr c18
      subst c18
      have H1 : (if ((Int.tmod ((rd_T89 l0 (ji7)).f1) 2) == 1) = true then (if x7_1.size + ((rd_T89 l0 (ji7)).f2).size ≤ 9223372036854775807 then (if ((rd_T89 l0 (ji7)).f1) > 1 then (if x6_1.length < 4398046511104 then (armoireref05_Scan.l0 kj9 l0 a1 (x6_1 ++ [(⟨x9_1, x9_1, x7_1 ++ ((rd_T89 l0 (ji7)).f2)⟩ : S62)]) (⟨#[]⟩ : ByteArray) 0 (wrap64 (x9_1 + 1))) else (none)) else (armoireref05_Scan.l0 kj9 l0 a1 x6_1 (x7_1 ++ ((rd_T89 l0 (ji7)).f2)) x9_1 (wrap64 (x9_1 + 1)))) else (none)) else (if x7_1.size + ((rd_T89 l0 (ji7)).f2).size ≤ 9223372036854775807 then (if ((rd_T89 l0 (ji7)).f1) > 1 then (if x6_1.length < 4398046511104 then (armoireref05_Scan.l0 kj9 l0 a1 (x6_1 ++ [(⟨x8_1, x9_1, x7_1 ++ ((rd_T89 l0 (ji7)).f2)⟩ : S62)]) (⟨#[]⟩ : ByteArray) 0 (wrap64 (x9_1 + 1))) else (none)) else (armoireref05_Scan.l0 kj9 l0 a1 x6_1 (x7_1 ++ ((rd_T89 l0 (ji7)).f2)) x8_1 (wrap64 (x9_1 + 1)))) else (none))) = some (r1, r2) := by rw [if_neg (show ¬ (false = true) by decide)] at H; exact H
      clear H
      have H := H1
      clear H1
      by_cases c20 : ((Int.tmod ((rd_T89 l0 (ji7)).f1) 2) == 1) = true
      · rw [if_pos c20] at H
        have c20b0 : ((Int.tmod ((rd_T89 l0 (ji7)).f1) 2) == 1) = true := c20
        (try (have c20b1 : decide ((Int.tmod ((rd_T89 l0 (ji7)).f1) 2) = 1) = true := by simpa using c20))
        (try (have c20b2 : ((Int.tmod ((rd_T89 l0 (ji7)).f1) 2) == 1) = true := by simpa using c20))
        clear c20
        by_cases c21 : x7_1.size + ((rd_T89 l0 (ji7)).f2).size ≤ 9223372036854775807
        rotate_left
        · rw [if_neg c21] at H
          exact absurd H (by simp)
        rw [if_pos c21] at H
        have c21b0 := eq_true c21
        have c21b1 : decide (x7_1.size + ((rd_T89 l0 (ji7)).f2).size ≤ 9223372036854775807) = true := decide_eq_true c21
        try have c21b2 : (9223372036854775807 < x7_1.size + ((rd_T89 l0 (ji7)).f2).size) = False := eq_false (Nat.not_lt.2 c21)
        by_cases c22 : ((rd_T89 l0 (ji7)).f1) > 1
        rotate_left
        · rw [if_neg c22] at H
          have c22b0 : decide (1 < ((rd_T89 l0 (ji7)).f1)) = false := decide_eq_false c22
          clear c22
          have H' := Aside0.mk H
          clear H
          have hcz26 := bc3 BK236.out
          go_wp2
          go_roundg kj9
          case measure => have := HK1.out; have := HJ9.out; omega
          case rel => exact ⟨(x6_1), (x7_1 ++ ((rd_T89 l0 (ji7)).f2)), (x9_1), (wrap64 (x9_1 + 1)), (by first | rfl | (simp; done) | (simp only [← hji7] <;> (first | rfl | simp)) | (simp [*]; done)), (by first | rfl | (simp; done) | (simp [*]; done) | exact emp1_ _ | exact (emp1_ _).symm | exact emp2_ _ | exact (emp2_ _).symm), (by first | rfl | (simp; done) | (simp [*]; done) | exact emp1_ _ | exact (emp1_ _).symm | exact emp2_ _ | exact (emp2_ _).symm), H', ⟨by have := HK1.out; have := HJ9.out; omega⟩, ⟨by (with_reducible repeat (first | apply Kd.R_alloc | apply Kd.R_drewN | apply Kd.R_drew)); exact HO_6.out⟩, ⟨bl_⟩⟩
        rw [if_pos c22] at H
        have c22b0 : decide (1 < ((rd_T89 l0 (ji7)).f1)) = true := decide_eq_true c22
        clear c22
        by_cases c23 : x6_1.length < 4398046511104
        rotate_left
        · rw [if_neg c23] at H
          exact absurd H (by simp)
        rw [if_pos c23] at H
        have LMc23 := Aside0.mk c23
        clear c23
        obtain ⟨y237, hy237⟩ : ∃ y_ : List (S62), y_ = (x6_1 ++ [(⟨x9_1, x9_1, x7_1 ++ ((rd_T89 l0 (ji7)).f2)⟩ : S62)]) := ⟨_, rfl⟩
        replace H : (armoireref05_Scan.l0 kj9 l0 a1 y237 (⟨#[]⟩ : ByteArray) 0 (wrap64 (x9_1 + 1))) = some (r1, r2) := by first | (rw [hy237]; with_reducible exact H) | (have H2_ := (Option.bind_some _ _).symm.trans H; rw [hy237]; with_reducible exact H2_) | (have H2_ := (Option.bind_some _ _).symm.trans H; with_reducible exact H2_) | with_reducible exact H | (rw [hy237]; exact H) | exact H
        have Ny237 := Aside0.mk hy237
        clear hy237
        have H' := Aside0.mk H
        clear H
        have hcz24 := bc3 BK236.out
        go_wp2_with (first | ((with_reducible refine gate_builtin (b := .append) (xs := #[.tmp 63, .tmp 68]) rfl ?_); at_builtin; refine Kd.R_append k62 (w0 := w) w.heap.size rfl (.tmp 63) (.tmp 68) 46 62 (.agg #[(.int .i64 0), (.int .i64 0), (.string ⟨#[]⟩)]) 32 rfl Try.underlying46 info62 rfl (by decide) (by omega) u6 x6_1 (⟨x9_1, x9_1, x7_1 ++ ((rd_T89 l0 (ji7)).f2)⟩ : S62) [.int .i64 x9_1, .int .i64 x9_1, .string (x7_1 ++ ((rd_T89 l0 (ji7)).f2))] (fun _ => True) (fun _ => False) rfl rfl ?aP (fun _ hk => hk.elim) ?aF ?aO ?aB ?aS ?aL ?_; (case aP => exact k62_mkM _ _ _ (⟨x9_1, x9_1, x7_1 ++ ((rd_T89 l0 (ji7)).f2)⟩ : S62)); (case aB => exact bl_); (case aF => exact (fun _ _ => trivial)); (case aO => exact (by (with_reducible repeat (first | apply Kd.R_alloc | apply Kd.R_drewN | apply Kd.R_drew)); exact HO_6.out)); (case aS => exact bsz bl_); (case aL => have := LMc23.out; omega); intro v238 w25 ho hb hg hat; rw [← Ny237.out] at ho; have n0_ := Aside0.mk (blk_grown (g := gb236) (o := .cells #[.int .i64 ((rd_T89 l0 (ji7)).f0), .int .i64 ((rd_T89 l0 (ji7)).f1), .string ((rd_T89 l0 (ji7)).f2)] 89 (0, 0)) bk_ hg (Kd.R_ne HO_6.out BK236.out (by decide))); have n1_ := Aside0.mk (hb); have n2_ := Aside0.mk (ho); clear BK236; clear HB; clear HO_6; have BK236 := n0_; have HB := n1_; have HO239 := n2_; clear n0_ n1_ n2_; clear ho hb hg hat))
        go_roundg kj9
        case measure => have := HK1.out; have := HJ9.out; omega
        case rel => exact ⟨(y237), ((⟨#[]⟩ : ByteArray)), (0), (wrap64 (x9_1 + 1)), (by first | rfl | (simp; done) | (simp [*]; done) | exact emp1_ _ | exact (emp1_ _).symm | exact emp2_ _ | exact (emp2_ _).symm), (by first | rfl | (simp; done) | (simp [*]; done) | exact emp1_ _ | exact (emp1_ _).symm | exact emp2_ _ | exact (emp2_ _).symm), (by first | rfl | (simp; done) | (simp [*]; done) | exact emp1_ _ | exact (emp1_ _).symm | exact emp2_ _ | exact (emp2_ _).symm), H', ⟨by have := HK1.out; have := HJ9.out; omega⟩, ⟨by (with_reducible repeat (first | apply Kd.R_alloc | apply Kd.R_drewN | apply Kd.R_drew)); exact HO239.out⟩, ⟨bl_⟩⟩
      rw [if_neg c20] at H
      have c20b0 : ((Int.tmod ((rd_T89 l0 (ji7)).f1) 2) == 1) = false := by simpa using c20
      (try (have c20b1 : decide ((Int.tmod ((rd_T89 l0 (ji7)).f1) 2) = 1) = false := by simpa using c20))
      (try (have c20b2 : ((Int.tmod ((rd_T89 l0 (ji7)).f1) 2) == 1) = false := by simpa using c20))
      (try (have c20b3 : ¬ ((Int.tmod ((rd_T89 l0 (ji7)).f1) 2) = 1) := by simpa using c20))
      clear c20
      by_cases c27 : x7_1.size + ((rd_T89 l0 (ji7)).f2).size ≤ 9223372036854775807
      rotate_left
      · rw [if_neg c27] at H
        exact absurd H (by simp)
      rw [if_pos c27] at H
      have c27b0 := eq_true c27
      have c27b1 : decide (x7_1.size + ((rd_T89 l0 (ji7)).f2).size ≤ 9223372036854775807) = true := decide_eq_true c27
      try have c27b2 : (9223372036854775807 < x7_1.size + ((rd_T89 l0 (ji7)).f2).size) = False := eq_false (Nat.not_lt.2 c27)
      by_cases c28 : ((rd_T89 l0 (ji7)).f1) > 1
      rotate_left
      · rw [if_neg c28] at H
        have c28b0 : decide (1 < ((rd_T89 l0 (ji7)).f1)) = false := decide_eq_false c28
        clear c28
        have H' := Aside0.mk H
        clear H
        have hcz32 := bc3 BK236.out
        go_wp2
        go_roundg kj9
        case measure => have := HK1.out; have := HJ9.out; omega
        case rel => exact ⟨(x6_1), (x7_1 ++ ((rd_T89 l0 (ji7)).f2)), (x8_1), (wrap64 (x9_1 + 1)), (by first | rfl | (simp; done) | (simp only [← hji7] <;> (first | rfl | simp)) | (simp [*]; done)), (by first | rfl | (simp; done) | (simp [*]; done) | exact emp1_ _ | exact (emp1_ _).symm | exact emp2_ _ | exact (emp2_ _).symm), (by first | rfl | (simp; done) | (simp [*]; done) | exact emp1_ _ | exact (emp1_ _).symm | exact emp2_ _ | exact (emp2_ _).symm), H', ⟨by have := HK1.out; have := HJ9.out; omega⟩, ⟨by (with_reducible repeat (first | apply Kd.R_alloc | apply Kd.R_drewN | apply Kd.R_drew)); exact HO_6.out⟩, ⟨bl_⟩⟩
      rw [if_pos c28] at H
      have c28b0 : decide (1 < ((rd_T89 l0 (ji7)).f1)) = true := decide_eq_true c28
      clear c28
      by_cases c29 : x6_1.length < 4398046511104
      rotate_left
      · rw [if_neg c29] at H
        exact absurd H (by simp)
      rw [if_pos c29] at H
      have LMc29 := Aside0.mk c29
      clear c29
      obtain ⟨y240, hy240⟩ : ∃ y_ : List (S62), y_ = (x6_1 ++ [(⟨x8_1, x9_1, x7_1 ++ ((rd_T89 l0 (ji7)).f2)⟩ : S62)]) := ⟨_, rfl⟩
      replace H : (armoireref05_Scan.l0 kj9 l0 a1 y240 (⟨#[]⟩ : ByteArray) 0 (wrap64 (x9_1 + 1))) = some (r1, r2) := by first | (rw [hy240]; with_reducible exact H) | (have H2_ := (Option.bind_some _ _).symm.trans H; rw [hy240]; with_reducible exact H2_) | (have H2_ := (Option.bind_some _ _).symm.trans H; with_reducible exact H2_) | with_reducible exact H | (rw [hy240]; exact H) | exact H
      have Ny240 := Aside0.mk hy240
      clear hy240
      have H' := Aside0.mk H
      clear H
      have hcz30 := bc3 BK236.out
      go_wp2_with (first | ((with_reducible refine gate_builtin (b := .append) (xs := #[.tmp 63, .tmp 68]) rfl ?_); at_builtin; refine Kd.R_append k62 (w0 := w) w.heap.size rfl (.tmp 63) (.tmp 68) 46 62 (.agg #[(.int .i64 0), (.int .i64 0), (.string ⟨#[]⟩)]) 32 rfl Try.underlying46 info62 rfl (by decide) (by omega) u6 x6_1 (⟨x8_1, x9_1, x7_1 ++ ((rd_T89 l0 (ji7)).f2)⟩ : S62) [.int .i64 x8_1, .int .i64 x9_1, .string (x7_1 ++ ((rd_T89 l0 (ji7)).f2))] (fun _ => True) (fun _ => False) rfl rfl ?aP (fun _ hk => hk.elim) ?aF ?aO ?aB ?aS ?aL ?_; (case aP => exact k62_mkM _ _ _ (⟨x8_1, x9_1, x7_1 ++ ((rd_T89 l0 (ji7)).f2)⟩ : S62)); (case aB => exact bl_); (case aF => exact (fun _ _ => trivial)); (case aO => exact (by (with_reducible repeat (first | apply Kd.R_alloc | apply Kd.R_drewN | apply Kd.R_drew)); exact HO_6.out)); (case aS => exact bsz bl_); (case aL => have := LMc29.out; omega); intro v241 w31 ho hb hg hat; rw [← Ny240.out] at ho; have n0_ := Aside0.mk (blk_grown (g := gb236) (o := .cells #[.int .i64 ((rd_T89 l0 (ji7)).f0), .int .i64 ((rd_T89 l0 (ji7)).f1), .string ((rd_T89 l0 (ji7)).f2)] 89 (0, 0)) bk_ hg (Kd.R_ne HO_6.out BK236.out (by decide))); have n1_ := Aside0.mk (hb); have n2_ := Aside0.mk (ho); clear BK236; clear HB; clear HO_6; have BK236 := n0_; have HB := n1_; have HO242 := n2_; clear n0_ n1_ n2_; clear ho hb hg hat))
      go_roundg kj9
      case measure => have := HK1.out; have := HJ9.out; omega
      case rel => exact ⟨(y240), ((⟨#[]⟩ : ByteArray)), (0), (wrap64 (x9_1 + 1)), (by first | rfl | (simp; done) | (simp [*]; done) | exact emp1_ _ | exact (emp1_ _).symm | exact emp2_ _ | exact (emp2_ _).symm), (by first | rfl | (simp; done) | (simp [*]; done) | exact emp1_ _ | exact (emp1_ _).symm | exact emp2_ _ | exact (emp2_ _).symm), (by first | rfl | (simp; done) | (simp [*]; done) | exact emp1_ _ | exact (emp1_ _).symm | exact emp2_ _ | exact (emp2_ _).symm), H', ⟨by have := HK1.out; have := HJ9.out; omega⟩, ⟨by (with_reducible repeat (first | apply Kd.R_alloc | apply Kd.R_drewN | apply Kd.R_drew)); exact HO242.out⟩, ⟨bl_⟩⟩
def wal_Cost.f (a0 : Int) : Option (Int) := some (wrap64 ((wrap64 (Int.tdiv (wrap64 ((mx a0 1) - 1)) 44)) + 1))
set_option maxHeartbeats 2000000 in
set_option maxRecDepth 100000 in
theorem wal_Cost.calls (a0 : Int) (r : Int) (w : World) (h : wal_Cost.f a0 = some r) :
    Calls Try.prog 14 #[.int .i64 a0] w fun e w' => e = .returned (.int .i64 r) ∧ Below w.heap.size w w' := by
  have HB := Aside0.mk (Below.refl w.heap.size w)
  have H : (some (wrap64 ((wrap64 (Int.tdiv (wrap64 ((mx a0 1) - 1)) 44)) + 1))) = some r := h
  clear h
  obtain ⟨ji2, hji2⟩ : ∃ j_ : Int, (mx a0 1) = j_ := ⟨_, rfl⟩
  replace H : (some (wrap64 ((wrap64 (Int.tdiv (wrap64 ((ji2) - 1)) 44)) + 1))) = some r := by first | (rw [hji2] at H; exact H) | (simp only [hji2] at H ⊢; exact H)
  (try (have hji2l : 1 ≤ ji2 := by (rw [← hji2]; unfold mx; (repeat' split) <;> omega)))
  (try (have hji2m : 0 ≤ ji2 := by omega))
  have hji2_ : (if a0 < 1 then 1 else a0) = ji2 := hji2
  obtain rfl := Option.some.inj H
  go_enter Try.func14, Try.ntmps14
  go_wp2
  go_ret
  exact ⟨by first | rfl | (simp [errW_none, errW_some] <;> rfl) | (simp only [← hji2]; first | rfl | (simp [errW_none, errW_some] <;> rfl)) | (simp [*, errW_none, errW_some] <;> rfl), bl_⟩
def wal_Area_at.f (a0_0 : Int) (a0_1 : Int) (a1 : Int) : Option (Int) := if a0_1 = 0 then (none) else (some (wrap64 (a0_0 + (Int.tmod a1 a0_1))))
set_option maxHeartbeats 2000000 in
set_option maxRecDepth 100000 in
theorem wal_Area_at.calls (a0_0 : Int) (a0_1 : Int) (a1 : Int) (r : Int) (w : World) (h : wal_Area_at.f a0_0 a0_1 a1 = some r) :
    Calls Try.prog 39 #[.agg #[.int .i64 a0_0, .int .i64 a0_1], .int .i64 a1] w fun e w' => e = .returned (.int .i64 r) ∧ Below w.heap.size w w' := by
  have hu28 := Try.underlying28
  have HB := Aside0.mk (Below.refl w.heap.size w)
  have H : (if a0_1 = 0 then (none) else (some (wrap64 (a0_0 + (Int.tmod a1 a0_1))))) = some r := h
  clear h
  by_cases c3 : a0_1 = 0
  · rw [if_pos c3] at H
    exact absurd H (by simp)
  rw [if_neg c3] at H
  have c3b0 : (a0_1 == 0) = false := beq_eq_false_iff_ne.mpr c3
  have c3b1 : (a0_1 != 0) = true := bne_iff_ne.mpr c3
  obtain rfl := Option.some.inj H
  go_enter Try.func39, Try.ntmps39
  go_wp2_with (first | ((with_reducible refine gds (N := 2) rfl ?_); refine bev ?hg (N := 2) ?hd (cs := #[.int .i64 a0_0, .int .i64 a0_1]) (t := 28) ?hr ?_; (case hd => rfl); (case hg => rfl); (case hr => first | (go_simp; done) | (go_simp; rfl)); intro gb244 hg w4 hbox hb; have n0_ := Aside0.mk (bsp bl_ hb); have n1_ := Aside0.mk (hbox); have n2_ := Aside0.mk ((by rw [hg]; exact bsz bl_ : w.heap.size ≤ gb244)); have n3_ := Aside0.mk ((by rw [hg]; exact bsz bl_ : w.heap.size ≤ gb244)); clear HB; have HB := n0_; have BK244 := n1_; have GW244 := n2_; have GE244 := n3_; clear n0_ n1_ n2_ n3_; clear hb hbox hg; have hcz5 := bc2 BK244.out))
  repeat (go_quiet (first | ((with_reducible refine gds (N := 2) rfl ?_); refine bev ?hg (N := 2) ?hd (cs := #[.int .i64 a0_0, .int .i64 a0_1]) (t := 28) ?hr ?_; (case hd => rfl); (case hg => rfl); (case hr => first | (go_simp; done) | (go_simp; rfl)); intro gb244 hg w4 hbox hb; have n0_ := Aside0.mk (bsp bl_ hb); have n1_ := Aside0.mk (hbox); have n2_ := Aside0.mk ((by rw [hg]; exact bsz bl_ : w.heap.size ≤ gb244)); have n3_ := Aside0.mk ((by rw [hg]; exact bsz bl_ : w.heap.size ≤ gb244)); clear HB; have HB := n0_; have BK244 := n1_; have GW244 := n2_; have GE244 := n3_; clear n0_ n1_ n2_ n3_; clear hb hbox hg; have hcz5_0 : w4.cell? ⟨gb244, 0, none⟩ = some (.int .i64 a0_0) := (kcl BK244.out 0).trans rfl; have hcz5_1 : w4.cell? ⟨gb244, 1, none⟩ = some (.int .i64 a0_1) := (kcl BK244.out 1).trans rfl; have hfz5_0 := kfr BK244.out 0; have hfz5_1 := kfr BK244.out 1)); try go_wp2_with (first | ((with_reducible refine gds (N := 2) rfl ?_); refine bev ?hg (N := 2) ?hd (cs := #[.int .i64 a0_0, .int .i64 a0_1]) (t := 28) ?hr ?_; (case hd => rfl); (case hg => rfl); (case hr => first | (go_simp; done) | (go_simp; rfl)); intro gb244 hg w4 hbox hb; have n0_ := Aside0.mk (bsp bl_ hb); have n1_ := Aside0.mk (hbox); have n2_ := Aside0.mk ((by rw [hg]; exact bsz bl_ : w.heap.size ≤ gb244)); have n3_ := Aside0.mk ((by rw [hg]; exact bsz bl_ : w.heap.size ≤ gb244)); clear HB; have HB := n0_; have BK244 := n1_; have GW244 := n2_; have GE244 := n3_; clear n0_ n1_ n2_ n3_; clear hb hbox hg; have hcz5 := bc2 BK244.out)))
  go_ret
  exact ⟨er_, bl_⟩
def armoirelaw05_area.f (a0 : Int) (a1 : Int) : Option (Int × Int) := some (Go.bits .and .i64 a0 7, wrap64 (2 + (Go.bits .and .i64 a1 15)))
set_option maxHeartbeats 2000000 in
set_option maxRecDepth 100000 in
theorem armoirelaw05_area.calls (a0 : Int) (a1 : Int) (r1 : Int) (r2 : Int) (w : World) (h : armoirelaw05_area.f a0 a1 = some (r1, r2)) :
    Calls Try.prog 16 #[.int .i64 a0, .int .i64 a1] w fun e w' => e = .returned (.agg #[.int .i64 r1, .int .i64 r2]) ∧ Below w.heap.size w w' := by
  have hu28 := Try.underlying28
  have HB := Aside0.mk (Below.refl w.heap.size w)
  have H : (some (Go.bits .and .i64 a0 7, wrap64 (2 + (Go.bits .and .i64 a1 15)))) = some (r1, r2) := h
  clear h
  simp only [Option.some.injEq, Prod.mk.injEq] at H
  obtain ⟨rfl, rfl⟩ := H
  go_enter Try.func16, Try.ntmps16
  go_wp2_with (first | ((with_reducible refine gds (N := 4) rfl ?_); refine bev ?hg (N := 4) ?hd (cs := #[.int .i64 0, .int .i64 0]) (t := 28) ?hr ?_; (case hd => rfl); (case hg => rfl); (case hr => first | (go_simp; done) | (go_simp; rfl)); intro gb245 hg w3 hbox hb; have n0_ := Aside0.mk (bsp bl_ hb); have n1_ := Aside0.mk (hbox); have n2_ := Aside0.mk ((by rw [hg]; exact bsz bl_ : w.heap.size ≤ gb245)); have n3_ := Aside0.mk ((by rw [hg]; exact bsz bl_ : w.heap.size ≤ gb245)); clear HB; have HB := n0_; have BK245 := n1_; have GW245 := n2_; have GE245 := n3_; clear n0_ n1_ n2_ n3_; clear hb hbox hg; have hcz4 := bc2 BK245.out))
  refine bodyPost_ret (results_cell_row rfl _ _ gb245 28 #[.int .i64 (Go.bits .and .i64 a0 7), .int .i64 (wrap64 (2 + (Go.bits .and .i64 a1 15)))] (0, 0) _ rfl bk_ Try.underlying28 rfl (by kernel_rfl)) rfl ?_
  exact ⟨er_, bl_⟩
def armoirelaw01_Cut.f (a0 : ByteArray) (a1 : Int) : Option (ByteArray) := if (a0.size : Int) > a1 then (if 0 ≤ a1 then (if a1 ≤ (a0.size : Int) then (some (a0.extract 0 (a1 : Int).toNat)) else (none)) else (none)) else (some a0)
set_option maxHeartbeats 2000000 in
set_option maxRecDepth 100000 in
theorem armoirelaw01_Cut.calls (a0 : ByteArray) (a1 : Int) (r : ByteArray) (w : World) (h : armoirelaw01_Cut.f a0 a1 = some r) :
    Calls Try.prog 17 #[.string a0, .int .i64 a1] w fun e w' => e = .returned (.string r) ∧ Drawn0 w w' := by
  have H : (if (a0.size : Int) > a1 then (if 0 ≤ a1 then (if a1 ≤ (a0.size : Int) then (some (a0.extract 0 (a1 : Int).toNat)) else (none)) else (none)) else (some a0)) = some r := h
  clear h
  by_cases c3 : (a0.size : Int) > a1
  rotate_left
  · rw [if_neg c3] at H
    have c3b0 : decide (a1 < (a0.size : Int)) = false := decide_eq_false c3
    clear c3
    obtain rfl := Option.some.inj H
    go_enter Try.func17, Try.ntmps17
    go_wp2
    go_ret
    exact ⟨by first | rfl | (simp; done) | (simp [*]; done), by repeat (first | exact Drawn0.refl _ | apply Drawn0.step)⟩
  rw [if_pos c3] at H
  have c3b0 : decide (a1 < (a0.size : Int)) = true := decide_eq_true c3
  clear c3
  by_cases c4 : 0 ≤ a1
  rotate_left
  · rw [if_neg c4] at H
    exact absurd H (by simp)
  rw [if_pos c4] at H
  have c4b0 := eq_true c4
  have c4b1 : decide (0 ≤ a1) = true := decide_eq_true c4
  clear c4
  by_cases c5 : a1 ≤ (a0.size : Int)
  rotate_left
  · rw [if_neg c5] at H
    exact absurd H (by simp)
  rw [if_pos c5] at H
  have c5b0 := eq_true c5
  have c5b1 : decide (a1 ≤ (a0.size : Int)) = true := decide_eq_true c5
  clear c5
  obtain rfl := Option.some.inj H
  go_enter Try.func17, Try.ntmps17
  go_wp2
  go_ret
  exact ⟨by first | rfl | (simp; done) | (simp [*]; done), by repeat (first | exact Drawn0.refl _ | apply Drawn0.step)⟩
def armoirelaw05_told.l0 : Nat → List (S59) → List (S62) → Int → Int → Option (Bool)
  | 0, _, _, _, _ => none
  | k + 1, x0, x1, x12, x13 => if x13 < x12 then (if 0 ≤ x13 then (if x13 < (x0.length : Int) then (if x13 < (x1.length : Int) then (if (!(((rd_T59 x0 x13).f0) == ((rd_T62 x1 x13).f0)) || (!(((rd_T59 x0 x13).f1) == ((rd_T62 x1 x13).f1)) || (!((((rd_T59 x0 x13).f2).toList) == (((rd_T62 x1 x13).f2).toList))))) = true then (some false) else (armoirelaw05_told.l0 k x0 x1 x12 (wrap64 (x13 + 1)))) else (none)) else (none)) else (none)) else (some true)
def armoirelaw05_told.f (k : Nat) (l0 : List (S59)) (l1 : List (S62)) : Option (Bool) := if (l0.length : Int) = (l1.length : Int) then (armoirelaw05_told.l0 k l0 l1 (l1.length : Int) 0) else (some false)
set_option maxHeartbeats 2000000 in
set_option maxRecDepth 100000 in
theorem armoirelaw05_told.calls (k : Nat) (A0 : Option Addr) (c0 : Nat) (l0 : List (S59)) (A1 : Option Addr) (c1 : Nat) (l1 : List (S62)) (r : Bool) (w : World) (hr0 : Kd.C k59 w A0 l0.length l0) (hc0 : l0.length ≤ c0) (hr1 : Kd.C k62 w A1 l1.length l1) (hc1 : l1.length ≤ c1) (h : armoirelaw05_told.f k l0 l1 = some r) :
    Calls Try.prog 23 #[.slice A0 l0.length c0, .slice A1 l1.length c1] w fun e w' => e = .returned (.bool r) ∧ Drawn0 w w' := by
  have hu59 := Try.underlying59
  have hu62 := Try.underlying62
  have HR0 := Aside0.mk hr0
  have HC0 := Aside0.mk hc0
  clear hr0 hc0
  have HR1 := Aside0.mk hr1
  have HC1 := Aside0.mk hc1
  clear hr1 hc1
  have H : (if (l0.length : Int) = (l1.length : Int) then (armoirelaw05_told.l0 k l0 l1 (l1.length : Int) 0) else (some false)) = some r := h
  clear h
  by_cases c3 : (l0.length : Int) = (l1.length : Int)
  rotate_left
  · rw [if_neg c3] at H
    have c3b0 : ((l0.length : Int) == (l1.length : Int)) = false := beq_eq_false_iff_ne.mpr c3
    have c3b1 : ((l0.length : Int) != (l1.length : Int)) = true := bne_iff_ne.mpr c3
    have c3b2 : (l0.length == l1.length) = false := by first | simpa using c3 | (simp at c3 ⊢; omega)
    obtain rfl := Option.some.inj H
    go_enter Try.func23, Try.ntmps23
    go_wp2
    repeat (go_quiet (fail); try go_wp2)
    go_ret
    exact ⟨by first | rfl | (simp; done) | (simp [*]; done), by repeat (first | exact Drawn0.refl _ | apply Drawn0.step)⟩
  rw [if_pos c3] at H
  have c3b0 : ((l0.length : Int) == (l1.length : Int)) = true := beq_iff_eq.mpr c3
  have c3b1 : ((l0.length : Int) != (l1.length : Int)) = false := bne_eq_false_iff_eq.mpr c3
  have c3b2 : (l0.length == l1.length) = true := by first | simpa using c3 | (simp at c3 ⊢; omega)
  clear c3
  have H' := Aside0.mk H
  clear H
  go_enter Try.func23, Try.ntmps23
  go_wp2
  repeat (go_quiet (fail); try go_wp2)
  go_loopg [13] k (fun kq v13 w' => ∃ (x13_1 : Int), v13 = .int .i64 x13_1 ∧ Aside0 (armoirelaw05_told.l0 kq l0 l1 (l1.length : Int) x13_1 = some r) ∧ Aside0 (kq ≤ k) ∧ Drawn0 w w')
  case atStart => exact ⟨(0), (by first | rfl | (simp; done) | (simp [*]; done) | exact emp1_ _ | exact (emp1_ _).symm | exact emp2_ _ | exact (emp2_ _).symm), H', ⟨Nat.le_refl _⟩, by repeat (first | exact Drawn0.refl _ | apply Drawn0.step)⟩
  clear H'
  try clear c1
  try clear c2
  try clear p2
  try clear c3
  try clear c3b0
  try clear c3b1
  try clear c3b2
  obtain ⟨x13_1, rfl, HA, HK1, ⟨m1, rfl⟩⟩ := hrel
  cases gk with
  | zero => exact absurd HA.out (by simp [armoirelaw05_told.l0])
  | succ k1 =>
    have H := HA.out
    clear HA
    simp only [armoirelaw05_told.l0] at H
    by_cases c4 : x13_1 < (l1.length : Int)
    rotate_left
    · rw [if_neg c4] at H
      have c4b0 : decide (x13_1 < (l1.length : Int)) = false := decide_eq_false c4
      clear c4
      obtain rfl := Option.some.inj H
      go_wp2
      repeat (go_quiet (fail); try go_wp2)
      go_ret
      exact ⟨by first | rfl | (simp; done) | (simp [*]; done), by repeat (first | exact Drawn0.refl _ | apply Drawn0.step)⟩
    rw [if_pos c4] at H
    have c4b0 : decide (x13_1 < (l1.length : Int)) = true := decide_eq_true c4
    clear c4
    by_cases c5 : 0 ≤ x13_1
    rotate_left
    · rw [if_neg c5] at H
      exact absurd H (by simp)
    rw [if_pos c5] at H
    have c5b0 : decide (0 ≤ x13_1) = true := decide_eq_true c5
    clear c5
    by_cases c6 : x13_1 < (l0.length : Int)
    rotate_left
    · rw [if_neg c6] at H
      exact absurd H (by simp)
    rw [if_pos c6] at H
    have c6b0 : decide (x13_1 < (l0.length : Int)) = true := decide_eq_true c6
    clear c6
    by_cases c7 : x13_1 < (l1.length : Int)
    rotate_left
    · rw [if_neg c7] at H
      exact absurd H (by simp)
    rw [if_pos c7] at H
    have c7b0 : decide (x13_1 < (l1.length : Int)) = true := decide_eq_true c7
    clear c7
    by_cases c8 : (!(((rd_T59 l0 x13_1).f0) == ((rd_T62 l1 x13_1).f0)) || (!(((rd_T59 l0 x13_1).f1) == ((rd_T62 l1 x13_1).f1)) || (!((((rd_T59 l0 x13_1).f2).toList) == (((rd_T62 l1 x13_1).f2).toList))))) = true
    · rw [if_pos c8] at H
      have c8b0 : (!(((rd_T59 l0 x13_1).f0) == ((rd_T62 l1 x13_1).f0)) || (!(((rd_T59 l0 x13_1).f1) == ((rd_T62 l1 x13_1).f1)) || (!((((rd_T59 l0 x13_1).f2).toList) == (((rd_T62 l1 x13_1).f2).toList))))) = true := c8
      clear c8
      obtain rfl := Option.some.inj H
      have p246 : 0 ≤ (x13_1 : Int) := of_decide_eq_true (by first | (with_reducible assumption) | assumption)
      have q246 : x13_1 < (l0.length : Int) := of_decide_eq_true (by first | (with_reducible assumption) | assumption)
      obtain ⟨ad246, e246, hx246_0, hx246_1, hx246_2⟩ := at_T59 HR0.out x13_1 p246 q246
      cases e246
      replace p246 := eq_true p246
      replace q246 := eq_true q246
      have p247 : 0 ≤ (x13_1 : Int) := of_decide_eq_true (by first | (with_reducible assumption) | assumption)
      have q247 : x13_1 < (l1.length : Int) := of_decide_eq_true (by first | (with_reducible assumption) | assumption)
      obtain ⟨ad247, e247, hx247_0, hx247_1, hx247_2⟩ := at_T62 HR1.out x13_1 p247 q247
      cases e247
      replace p247 := eq_true p247
      replace q247 := eq_true q247
      go_wp2
      repeat (go_quiet (fail); try go_wp2)
      go_ret
      exact ⟨by first | rfl | (simp; done) | (simp [*]; done), by repeat (first | exact Drawn0.refl _ | apply Drawn0.step)⟩
    rw [if_neg c8] at H
    have c8b0 : (!(((rd_T59 l0 x13_1).f0) == ((rd_T62 l1 x13_1).f0)) || (!(((rd_T59 l0 x13_1).f1) == ((rd_T62 l1 x13_1).f1)) || (!((((rd_T59 l0 x13_1).f2).toList) == (((rd_T62 l1 x13_1).f2).toList))))) = false := by simpa using c8
    clear c8
    have H' := Aside0.mk H
    clear H
    have p246 : 0 ≤ (x13_1 : Int) := of_decide_eq_true (by first | (with_reducible assumption) | assumption)
    have q246 : x13_1 < (l0.length : Int) := of_decide_eq_true (by first | (with_reducible assumption) | assumption)
    obtain ⟨ad246, e246, hx246_0, hx246_1, hx246_2⟩ := at_T59 HR0.out x13_1 p246 q246
    cases e246
    replace p246 := eq_true p246
    replace q246 := eq_true q246
    have p247 : 0 ≤ (x13_1 : Int) := of_decide_eq_true (by first | (with_reducible assumption) | assumption)
    have q247 : x13_1 < (l1.length : Int) := of_decide_eq_true (by first | (with_reducible assumption) | assumption)
    obtain ⟨ad247, e247, hx247_0, hx247_1, hx247_2⟩ := at_T62 HR1.out x13_1 p247 q247
    cases e247
    replace p247 := eq_true p247
    replace q247 := eq_true q247
    go_wp2
    repeat (go_quiet (fail); try go_wp2)
    go_roundg k1
    case measure => have := HK1.out; omega
    case rel => exact ⟨(wrap64 (x13_1 + 1)), (by first | rfl | (simp; done) | (simp [*]; done) | exact emp1_ _ | exact (emp1_ _).symm | exact emp2_ _ | exact (emp2_ _).symm), H', ⟨by have := HK1.out; omega⟩, by repeat (first | exact Drawn0.refl _ | apply Drawn0.step)⟩
end Go.Proofs.Ytfllpmmfjbjgoaa.PA

