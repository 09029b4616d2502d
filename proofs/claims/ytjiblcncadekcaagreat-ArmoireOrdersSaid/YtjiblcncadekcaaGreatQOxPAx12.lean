import Derived.Test.YtjiblcncadekcaaGreatQOxPAx0
import Derived.Test.YtjiblcncadekcaaGreatQOxPAx11
namespace Go.Proofs.YtjiblcncadekcaaGreat.PA
open Go.Proofs.YtjiblcncadekcaaGreat.PL
open Go.RowKit Go.Proofs.YtjiblcncadekcaaGreatW.PrintWords Go.Proofs.YtjiblcncadekcaaGreatW.PrintLast Go.Proofs.YtjiblcncadekcaaGreatW.PrintMore
attribute [local go_sem] max2_int min2_int bl_leq max_two min_two max_three min_three max_four min_four
set_option linter.unusedVariables false
set_option linter.unusedSimpArgs false
mutual
def commute_Possible.j0 : Nat → Int → Bool → Int → ByteArray → Int → Option (Bool)
  | 0, _, _, _, _, _ => none
  | k + 1, x8, x44, x373000, x373001, x373002 => if x44 = true then (if x373000 = 1 then (if x373002 = 0 then (some true) else ((commute_plain.f k x373000 x373001 x373002 (([2] : List Int))).bind fun t376 => (some t376))) else ((commute_plain.f k x373000 x373001 x373002 (([2] : List Int))).bind fun t380 => (some t380))) else (if x8 = 6 then (commute_Possible.j1 k (x8 == 6) x373000 x373001 x373002) else (if x8 = 8 then (commute_Possible.j1 k (x8 == 8) x373000 x373001 x373002) else (if x8 = 9 then (commute_Possible.j1 k (x8 == 9) x373000 x373001 x373002) else (if x8 = 10 then (commute_Possible.j1 k (x8 == 10) x373000 x373001 x373002) else (if x8 = 11 then (commute_Possible.j1 k (x8 == 11) x373000 x373001 x373002) else (commute_Possible.j1 k (x8 == 12) x373000 x373001 x373002))))))
def commute_Possible.j1 : Nat → Bool → Int → ByteArray → Int → Option (Bool)
  | 0, _, _, _, _ => none
  | k + 1, x61, x373000, x373001, x373002 => if x61 = true then ((commute_plain.f k x373000 x373001 x373002 (([1, 2] : List Int))).bind fun t384 => (some t384)) else ((commute_plain.f k x373000 x373001 x373002 (([1] : List Int))).bind fun t388 => (some t388))
end
def commute_Possible.f (k : Nat) (a0_0 : Int) (a0_1 : ByteArray) (a0_2 : ByteArray) (a0_3 : Int) (a0_4 : Int) (a0_5 : ByteArray) (a0_6 : Int) : Option (Bool) := if a0_0 = 1 then (if a0_4 = 1 then (some (a0_6 == 0)) else (some false)) else (if a0_0 = 4 then (if a0_4 = 1 then (some (a0_5.toList == ([] : List UInt8))) else (some false)) else (if a0_0 = 7 then (if a0_4 = 1 then (if a0_5.toList = ([] : List UInt8) then (some (decide (a0_6 ≥ 0))) else (some false)) else (some false)) else (if a0_0 = 13 then (commute_Possible.j0 k a0_0 (a0_0 == 13) a0_4 a0_5 a0_6) else (if a0_0 = 15 then (commute_Possible.j0 k a0_0 (a0_0 == 15) a0_4 a0_5 a0_6) else (commute_Possible.j0 k a0_0 (a0_0 == 17) a0_4 a0_5 a0_6)))))
set_option maxHeartbeats 8000000 in
set_option maxRecDepth 100000 in
theorem commute_Possible.calls (k : Nat) (a0_0 : Int) (a0_1 : ByteArray) (a0_2 : ByteArray) (a0_3 : Int) (a0_4 : Int) (a0_5 : ByteArray) (a0_6 : Int) (r : Bool) (w : World) (h : commute_Possible.f k a0_0 a0_1 a0_2 a0_3 a0_4 a0_5 a0_6 = some r) :
    Calls Tryz.prog 72 #[.agg #[.int .i64 a0_0, .string a0_1, .string a0_2, .int .i64 a0_3, .int .i64 a0_4, .string a0_5, .int .i64 a0_6]] w fun e w' => e = .returned (.bool r) ∧ Below w.heap.size w w' := by
  have hu53 := Tryz.underlying53
  have hu40 := Tryz.underlying40
  have HB := Z0.mk (Below.refl w.heap.size w)
  have H : (if a0_0 = 1 then (if a0_4 = 1 then (some (a0_6 == 0)) else (some false)) else (if a0_0 = 4 then (if a0_4 = 1 then (some (a0_5.toList == ([] : List UInt8))) else (some false)) else (if a0_0 = 7 then (if a0_4 = 1 then (if a0_5.toList = ([] : List UInt8) then (some (decide (a0_6 ≥ 0))) else (some false)) else (some false)) else (if a0_0 = 13 then (commute_Possible.j0 k a0_0 (a0_0 == 13) a0_4 a0_5 a0_6) else (if a0_0 = 15 then (commute_Possible.j0 k a0_0 (a0_0 == 15) a0_4 a0_5 a0_6) else (commute_Possible.j0 k a0_0 (a0_0 == 17) a0_4 a0_5 a0_6)))))) = some r := h
  clear h
  have HS2 := Z0.mk H
  clear H
  go_enter Tryz.func72, Tryz.ntmps72
  go_upto_if 9 with (first | ((with_reducible refine gds (N := 1) rfl ?_); (try (refine gate_guard (by rfl) ?_; dsimp only)); refine bx_ (N := 1) (cs := #[.int .i64 a0_0, .string a0_1, .string a0_2, .int .i64 a0_3, .int .i64 a0_4, .string a0_5, .int .i64 a0_6]) (t := 53) ?_; intro gb371 hg w3 hbox hb; have n0_ := Z0.mk (bsp bl_ hb); have n1_ := Z0.mk (hbox); have n2_ := Z0.mk ((by rw [hg]; exact bsz bl_ : w.heap.size ≤ gb371)); have n3_ := Z0.mk ((by rw [hg]; exact bsz bl_ : w.heap.size ≤ gb371)); clear HB; have HB := n0_; have BK371 := n1_; have GW371 := n2_; have GE371 := n3_; clear n0_ n1_ n2_ n3_; clear hb hbox hg; have hcz4 := bc7 BK371.out) | ((with_reducible refine gds (N := 3) rfl ?_); (try (refine gate_guard (by rfl) ?_; dsimp only)); refine bx_ (N := 3) (cs := #[.int .i64 0, .string (⟨#[]⟩ : ByteArray), .int .i64 0]) (t := 40) ?_; intro gb372 hg w5 hbox hb; have n0_ := Z0.mk (kbl (g := gb371) bk_ hb); have n1_ := Z0.mk (bsp bl_ hb); have n2_ := Z0.mk (hbox); have n3_ := Z0.mk ((by rw [hg]; exact bsz bl_ : w.heap.size ≤ gb372)); have n4_ := Z0.mk ((by rw [hg]; exact bsz bl_ : w.heap.size ≤ gb372)); have n5_ := Z0.mk ((by rw [hg]; exact Nat.ne_of_lt (klt_ (g := gb371) bk_) : gb371 ≠ gb372)); have n6_ := Z0.mk ((by rw [hg]; exact Nat.ne_of_gt (klt_ (g := gb371) bk_) : gb372 ≠ gb371)); clear BK371; clear HB; have BK371 := n0_; have HB := n1_; have BK372 := n2_; have GW372 := n3_; have GE372 := n4_; have NB371_372 := n5_; have NB372_371 := n6_; clear n0_ n1_ n2_ n3_ n4_ n5_ n6_; clear hb hbox hg; have hnb6 := NB372_371.out; have hnc6 := NB371_372.out; have hcz7 := bc3 BK372.out; have hcz8 := bc7 BK371.out))
  (try simp only [Act.put, List.setIfInBounds_toArray, List.set_cons_zero, List.set_cons_succ])
  have H := HS2.out
  clear HS2
  by_cases c9 : a0_0 = 1
  · rw [if_pos c9] at H
    have c9b0 : (a0_0 == 1) = true := beq_iff_eq.mpr c9
    have c9b1 : (a0_0 != 1) = false := bne_eq_false_iff_eq.mpr c9
    clear c9
    (first | rw [c9b0] | (simp only [i64_w, i32_w]; rw [c9b0]) | skip)
    by_cases c10 : a0_4 = 1
    rotate_left
    · rw [if_neg c10] at H
      have c10b0 : (a0_4 == 1) = false := beq_eq_false_iff_ne.mpr c10
      have c10b1 : (a0_4 != 1) = true := bne_iff_ne.mpr c10
      obtain rfl := Option.some.inj H
      have hnb13 := NB372_371.out
      have hnc13 := NB371_372.out
      have hcz14 := bc3 BK372.out
      go_wp2
      go_ret
      exact ⟨er_, bl_⟩
    rw [if_pos c10] at H
    have c10b0 : (a0_4 == 1) = true := beq_iff_eq.mpr c10
    have c10b1 : (a0_4 != 1) = false := bne_eq_false_iff_eq.mpr c10
    clear c10
    obtain rfl := Option.some.inj H
    have hnb11 := NB372_371.out
    have hnc11 := NB371_372.out
    have hcz12 := bc3 BK372.out
    go_wp2
    go_ret
    exact ⟨er_, bl_⟩
  rw [if_neg c9] at H
  have c9b0 : (a0_0 == 1) = false := beq_eq_false_iff_ne.mpr c9
  have c9b1 : (a0_0 != 1) = true := bne_iff_ne.mpr c9
  (first | rw [c9b0] | (simp only [i64_w, i32_w]; rw [c9b0]) | skip)
  by_cases c15 : a0_0 = 4
  · rw [if_pos c15] at H
    have c15b0 : (a0_0 == 4) = true := beq_iff_eq.mpr c15
    have c15b1 : (a0_0 != 4) = false := bne_eq_false_iff_eq.mpr c15
    clear c15
    by_cases c16 : a0_4 = 1
    rotate_left
    · rw [if_neg c16] at H
      have c16b0 : (a0_4 == 1) = false := beq_eq_false_iff_ne.mpr c16
      have c16b1 : (a0_4 != 1) = true := bne_iff_ne.mpr c16
      obtain rfl := Option.some.inj H
      have hnb19 := NB372_371.out
      have hnc19 := NB371_372.out
      have hcz20 := bc3 BK372.out
      go_wp2
      go_ret
      exact ⟨er_, bl_⟩
    rw [if_pos c16] at H
    have c16b0 : (a0_4 == 1) = true := beq_iff_eq.mpr c16
    have c16b1 : (a0_4 != 1) = false := bne_eq_false_iff_eq.mpr c16
    clear c16
    obtain rfl := Option.some.inj H
    have hnb17 := NB372_371.out
    have hnc17 := NB371_372.out
    have hcz18 := bc3 BK372.out
    go_wp2
    go_ret
    exact ⟨er_, bl_⟩
  rw [if_neg c15] at H
  have c15b0 : (a0_0 == 4) = false := beq_eq_false_iff_ne.mpr c15
  have c15b1 : (a0_0 != 4) = true := bne_iff_ne.mpr c15
  by_cases c21 : a0_0 = 7
  · rw [if_pos c21] at H
    have c21b0 : (a0_0 == 7) = true := beq_iff_eq.mpr c21
    have c21b1 : (a0_0 != 7) = false := bne_eq_false_iff_eq.mpr c21
    clear c21
    by_cases c22 : a0_4 = 1
    rotate_left
    · rw [if_neg c22] at H
      have c22b0 : (a0_4 == 1) = false := beq_eq_false_iff_ne.mpr c22
      have c22b1 : (a0_4 != 1) = true := bne_iff_ne.mpr c22
      obtain rfl := Option.some.inj H
      have hnb28 := NB372_371.out
      have hnc28 := NB371_372.out
      have hcz29 := bc3 BK372.out
      go_wp2
      go_ret
      exact ⟨er_, bl_⟩
    rw [if_pos c22] at H
    have c22b0 : (a0_4 == 1) = true := beq_iff_eq.mpr c22
    have c22b1 : (a0_4 != 1) = false := bne_eq_false_iff_eq.mpr c22
    clear c22
    by_cases c23 : a0_5.toList = ([] : List UInt8)
    rotate_left
    · rw [if_neg c23] at H
      have c23b0 : (a0_5.toList == ([] : List UInt8)) = false := beq_eq_false_iff_ne.mpr c23
      have c23b1 : (a0_5.toList != ([] : List UInt8)) = true := bne_iff_ne.mpr c23
      (try (have c23b2 : a0_5.toList.isEmpty = false := by simpa using c23))
      obtain rfl := Option.some.inj H
      have hnb26 := NB372_371.out
      have hnc26 := NB371_372.out
      have hcz27 := bc3 BK372.out
      go_wp2
      go_ret
      exact ⟨er_, bl_⟩
    rw [if_pos c23] at H
    have c23b0 : (a0_5.toList == ([] : List UInt8)) = true := beq_iff_eq.mpr c23
    have c23b1 : (a0_5.toList != ([] : List UInt8)) = false := bne_eq_false_iff_eq.mpr c23
    (try (have c23b2 : a0_5.toList.isEmpty = true := by simpa using c23))
    clear c23
    obtain rfl := Option.some.inj H
    have hnb24 := NB372_371.out
    have hnc24 := NB371_372.out
    have hcz25 := bc3 BK372.out
    go_wp2
    go_ret
    exact ⟨er_, bl_⟩
  rw [if_neg c21] at H
  have c21b0 : (a0_0 == 7) = false := beq_eq_false_iff_ne.mpr c21
  have c21b1 : (a0_0 != 7) = true := bne_iff_ne.mpr c21
  have HC30 := Z0.mk H
  clear H
  go_upto_if 44 with (fail)
  go_cut [44] (fun v44 wc => ∃ (kq : Nat) (x44_29 : Bool), v44 = .bool x44_29 ∧ Z0 (commute_Possible.j0 kq a0_0 x44_29 a0_4 a0_5 a0_6 = some r) ∧ Z0 (kq ≤ k) ∧ Z0 (wc.heap[gb371]? = some (.cells #[.int .i64 a0_0, .string a0_1, .string a0_2, .int .i64 a0_3, .int .i64 a0_4, .string a0_5, .int .i64 a0_6] 53 (0, 0))) ∧ Z0 (wc.heap[gb372]? = some (.cells #[.int .i64 a0_4, .string a0_5, .int .i64 a0_6] 40 (0, 0))) ∧ Z0 (Below w.heap.size w wc))
  case first =>
    have H := HC30.out
    clear HC30
    by_cases c31 : a0_0 = 13
    · rw [if_pos c31] at H
      have c31b0 : (a0_0 == 13) = true := beq_iff_eq.mpr c31
      have c31b1 : (a0_0 != 13) = false := bne_eq_false_iff_eq.mpr c31
      clear c31
      (first | rw [c31b0] | (simp only [i64_w, i32_w]; rw [c31b0]) | skip)
      have H' := Z0.mk H
      clear H
      go_wp2
      go_meet
      case rel => exact ⟨_, ((a0_0 == 13)), eqv_, H', ⟨by first | omega | exact Nat.le_refl _⟩, ⟨bk_⟩, ⟨bk_⟩, ⟨bl_⟩⟩
    rw [if_neg c31] at H
    have c31b0 : (a0_0 == 13) = false := beq_eq_false_iff_ne.mpr c31
    have c31b1 : (a0_0 != 13) = true := bne_iff_ne.mpr c31
    (first | rw [c31b0] | (simp only [i64_w, i32_w]; rw [c31b0]) | skip)
    by_cases c32 : a0_0 = 15
    rotate_left
    · rw [if_neg c32] at H
      have c32b0 : (a0_0 == 15) = false := beq_eq_false_iff_ne.mpr c32
      have c32b1 : (a0_0 != 15) = true := bne_iff_ne.mpr c32
      have H' := Z0.mk H
      clear H
      go_wp2
      go_meet
      case rel => exact ⟨_, ((a0_0 == 17)), eqv_, H', ⟨by first | omega | exact Nat.le_refl _⟩, ⟨bk_⟩, ⟨bk_⟩, ⟨bl_⟩⟩
    rw [if_pos c32] at H
    have c32b0 : (a0_0 == 15) = true := beq_iff_eq.mpr c32
    have c32b1 : (a0_0 != 15) = false := bne_eq_false_iff_eq.mpr c32
    clear c32
    have H' := Z0.mk H
    clear H
    go_wp2
    go_meet
    case rel => exact ⟨_, ((a0_0 == 15)), eqv_, H', ⟨by first | omega | exact Nat.le_refl _⟩, ⟨bk_⟩, ⟨bk_⟩, ⟨bl_⟩⟩
  clear HC30
  try clear c1
  try clear c2
  try clear p2
  try clear c3
  try clear c6
  try clear c7
  try clear c9
  try clear c9b0
  try clear c9b1
  try clear c10
  try clear c10b0
  try clear c10b1
  try clear c11
  try clear c13
  try clear c15
  try clear c15b0
  try clear c15b1
  try clear c16
  try clear c16b0
  try clear c16b1
  try clear c17
  try clear c19
  try clear c21
  try clear c21b0
  try clear c21b1
  try clear c22
  try clear c22b0
  try clear c22b1
  try clear c23
  try clear c23b0
  try clear c23b1
  try clear c23b2
  try clear c24
  try clear c26
  try clear c28
  try clear c31
  try clear c31b0
  try clear c31b1
  try clear c32
  try clear c32b0
  try clear c32b1
  try clear hcz12
  try clear hcz14
  try clear hcz18
  try clear hcz20
  try clear hcz25
  try clear hcz27
  try clear hcz29
  try clear hcz4
  try clear hcz7
  try clear hcz8
  try clear hcz12
  try clear hcz14
  try clear hcz18
  try clear hcz20
  try clear hcz25
  try clear hcz27
  try clear hcz29
  try clear hcz4
  try clear hcz7
  try clear hcz8
  obtain ⟨kq, x44_29, rfl, HA, HJ29, BK371, BK372, HB⟩ := hcut
  cases kq with
  | zero => exact absurd HA.out (by simp [commute_Possible.j0])
  | succ kj29 =>
    have H := HA.out
    clear HA
    simp only [commute_Possible.j0] at H
    by_cases c33 : x44_29 = true
    · subst c33
      have H1 : (if a0_4 = 1 then (if a0_6 = 0 then (some true) else ((commute_plain.f kj29 a0_4 a0_5 a0_6 (([2] : List Int))).bind fun t376 => (some t376))) else ((commute_plain.f kj29 a0_4 a0_5 a0_6 (([2] : List Int))).bind fun t380 => (some t380))) = some r := by rw [if_pos rfl] at H; exact H
      clear H
      have H := H1
      clear H1
      by_cases c34 : a0_4 = 1
      rotate_left
      · rw [if_neg c34] at H
        have c34b0 : (a0_4 == 1) = false := beq_eq_false_iff_ne.mpr c34
        have c34b1 : (a0_4 != 1) = true := bne_iff_ne.mpr c34
        obtain ⟨y377, hy377⟩ : ∃ y_ : List Int, y_ = (([2] : List Int)) := ⟨_, rfl⟩
        replace H : ((commute_plain.f kj29 a0_4 a0_5 a0_6 y377).bind fun t380 => (some t380)) = some r := by first | (rw [hy377]; with_reducible exact H) | (have H2_ := (Option.bind_some _ _).symm.trans H; rw [hy377]; with_reducible exact H2_) | (have H2_ := (Option.bind_some _ _).symm.trans H; with_reducible exact H2_) | with_reducible exact H | (rw [hy377]; exact H) | exact H
        have Ny377 := Z0.mk hy377
        clear hy377
        replace H := Option.bind_eq_some_iff.mp H
        obtain ⟨t380, A450, H⟩ := H
        replace H : (some t380) = some r := H
        have A45 := Z0.mk A450
        clear A450
        obtain rfl := Option.some.inj H
        have hnb46 := NB372_371.out
        have hnc46 := NB371_372.out
        have hcz47 := bc3 BK372.out
        go_wp2_with (first | ((with_reducible refine gds (N := 58) rfl ?_); (try (refine gate_guard (by rfl) ?_; dsimp only)); refine Kd.R_lit (Kd.int .i64) _ 3 ?hg (N := 58) ?hd (xs := ([2] : List Int)) (inner := [.int .i64 2]) (ok := fun _ => True) (okp := fun _ => True) ?hr ?hp (fun _ hk => hk) trivial (Below.refl _ _) (Nat.le_refl _) (by simp) ?_; (case hd => rfl); (case hg => rfl); (case hr => first | (go_simp; done) | (go_simp; rfl)); (case hp => exact (Reps.one (show Kd.M (Kd.int .i64) _ _ _ 2 [.int .i64 2] from rfl) (Reps.none _ _))); intro v378 w48 ho49 hb hg_ hnew_; clear hg_ hnew_; (first | rw [← Ny377.out] at ho49 | (simp only [Int.reduceToNat] at ho49; rw [← Ny377.out] at ho49)); have n0_ := Z0.mk (Kd.R_lower ho49 (bsz bl_)); have n1_ := Z0.mk (kbl (g := gb371) bk_ hb); have n2_ := Z0.mk (kbl (g := gb372) bk_ hb); have n3_ := Z0.mk (bsp bl_ hb); clear BK371; clear BK372; clear HB; have HO379 := n0_; have BK371 := n1_; have BK372 := n2_; have HB := n3_; clear n0_ n1_ n2_ n3_; clear hb ho49; obtain ⟨Ao50, co50, eo50⟩ := Kd.R_slice HO379.out; subst eo50) | (go_at_call 84; (with_reducible refine (commute_plain.calls kj29 a0_4 a0_5 a0_6 _ _ y377 t380 _ ?side1 ?side2 A45.out).mono ?_); (case side1 => repeat (first | exact (Kd.R_reads' HO379.out).2.2 | (with_reducible refine Kd.C_alloc ?_ _) | (with_reducible refine Kd.C_drewN ?_ _) | (with_reducible refine Kd.C_drew ?_))); (case side2 => exact (Kd.R_reads' HO379.out).2.1); rintro e w51 ⟨rfl, hb⟩; have n0_ := Z0.mk (Kd.R_below (by (with_reducible repeat (first | apply Kd.R_alloc | apply Kd.R_drewN | apply Kd.R_drew)); exact HO379.out) hb); have n1_ := Z0.mk (kbl (g := gb371) bk_ hb); have n2_ := Z0.mk (kbl (g := gb372) bk_ hb); have n3_ := Z0.mk (bsp bl_ hb); clear HO379; clear BK371; clear BK372; clear HB; have HO379 := n0_; have BK371 := n1_; have BK372 := n2_; have HB := n3_; clear n0_ n1_ n2_ n3_; (try clear hb); (try clear hb2); (try clear hk); (try clear hi)))
        go_ret
        exact ⟨er_, bl_⟩
      rw [if_pos c34] at H
      have c34b0 : (a0_4 == 1) = true := beq_iff_eq.mpr c34
      have c34b1 : (a0_4 != 1) = false := bne_eq_false_iff_eq.mpr c34
      clear c34
      by_cases c35 : a0_6 = 0
      · rw [if_pos c35] at H
        have c35b0 : (a0_6 == 0) = true := beq_iff_eq.mpr c35
        have c35b1 : (a0_6 != 0) = false := bne_eq_false_iff_eq.mpr c35
        clear c35
        obtain rfl := Option.some.inj H
        have hnb36 := NB372_371.out
        have hnc36 := NB371_372.out
        have hcz37 := bc3 BK372.out
        go_wp2
        go_ret
        exact ⟨er_, bl_⟩
      rw [if_neg c35] at H
      have c35b0 : (a0_6 == 0) = false := beq_eq_false_iff_ne.mpr c35
      have c35b1 : (a0_6 != 0) = true := bne_iff_ne.mpr c35
      obtain ⟨y373, hy373⟩ : ∃ y_ : List Int, y_ = (([2] : List Int)) := ⟨_, rfl⟩
      replace H : ((commute_plain.f kj29 a0_4 a0_5 a0_6 y373).bind fun t376 => (some t376)) = some r := by first | (rw [hy373]; with_reducible exact H) | (have H2_ := (Option.bind_some _ _).symm.trans H; rw [hy373]; with_reducible exact H2_) | (have H2_ := (Option.bind_some _ _).symm.trans H; with_reducible exact H2_) | with_reducible exact H | (rw [hy373]; exact H) | exact H
      have Ny373 := Z0.mk hy373
      clear hy373
      replace H := Option.bind_eq_some_iff.mp H
      obtain ⟨t376, A380, H⟩ := H
      replace H : (some t376) = some r := H
      have A38 := Z0.mk A380
      clear A380
      obtain rfl := Option.some.inj H
      have hnb39 := NB372_371.out
      have hnc39 := NB371_372.out
      have hcz40 := bc3 BK372.out
      go_wp2_with (first | ((with_reducible refine gds (N := 58) rfl ?_); (try (refine gate_guard (by rfl) ?_; dsimp only)); refine Kd.R_lit (Kd.int .i64) _ 3 ?hg (N := 58) ?hd (xs := ([2] : List Int)) (inner := [.int .i64 2]) (ok := fun _ => True) (okp := fun _ => True) ?hr ?hp (fun _ hk => hk) trivial (Below.refl _ _) (Nat.le_refl _) (by simp) ?_; (case hd => rfl); (case hg => rfl); (case hr => first | (go_simp; done) | (go_simp; rfl)); (case hp => exact (Reps.one (show Kd.M (Kd.int .i64) _ _ _ 2 [.int .i64 2] from rfl) (Reps.none _ _))); intro v374 w41 ho42 hb hg_ hnew_; clear hg_ hnew_; (first | rw [← Ny373.out] at ho42 | (simp only [Int.reduceToNat] at ho42; rw [← Ny373.out] at ho42)); have n0_ := Z0.mk (Kd.R_lower ho42 (bsz bl_)); have n1_ := Z0.mk (kbl (g := gb371) bk_ hb); have n2_ := Z0.mk (kbl (g := gb372) bk_ hb); have n3_ := Z0.mk (bsp bl_ hb); clear BK371; clear BK372; clear HB; have HO375 := n0_; have BK371 := n1_; have BK372 := n2_; have HB := n3_; clear n0_ n1_ n2_ n3_; clear hb ho42; obtain ⟨Ao43, co43, eo43⟩ := Kd.R_slice HO375.out; subst eo43) | (go_at_call 84; (with_reducible refine (commute_plain.calls kj29 a0_4 a0_5 a0_6 _ _ y373 t376 _ ?side1 ?side2 A38.out).mono ?_); (case side1 => repeat (first | exact (Kd.R_reads' HO375.out).2.2 | (with_reducible refine Kd.C_alloc ?_ _) | (with_reducible refine Kd.C_drewN ?_ _) | (with_reducible refine Kd.C_drew ?_))); (case side2 => exact (Kd.R_reads' HO375.out).2.1); rintro e w44 ⟨rfl, hb⟩; have n0_ := Z0.mk (Kd.R_below (by (with_reducible repeat (first | apply Kd.R_alloc | apply Kd.R_drewN | apply Kd.R_drew)); exact HO375.out) hb); have n1_ := Z0.mk (kbl (g := gb371) bk_ hb); have n2_ := Z0.mk (kbl (g := gb372) bk_ hb); have n3_ := Z0.mk (bsp bl_ hb); clear HO375; clear BK371; clear BK372; clear HB; have HO375 := n0_; have BK371 := n1_; have BK372 := n2_; have HB := n3_; clear n0_ n1_ n2_ n3_; (try clear hb); (try clear hb2); (try clear hk); (try clear hi)))
      go_ret
      exact ⟨er_, bl_⟩
    replace c33 := Bool.eq_false_iff.mpr c33
    subst c33
    have H1 : (if a0_0 = 6 then (commute_Possible.j1 kj29 (a0_0 == 6) a0_4 a0_5 a0_6) else (if a0_0 = 8 then (commute_Possible.j1 kj29 (a0_0 == 8) a0_4 a0_5 a0_6) else (if a0_0 = 9 then (commute_Possible.j1 kj29 (a0_0 == 9) a0_4 a0_5 a0_6) else (if a0_0 = 10 then (commute_Possible.j1 kj29 (a0_0 == 10) a0_4 a0_5 a0_6) else (if a0_0 = 11 then (commute_Possible.j1 kj29 (a0_0 == 11) a0_4 a0_5 a0_6) else (commute_Possible.j1 kj29 (a0_0 == 12) a0_4 a0_5 a0_6)))))) = some r := by rw [if_neg (show ¬ (false = true) by decide)] at H; exact H
    clear H
    have H := H1
    clear H1
    have HC52 := Z0.mk H
    clear H
    go_upto_if 61 with (fail)
    go_cut [61] (fun v61 wc => ∃ (kq : Nat) (x61_51 : Bool), v61 = .bool x61_51 ∧ Z0 (commute_Possible.j1 kq x61_51 a0_4 a0_5 a0_6 = some r) ∧ Z0 (kq ≤ kj29) ∧ Z0 (wc.heap[gb371]? = some (.cells #[.int .i64 a0_0, .string a0_1, .string a0_2, .int .i64 a0_3, .int .i64 a0_4, .string a0_5, .int .i64 a0_6] 53 (0, 0))) ∧ Z0 (wc.heap[gb372]? = some (.cells #[.int .i64 a0_4, .string a0_5, .int .i64 a0_6] 40 (0, 0))) ∧ Z0 (Below w.heap.size w wc))
    case first =>
      have H := HC52.out
      clear HC52
      by_cases c53 : a0_0 = 6
      · rw [if_pos c53] at H
        have c53b0 : (a0_0 == 6) = true := beq_iff_eq.mpr c53
        have c53b1 : (a0_0 != 6) = false := bne_eq_false_iff_eq.mpr c53
        clear c53
        (first | rw [c53b0] | (simp only [i64_w, i32_w]; rw [c53b0]) | skip)
        have H' := Z0.mk H
        clear H
        go_wp2
        go_meet
        case rel => exact ⟨_, ((a0_0 == 6)), eqv_, H', ⟨by have := HJ29.out; first | omega | exact Nat.le_refl _⟩, ⟨bk_⟩, ⟨bk_⟩, ⟨bl_⟩⟩
      rw [if_neg c53] at H
      have c53b0 : (a0_0 == 6) = false := beq_eq_false_iff_ne.mpr c53
      have c53b1 : (a0_0 != 6) = true := bne_iff_ne.mpr c53
      (first | rw [c53b0] | (simp only [i64_w, i32_w]; rw [c53b0]) | skip)
      by_cases c54 : a0_0 = 8
      · rw [if_pos c54] at H
        have c54b0 : (a0_0 == 8) = true := beq_iff_eq.mpr c54
        have c54b1 : (a0_0 != 8) = false := bne_eq_false_iff_eq.mpr c54
        clear c54
        have H' := Z0.mk H
        clear H
        go_wp2
        go_meet
        case rel => exact ⟨_, ((a0_0 == 8)), eqv_, H', ⟨by have := HJ29.out; first | omega | exact Nat.le_refl _⟩, ⟨bk_⟩, ⟨bk_⟩, ⟨bl_⟩⟩
      rw [if_neg c54] at H
      have c54b0 : (a0_0 == 8) = false := beq_eq_false_iff_ne.mpr c54
      have c54b1 : (a0_0 != 8) = true := bne_iff_ne.mpr c54
      by_cases c55 : a0_0 = 9
      · rw [if_pos c55] at H
        have c55b0 : (a0_0 == 9) = true := beq_iff_eq.mpr c55
        have c55b1 : (a0_0 != 9) = false := bne_eq_false_iff_eq.mpr c55
        clear c55
        have H' := Z0.mk H
        clear H
        go_wp2
        go_meet
        case rel => exact ⟨_, ((a0_0 == 9)), eqv_, H', ⟨by have := HJ29.out; first | omega | exact Nat.le_refl _⟩, ⟨bk_⟩, ⟨bk_⟩, ⟨bl_⟩⟩
      rw [if_neg c55] at H
      have c55b0 : (a0_0 == 9) = false := beq_eq_false_iff_ne.mpr c55
      have c55b1 : (a0_0 != 9) = true := bne_iff_ne.mpr c55
      by_cases c56 : a0_0 = 10
      · rw [if_pos c56] at H
        have c56b0 : (a0_0 == 10) = true := beq_iff_eq.mpr c56
        have c56b1 : (a0_0 != 10) = false := bne_eq_false_iff_eq.mpr c56
        clear c56
        have H' := Z0.mk H
        clear H
        go_wp2
        go_meet
        case rel => exact ⟨_, ((a0_0 == 10)), eqv_, H', ⟨by have := HJ29.out; first | omega | exact Nat.le_refl _⟩, ⟨bk_⟩, ⟨bk_⟩, ⟨bl_⟩⟩
      rw [if_neg c56] at H
      have c56b0 : (a0_0 == 10) = false := beq_eq_false_iff_ne.mpr c56
      have c56b1 : (a0_0 != 10) = true := bne_iff_ne.mpr c56
      by_cases c57 : a0_0 = 11
      rotate_left
      · rw [if_neg c57] at H
        have c57b0 : (a0_0 == 11) = false := beq_eq_false_iff_ne.mpr c57
        have c57b1 : (a0_0 != 11) = true := bne_iff_ne.mpr c57
        have H' := Z0.mk H
        clear H
        go_wp2
        go_meet
        case rel => exact ⟨_, ((a0_0 == 12)), eqv_, H', ⟨by have := HJ29.out; first | omega | exact Nat.le_refl _⟩, ⟨bk_⟩, ⟨bk_⟩, ⟨bl_⟩⟩
      rw [if_pos c57] at H
      have c57b0 : (a0_0 == 11) = true := beq_iff_eq.mpr c57
      have c57b1 : (a0_0 != 11) = false := bne_eq_false_iff_eq.mpr c57
      clear c57
      have H' := Z0.mk H
      clear H
      go_wp2
      go_meet
      case rel => exact ⟨_, ((a0_0 == 11)), eqv_, H', ⟨by have := HJ29.out; first | omega | exact Nat.le_refl _⟩, ⟨bk_⟩, ⟨bk_⟩, ⟨bl_⟩⟩
    clear HC52
    try clear c1
    try clear c2
    try clear p2
    try clear c3
    try clear c4
    try clear c5
    try clear c6
    try clear c7
    try clear c9
    try clear c9b0
    try clear c9b1
    try clear c10
    try clear c10b0
    try clear c10b1
    try clear c11
    try clear c13
    try clear c15
    try clear c15b0
    try clear c15b1
    try clear c16
    try clear c16b0
    try clear c16b1
    try clear c17
    try clear c19
    try clear c21
    try clear c21b0
    try clear c21b1
    try clear c22
    try clear c22b0
    try clear c22b1
    try clear c23
    try clear c23b0
    try clear c23b1
    try clear c23b2
    try clear c24
    try clear c26
    try clear c28
    try clear c31
    try clear c31b0
    try clear c31b1
    try clear c32
    try clear c32b0
    try clear c32b1
    try clear c33
    try clear c34
    try clear c34b0
    try clear c34b1
    try clear c35
    try clear c35b0
    try clear c35b1
    try clear c36
    try clear c39
    try clear c46
    try clear c53
    try clear c53b0
    try clear c53b1
    try clear c54
    try clear c54b0
    try clear c54b1
    try clear c55
    try clear c55b0
    try clear c55b1
    try clear c56
    try clear c56b0
    try clear c56b1
    try clear c57
    try clear c57b0
    try clear c57b1
    try clear hcz12
    try clear hcz14
    try clear hcz18
    try clear hcz20
    try clear hcz25
    try clear hcz27
    try clear hcz29
    try clear hcz37
    try clear hcz40
    try clear hcz47
    try clear hcz4
    try clear hcz7
    try clear hcz8
    try clear hcz12
    try clear hcz14
    try clear hcz18
    try clear hcz20
    try clear hcz25
    try clear hcz27
    try clear hcz29
    try clear hcz37
    try clear hcz40
    try clear hcz47
    try clear hcz4
    try clear hcz7
    try clear hcz8
    try clear p2
    obtain ⟨kq, x61_51, rfl, HA, HJ51, BK371, BK372, HB⟩ := hcut
    cases kq with
    | zero => exact absurd HA.out (by simp [commute_Possible.j1])
    | succ kj51 =>
      have H := HA.out
      clear HA
      simp only [commute_Possible.j1] at H
      by_cases c58 : x61_51 = true
      rotate_left
      · replace c58 := Bool.eq_false_iff.mpr c58
        subst c58
        have H1 : ((commute_plain.f kj51 a0_4 a0_5 a0_6 (([1] : List Int))).bind fun t388 => (some t388)) = some r := by rw [if_neg (show ¬ (false = true) by decide)] at H; exact H
        clear H
        have H := H1
        clear H1
        obtain ⟨y385, hy385⟩ : ∃ y_ : List Int, y_ = (([1] : List Int)) := ⟨_, rfl⟩
        replace H : ((commute_plain.f kj51 a0_4 a0_5 a0_6 y385).bind fun t388 => (some t388)) = some r := by first | (rw [hy385]; with_reducible exact H) | (have H2_ := (Option.bind_some _ _).symm.trans H; rw [hy385]; with_reducible exact H2_) | (have H2_ := (Option.bind_some _ _).symm.trans H; with_reducible exact H2_) | with_reducible exact H | (rw [hy385]; exact H) | exact H
        have Ny385 := Z0.mk hy385
        clear hy385
        replace H := Option.bind_eq_some_iff.mp H
        obtain ⟨t388, A660, H⟩ := H
        replace H : (some t388) = some r := H
        have A66 := Z0.mk A660
        clear A660
        obtain rfl := Option.some.inj H
        have hnb67 := NB372_371.out
        have hnc67 := NB371_372.out
        have hcz68 := bc3 BK372.out
        go_wp2_with (first | ((with_reducible refine gds (N := 72) rfl ?_); (try (refine gate_guard (by rfl) ?_; dsimp only)); refine Kd.R_lit (Kd.int .i64) _ 3 ?hg (N := 72) ?hd (xs := ([1] : List Int)) (inner := [.int .i64 1]) (ok := fun _ => True) (okp := fun _ => True) ?hr ?hp (fun _ hk => hk) trivial (Below.refl _ _) (Nat.le_refl _) (by simp) ?_; (case hd => rfl); (case hg => rfl); (case hr => first | (go_simp; done) | (go_simp; rfl)); (case hp => exact (Reps.one (show Kd.M (Kd.int .i64) _ _ _ 1 [.int .i64 1] from rfl) (Reps.none _ _))); intro v386 w69 ho70 hb hg_ hnew_; clear hg_ hnew_; (first | rw [← Ny385.out] at ho70 | (simp only [Int.reduceToNat] at ho70; rw [← Ny385.out] at ho70)); have n0_ := Z0.mk (Kd.R_lower ho70 (bsz bl_)); have n1_ := Z0.mk (kbl (g := gb371) bk_ hb); have n2_ := Z0.mk (kbl (g := gb372) bk_ hb); have n3_ := Z0.mk (bsp bl_ hb); clear BK371; clear BK372; clear HB; have HO387 := n0_; have BK371 := n1_; have BK372 := n2_; have HB := n3_; clear n0_ n1_ n2_ n3_; clear hb ho70; obtain ⟨Ao71, co71, eo71⟩ := Kd.R_slice HO387.out; subst eo71) | ((with_reducible refine gcl (f := 84) rfl ?_); refine gl_ (some 73) rfl rfl Tryz.func84 (by kernel_rfl) rfl #[.agg #[.int .i64 a0_4, .string a0_5, .int .i64 a0_6], .slice Ao71 y385.length co71] rfl ar_ ?_; (with_reducible refine (commute_plain.calls kj51 a0_4 a0_5 a0_6 _ _ y385 t388 _ ?side1 ?side2 A66.out).mono ?_); (case side1 => repeat (first | exact (Kd.R_reads' HO387.out).2.2 | (with_reducible refine Kd.C_alloc ?_ _) | (with_reducible refine Kd.C_drewN ?_ _) | (with_reducible refine Kd.C_drew ?_))); (case side2 => exact (Kd.R_reads' HO387.out).2.1); rintro e w72 ⟨rfl, hb⟩; refine ⟨_, rfl, ?_⟩; have n0_ := Z0.mk (Kd.R_below (by (with_reducible repeat (first | apply Kd.R_alloc | apply Kd.R_drewN | apply Kd.R_drew)); exact HO387.out) hb); have n1_ := Z0.mk (kbl (g := gb371) bk_ hb); have n2_ := Z0.mk (kbl (g := gb372) bk_ hb); have n3_ := Z0.mk (bsp bl_ hb); clear HO387; clear BK371; clear BK372; clear HB; have HO387 := n0_; have BK371 := n1_; have BK372 := n2_; have HB := n3_; clear n0_ n1_ n2_ n3_; (try clear hb); (try clear hb2); (try clear hk); (try clear hi)))
        go_ret
        exact ⟨er_, bl_⟩
      subst c58
      have H1 : ((commute_plain.f kj51 a0_4 a0_5 a0_6 (([1, 2] : List Int))).bind fun t384 => (some t384)) = some r := by rw [if_pos rfl] at H; exact H
      clear H
      have H := H1
      clear H1
      obtain ⟨y381, hy381⟩ : ∃ y_ : List Int, y_ = (([1, 2] : List Int)) := ⟨_, rfl⟩
      replace H : ((commute_plain.f kj51 a0_4 a0_5 a0_6 y381).bind fun t384 => (some t384)) = some r := by first | (rw [hy381]; with_reducible exact H) | (have H2_ := (Option.bind_some _ _).symm.trans H; rw [hy381]; with_reducible exact H2_) | (have H2_ := (Option.bind_some _ _).symm.trans H; with_reducible exact H2_) | with_reducible exact H | (rw [hy381]; exact H) | exact H
      have Ny381 := Z0.mk hy381
      clear hy381
      replace H := Option.bind_eq_some_iff.mp H
      obtain ⟨t384, A590, H⟩ := H
      replace H : (some t384) = some r := H
      have A59 := Z0.mk A590
      clear A590
      obtain rfl := Option.some.inj H
      have hnb60 := NB372_371.out
      have hnc60 := NB371_372.out
      have hcz61 := bc3 BK372.out
      go_wp2_with (first | ((with_reducible refine gds (N := 69) rfl ?_); (try (refine gate_guard (by rfl) ?_; dsimp only)); refine Kd.R_lit (Kd.int .i64) _ 3 ?hg (N := 69) ?hd (xs := ([1, 2] : List Int)) (inner := [.int .i64 1, .int .i64 2]) (ok := fun _ => True) (okp := fun _ => True) ?hr ?hp (fun _ hk => hk) trivial (Below.refl _ _) (Nat.le_refl _) (by simp) ?_; (case hd => rfl); (case hg => rfl); (case hr => first | (go_simp; done) | (go_simp; rfl)); (case hp => exact (Reps.one (show Kd.M (Kd.int .i64) _ _ _ 1 [.int .i64 1] from rfl) (Reps.one (show Kd.M (Kd.int .i64) _ _ _ 2 [.int .i64 2] from rfl) (Reps.none _ _)))); intro v382 w62 ho63 hb hg_ hnew_; clear hg_ hnew_; (first | rw [← Ny381.out] at ho63 | (simp only [Int.reduceToNat] at ho63; rw [← Ny381.out] at ho63)); have n0_ := Z0.mk (Kd.R_lower ho63 (bsz bl_)); have n1_ := Z0.mk (kbl (g := gb371) bk_ hb); have n2_ := Z0.mk (kbl (g := gb372) bk_ hb); have n3_ := Z0.mk (bsp bl_ hb); clear BK371; clear BK372; clear HB; have HO383 := n0_; have BK371 := n1_; have BK372 := n2_; have HB := n3_; clear n0_ n1_ n2_ n3_; clear hb ho63; obtain ⟨Ao64, co64, eo64⟩ := Kd.R_slice HO383.out; subst eo64) | ((with_reducible refine gcl (f := 84) rfl ?_); refine gl_ (some 70) rfl rfl Tryz.func84 (by kernel_rfl) rfl #[.agg #[.int .i64 a0_4, .string a0_5, .int .i64 a0_6], .slice Ao64 y381.length co64] rfl ar_ ?_; (with_reducible refine (commute_plain.calls kj51 a0_4 a0_5 a0_6 _ _ y381 t384 _ ?side1 ?side2 A59.out).mono ?_); (case side1 => repeat (first | exact (Kd.R_reads' HO383.out).2.2 | (with_reducible refine Kd.C_alloc ?_ _) | (with_reducible refine Kd.C_drewN ?_ _) | (with_reducible refine Kd.C_drew ?_))); (case side2 => exact (Kd.R_reads' HO383.out).2.1); rintro e w65 ⟨rfl, hb⟩; refine ⟨_, rfl, ?_⟩; have n0_ := Z0.mk (Kd.R_below (by (with_reducible repeat (first | apply Kd.R_alloc | apply Kd.R_drewN | apply Kd.R_drew)); exact HO383.out) hb); have n1_ := Z0.mk (kbl (g := gb371) bk_ hb); have n2_ := Z0.mk (kbl (g := gb372) bk_ hb); have n3_ := Z0.mk (bsp bl_ hb); clear HO383; clear BK371; clear BK372; clear HB; have HO383 := n0_; have BK371 := n1_; have BK372 := n2_; have HB := n3_; clear n0_ n1_ n2_ n3_; (try clear hb); (try clear hb2); (try clear hk); (try clear hi)))
      go_ret
      exact ⟨er_, bl_⟩
def commute_register.f (a0_0 : Int) (a0_1 : ByteArray) (a0_2 : ByteArray) (a0_3 : Int) (a0_4 : Int) (a0_5 : ByteArray) (a0_6 : Int) (a1_0 : Int) (a1_1 : ByteArray) (a1_2 : ByteArray) (a1_3 : Int) (a1_4 : Int) (a1_5 : ByteArray) (a1_6 : Int) : Option (Bool) := if a1_0 = 1 then (some false) else (if a0_0 = 1 then (some (a0_5.toList != a1_1.toList)) else (some (a0_1.toList != a1_1.toList)))
set_option maxHeartbeats 8000000 in
set_option maxRecDepth 100000 in
theorem commute_register.calls (a0_0 : Int) (a0_1 : ByteArray) (a0_2 : ByteArray) (a0_3 : Int) (a0_4 : Int) (a0_5 : ByteArray) (a0_6 : Int) (a1_0 : Int) (a1_1 : ByteArray) (a1_2 : ByteArray) (a1_3 : Int) (a1_4 : Int) (a1_5 : ByteArray) (a1_6 : Int) (r : Bool) (w : World) (h : commute_register.f a0_0 a0_1 a0_2 a0_3 a0_4 a0_5 a0_6 a1_0 a1_1 a1_2 a1_3 a1_4 a1_5 a1_6 = some r) :
    Calls Tryz.prog 78 #[.agg #[.int .i64 a0_0, .string a0_1, .string a0_2, .int .i64 a0_3, .int .i64 a0_4, .string a0_5, .int .i64 a0_6], .agg #[.int .i64 a1_0, .string a1_1, .string a1_2, .int .i64 a1_3, .int .i64 a1_4, .string a1_5, .int .i64 a1_6]] w fun e w' => e = .returned (.bool r) ∧ Below w.heap.size w w' := by
  have hu53 := Tryz.underlying53
  have HB := Z0.mk (Below.refl w.heap.size w)
  have H : (if a1_0 = 1 then (some false) else (if a0_0 = 1 then (some (a0_5.toList != a1_1.toList)) else (some (a0_1.toList != a1_1.toList)))) = some r := h
  clear h
  have HS3 := Z0.mk H
  clear H
  go_enter Tryz.func78, Tryz.ntmps78
  go_upto_if 5 with (first | ((with_reducible refine gds (N := 2) rfl ?_); refine bx_ (N := 2) (cs := #[.int .i64 a0_0, .string a0_1, .string a0_2, .int .i64 a0_3, .int .i64 a0_4, .string a0_5, .int .i64 a0_6]) (t := 53) ?_; intro gb389 hg w4 hbox hb; have n0_ := Z0.mk (bsp bl_ hb); have n1_ := Z0.mk (hbox); have n2_ := Z0.mk ((by rw [hg]; exact bsz bl_ : w.heap.size ≤ gb389)); have n3_ := Z0.mk ((by rw [hg]; exact bsz bl_ : w.heap.size ≤ gb389)); clear HB; have HB := n0_; have BK389 := n1_; have GW389 := n2_; have GE389 := n3_; clear n0_ n1_ n2_ n3_; clear hb hbox hg) | ((with_reducible refine gds (N := 3) rfl ?_); refine bx_ (N := 3) (cs := #[.int .i64 a1_0, .string a1_1, .string a1_2, .int .i64 a1_3, .int .i64 a1_4, .string a1_5, .int .i64 a1_6]) (t := 53) ?_; intro gb390 hg w5 hbox hb; have n0_ := Z0.mk (kbl (g := gb389) bk_ hb); have n1_ := Z0.mk (bsp bl_ hb); have n2_ := Z0.mk (hbox); have n3_ := Z0.mk ((by rw [hg]; exact bsz bl_ : w.heap.size ≤ gb390)); have n4_ := Z0.mk ((by rw [hg]; exact bsz bl_ : w.heap.size ≤ gb390)); have n5_ := Z0.mk ((by rw [hg]; exact Nat.ne_of_lt (klt_ (g := gb389) bk_) : gb389 ≠ gb390)); have n6_ := Z0.mk ((by rw [hg]; exact Nat.ne_of_gt (klt_ (g := gb389) bk_) : gb390 ≠ gb389)); clear BK389; clear HB; have BK389 := n0_; have HB := n1_; have BK390 := n2_; have GW390 := n3_; have GE390 := n4_; have NB389_390 := n5_; have NB390_389 := n6_; clear n0_ n1_ n2_ n3_ n4_ n5_ n6_; clear hb hbox hg; have hnb6 := NB390_389.out; have hnc6 := NB389_390.out; have hcz7 := bc7 BK390.out))
  (try simp only [Act.put, List.setIfInBounds_toArray, List.set_cons_zero, List.set_cons_succ])
  have H := HS3.out
  clear HS3
  by_cases c8 : a1_0 = 1
  · rw [if_pos c8] at H
    have c8b0 : (a1_0 == 1) = true := beq_iff_eq.mpr c8
    have c8b1 : (a1_0 != 1) = false := bne_eq_false_iff_eq.mpr c8
    clear c8
    (first | rw [c8b0] | (simp only [i64_w, i32_w]; rw [c8b0]) | skip)
    obtain rfl := Option.some.inj H
    go_wp2
    go_ret
    exact ⟨er_, bl_⟩
  rw [if_neg c8] at H
  have c8b0 : (a1_0 == 1) = false := beq_eq_false_iff_ne.mpr c8
  have c8b1 : (a1_0 != 1) = true := bne_iff_ne.mpr c8
  (first | rw [c8b0] | (simp only [i64_w, i32_w]; rw [c8b0]) | skip)
  by_cases c9 : a0_0 = 1
  rotate_left
  · rw [if_neg c9] at H
    have c9b0 : (a0_0 == 1) = false := beq_eq_false_iff_ne.mpr c9
    have c9b1 : (a0_0 != 1) = true := bne_iff_ne.mpr c9
    obtain rfl := Option.some.inj H
    have hnb13 := NB389_390.out
    have hnc13 := NB390_389.out
    have hcz14 := bc7 BK389.out
    have hcz15 := bc7 BK390.out
    go_wp2
    go_ret
    exact ⟨er_, bl_⟩
  rw [if_pos c9] at H
  have c9b0 : (a0_0 == 1) = true := beq_iff_eq.mpr c9
  have c9b1 : (a0_0 != 1) = false := bne_eq_false_iff_eq.mpr c9
  clear c9
  obtain rfl := Option.some.inj H
  have hnb10 := NB389_390.out
  have hnc10 := NB390_389.out
  have hcz11 := bc7 BK389.out
  have hcz12 := bc7 BK390.out
  go_wp2
  go_ret
  exact ⟨er_, bl_⟩
def commute_counter.f (a0_0 : Int) (a0_1 : ByteArray) (a0_2 : ByteArray) (a0_3 : Int) (a0_4 : Int) (a0_5 : ByteArray) (a0_6 : Int) (a1_0 : Int) (a1_1 : ByteArray) (a1_2 : ByteArray) (a1_3 : Int) (a1_4 : Int) (a1_5 : ByteArray) (a1_6 : Int) : Option (Bool) := if a0_0 = 3 then (if a1_0 = 4 then (some (a0_3 != 0)) else (some false)) else (some false)
set_option maxHeartbeats 8000000 in
set_option maxRecDepth 100000 in
theorem commute_counter.calls (a0_0 : Int) (a0_1 : ByteArray) (a0_2 : ByteArray) (a0_3 : Int) (a0_4 : Int) (a0_5 : ByteArray) (a0_6 : Int) (a1_0 : Int) (a1_1 : ByteArray) (a1_2 : ByteArray) (a1_3 : Int) (a1_4 : Int) (a1_5 : ByteArray) (a1_6 : Int) (r : Bool) (w : World) (h : commute_counter.f a0_0 a0_1 a0_2 a0_3 a0_4 a0_5 a0_6 a1_0 a1_1 a1_2 a1_3 a1_4 a1_5 a1_6 = some r) :
    Calls Tryz.prog 79 #[.agg #[.int .i64 a0_0, .string a0_1, .string a0_2, .int .i64 a0_3, .int .i64 a0_4, .string a0_5, .int .i64 a0_6], .agg #[.int .i64 a1_0, .string a1_1, .string a1_2, .int .i64 a1_3, .int .i64 a1_4, .string a1_5, .int .i64 a1_6]] w fun e w' => e = .returned (.bool r) ∧ Below w.heap.size w w' := by
  have hu53 := Tryz.underlying53
  have HB := Z0.mk (Below.refl w.heap.size w)
  have H : (if a0_0 = 3 then (if a1_0 = 4 then (some (a0_3 != 0)) else (some false)) else (some false)) = some r := h
  clear h
  by_cases c3 : a0_0 = 3
  rotate_left
  · rw [if_neg c3] at H
    have c3b0 : (a0_0 == 3) = false := beq_eq_false_iff_ne.mpr c3
    have c3b1 : (a0_0 != 3) = true := bne_iff_ne.mpr c3
    obtain rfl := Option.some.inj H
    go_enter Tryz.func79, Tryz.ntmps79
    go_wp2_with (first | ((with_reducible refine gds (N := 2) rfl ?_); refine bx_ (N := 2) (cs := #[.int .i64 a0_0, .string a0_1, .string a0_2, .int .i64 a0_3, .int .i64 a0_4, .string a0_5, .int .i64 a0_6]) (t := 53) ?_; intro gb391 hg w15 hbox hb; have n0_ := Z0.mk (bsp bl_ hb); have n1_ := Z0.mk (hbox); have n2_ := Z0.mk ((by rw [hg]; exact bsz bl_ : w.heap.size ≤ gb391)); have n3_ := Z0.mk ((by rw [hg]; exact bsz bl_ : w.heap.size ≤ gb391)); clear HB; have HB := n0_; have BK391 := n1_; have GW391 := n2_; have GE391 := n3_; clear n0_ n1_ n2_ n3_; clear hb hbox hg) | ((with_reducible refine gds (N := 3) rfl ?_); refine bx_ (N := 3) (cs := #[.int .i64 a1_0, .string a1_1, .string a1_2, .int .i64 a1_3, .int .i64 a1_4, .string a1_5, .int .i64 a1_6]) (t := 53) ?_; intro gb392 hg w16 hbox hb; have n0_ := Z0.mk (kbl (g := gb391) bk_ hb); have n1_ := Z0.mk (bsp bl_ hb); have n2_ := Z0.mk (hbox); have n3_ := Z0.mk ((by rw [hg]; exact bsz bl_ : w.heap.size ≤ gb392)); have n4_ := Z0.mk ((by rw [hg]; exact bsz bl_ : w.heap.size ≤ gb392)); have n5_ := Z0.mk ((by rw [hg]; exact Nat.ne_of_lt (klt_ (g := gb391) bk_) : gb391 ≠ gb392)); have n6_ := Z0.mk ((by rw [hg]; exact Nat.ne_of_gt (klt_ (g := gb391) bk_) : gb392 ≠ gb391)); clear BK391; clear HB; have BK391 := n0_; have HB := n1_; have BK392 := n2_; have GW392 := n3_; have GE392 := n4_; have NB391_392 := n5_; have NB392_391 := n6_; clear n0_ n1_ n2_ n3_ n4_ n5_ n6_; clear hb hbox hg; have hnb17 := NB391_392.out; have hnc17 := NB392_391.out; have hcz18 := bc7 BK391.out))
    go_ret
    exact ⟨er_, bl_⟩
  rw [if_pos c3] at H
  have c3b0 : (a0_0 == 3) = true := beq_iff_eq.mpr c3
  have c3b1 : (a0_0 != 3) = false := bne_eq_false_iff_eq.mpr c3
  clear c3
  by_cases c4 : a1_0 = 4
  · rw [if_pos c4] at H
    have c4b0 : (a1_0 == 4) = true := beq_iff_eq.mpr c4
    have c4b1 : (a1_0 != 4) = false := bne_eq_false_iff_eq.mpr c4
    clear c4
    obtain rfl := Option.some.inj H
    go_enter Tryz.func79, Tryz.ntmps79
    go_wp2_with (first | ((with_reducible refine gds (N := 2) rfl ?_); refine bx_ (N := 2) (cs := #[.int .i64 a0_0, .string a0_1, .string a0_2, .int .i64 a0_3, .int .i64 a0_4, .string a0_5, .int .i64 a0_6]) (t := 53) ?_; intro gb391 hg w5 hbox hb; have n0_ := Z0.mk (bsp bl_ hb); have n1_ := Z0.mk (hbox); have n2_ := Z0.mk ((by rw [hg]; exact bsz bl_ : w.heap.size ≤ gb391)); have n3_ := Z0.mk ((by rw [hg]; exact bsz bl_ : w.heap.size ≤ gb391)); clear HB; have HB := n0_; have BK391 := n1_; have GW391 := n2_; have GE391 := n3_; clear n0_ n1_ n2_ n3_; clear hb hbox hg) | ((with_reducible refine gds (N := 3) rfl ?_); refine bx_ (N := 3) (cs := #[.int .i64 a1_0, .string a1_1, .string a1_2, .int .i64 a1_3, .int .i64 a1_4, .string a1_5, .int .i64 a1_6]) (t := 53) ?_; intro gb392 hg w6 hbox hb; have n0_ := Z0.mk (kbl (g := gb391) bk_ hb); have n1_ := Z0.mk (bsp bl_ hb); have n2_ := Z0.mk (hbox); have n3_ := Z0.mk ((by rw [hg]; exact bsz bl_ : w.heap.size ≤ gb392)); have n4_ := Z0.mk ((by rw [hg]; exact bsz bl_ : w.heap.size ≤ gb392)); have n5_ := Z0.mk ((by rw [hg]; exact Nat.ne_of_lt (klt_ (g := gb391) bk_) : gb391 ≠ gb392)); have n6_ := Z0.mk ((by rw [hg]; exact Nat.ne_of_gt (klt_ (g := gb391) bk_) : gb392 ≠ gb391)); clear BK391; clear HB; have BK391 := n0_; have HB := n1_; have BK392 := n2_; have GW392 := n3_; have GE392 := n4_; have NB391_392 := n5_; have NB392_391 := n6_; clear n0_ n1_ n2_ n3_ n4_ n5_ n6_; clear hb hbox hg; have hnb7 := NB391_392.out; have hnc7 := NB392_391.out; have hcz8 := bc7 BK391.out; have hcz9 := bc7 BK392.out))
    go_ret
    exact ⟨er_, bl_⟩
  rw [if_neg c4] at H
  have c4b0 : (a1_0 == 4) = false := beq_eq_false_iff_ne.mpr c4
  have c4b1 : (a1_0 != 4) = true := bne_iff_ne.mpr c4
  obtain rfl := Option.some.inj H
  go_enter Tryz.func79, Tryz.ntmps79
  go_wp2_with (first | ((with_reducible refine gds (N := 2) rfl ?_); refine bx_ (N := 2) (cs := #[.int .i64 a0_0, .string a0_1, .string a0_2, .int .i64 a0_3, .int .i64 a0_4, .string a0_5, .int .i64 a0_6]) (t := 53) ?_; intro gb391 hg w10 hbox hb; have n0_ := Z0.mk (bsp bl_ hb); have n1_ := Z0.mk (hbox); have n2_ := Z0.mk ((by rw [hg]; exact bsz bl_ : w.heap.size ≤ gb391)); have n3_ := Z0.mk ((by rw [hg]; exact bsz bl_ : w.heap.size ≤ gb391)); clear HB; have HB := n0_; have BK391 := n1_; have GW391 := n2_; have GE391 := n3_; clear n0_ n1_ n2_ n3_; clear hb hbox hg) | ((with_reducible refine gds (N := 3) rfl ?_); refine bx_ (N := 3) (cs := #[.int .i64 a1_0, .string a1_1, .string a1_2, .int .i64 a1_3, .int .i64 a1_4, .string a1_5, .int .i64 a1_6]) (t := 53) ?_; intro gb392 hg w11 hbox hb; have n0_ := Z0.mk (kbl (g := gb391) bk_ hb); have n1_ := Z0.mk (bsp bl_ hb); have n2_ := Z0.mk (hbox); have n3_ := Z0.mk ((by rw [hg]; exact bsz bl_ : w.heap.size ≤ gb392)); have n4_ := Z0.mk ((by rw [hg]; exact bsz bl_ : w.heap.size ≤ gb392)); have n5_ := Z0.mk ((by rw [hg]; exact Nat.ne_of_lt (klt_ (g := gb391) bk_) : gb391 ≠ gb392)); have n6_ := Z0.mk ((by rw [hg]; exact Nat.ne_of_gt (klt_ (g := gb391) bk_) : gb392 ≠ gb391)); clear BK391; clear HB; have BK391 := n0_; have HB := n1_; have BK392 := n2_; have GW392 := n3_; have GE392 := n4_; have NB391_392 := n5_; have NB392_391 := n6_; clear n0_ n1_ n2_ n3_ n4_ n5_ n6_; clear hb hbox hg; have hnb12 := NB391_392.out; have hnc12 := NB392_391.out; have hcz13 := bc7 BK391.out; have hcz14 := bc7 BK392.out))
  go_ret
  exact ⟨er_, bl_⟩
def commute_inside.f (a0_0 : Int) (a0_1 : ByteArray) (a0_2 : ByteArray) (a0_3 : Int) (a0_4 : Int) (a0_5 : ByteArray) (a0_6 : Int) : Option (Bool) := if a0_0 = 8 then (some (a0_4 == 2)) else (if a0_0 = 11 then (some (a0_4 == 2)) else (some (a0_4 == 1)))
set_option maxHeartbeats 8000000 in
set_option maxRecDepth 100000 in
theorem commute_inside.calls (a0_0 : Int) (a0_1 : ByteArray) (a0_2 : ByteArray) (a0_3 : Int) (a0_4 : Int) (a0_5 : ByteArray) (a0_6 : Int) (r : Bool) (w : World) (h : commute_inside.f a0_0 a0_1 a0_2 a0_3 a0_4 a0_5 a0_6 = some r) :
    Calls Tryz.prog 98 #[.agg #[.int .i64 a0_0, .string a0_1, .string a0_2, .int .i64 a0_3, .int .i64 a0_4, .string a0_5, .int .i64 a0_6]] w fun e w' => e = .returned (.bool r) ∧ Below w.heap.size w w' := by
  have hu53 := Tryz.underlying53
  have HB := Z0.mk (Below.refl w.heap.size w)
  have H : (if a0_0 = 8 then (some (a0_4 == 2)) else (if a0_0 = 11 then (some (a0_4 == 2)) else (some (a0_4 == 1)))) = some r := h
  clear h
  have HS2 := Z0.mk H
  clear H
  go_enter Tryz.func98, Tryz.ntmps98
  go_upto_if 6 with (first | ((with_reducible refine gds (N := 1) rfl ?_); refine bx_ (N := 1) (cs := #[.int .i64 a0_0, .string a0_1, .string a0_2, .int .i64 a0_3, .int .i64 a0_4, .string a0_5, .int .i64 a0_6]) (t := 53) ?_; intro gb393 hg w3 hbox hb; have n0_ := Z0.mk (bsp bl_ hb); have n1_ := Z0.mk (hbox); have n2_ := Z0.mk ((by rw [hg]; exact bsz bl_ : w.heap.size ≤ gb393)); have n3_ := Z0.mk ((by rw [hg]; exact bsz bl_ : w.heap.size ≤ gb393)); clear HB; have HB := n0_; have BK393 := n1_; have GW393 := n2_; have GE393 := n3_; clear n0_ n1_ n2_ n3_; clear hb hbox hg; have hcz4 := bc7 BK393.out))
  (try simp only [Act.put, List.setIfInBounds_toArray, List.set_cons_zero, List.set_cons_succ])
  have H := HS2.out
  clear HS2
  by_cases c5 : a0_0 = 8
  · rw [if_pos c5] at H
    have c5b0 : (a0_0 == 8) = true := beq_iff_eq.mpr c5
    have c5b1 : (a0_0 != 8) = false := bne_eq_false_iff_eq.mpr c5
    clear c5
    (first | rw [c5b0] | (simp only [i64_w, i32_w]; rw [c5b0]) | skip)
    obtain rfl := Option.some.inj H
    have hcz6 := bc7 BK393.out
    go_wp2
    go_ret
    exact ⟨er_, bl_⟩
  rw [if_neg c5] at H
  have c5b0 : (a0_0 == 8) = false := beq_eq_false_iff_ne.mpr c5
  have c5b1 : (a0_0 != 8) = true := bne_iff_ne.mpr c5
  (first | rw [c5b0] | (simp only [i64_w, i32_w]; rw [c5b0]) | skip)
  by_cases c7 : a0_0 = 11
  rotate_left
  · rw [if_neg c7] at H
    have c7b0 : (a0_0 == 11) = false := beq_eq_false_iff_ne.mpr c7
    have c7b1 : (a0_0 != 11) = true := bne_iff_ne.mpr c7
    obtain rfl := Option.some.inj H
    have hcz9 := bc7 BK393.out
    go_wp2
    go_ret
    exact ⟨er_, bl_⟩
  rw [if_pos c7] at H
  have c7b0 : (a0_0 == 11) = true := beq_iff_eq.mpr c7
  have c7b1 : (a0_0 != 11) = false := bne_eq_false_iff_eq.mpr c7
  clear c7
  obtain rfl := Option.some.inj H
  have hcz8 := bc7 BK393.out
  go_wp2
  go_ret
  exact ⟨er_, bl_⟩
end Go.Proofs.YtjiblcncadekcaaGreat.PA

