import Derived.Test.YtjiblcncadekcaaQAxPAx0
import Derived.Test.YtjiblcncadekcaaQAxPAx1
import Derived.Test.YtjiblcncadekcaaQAxPAx10
import Derived.Test.YtjiblcncadekcaaQAxPAx12
namespace Go.Proofs.Ytjiblcncadekcaa.PA
open Go.Proofs.Ytjiblcncadekcaa.PL
open Go.RowKit Go.Proofs.YtjiblcncadekcaaW.PrintWords Go.Proofs.YtjiblcncadekcaaW.PrintLast Go.Proofs.YtjiblcncadekcaaW.PrintMore
attribute [local go_sem] max2_int min2_int bl_leq max_two min_two max_three min_three max_four min_four
set_option linter.unusedVariables false
set_option linter.unusedSimpArgs false
attribute [local go_sem high] eqA47
def adt_Legal.l0 : Nat → List (S47) → Int → Int → Int → ByteArray → Int → Option (Bool)
  | 0, _, _, _, _, _, _ => none
  | k + 1, x11, x12, x13, x370000, x370001, x370002 => if x13 < x12 then (if 0 ≤ x13 then (if x13 < (x11.length : Int) then (if (((rd_T47 x11 x13).f0) == x370000 && ((((rd_T47 x11 x13).f1).toList) == x370001.toList && (((rd_T47 x11 x13).f2) == x370002))) = true then (some true) else (adt_Legal.l0 k x11 x12 (wrap64 (x13 + 1)) x370000 x370001 x370002)) else (none)) else (none)) else (some false)
def adt_Legal.f (k : Nat) (a0_0 : Int) (a0_1 : Int) (l0_2 : List (S68)) (a1_0 : Int) (a1_1 : ByteArray) (a1_2 : ByteArray) (a1_3 : Int) (a2_0 : Int) (a2_1 : ByteArray) (a2_2 : Int) : Option (Bool) := (adt_Answers.f k a0_0 a0_1 l0_2 a1_0 a1_1 a1_2 a1_3).bind fun t370 => (adt_Legal.l0 k t370 (t370.length : Int) 0 a2_0 a2_1 a2_2)
set_option maxHeartbeats 8000000 in
set_option maxRecDepth 100000 in
theorem adt_Legal.calls (k : Nat) (a0_0 : Int) (a0_1 : Int) (A0_2 : Option Addr) (c0_2 : Nat) (l0_2 : List (S68)) (a1_0 : Int) (a1_1 : ByteArray) (a1_2 : ByteArray) (a1_3 : Int) (a2_0 : Int) (a2_1 : ByteArray) (a2_2 : Int) (r : Bool) (w : World) (hr0_2 : Kd.C k68 w A0_2 l0_2.length l0_2) (hc0_2 : l0_2.length ≤ c0_2) (h : adt_Legal.f k a0_0 a0_1 l0_2 a1_0 a1_1 a1_2 a1_3 a2_0 a2_1 a2_2 = some r) :
    Calls Try.prog 34 #[.agg #[.int .i64 a0_0, .int .i64 a0_1, .slice A0_2 l0_2.length c0_2], .agg #[.int .i64 a1_0, .string a1_1, .string a1_2, .int .i64 a1_3], .agg #[.int .i64 a2_0, .string a2_1, .int .i64 a2_2]] w fun e w' => e = .returned (.bool r) ∧ Below w.heap.size w w' := by
  have hu24 := Try.underlying24
  have hu41 := Try.underlying41
  have hu47 := Try.underlying47
  have HR0_2 := Aside0.mk hr0_2
  have HC0_2 := Aside0.mk hc0_2
  clear hr0_2 hc0_2
  have HB := Aside0.mk (Below.refl w.heap.size w)
  have H : ((adt_Answers.f k a0_0 a0_1 l0_2 a1_0 a1_1 a1_2 a1_3).bind fun t370 => (adt_Legal.l0 k t370 (t370.length : Int) 0 a2_0 a2_1 a2_2)) = some r := h
  clear h
  replace H := Option.bind_eq_some_iff.mp H
  obtain ⟨t370, A40, H⟩ := H
  replace H : (adt_Legal.l0 k t370 (t370.length : Int) 0 a2_0 a2_1 a2_2) = some r := H
  have A4 := Aside0.mk A40
  clear A40
  have H' := Aside0.mk H
  clear H
  go_enter Try.func34, Try.ntmps34
  go_wp2_with (first | ((with_reducible refine gds (N := 3) rfl ?_); refine bx_ (N := 3) (cs := #[.int .i64 a0_0, .int .i64 a0_1, .slice A0_2 l0_2.length c0_2]) (t := 24) ?_; intro gb367 hg w5 hbox hb; have n0_ := Aside0.mk (bsp bl_ hb); have n1_ := Aside0.mk (hbox); have n2_ := Aside0.mk ((by rw [hg]; exact bsz bl_ : w.heap.size ≤ gb367)); have n3_ := Aside0.mk ((by rw [hg]; exact bsz bl_ : w.heap.size ≤ gb367)); clear HB; have HB := n0_; have BK367 := n1_; have GW367 := n2_; have GE367 := n3_; clear n0_ n1_ n2_ n3_; clear hb hbox hg) | ((with_reducible refine gds (N := 4) rfl ?_); refine bx_ (N := 4) (cs := #[.int .i64 a1_0, .string a1_1, .string a1_2, .int .i64 a1_3]) (t := 41) ?_; intro gb368 hg w6 hbox hb; have n0_ := Aside0.mk (kbl (g := gb367) (o := .cells #[.int .i64 a0_0, .int .i64 a0_1, .slice A0_2 l0_2.length c0_2] 24 (0, 0)) bk_ hb); have n1_ := Aside0.mk (bsp bl_ hb); have n2_ := Aside0.mk (hbox); have n3_ := Aside0.mk ((by rw [hg]; exact bsz bl_ : w.heap.size ≤ gb368)); have n4_ := Aside0.mk ((by rw [hg]; exact bsz bl_ : w.heap.size ≤ gb368)); have n5_ := Aside0.mk ((by rw [hg]; exact Nat.ne_of_lt (blk_lt (g := gb367) (o := .cells #[.int .i64 a0_0, .int .i64 a0_1, .slice A0_2 l0_2.length c0_2] 24 (0, 0)) bk_) : gb367 ≠ gb368)); have n6_ := Aside0.mk ((by rw [hg]; exact Nat.ne_of_gt (blk_lt (g := gb367) (o := .cells #[.int .i64 a0_0, .int .i64 a0_1, .slice A0_2 l0_2.length c0_2] 24 (0, 0)) bk_) : gb368 ≠ gb367)); clear BK367; clear HB; have BK367 := n0_; have HB := n1_; have BK368 := n2_; have GW368 := n3_; have GE368 := n4_; have NB367_368 := n5_; have NB368_367 := n6_; clear n0_ n1_ n2_ n3_ n4_ n5_ n6_; clear hb hbox hg) | ((with_reducible refine gds (N := 5) rfl ?_); refine bx_ (N := 5) (cs := #[.int .i64 a2_0, .string a2_1, .int .i64 a2_2]) (t := 47) ?_; intro gb369 hg w7 hbox hb; have n0_ := Aside0.mk (kbl (g := gb367) (o := .cells #[.int .i64 a0_0, .int .i64 a0_1, .slice A0_2 l0_2.length c0_2] 24 (0, 0)) bk_ hb); have n1_ := Aside0.mk (kbl (g := gb368) (o := .cells #[.int .i64 a1_0, .string a1_1, .string a1_2, .int .i64 a1_3] 41 (0, 0)) bk_ hb); have n2_ := Aside0.mk (bsp bl_ hb); have n3_ := Aside0.mk (hbox); have n4_ := Aside0.mk ((by rw [hg]; exact bsz bl_ : w.heap.size ≤ gb369)); have n5_ := Aside0.mk ((by rw [hg]; exact bsz bl_ : w.heap.size ≤ gb369)); have n6_ := Aside0.mk ((by rw [hg]; exact Nat.ne_of_lt (blk_lt (g := gb367) (o := .cells #[.int .i64 a0_0, .int .i64 a0_1, .slice A0_2 l0_2.length c0_2] 24 (0, 0)) bk_) : gb367 ≠ gb369)); have n7_ := Aside0.mk ((by rw [hg]; exact Nat.ne_of_gt (blk_lt (g := gb367) (o := .cells #[.int .i64 a0_0, .int .i64 a0_1, .slice A0_2 l0_2.length c0_2] 24 (0, 0)) bk_) : gb369 ≠ gb367)); have n8_ := Aside0.mk ((by rw [hg]; exact Nat.ne_of_lt (blk_lt (g := gb368) (o := .cells #[.int .i64 a1_0, .string a1_1, .string a1_2, .int .i64 a1_3] 41 (0, 0)) bk_) : gb368 ≠ gb369)); have n9_ := Aside0.mk ((by rw [hg]; exact Nat.ne_of_gt (blk_lt (g := gb368) (o := .cells #[.int .i64 a1_0, .string a1_1, .string a1_2, .int .i64 a1_3] 41 (0, 0)) bk_) : gb369 ≠ gb368)); clear BK367; clear BK368; clear HB; have BK367 := n0_; have BK368 := n1_; have HB := n2_; have BK369 := n3_; have GW369 := n4_; have GE369 := n5_; have NB367_369 := n6_; have NB369_367 := n7_; have NB368_369 := n8_; have NB369_368 := n9_; clear n0_ n1_ n2_ n3_ n4_ n5_ n6_ n7_ n8_ n9_; clear hb hbox hg; have hnb8 := NB367_368.out; have hnc8 := NB368_367.out; have hnb9 := NB367_369.out; have hnc9 := NB369_367.out; have hcz10 := bc3 BK367.out; have hnb11 := NB368_369.out; have hnc11 := NB369_368.out; have hcz12 := bc4 BK368.out) | ((with_reducible refine gcl (f := 8) rfl ?_); refine gl_ (some 11) rfl rfl Try.func8 (by kernel_rfl) rfl #[.agg #[.int .i64 a0_0, .int .i64 a0_1, .slice A0_2 l0_2.length c0_2], .agg #[.int .i64 a1_0, .string a1_1, .string a1_2, .int .i64 a1_3]] rfl ar_ ?_; (with_reducible refine (adt_Answers.calls k a0_0 a0_1 _ _ l0_2 a1_0 a1_1 a1_2 a1_3 t370 _ ?side1 ?side2 A4.out).mono ?_); (case side1 => repeat (first | exact (Kd.C_below HR0_2.out HB.out) | (with_reducible refine Kd.C_alloc ?_ _) | (with_reducible refine Kd.C_drewN ?_ _) | (with_reducible refine Kd.C_drew ?_))); (case side2 => exact HC0_2.out); rintro e w13 ⟨v371, rfl, ho0, hb⟩; refine ⟨_, rfl, ?_⟩; have n0_ := Aside0.mk (Kd.R_lower (Kd.R_newB ho0 (g := gb369) (o := .cells #[.int .i64 a2_0, .string a2_1, .int .i64 a2_2] 47 (0, 0)) bk_) (bsz bl_)); have n1_ := Aside0.mk (kbl (g := gb367) (o := .cells #[.int .i64 a0_0, .int .i64 a0_1, .slice A0_2 l0_2.length c0_2] 24 (0, 0)) bk_ hb); have n2_ := Aside0.mk (kbl (g := gb368) (o := .cells #[.int .i64 a1_0, .string a1_1, .string a1_2, .int .i64 a1_3] 41 (0, 0)) bk_ hb); have n3_ := Aside0.mk (kbl (g := gb369) (o := .cells #[.int .i64 a2_0, .string a2_1, .int .i64 a2_2] 47 (0, 0)) bk_ hb); have n4_ := Aside0.mk (bsp bl_ hb); clear BK367; clear BK368; clear BK369; clear HB; have HO372 := n0_; have BK367 := n1_; have BK368 := n2_; have BK369 := n3_; have HB := n4_; clear n0_ n1_ n2_ n3_ n4_; (try clear hb); (try clear hb2); (try clear hk); (try clear hi); (try clear ho0); obtain ⟨Ao14, co14, eo14⟩ := Kd.R_slice HO372.out; subst eo14))
  go_loopg [13] k (fun kq v13 w' => ∃ (x13_1 : Int), v13 = .int .i64 x13_1 ∧ Aside0 (adt_Legal.l0 kq t370 (t370.length : Int) x13_1 a2_0 a2_1 a2_2 = some r) ∧ Aside0 (kq ≤ k) ∧ Aside0 (Kd.R k47 47 w' w.heap.size (fun k_ => k_ ≠ gb369) (.slice Ao14 t370.length co14) t370) ∧ Aside0 (w'.heap[gb367]? = some (.cells #[.int .i64 a0_0, .int .i64 a0_1, (.slice A0_2 l0_2.length c0_2)] 24 (0, 0))) ∧ Aside0 (w'.heap[gb368]? = some (.cells #[.int .i64 a1_0, .string a1_1, .string a1_2, .int .i64 a1_3] 41 (0, 0))) ∧ Aside0 (w'.heap[gb369]? = some (.cells #[.int .i64 a2_0, .string a2_1, .int .i64 a2_2] 47 (0, 0))) ∧ Aside0 (Below w.heap.size w w'))
  case atStart => exact ⟨(0), eqv_, H', ⟨Nat.le_refl _⟩, ⟨by (with_reducible repeat (first | apply Kd.R_alloc | apply Kd.R_drewN | apply Kd.R_drew)); exact Kd.R_mono HO372.out (fun _ hk => hk.2)⟩, ⟨bk_⟩, ⟨bk_⟩, ⟨bk_⟩, ⟨bl_⟩⟩
  clear H'
  try clear c1
  try clear p2
  try clear c3
  try clear c8
  try clear c9
  try clear c11
  try clear hcz10
  try clear hcz12
  try clear hcz10
  try clear hcz12
  obtain ⟨x13_1, rfl, HA, HK1, HO_11, BK367, BK368, BK369, HB⟩ := hrel
  cases gk with
  | zero => exact absurd HA.out (by simp [adt_Legal.l0])
  | succ k1 =>
    have H := HA.out
    clear HA
    simp only [adt_Legal.l0] at H
    by_cases c15 : x13_1 < (t370.length : Int)
    rotate_left
    · rw [if_neg c15] at H
      have c15b0 : decide (x13_1 < (t370.length : Int)) = false := decide_eq_false c15
      clear c15
      obtain rfl := Option.some.inj H
      go_wp2
      go_ret
      exact ⟨er_, bl_⟩
    rw [if_pos c15] at H
    have c15b0 : decide (x13_1 < (t370.length : Int)) = true := decide_eq_true c15
    clear c15
    by_cases c16 : 0 ≤ x13_1
    rotate_left
    · rw [if_neg c16] at H
      exact absurd H (by simp)
    rw [if_pos c16] at H
    have c16b0 : decide (0 ≤ x13_1) = true := decide_eq_true c16
    clear c16
    by_cases c17 : x13_1 < (t370.length : Int)
    rotate_left
    · rw [if_neg c17] at H
      exact absurd H (by simp)
    rw [if_pos c17] at H
    have c17b0 : decide (x13_1 < (t370.length : Int)) = true := decide_eq_true c17
    clear c17
    have HS18 := Aside0.mk H
    clear H
    have p373 : 0 ≤ (x13_1 : Int) := of_decide_eq_true (by first | (with_reducible assumption) | assumption)
    have q373 : x13_1 < (t370.length : Int) := of_decide_eq_true (by first | (with_reducible assumption) | assumption)
    obtain ⟨ad373, e373, hx373_0, hx373_1, hx373_2⟩ := at_T47 (Kd.R_reads' HO_11.out).2.2 x13_1 p373 q373
    cases e373
    replace p373 := eq_true p373
    replace q373 := eq_true q373
    go_upto_if 19 with (first | ((with_reducible refine gds (N := 8) rfl ?_); refine bx_ (N := 8) (cs := #[.int .i64 0, .string (⟨#[]⟩ : ByteArray), .int .i64 0]) (t := 47) ?_; intro gb374 hg w19 hbox hb; have n0_ := Aside0.mk (Kd.R_below (Kd.R_elderB (by (with_reducible repeat (first | apply Kd.R_alloc | apply Kd.R_drewN | apply Kd.R_drew)); exact HO_11.out) gb374 (Nat.le_of_eq hg.symm)) hb); have n1_ := Aside0.mk (kbl (g := gb367) (o := .cells #[.int .i64 a0_0, .int .i64 a0_1, .slice A0_2 l0_2.length c0_2] 24 (0, 0)) bk_ hb); have n2_ := Aside0.mk (kbl (g := gb368) (o := .cells #[.int .i64 a1_0, .string a1_1, .string a1_2, .int .i64 a1_3] 41 (0, 0)) bk_ hb); have n3_ := Aside0.mk (kbl (g := gb369) (o := .cells #[.int .i64 a2_0, .string a2_1, .int .i64 a2_2] 47 (0, 0)) bk_ hb); have n4_ := Aside0.mk (bsp bl_ hb); have n5_ := Aside0.mk (hbox); have n6_ := Aside0.mk ((by rw [hg]; exact bsz bl_ : w.heap.size ≤ gb374)); have n7_ := Aside0.mk ((by rw [hg]; exact bsz bl_ : w.heap.size ≤ gb374)); have n8_ := Aside0.mk ((by rw [hg]; exact Nat.ne_of_lt (blk_lt (g := gb367) (o := .cells #[.int .i64 a0_0, .int .i64 a0_1, .slice A0_2 l0_2.length c0_2] 24 (0, 0)) bk_) : gb367 ≠ gb374)); have n9_ := Aside0.mk ((by rw [hg]; exact Nat.ne_of_gt (blk_lt (g := gb367) (o := .cells #[.int .i64 a0_0, .int .i64 a0_1, .slice A0_2 l0_2.length c0_2] 24 (0, 0)) bk_) : gb374 ≠ gb367)); have n10_ := Aside0.mk ((by rw [hg]; exact Nat.ne_of_lt (blk_lt (g := gb368) (o := .cells #[.int .i64 a1_0, .string a1_1, .string a1_2, .int .i64 a1_3] 41 (0, 0)) bk_) : gb368 ≠ gb374)); have n11_ := Aside0.mk ((by rw [hg]; exact Nat.ne_of_gt (blk_lt (g := gb368) (o := .cells #[.int .i64 a1_0, .string a1_1, .string a1_2, .int .i64 a1_3] 41 (0, 0)) bk_) : gb374 ≠ gb368)); have n12_ := Aside0.mk ((by rw [hg]; exact Nat.ne_of_lt (blk_lt (g := gb369) (o := .cells #[.int .i64 a2_0, .string a2_1, .int .i64 a2_2] 47 (0, 0)) bk_) : gb369 ≠ gb374)); have n13_ := Aside0.mk ((by rw [hg]; exact Nat.ne_of_gt (blk_lt (g := gb369) (o := .cells #[.int .i64 a2_0, .string a2_1, .int .i64 a2_2] 47 (0, 0)) bk_) : gb374 ≠ gb369)); clear HO_11; clear BK367; clear BK368; clear BK369; clear HB; have HO_11 := n0_; have BK367 := n1_; have BK368 := n2_; have BK369 := n3_; have HB := n4_; have BK374 := n5_; have GW374 := n6_; have GE374 := n7_; have NB367_374 := n8_; have NB374_367 := n9_; have NB368_374 := n10_; have NB374_368 := n11_; have NB369_374 := n12_; have NB374_369 := n13_; clear n0_ n1_ n2_ n3_ n4_ n5_ n6_ n7_ n8_ n9_ n10_ n11_ n12_ n13_; clear hb hbox hg; have hnb20 := NB374_367.out; have hnc20 := NB367_374.out; have hnb21 := NB374_368.out; have hnc21 := NB368_374.out; have hnb22 := NB374_369.out; have hnc22 := NB369_374.out; have hcz23 := bc3 BK374.out; have hnb24 := NB369_367.out; have hnc24 := NB367_369.out; have hnb25 := NB369_368.out; have hnc25 := NB368_369.out; have hcz26 := bc3 BK369.out))
    (try simp only [Act.put, List.setIfInBounds_toArray, List.set_cons_zero, List.set_cons_succ])
    have H := HS18.out
    clear HS18
    by_cases c27 : (((rd_T47 t370 x13_1).f0) == a2_0 && ((((rd_T47 t370 x13_1).f1).toList) == a2_1.toList && (((rd_T47 t370 x13_1).f2) == a2_2))) = true
    · rw [if_pos c27] at H
      have c27b0 : (((rd_T47 t370 x13_1).f0) == a2_0 && ((((rd_T47 t370 x13_1).f1).toList) == a2_1.toList && (((rd_T47 t370 x13_1).f2) == a2_2))) = true := c27
      (try (have c27b1 : decide (((rd_T47 t370 x13_1).f0) = a2_0 && ((((rd_T47 t370 x13_1).f1).toList) == a2_1.toList && (((rd_T47 t370 x13_1).f2) == a2_2))) = true := by simpa using c27))
      (try (have c27b2 : (((rd_T47 t370 x13_1).f0) == a2_0 && ((((rd_T47 t370 x13_1).f1).toList) == a2_1.toList && (((rd_T47 t370 x13_1).f2) == a2_2))) = true := by simpa using c27))
      clear c27
      (first | rw [c27b0] | (simp only [i64_w, i32_w]; rw [c27b0]) | skip)
      obtain rfl := Option.some.inj H
      go_wp2
      go_ret
      exact ⟨er_, bl_⟩
    rw [if_neg c27] at H
    have c27b0 : (((rd_T47 t370 x13_1).f0) == a2_0 && ((((rd_T47 t370 x13_1).f1).toList) == a2_1.toList && (((rd_T47 t370 x13_1).f2) == a2_2))) = false := by simpa using c27
    (try (have c27b1 : decide (((rd_T47 t370 x13_1).f0) = a2_0 && ((((rd_T47 t370 x13_1).f1).toList) == a2_1.toList && (((rd_T47 t370 x13_1).f2) == a2_2))) = false := by simpa using c27))
    (try (have c27b2 : (((rd_T47 t370 x13_1).f0) == a2_0 && ((((rd_T47 t370 x13_1).f1).toList) == a2_1.toList && (((rd_T47 t370 x13_1).f2) == a2_2))) = false := by simpa using c27))
    (try (have c27b3 : ¬ (((rd_T47 t370 x13_1).f0) = a2_0 && ((((rd_T47 t370 x13_1).f1).toList) == a2_1.toList && (((rd_T47 t370 x13_1).f2) == a2_2))) := by simpa using c27))
    clear c27
    (first | rw [c27b0] | (simp only [i64_w, i32_w]; rw [c27b0]) | skip)
    have H' := Aside0.mk H
    clear H
    go_wp2
    go_roundg k1
    case measure => have := HK1.out; omega
    case rel => exact ⟨(wrap64 (x13_1 + 1)), eqv_, H', ⟨by have := HK1.out; omega⟩, ⟨by (with_reducible repeat (first | apply Kd.R_alloc | apply Kd.R_drewN | apply Kd.R_drew)); exact Kd.R_mono (Kd.R_far (p := ⟨gb374, 2, none⟩) (Kd.R_far (p := ⟨gb374, 1, none⟩) (Kd.R_far (p := ⟨gb374, 0, none⟩) (Kd.R_mono HO_11.out (fun k_ hk => (⟨hk, hk.2⟩ : _ ∧ k_ ≠ gb374))) (fun _ hk => hk.2) (.int .i64 ((rd_T47 t370 x13_1).f0))) (fun _ hk => hk.2) (.string ((rd_T47 t370 x13_1).f1))) (fun _ hk => hk.2) (.int .i64 ((rd_T47 t370 x13_1).f2))) (fun _ hk => hk.1.1)⟩, ⟨bk_⟩, ⟨bk_⟩, ⟨bk_⟩, ⟨bl_⟩⟩
def codec_Read.f (a0 : ByteArray) : Option (ByteArray × Int) := some (a0, 0)
set_option maxHeartbeats 8000000 in
set_option maxRecDepth 100000 in
theorem codec_Read.calls (a0 : ByteArray) (r1 : ByteArray) (r2 : Int) (w0 w : World) (hB : Below w0.heap.size w0 w) (h : codec_Read.f a0 = some (r1, r2)) :
    Calls Try.prog 35 #[.string a0] w fun e w' => ∃ g_ : Nat, e = .returned (.pointer (some ⟨g_, 0, none⟩)) ∧ IsS117 w0 w' g_ r1 r2 ∧ Below w0.heap.size w0 w' ∧ Below w.heap.size w w' := by
  have hu117 := Try.underlying117
  have HBW := Aside0.mk (Below.refl w.heap.size w)
  have HW0 := Aside0.mk hB.size
  have HB := Aside0.mk hB
  clear hB
  have H : (some (a0, 0)) = some (r1, r2) := h
  clear h
  simp only [Option.some.injEq, Prod.mk.injEq] at H
  obtain ⟨rfl, rfl⟩ := H
  go_enter Try.func35, Try.ntmps35
  go_wp2_with (first | ((with_reducible refine gds (N := 5) rfl ?_); refine bx_ (N := 5) (cs := #[.string a0, .int .i64 0]) (t := 117) ?_; intro gb380 hg w2 hbox hb; have n0_ := Aside0.mk (bsp HBW.out hb); have n1_ := Aside0.mk (bsp bl_ hb); have n2_ := Aside0.mk (hbox); have n3_ := Aside0.mk ((by rw [hg]; exact (bsz (by repeat (first | (with_reducible first | exact HBW.out | apply bal | apply bdn | apply bd1) | exact HBW.out))) : w.heap.size ≤ gb380)); have n4_ := Aside0.mk ((Nat.le_trans HW0.out (by rw [hg]; exact (bsz (by repeat (first | (with_reducible first | exact HBW.out | apply bal | apply bdn | apply bd1) | exact HBW.out))) : w.heap.size ≤ gb380) : w0.heap.size ≤ gb380)); clear HBW; clear HB; have HBW := n0_; have HB := n1_; have BK380 := n2_; have GW380 := n3_; have GE380 := n4_; clear n0_ n1_ n2_ n3_ n4_; clear hb hbox hg))
  go_ret
  exact ⟨_, rfl, (show IsS117 w0 _ gb380 a0 0 from ⟨bk_, GE380.out⟩), bl_, by repeat (first | (with_reducible first | exact HBW.out | apply bal | apply bdn | apply bd1 | refine bst ?_ GW380.out) | exact HBW.out)⟩
def codec_In_N.f (s0_0 : ByteArray) (s0_1 : Int) (a1 : Int) : Option (Int × ByteArray × Int) := (codec_In_U.f s0_0 s0_1).bind fun bt381 => (if bt381.1 > (IntKind.u64.wrap (mx a1 0)) then ((PL.codec_In_Fail.f bt381.2.1 bt381.2.2 3).bind fun bt384 => (some (0, bt384.1, bt384.2))) else (some (wrap64 (bt381.1), bt381.2.1, bt381.2.2)))
set_option maxHeartbeats 8000000 in
set_option maxRecDepth 100000 in
theorem codec_In_N.calls (g : Nat) (s0_0 : ByteArray) (s0_1 : Int) (a1 : Int) (r1 : Int) (r2 : ByteArray) (r3 : Int) (w0 w : World) (hI : IsS117 w0 w g s0_0 s0_1) (hB : Below w0.heap.size w0 w) (h : codec_In_N.f s0_0 s0_1 a1 = some (r1, r2, r3)) :
    Calls Try.prog 36 #[.pointer (some ⟨g, 0, none⟩), .int .i64 a1] w fun e w' => e = .returned (.int .i64 r1) ∧ IsS117 w0 w' g r2 r3 ∧ Below w0.heap.size w0 w' ∧ KeepBut w w' g none := by
  have HI0 := Aside0.mk hI
  have HK := Aside0.mk (KeepBut.refl w g none)
  have HL := Aside0.mk hB.size
  clear hI
  have HW0 := Aside0.mk hB.size
  have HB := Aside0.mk hB
  clear hB
  have H : ((codec_In_U.f s0_0 s0_1).bind fun bt381 => (if bt381.1 > (IntKind.u64.wrap (mx a1 0)) then ((PL.codec_In_Fail.f bt381.2.1 bt381.2.2 3).bind fun bt384 => (some (0, bt384.1, bt384.2))) else (some (wrap64 (bt381.1), bt381.2.1, bt381.2.2)))) = some (r1, r2, r3) := h
  clear h
  replace H := Option.bind_eq_some_iff.mp H
  obtain ⟨⟨t381, t382, t383⟩, A30, H⟩ := H
  replace H : (if t381 > (IntKind.u64.wrap (mx a1 0)) then ((PL.codec_In_Fail.f t382 t383 3).bind fun bt384 => (some (0, bt384.1, bt384.2))) else (some (wrap64 (t381), t382, t383))) = some (r1, r2, r3) := H
  have A3 := Aside0.mk A30
  clear A30
  obtain ⟨ji4, hji4⟩ : ∃ j_ : Int, (mx a1 0) = j_ := ⟨_, rfl⟩
  replace H : (if t381 > (IntKind.u64.wrap (ji4)) then ((PL.codec_In_Fail.f t382 t383 3).bind fun bt384 => (some (0, bt384.1, bt384.2))) else (some (wrap64 (t381), t382, t383))) = some (r1, r2, r3) := by first | (rw [hji4] at H; exact H) | (simp only [hji4] at H ⊢; exact H)
  (try rw [hji4] at A3)
  (try (have hji4l : 0 ≤ ji4 := by (rw [← hji4]; unfold mx; (repeat' split) <;> omega)))
  (try (have hji4m : 0 ≤ ji4 := by omega))
  have hji4_ : (if a1 < 0 then 0 else a1) = ji4 := hji4
  have HS5 := Aside0.mk H
  clear H
  go_enter Try.func36, Try.ntmps36
  go_upto_if 12 with (first | ((with_reducible refine gcl (f := 60) rfl ?_); refine gl_ (some 7) rfl rfl Try.func60 (by kernel_rfl) rfl #[.pointer (some ⟨g, 0, none⟩)] rfl ar_ ?_; (with_reducible refine (codec_In_U.calls g s0_0 s0_1 t381 t382 t383 w0 _ ?side1 ?side2 A3.out).mono ?_); (case side1 => repeat (first | (with_reducible first | exact HI0.out | apply IsS117.alloc | apply IsS117.drewN | apply IsS117.drew | apply IsS117.set_0 | apply IsS117.set_1) | exact HI0.out)); (case side2 => repeat (first | (with_reducible first | exact HB.out | apply bal | apply bdn | apply bd1 | refine bst ?_ (IsS117.ge HI0.out)) | exact HB.out)); rintro e w6 ⟨rfl, hi, hb, hk⟩; refine ⟨_, rfl, ?_⟩; have n0_ := Aside0.mk (KeepBut.trans (by repeat (first | (with_reducible first | exact HK.out | apply KeepBut.set_ | apply edn | apply edw | apply eal) | exact HK.out)) hk (.inl rfl)); have n1_ := Aside0.mk (hb); have n2_ := Aside0.mk (hi); clear HK; clear HB; clear HI0; have HK := n0_; have HB := n1_; have HI0 := n2_; clear n0_ n1_ n2_; (try clear hb); (try clear hb2); (try clear hk); (try clear hi)))
  (try simp only [Act.put, List.setIfInBounds_toArray, List.set_cons_zero, List.set_cons_succ])
  have H := HS5.out
  clear HS5
  by_cases c7 : t381 > (IntKind.u64.wrap (ji4))
  rotate_left
  · rw [if_neg c7] at H
    have c7b0 : decide ((IntKind.u64.wrap (ji4)) < t381) = false := decide_eq_false c7
    clear c7
    (first | rw [c7b0] | (simp only [i64_w, i32_w]; rw [c7b0]) | skip)
    simp only [Option.some.injEq, Prod.mk.injEq] at H
    obtain ⟨rfl, rfl, rfl⟩ := H
    go_wp2
    go_ret
    exact ⟨by first | rfl | (simp [errW_none, errW_some] <;> rfl) | (simp only [← hji4]; first | rfl | (simp [errW_none, errW_some] <;> rfl)) | (simp [*, errW_none, errW_some] <;> rfl), by repeat (first | (with_reducible first | exact HI0.out | apply IsS117.alloc | apply IsS117.drewN | apply IsS117.drew | apply IsS117.set_0 | apply IsS117.set_1) | exact HI0.out), by repeat (first | (with_reducible first | exact HB.out | apply bal | apply bdn | apply bd1 | refine bst ?_ (IsS117.ge HI0.out)) | exact HB.out), by repeat (first | (with_reducible first | exact HK.out | apply KeepBut.set_ | apply edn | apply edw | apply eal) | exact HK.out)⟩
  rw [if_pos c7] at H
  have c7b0 : decide ((IntKind.u64.wrap (ji4)) < t381) = true := decide_eq_true c7
  clear c7
  (first | rw [c7b0] | (simp only [i64_w, i32_w]; rw [c7b0]) | skip)
  replace H := Option.bind_eq_some_iff.mp H
  obtain ⟨⟨t384, t385⟩, A80, H⟩ := H
  replace H : (some (0, t384, t385)) = some (r1, r2, r3) := H
  have A8 := Aside0.mk A80
  clear A80
  simp only [Option.some.injEq, Prod.mk.injEq] at H
  obtain ⟨rfl, rfl, rfl⟩ := H
  go_wp2_with (first | ((with_reducible refine gcl (f := 61) rfl ?_); refine gl_ (some 14) rfl rfl Try.func61 (by kernel_rfl) rfl #[.pointer (some ⟨g, 0, none⟩), .int .i64 3] rfl ar_ ?_; (with_reducible refine (PL.codec_In_Fail.calls g t382 t383 3 t384 t385 w0 _ ?side1 ?side2 A8.out).mono ?_); (case side1 => repeat (first | (with_reducible first | exact HI0.out | apply IsS117.alloc | apply IsS117.drewN | apply IsS117.drew | apply IsS117.set_0 | apply IsS117.set_1) | exact HI0.out)); (case side2 => repeat (first | (with_reducible first | exact HB.out | apply bal | apply bdn | apply bd1 | refine bst ?_ (IsS117.ge HI0.out)) | exact HB.out)); rintro e w9 ⟨rfl, hi, hb, hk⟩; refine ⟨_, rfl, ?_⟩; have n0_ := Aside0.mk (KeepBut.trans (by repeat (first | (with_reducible first | exact HK.out | apply KeepBut.set_ | apply edn | apply edw | apply eal) | exact HK.out)) hk (.inl rfl)); have n1_ := Aside0.mk (hb); have n2_ := Aside0.mk (hi); clear HK; clear HB; clear HI0; have HK := n0_; have HB := n1_; have HI0 := n2_; clear n0_ n1_ n2_; (try clear hb); (try clear hb2); (try clear hk); (try clear hi)))
  go_ret
  exact ⟨by first | rfl | (simp [errW_none, errW_some] <;> rfl) | (simp only [← hji4]; first | rfl | (simp [errW_none, errW_some] <;> rfl)) | (simp [*, errW_none, errW_some] <;> rfl), by repeat (first | (with_reducible first | exact HI0.out | apply IsS117.alloc | apply IsS117.drewN | apply IsS117.drew | apply IsS117.set_0 | apply IsS117.set_1) | exact HI0.out), by repeat (first | (with_reducible first | exact HB.out | apply bal | apply bdn | apply bd1 | refine bst ?_ (IsS117.ge HI0.out)) | exact HB.out), by repeat (first | (with_reducible first | exact HK.out | apply KeepBut.set_ | apply edn | apply edw | apply eal) | exact HK.out)⟩
def codec_In_I.f (s0_0 : ByteArray) (s0_1 : Int) : Option (Int × ByteArray × Int) := (codec_In_U.f s0_0 s0_1).bind fun bt386 => (if (Go.bits .and .u64 bt386.1 1) = 1 then (some (wrap64 ((wrap64 (-(wrap64 (bt386.1 / 2)))) - 1), bt386.2.1, bt386.2.2)) else (some (wrap64 (bt386.1 / 2), bt386.2.1, bt386.2.2)))
set_option maxHeartbeats 8000000 in
set_option maxRecDepth 100000 in
theorem codec_In_I.calls (g : Nat) (s0_0 : ByteArray) (s0_1 : Int) (r1 : Int) (r2 : ByteArray) (r3 : Int) (w0 w : World) (hI : IsS117 w0 w g s0_0 s0_1) (hB : Below w0.heap.size w0 w) (h : codec_In_I.f s0_0 s0_1 = some (r1, r2, r3)) :
    Calls Try.prog 37 #[.pointer (some ⟨g, 0, none⟩)] w fun e w' => e = .returned (.int .i64 r1) ∧ IsS117 w0 w' g r2 r3 ∧ Below w0.heap.size w0 w' ∧ KeepBut w w' g none := by
  have HI0 := Aside0.mk hI
  have HK := Aside0.mk (KeepBut.refl w g none)
  have HL := Aside0.mk hB.size
  clear hI
  have HW0 := Aside0.mk hB.size
  have HB := Aside0.mk hB
  clear hB
  have H : ((codec_In_U.f s0_0 s0_1).bind fun bt386 => (if (Go.bits .and .u64 bt386.1 1) = 1 then (some (wrap64 ((wrap64 (-(wrap64 (bt386.1 / 2)))) - 1), bt386.2.1, bt386.2.2)) else (some (wrap64 (bt386.1 / 2), bt386.2.1, bt386.2.2)))) = some (r1, r2, r3) := h
  clear h
  replace H := Option.bind_eq_some_iff.mp H
  obtain ⟨⟨t386, t387, t388⟩, A20, H⟩ := H
  replace H : (if (Go.bits .and .u64 t386 1) = 1 then (some (wrap64 ((wrap64 (-(wrap64 (t386 / 2)))) - 1), t387, t388)) else (some (wrap64 (t386 / 2), t387, t388))) = some (r1, r2, r3) := H
  have A2 := Aside0.mk A20
  clear A20
  have HS3 := Aside0.mk H
  clear H
  go_enter Try.func37, Try.ntmps37
  go_upto_if 8 with (first | ((with_reducible refine gcl (f := 60) rfl ?_); refine gl_ (some 5) rfl rfl Try.func60 (by kernel_rfl) rfl #[.pointer (some ⟨g, 0, none⟩)] rfl ar_ ?_; (with_reducible refine (codec_In_U.calls g s0_0 s0_1 t386 t387 t388 w0 _ ?side1 ?side2 A2.out).mono ?_); (case side1 => repeat (first | (with_reducible first | exact HI0.out | apply IsS117.alloc | apply IsS117.drewN | apply IsS117.drew | apply IsS117.set_0 | apply IsS117.set_1) | exact HI0.out)); (case side2 => repeat (first | (with_reducible first | exact HB.out | apply bal | apply bdn | apply bd1 | refine bst ?_ (IsS117.ge HI0.out)) | exact HB.out)); rintro e w4 ⟨rfl, hi, hb, hk⟩; refine ⟨_, rfl, ?_⟩; have n0_ := Aside0.mk (KeepBut.trans (by repeat (first | (with_reducible first | exact HK.out | apply KeepBut.set_ | apply edn | apply edw | apply eal) | exact HK.out)) hk (.inl rfl)); have n1_ := Aside0.mk (hb); have n2_ := Aside0.mk (hi); clear HK; clear HB; clear HI0; have HK := n0_; have HB := n1_; have HI0 := n2_; clear n0_ n1_ n2_; (try clear hb); (try clear hb2); (try clear hk); (try clear hi)))
  (try simp only [Act.put, List.setIfInBounds_toArray, List.set_cons_zero, List.set_cons_succ])
  have H := HS3.out
  clear HS3
  by_cases c5 : (Go.bits .and .u64 t386 1) = 1
  rotate_left
  · rw [if_neg c5] at H
    have c5b0 : ((Go.bits .and .u64 t386 1) == 1) = false := beq_eq_false_iff_ne.mpr c5
    have c5b1 : ((Go.bits .and .u64 t386 1) != 1) = true := bne_iff_ne.mpr c5
    (first | rw [c5b0] | (simp only [i64_w, i32_w]; rw [c5b0]) | skip)
    simp only [Option.some.injEq, Prod.mk.injEq] at H
    obtain ⟨rfl, rfl, rfl⟩ := H
    go_wp2
    go_ret
    exact ⟨er_, by repeat (first | (with_reducible first | exact HI0.out | apply IsS117.alloc | apply IsS117.drewN | apply IsS117.drew | apply IsS117.set_0 | apply IsS117.set_1) | exact HI0.out), by repeat (first | (with_reducible first | exact HB.out | apply bal | apply bdn | apply bd1 | refine bst ?_ (IsS117.ge HI0.out)) | exact HB.out), by repeat (first | (with_reducible first | exact HK.out | apply KeepBut.set_ | apply edn | apply edw | apply eal) | exact HK.out)⟩
  rw [if_pos c5] at H
  have c5b0 : ((Go.bits .and .u64 t386 1) == 1) = true := beq_iff_eq.mpr c5
  have c5b1 : ((Go.bits .and .u64 t386 1) != 1) = false := bne_eq_false_iff_eq.mpr c5
  clear c5
  (first | rw [c5b0] | (simp only [i64_w, i32_w]; rw [c5b0]) | skip)
  simp only [Option.some.injEq, Prod.mk.injEq] at H
  obtain ⟨rfl, rfl, rfl⟩ := H
  go_wp2
  go_ret
  exact ⟨er_, by repeat (first | (with_reducible first | exact HI0.out | apply IsS117.alloc | apply IsS117.drewN | apply IsS117.drew | apply IsS117.set_0 | apply IsS117.set_1) | exact HI0.out), by repeat (first | (with_reducible first | exact HB.out | apply bal | apply bdn | apply bd1 | refine bst ?_ (IsS117.ge HI0.out)) | exact HB.out), by repeat (first | (with_reducible first | exact HK.out | apply KeepBut.set_ | apply edn | apply edw | apply eal) | exact HK.out)⟩
def codec_In_Err.f (s0_0 : ByteArray) (s0_1 : Int) : Option (Int × ByteArray × Int) := some (s0_1, s0_0, s0_1)
set_option maxHeartbeats 8000000 in
set_option maxRecDepth 100000 in
theorem codec_In_Err.calls (g : Nat) (s0_0 : ByteArray) (s0_1 : Int) (r1 : Int) (r2 : ByteArray) (r3 : Int) (w0 w : World) (hI : IsS117 w0 w g s0_0 s0_1) (hB : Below w0.heap.size w0 w) (h : codec_In_Err.f s0_0 s0_1 = some (r1, r2, r3)) :
    Calls Try.prog 38 #[.pointer (some ⟨g, 0, none⟩)] w fun e w' => e = .returned (.int .i64 r1) ∧ IsS117 w0 w' g r2 r3 ∧ Below w0.heap.size w0 w' ∧ KeepBut w w' g none := by
  have HI0 := Aside0.mk hI
  have HK := Aside0.mk (KeepBut.refl w g none)
  have HL := Aside0.mk hB.size
  clear hI
  have HW0 := Aside0.mk hB.size
  have HB := Aside0.mk hB
  clear hB
  have H : (some (s0_1, s0_0, s0_1)) = some (r1, r2, r3) := h
  clear h
  simp only [Option.some.injEq, Prod.mk.injEq] at H
  obtain ⟨rfl, rfl, rfl⟩ := H
  obtain ⟨HGz2, hgz2⟩ := HI0.out
  have hcz2_0 := cellS117_0 HGz2
  have hcz2_1 := cellS117_1 HGz2
  have hfz2_0 := kfr HGz2 0
  have hfz2_1 := kfr HGz2 1
  clear HGz2 hgz2
  go_enter Try.func38, Try.ntmps38
  go_wp2
  go_ret
  exact ⟨er_, by repeat (first | (with_reducible first | exact HI0.out | apply IsS117.alloc | apply IsS117.drewN | apply IsS117.drew | apply IsS117.set_0 | apply IsS117.set_1) | exact HI0.out), by repeat (first | (with_reducible first | exact HB.out | apply bal | apply bdn | apply bd1 | refine bst ?_ (IsS117.ge HI0.out)) | exact HB.out), by repeat (first | (with_reducible first | exact HK.out | apply KeepBut.set_ | apply edn | apply edw | apply eal) | exact HK.out)⟩
def codec_In_S.f (s0_0 : ByteArray) (s0_1 : Int) (a1 : Int) : Option (ByteArray × ByteArray × Int) := (codec_In_N.f s0_0 s0_1 a1).bind fun bt389 => ((PL.codec_In_take.f bt389.2.1 bt389.2.2 bt389.1).bind fun bt392 => (some (bt392.1, bt392.2.1, bt392.2.2)))
set_option maxHeartbeats 8000000 in
set_option maxRecDepth 100000 in
theorem codec_In_S.calls (g : Nat) (s0_0 : ByteArray) (s0_1 : Int) (a1 : Int) (r1 : ByteArray) (r2 : ByteArray) (r3 : Int) (w0 w : World) (hI : IsS117 w0 w g s0_0 s0_1) (hB : Below w0.heap.size w0 w) (h : codec_In_S.f s0_0 s0_1 a1 = some (r1, r2, r3)) :
    Calls Try.prog 39 #[.pointer (some ⟨g, 0, none⟩), .int .i64 a1] w fun e w' => e = .returned (.string r1) ∧ IsS117 w0 w' g r2 r3 ∧ Below w0.heap.size w0 w' ∧ KeepBut w w' g none := by
  have HI0 := Aside0.mk hI
  have HK := Aside0.mk (KeepBut.refl w g none)
  have HL := Aside0.mk hB.size
  clear hI
  have HW0 := Aside0.mk hB.size
  have HB := Aside0.mk hB
  clear hB
  have H : ((codec_In_N.f s0_0 s0_1 a1).bind fun bt389 => ((PL.codec_In_take.f bt389.2.1 bt389.2.2 bt389.1).bind fun bt392 => (some (bt392.1, bt392.2.1, bt392.2.2)))) = some (r1, r2, r3) := h
  clear h
  replace H := Option.bind_eq_some_iff.mp H
  obtain ⟨⟨t389, t390, t391⟩, A30, H⟩ := H
  replace H : ((PL.codec_In_take.f t390 t391 t389).bind fun bt392 => (some (bt392.1, bt392.2.1, bt392.2.2))) = some (r1, r2, r3) := H
  have A3 := Aside0.mk A30
  clear A30
  replace H := Option.bind_eq_some_iff.mp H
  obtain ⟨⟨t392, t393, t394⟩, A40, H⟩ := H
  replace H : (some (t392, t393, t394)) = some (r1, r2, r3) := H
  have A4 := Aside0.mk A40
  clear A40
  simp only [Option.some.injEq, Prod.mk.injEq] at H
  obtain ⟨rfl, rfl, rfl⟩ := H
  go_enter Try.func39, Try.ntmps39
  go_wp2_with (first | ((with_reducible refine gcl (f := 36) rfl ?_); refine gl_ (some 8) rfl rfl Try.func36 (by kernel_rfl) rfl #[.pointer (some ⟨g, 0, none⟩), .int .i64 a1] rfl ar_ ?_; (with_reducible refine (codec_In_N.calls g s0_0 s0_1 a1 t389 t390 t391 w0 _ ?side1 ?side2 A3.out).mono ?_); (case side1 => repeat (first | (with_reducible first | exact HI0.out | apply IsS117.alloc | apply IsS117.drewN | apply IsS117.drew | apply IsS117.set_0 | apply IsS117.set_1) | exact HI0.out)); (case side2 => repeat (first | (with_reducible first | exact HB.out | apply bal | apply bdn | apply bd1 | refine bst ?_ (IsS117.ge HI0.out)) | exact HB.out)); rintro e w5 ⟨rfl, hi, hb, hk⟩; refine ⟨_, rfl, ?_⟩; have n0_ := Aside0.mk (KeepBut.trans (by repeat (first | (with_reducible first | exact HK.out | apply KeepBut.set_ | apply edn | apply edw | apply eal) | exact HK.out)) hk (.inl rfl)); have n1_ := Aside0.mk (hb); have n2_ := Aside0.mk (hi); clear HK; clear HB; clear HI0; have HK := n0_; have HB := n1_; have HI0 := n2_; clear n0_ n1_ n2_; (try clear hb); (try clear hb2); (try clear hk); (try clear hi)) | ((with_reducible refine gcl (f := 62) rfl ?_); refine gl_ (some 9) rfl rfl Try.func62 (by kernel_rfl) rfl #[.pointer (some ⟨g, 0, none⟩), .int .i64 t389] rfl ar_ ?_; (with_reducible refine (PL.codec_In_take.calls g t390 t391 t389 t392 t393 t394 w0 _ ?side1 ?side2 A4.out).mono ?_); (case side1 => repeat (first | (with_reducible first | exact HI0.out | apply IsS117.alloc | apply IsS117.drewN | apply IsS117.drew | apply IsS117.set_0 | apply IsS117.set_1) | exact HI0.out)); (case side2 => repeat (first | (with_reducible first | exact HB.out | apply bal | apply bdn | apply bd1 | refine bst ?_ (IsS117.ge HI0.out)) | exact HB.out)); rintro e w6 ⟨rfl, hi, hb, hk⟩; refine ⟨_, rfl, ?_⟩; have n0_ := Aside0.mk (KeepBut.trans (by repeat (first | (with_reducible first | exact HK.out | apply KeepBut.set_ | apply edn | apply edw | apply eal) | exact HK.out)) hk (.inl rfl)); have n1_ := Aside0.mk (hb); have n2_ := Aside0.mk (hi); clear HK; clear HB; clear HI0; have HK := n0_; have HB := n1_; have HI0 := n2_; clear n0_ n1_ n2_; (try clear hb); (try clear hb2); (try clear hk); (try clear hi)))
  go_ret
  exact ⟨er_, by repeat (first | (with_reducible first | exact HI0.out | apply IsS117.alloc | apply IsS117.drewN | apply IsS117.drew | apply IsS117.set_0 | apply IsS117.set_1) | exact HI0.out), by repeat (first | (with_reducible first | exact HB.out | apply bal | apply bdn | apply bd1 | refine bst ?_ (IsS117.ge HI0.out)) | exact HB.out), by repeat (first | (with_reducible first | exact HK.out | apply KeepBut.set_ | apply edn | apply edw | apply eal) | exact HK.out)⟩
def codec_In_End.f (s0_0 : ByteArray) (s0_1 : Int) : Option (Int × ByteArray × Int) := if s0_0.toList = ([] : List UInt8) then (some (s0_1, s0_0, s0_1)) else ((PL.codec_In_Fail.f s0_0 s0_1 2).bind fun bt395 => (some (bt395.2, bt395.1, bt395.2)))
set_option maxHeartbeats 8000000 in
set_option maxRecDepth 100000 in
theorem codec_In_End.calls (g : Nat) (s0_0 : ByteArray) (s0_1 : Int) (r1 : Int) (r2 : ByteArray) (r3 : Int) (w0 w : World) (hI : IsS117 w0 w g s0_0 s0_1) (hB : Below w0.heap.size w0 w) (h : codec_In_End.f s0_0 s0_1 = some (r1, r2, r3)) :
    Calls Try.prog 40 #[.pointer (some ⟨g, 0, none⟩)] w fun e w' => e = .returned (.int .i64 r1) ∧ IsS117 w0 w' g r2 r3 ∧ Below w0.heap.size w0 w' ∧ KeepBut w w' g none := by
  have HI0 := Aside0.mk hI
  have HK := Aside0.mk (KeepBut.refl w g none)
  have HL := Aside0.mk hB.size
  clear hI
  have HW0 := Aside0.mk hB.size
  have HB := Aside0.mk hB
  clear hB
  have H : (if s0_0.toList = ([] : List UInt8) then (some (s0_1, s0_0, s0_1)) else ((PL.codec_In_Fail.f s0_0 s0_1 2).bind fun bt395 => (some (bt395.2, bt395.1, bt395.2)))) = some (r1, r2, r3) := h
  clear h
  by_cases c2 : s0_0.toList = ([] : List UInt8)
  · rw [if_pos c2] at H
    have c2b0 : (s0_0.toList == ([] : List UInt8)) = true := beq_iff_eq.mpr c2
    have c2b1 : (s0_0.toList != ([] : List UInt8)) = false := bne_eq_false_iff_eq.mpr c2
    (try (have c2b2 : s0_0.toList.isEmpty = true := by simpa using c2))
    clear c2
    simp only [Option.some.injEq, Prod.mk.injEq] at H
    obtain ⟨rfl, rfl, rfl⟩ := H
    obtain ⟨HGz3, hgz3⟩ := HI0.out
    have hcz3_0 := cellS117_0 HGz3
    have hcz3_1 := cellS117_1 HGz3
    have hfz3_0 := kfr HGz3 0
    have hfz3_1 := kfr HGz3 1
    clear HGz3 hgz3
    go_enter Try.func40, Try.ntmps40
    go_wp2
    go_ret
    exact ⟨er_, by repeat (first | (with_reducible first | exact HI0.out | apply IsS117.alloc | apply IsS117.drewN | apply IsS117.drew | apply IsS117.set_0 | apply IsS117.set_1) | exact HI0.out), by repeat (first | (with_reducible first | exact HB.out | apply bal | apply bdn | apply bd1 | refine bst ?_ (IsS117.ge HI0.out)) | exact HB.out), by repeat (first | (with_reducible first | exact HK.out | apply KeepBut.set_ | apply edn | apply edw | apply eal) | exact HK.out)⟩
  rw [if_neg c2] at H
  have c2b0 : (s0_0.toList == ([] : List UInt8)) = false := beq_eq_false_iff_ne.mpr c2
  have c2b1 : (s0_0.toList != ([] : List UInt8)) = true := bne_iff_ne.mpr c2
  (try (have c2b2 : s0_0.toList.isEmpty = false := by simpa using c2))
  replace H := Option.bind_eq_some_iff.mp H
  obtain ⟨⟨t395, t396⟩, A40, H⟩ := H
  replace H : (some (t396, t395, t396)) = some (r1, r2, r3) := H
  have A4 := Aside0.mk A40
  clear A40
  simp only [Option.some.injEq, Prod.mk.injEq] at H
  obtain ⟨rfl, rfl, rfl⟩ := H
  obtain ⟨HGz5, hgz5⟩ := HI0.out
  have hcz5_0 := cellS117_0 HGz5
  have hcz5_1 := cellS117_1 HGz5
  have hfz5_0 := kfr HGz5 0
  have hfz5_1 := kfr HGz5 1
  clear HGz5 hgz5
  go_enter Try.func40, Try.ntmps40
  go_wp2_with (first | ((with_reducible refine gcl (f := 61) rfl ?_); refine gl_ (some 9) rfl rfl Try.func61 (by kernel_rfl) rfl #[.pointer (some ⟨g, 0, none⟩), .int .i64 2] rfl ar_ ?_; (with_reducible refine (PL.codec_In_Fail.calls g s0_0 s0_1 2 t395 t396 w0 _ ?side1 ?side2 A4.out).mono ?_); (case side1 => repeat (first | (with_reducible first | exact HI0.out | apply IsS117.alloc | apply IsS117.drewN | apply IsS117.drew | apply IsS117.set_0 | apply IsS117.set_1) | exact HI0.out)); (case side2 => repeat (first | (with_reducible first | exact HB.out | apply bal | apply bdn | apply bd1 | refine bst ?_ (IsS117.ge HI0.out)) | exact HB.out)); rintro e w6 ⟨rfl, hi, hb, hk⟩; refine ⟨_, rfl, ?_⟩; have n0_ := Aside0.mk (KeepBut.trans (by repeat (first | (with_reducible first | exact HK.out | apply KeepBut.set_ | apply edn | apply edw | apply eal) | exact HK.out)) hk (.inl rfl)); have n1_ := Aside0.mk (hb); have n2_ := Aside0.mk (hi); clear HK; clear HB; clear HI0; have HK := n0_; have HB := n1_; have HI0 := n2_; clear n0_ n1_ n2_; (try clear hb); (try clear hb2); (try clear hk); (try clear hi); obtain ⟨HGz7, hgz7⟩ := HI0.out; have hcz7_0 := cellS117_0 HGz7; have hcz7_1 := cellS117_1 HGz7; have hfz7_0 := kfr HGz7 0; have hfz7_1 := kfr HGz7 1; clear HGz7 hgz7))
  go_ret
  exact ⟨er_, by repeat (first | (with_reducible first | exact HI0.out | apply IsS117.alloc | apply IsS117.drewN | apply IsS117.drew | apply IsS117.set_0 | apply IsS117.set_1) | exact HI0.out), by repeat (first | (with_reducible first | exact HB.out | apply bal | apply bdn | apply bd1 | refine bst ?_ (IsS117.ge HI0.out)) | exact HB.out), by repeat (first | (with_reducible first | exact HK.out | apply KeepBut.set_ | apply edn | apply edw | apply eal) | exact HK.out)⟩
mutual
def value_Parse.l0 : Nat → Int → ByteArray → Int → Int → Int → List (S68) → Option (Int × Int × (List (S68)) × Int)
  | 0, _, _, _, _, _, _ => none
  | k + 1, x6, x401000, x401001, x408000, x408001, x408002 => if x6 > 0 then ((codec_In_Err.f x401000 x401001).bind fun bt411 => (value_Parse.j1 k x6 (bt411.1 == 0) bt411.2.1 bt411.2.2 x408000 x408001 x408002)) else (value_Parse.j1 k x6 false x401000 x401001 x408000 x408001 x408002)
def value_Parse.j1 : Nat → Int → Bool → ByteArray → Int → Int → Int → List (S68) → Option (Int × Int × (List (S68)) × Int)
  | 0, _, _, _, _, _, _, _ => none
  | k + 1, x6, x24, x401000, x401001, x408000, x408001, x408002 => if x24 = true then ((codec_In_S.f x401000 x401001 24).bind fun bt414 => ((codec_In_S.f bt414.2.1 bt414.2.2 24).bind fun bt417 => (if x408002.length < 4398046511104 then (value_Parse.l0 k (wrap64 (x6 - 1)) bt417.2.1 bt417.2.2 x408000 x408001 (x408002 ++ [(⟨bt414.1, bt417.1⟩ : S68)])) else (none)))) else ((codec_In_End.f x401000 x401001).bind fun bt423 => (if bt423.1 = 0 then ((value_State_Check.f k x408000 x408001 x408002).bind fun t426 => (if t426 = 0 then (some (x408000, x408001, x408002, 0)) else (some (0, 0, ([] : List (S68)), t426)))) else (some (0, 0, ([] : List (S68)), bt423.1))))
end
def value_Parse.f (k : Nat) (a0 : ByteArray) : Option (Int × Int × (List (S68)) × Int) := (codec_Read.f a0).bind fun bt398 => ((codec_In_N.f bt398.1 bt398.2 7).bind fun bt401 => ((codec_In_I.f bt401.2.1 bt401.2.2).bind fun bt404 => ((codec_In_N.f bt404.2.1 bt404.2.2 8).bind fun bt408 => (value_Parse.l0 k bt408.1 bt408.2.1 bt408.2.2 bt401.1 bt404.1 ([] : List (S68))))))
def value_Parse.T6 : Bool × List (List Nat × List Nat) := (true, [([], []), ([0], [0]), ([], []), ([2], [2]), ([], []), ([4, 3], [4]), ([3, 5], [3, 5]), ([6], [6]), ([1, 7, 5], [1, 7]), ([0, 1, 2, 3, 4, 5, 6, 7, 8], []), ([9, 8, 8, 0, 1, 2, 3, 4, 5, 6, 7, 8], [8, 9])])
def value_Parse.B6 : List Nat := [0, 1, 0, 4, 0, 28, 60, 124, 255, 511, 1023]
theorem value_Parse.tab6 : rtab .any (opsOf Try.f14 6) = value_Parse.T6 := by kernel_rfl
theorem value_Parse.bits6 : waitsOk value_Parse.T6.2 value_Parse.B6 = true := by kernel_rfl
set_option maxHeartbeats 8000000 in
set_option maxRecDepth 100000 in
theorem value_Parse.calls (k : Nat) (a0 : ByteArray) (r1 : Int) (r2 : Int) (r3 : List (S68)) (r4 : Int) (w : World) (h : value_Parse.f k a0 = some (r1, r2, r3, r4)) :
    Calls Try.prog 14 #[.string a0] w fun e w' => ∃ v2_ : Value, e = .returned (.tuple #[.agg #[.int .i64 r1, .int .i64 r2, v2_], .int .i64 r4]) ∧ Kd.R k68 68 w' w.heap.size (fun _ => True) v2_ r3 ∧ Below w.heap.size w w' := by
  have hu24 := Try.underlying24
  have hu68 := Try.underlying68
  have HB := Aside0.mk (Below.refl w.heap.size w)
  have H : ((codec_Read.f a0).bind fun bt398 => ((codec_In_N.f bt398.1 bt398.2 7).bind fun bt401 => ((codec_In_I.f bt401.2.1 bt401.2.2).bind fun bt404 => ((codec_In_N.f bt404.2.1 bt404.2.2 8).bind fun bt408 => (value_Parse.l0 k bt408.1 bt408.2.1 bt408.2.2 bt401.1 bt404.1 ([] : List (S68))))))) = some (r1, r2, r3, r4) := h
  clear h
  replace H := Option.bind_eq_some_iff.mp H
  obtain ⟨⟨t398, t399⟩, A20, H⟩ := H
  replace H : ((codec_In_N.f t398 t399 7).bind fun bt401 => ((codec_In_I.f bt401.2.1 bt401.2.2).bind fun bt404 => ((codec_In_N.f bt404.2.1 bt404.2.2 8).bind fun bt408 => (value_Parse.l0 k bt408.1 bt408.2.1 bt408.2.2 bt401.1 bt404.1 ([] : List (S68)))))) = some (r1, r2, r3, r4) := H
  have A2 := Aside0.mk A20
  clear A20
  replace H := Option.bind_eq_some_iff.mp H
  obtain ⟨⟨t401, t402, t403⟩, A30, H⟩ := H
  replace H : ((codec_In_I.f t402 t403).bind fun bt404 => ((codec_In_N.f bt404.2.1 bt404.2.2 8).bind fun bt408 => (value_Parse.l0 k bt408.1 bt408.2.1 bt408.2.2 t401 bt404.1 ([] : List (S68))))) = some (r1, r2, r3, r4) := H
  have A3 := Aside0.mk A30
  clear A30
  replace H := Option.bind_eq_some_iff.mp H
  obtain ⟨⟨t404, t405, t406⟩, A40, H⟩ := H
  replace H : ((codec_In_N.f t405 t406 8).bind fun bt408 => (value_Parse.l0 k bt408.1 bt408.2.1 bt408.2.2 t401 t404 ([] : List (S68)))) = some (r1, r2, r3, r4) := H
  have A4 := Aside0.mk A40
  clear A40
  replace H := Option.bind_eq_some_iff.mp H
  obtain ⟨⟨t408, t409, t410⟩, A50, H⟩ := H
  replace H : (value_Parse.l0 k t408 t409 t410 t401 t404 ([] : List (S68))) = some (r1, r2, r3, r4) := H
  have A5 := Aside0.mk A50
  clear A50
  have H' := Aside0.mk H
  clear H
  go_enter Try.func14, Try.ntmps14
  go_wp2_with (first | ((with_reducible refine gds (N := 2) rfl ?_); refine bx_ (N := 2) (cs := #[.int .i64 0, .int .i64 0, .slice none 0 0]) (t := 24) ?_; intro gb397 hg w6 hbox hb; have n0_ := Aside0.mk (bsp bl_ hb); have n1_ := Aside0.mk (hbox); have n2_ := Aside0.mk ((by rw [hg]; exact bsz bl_ : w.heap.size ≤ gb397)); have n3_ := Aside0.mk ((by rw [hg]; exact bsz bl_ : w.heap.size ≤ gb397)); clear HB; have HB := n0_; have BK397 := n1_; have GW397 := n2_; have GE397 := n3_; clear n0_ n1_ n2_ n3_; clear hb hbox hg) | ((with_reducible refine gcl (f := 35) rfl ?_); refine gl_ (some 10) rfl rfl Try.func35 (by kernel_rfl) rfl #[.string a0] rfl ar_ ?_; (with_reducible refine (codec_Read.calls a0 t398 t399 w _ ?side1 A2.out).mono ?_); (case side1 => repeat (first | (with_reducible first | exact HB.out | apply bal | apply bdn | apply bd1 | refine bst ?_ GE397.out) | exact HB.out)); rintro e w7 ⟨g400, rfl, hi, hb, hb2⟩; refine ⟨_, rfl, ?_⟩; have n0_ := Aside0.mk (kbl (g := gb397) (o := .cells #[.int .i64 0, .int .i64 0, .slice none 0 0] 24 (0, 0)) bk_ hb2); have n1_ := Aside0.mk (hb); have n2_ := Aside0.mk (hi); have n3_ := Aside0.mk (IsS117.ne_blk hi (kbl (g := gb397) (o := .cells #[.int .i64 0, .int .i64 0, .slice none 0 0] 24 (0, 0)) bk_ hb2) (by decide)); have n4_ := Aside0.mk (Ne.symm (IsS117.ne_blk hi (kbl (g := gb397) (o := .cells #[.int .i64 0, .int .i64 0, .slice none 0 0] 24 (0, 0)) bk_ hb2) (by decide))); clear BK397; clear HB; have BK397 := n0_; have HB := n1_; have HI400 := n2_; have NB400_397 := n3_; have NB397_400 := n4_; clear n0_ n1_ n2_ n3_ n4_; (try clear hb); (try clear hb2); (try clear hk); (try clear hi)) | ((with_reducible refine gcl (f := 36) rfl ?_); refine gl_ (some 12) rfl rfl Try.func36 (by kernel_rfl) rfl #[.pointer (some ⟨g400, 0, none⟩), .int .i64 7] rfl ar_ ?_; (with_reducible refine (codec_In_N.calls g400 t398 t399 7 t401 t402 t403 w _ ?side1 ?side2 A3.out).mono ?_); (case side1 => repeat (first | (with_reducible first | exact HI400.out | apply IsS117.alloc | apply IsS117.drewN | apply IsS117.drew | apply IsS117.set_0 | apply IsS117.set_1 | refine IsS117.far ?_ NB400_397.out _) | exact HI400.out)); (case side2 => repeat (first | (with_reducible first | exact HB.out | apply bal | apply bdn | apply bd1 | refine bst ?_ (IsS117.ge HI400.out) | refine bst ?_ GE397.out) | exact HB.out)); rintro e w8 ⟨rfl, hi, hb, hk⟩; refine ⟨_, rfl, ?_⟩; have n0_ := Aside0.mk (KeepBut.blk hk (g' := gb397) (o := .cells #[.int .i64 0, .int .i64 0, .slice none 0 0] 24 (0, 0)) bk_ NB397_400.out (by simp)); have n1_ := Aside0.mk (hb); have n2_ := Aside0.mk (hi); clear BK397; clear HB; clear HI400; have BK397 := n0_; have HB := n1_; have HI400 := n2_; clear n0_ n1_ n2_; (try clear hb); (try clear hb2); (try clear hk); (try clear hi)) | ((with_reducible refine gcl (f := 37) rfl ?_); refine gl_ (some 14) rfl rfl Try.func37 (by kernel_rfl) rfl #[.pointer (some ⟨g400, 0, none⟩)] rfl ar_ ?_; (with_reducible refine (codec_In_I.calls g400 t402 t403 t404 t405 t406 w _ ?side1 ?side2 A4.out).mono ?_); (case side1 => repeat (first | (with_reducible first | exact HI400.out | apply IsS117.alloc | apply IsS117.drewN | apply IsS117.drew | apply IsS117.set_0 | apply IsS117.set_1 | refine IsS117.far ?_ NB400_397.out _) | exact HI400.out)); (case side2 => repeat (first | (with_reducible first | exact HB.out | apply bal | apply bdn | apply bd1 | refine bst ?_ (IsS117.ge HI400.out) | refine bst ?_ GE397.out) | exact HB.out)); rintro e w9 ⟨rfl, hi, hb, hk⟩; refine ⟨_, rfl, ?_⟩; have n0_ := Aside0.mk (KeepBut.blk hk (g' := gb397) (o := .cells #[.int .i64 0, .int .i64 0, .slice none 0 0] 24 (0, 0)) bk_ NB397_400.out (by simp)); have n1_ := Aside0.mk (hb); have n2_ := Aside0.mk (hi); clear BK397; clear HB; clear HI400; have BK397 := n0_; have HB := n1_; have HI400 := n2_; clear n0_ n1_ n2_; (try clear hb); (try clear hb2); (try clear hk); (try clear hi)) | ((with_reducible refine gds (N := 5) rfl ?_); refine bx_ (N := 5) (cs := #[.int .i64 0, .int .i64 0, .slice none 0 0]) (t := 24) ?_; intro gb407 hg w10 hbox hb; have n0_ := Aside0.mk (kbl (g := gb397) (o := .cells #[.int .i64 0, .int .i64 0, .slice none 0 0] 24 (0, 0)) bk_ hb); have n1_ := Aside0.mk (IsS117.below (by repeat (first | (with_reducible first | exact HI400.out | apply IsS117.alloc | apply IsS117.drewN | apply IsS117.drew | apply IsS117.set_0 | apply IsS117.set_1 | refine IsS117.far ?_ NB400_397.out _) | exact HI400.out)) hb); have n2_ := Aside0.mk (bsp (by repeat (first | (with_reducible first | exact HB.out | apply bal | apply bdn | apply bd1 | refine bst ?_ (IsS117.ge HI400.out) | refine bst ?_ GE397.out) | exact HB.out)) hb); have n3_ := Aside0.mk (hbox); have n4_ := Aside0.mk ((by rw [hg]; exact (bsz (by repeat (first | (with_reducible first | exact HB.out | apply bal | apply bdn | apply bd1 | refine bst ?_ (IsS117.ge HI400.out) | refine bst ?_ GE397.out) | exact HB.out))) : w.heap.size ≤ gb407)); have n5_ := Aside0.mk ((by rw [hg]; exact (bsz (by repeat (first | (with_reducible first | exact HB.out | apply bal | apply bdn | apply bd1 | refine bst ?_ (IsS117.ge HI400.out) | refine bst ?_ GE397.out) | exact HB.out))) : w.heap.size ≤ gb407)); have n6_ := Aside0.mk ((by rw [hg]; exact Nat.ne_of_lt (blk_lt (g := gb397) (o := .cells #[.int .i64 0, .int .i64 0, .slice none 0 0] 24 (0, 0)) bk_) : gb397 ≠ gb407)); have n7_ := Aside0.mk ((by rw [hg]; exact Nat.ne_of_gt (blk_lt (g := gb397) (o := .cells #[.int .i64 0, .int .i64 0, .slice none 0 0] 24 (0, 0)) bk_) : gb407 ≠ gb397)); have n8_ := Aside0.mk ((by rw [hg]; exact Nat.ne_of_lt (IsS117.lt (show IsS117 w _ g400 t405 t406 from by repeat (first | (with_reducible first | exact HI400.out | apply IsS117.alloc | apply IsS117.drewN | apply IsS117.drew | apply IsS117.set_0 | apply IsS117.set_1 | refine IsS117.far ?_ NB400_397.out _) | exact HI400.out))) : g400 ≠ gb407)); have n9_ := Aside0.mk ((by rw [hg]; exact Nat.ne_of_gt (IsS117.lt (show IsS117 w _ g400 t405 t406 from by repeat (first | (with_reducible first | exact HI400.out | apply IsS117.alloc | apply IsS117.drewN | apply IsS117.drew | apply IsS117.set_0 | apply IsS117.set_1 | refine IsS117.far ?_ NB400_397.out _) | exact HI400.out))) : gb407 ≠ g400)); clear BK397; clear HI400; clear HB; have BK397 := n0_; have HI400 := n1_; have HB := n2_; have BK407 := n3_; have GW407 := n4_; have GE407 := n5_; have NB397_407 := n6_; have NB407_397 := n7_; have NB400_407 := n8_; have NB407_400 := n9_; clear n0_ n1_ n2_ n3_ n4_ n5_ n6_ n7_ n8_ n9_; clear hb hbox hg; have hnb11 := NB407_397.out; have hnc11 := NB397_407.out; have hnb12 := NB407_400.out; have hnc12 := NB400_407.out; have hcz13 := bc3 BK407.out) | ((with_reducible refine gcl (f := 36) rfl ?_); refine gl_ (some 17) rfl rfl Try.func36 (by kernel_rfl) rfl #[.pointer (some ⟨g400, 0, none⟩), .int .i64 8] rfl ar_ ?_; (with_reducible refine (codec_In_N.calls g400 t405 t406 8 t408 t409 t410 w _ ?side1 ?side2 A5.out).mono ?_); (case side1 => repeat (first | (with_reducible first | exact HI400.out | apply IsS117.alloc | apply IsS117.drewN | apply IsS117.drew | apply IsS117.set_0 | apply IsS117.set_1 | refine IsS117.far ?_ NB400_397.out _ | refine IsS117.far ?_ NB400_407.out _) | exact HI400.out)); (case side2 => repeat (first | (with_reducible first | exact HB.out | apply bal | apply bdn | apply bd1 | refine bst ?_ (IsS117.ge HI400.out) | refine bst ?_ GE397.out | refine bst ?_ GE407.out) | exact HB.out)); rintro e w14 ⟨rfl, hi, hb, hk⟩; refine ⟨_, rfl, ?_⟩; have n0_ := Aside0.mk (KeepBut.blk hk (g' := gb397) (o := .cells #[.int .i64 0, .int .i64 0, .slice none 0 0] 24 (0, 0)) bk_ NB397_400.out (by simp)); have n1_ := Aside0.mk (KeepBut.blk hk (g' := gb407) (o := .cells #[.int .i64 t401, .int .i64 t404, .slice none 0 0] 24 (0, 0)) bk_ NB407_400.out (by simp)); have n2_ := Aside0.mk (hb); have n3_ := Aside0.mk (hi); clear BK397; clear BK407; clear HB; clear HI400; have BK397 := n0_; have BK407 := n1_; have HB := n2_; have HI400 := n3_; clear n0_ n1_ n2_ n3_; (try clear hb); (try clear hb2); (try clear hk); (try clear hi)))
  go_loopg [6] k (fun kq v6 w' => ∃ (x6_1 : Int) (x401000_1 : ByteArray) (x401001_1 : Int) (x408002_1 : List (S68)) (u408002 : Value), v6 = .int .i64 x6_1 ∧ Aside0 (value_Parse.l0 kq x6_1 x401000_1 x401001_1 t401 t404 x408002_1 = some (r1, r2, r3, r4)) ∧ Aside0 (kq ≤ k) ∧ Aside0 (Kd.R k68 68 w' w.heap.size (fun _ => True) u408002 x408002_1) ∧ Aside0 (w'.heap[gb397]? = some (.cells #[.int .i64 0, .int .i64 0, (.slice none 0 0)] 24 (0, 0))) ∧ Aside0 (w'.heap[gb407]? = some (.cells #[.int .i64 t401, .int .i64 t404, u408002] 24 (0, 0))) ∧ Aside0 (IsS117 w w' g400 x401000_1 x401001_1) ∧ Aside0 (Below w.heap.size w w'))
  case atStart => exact ⟨(t408), (t409), (t410), (([] : List (S68))), (.slice none 0 0), eqv_, H', ⟨Nat.le_refl _⟩, ⟨by first | exact Kd.R_nil _ _ _ _ _ | exact Kd.N_nil _ _ _ _ _ | exact Kd.V_nil _ _ _ _ _ | exact Kd.Q_nil _ _ _ _ _ | exact Kd.S_nil _ _ _ _ _⟩, ⟨bk_⟩, ⟨bk_⟩, ⟨by repeat (first | (with_reducible first | exact HI400.out | apply IsS117.alloc | apply IsS117.drewN | apply IsS117.drew | apply IsS117.set_0 | apply IsS117.set_1 | refine IsS117.far ?_ NB400_397.out _ | refine IsS117.far ?_ NB400_407.out _) | exact HI400.out)⟩, ⟨by repeat (first | (with_reducible first | exact HB.out | apply bal | apply bdn | apply bd1 | refine bst ?_ (IsS117.ge HI400.out) | refine bst ?_ GE397.out | refine bst ?_ GE407.out) | exact HB.out)⟩⟩
  clear H'
  try clear c1
  try clear p2
  try clear c3
  try clear c11
  try clear c12
  try clear c14
  try clear hcz13
  obtain ⟨x6_1, x401000_1, x401001_1, x408002_1, u408002, rfl, HA, HK1, HO_408002, BK397, BK407, HI400, HB⟩ := hrel
  cases gk with
  | zero => exact absurd HA.out (by simp [value_Parse.l0])
  | succ k1 =>
    have H := HA.out
    clear HA
    simp only [value_Parse.l0] at H
    have HC15 := Aside0.mk H
    clear H
    go_upto_region 4 with (fail)
    go_cut [24] (fun v24 wc => ∃ (kq : Nat) (x24_14 : Bool) (x401000_14 : ByteArray) (x401001_14 : Int), v24 = .bool x24_14 ∧ Aside0 (value_Parse.j1 kq x6_1 x24_14 x401000_14 x401001_14 t401 t404 x408002_1 = some (r1, r2, r3, r4)) ∧ Aside0 (kq ≤ k1) ∧ Aside0 (Kd.R k68 68 wc w.heap.size (fun _ => True) u408002 x408002_1) ∧ Aside0 (wc.heap[gb397]? = some (.cells #[.int .i64 0, .int .i64 0, (.slice none 0 0)] 24 (0, 0))) ∧ Aside0 (wc.heap[gb407]? = some (.cells #[.int .i64 t401, .int .i64 t404, u408002] 24 (0, 0))) ∧ Aside0 (IsS117 w wc g400 x401000_14 x401001_14) ∧ Aside0 (Below w.heap.size w wc))
    case first =>
      have H := HC15.out
      clear HC15
      by_cases c16 : x6_1 > 0
      rotate_left
      · rw [if_neg c16] at H
        have c16b0 : decide (0 < x6_1) = false := decide_eq_false c16
        clear c16
        (first | rw [c16b0] | (simp only [i64_w, i32_w]; rw [c16b0]) | skip)
        have H' := Aside0.mk H
        clear H
        go_wp2
        go_meet
        case rel => exact ⟨_, (false), (x401000_1), (x401001_1), eqv_, H', ⟨by have := HK1.out; first | omega | exact Nat.le_refl _⟩, ⟨by (with_reducible repeat (first | apply Kd.R_alloc | apply Kd.R_drewN | apply Kd.R_drew)); exact HO_408002.out⟩, ⟨bk_⟩, ⟨bk_⟩, ⟨by repeat (first | (with_reducible first | exact HI400.out | apply IsS117.alloc | apply IsS117.drewN | apply IsS117.drew | apply IsS117.set_0 | apply IsS117.set_1 | refine IsS117.far ?_ NB400_397.out _ | refine IsS117.far ?_ NB400_407.out _) | exact HI400.out)⟩, ⟨by repeat (first | (with_reducible first | exact HB.out | apply bal | apply bdn | apply bd1 | refine bst ?_ (IsS117.ge HI400.out) | refine bst ?_ GE397.out | refine bst ?_ GE407.out) | exact HB.out)⟩⟩
      rw [if_pos c16] at H
      have c16b0 : decide (0 < x6_1) = true := decide_eq_true c16
      clear c16
      (first | rw [c16b0] | (simp only [i64_w, i32_w]; rw [c16b0]) | skip)
      replace H := Option.bind_eq_some_iff.mp H
      obtain ⟨⟨t411, t412, t413⟩, A170, H⟩ := H
      replace H : (value_Parse.j1 k1 x6_1 (t411 == 0) t412 t413 t401 t404 x408002_1) = some (r1, r2, r3, r4) := H
      have A17 := Aside0.mk A170
      clear A170
      have H' := Aside0.mk H
      clear H
      go_wp2_with (first | (go_at_call 38; (with_reducible refine (codec_In_Err.calls g400 x401000_1 x401001_1 t411 t412 t413 w _ ?side1 ?side2 A17.out).mono ?_); (case side1 => repeat (first | (with_reducible first | exact HI400.out | apply IsS117.alloc | apply IsS117.drewN | apply IsS117.drew | apply IsS117.set_0 | apply IsS117.set_1 | refine IsS117.far ?_ NB400_397.out _ | refine IsS117.far ?_ NB400_407.out _) | exact HI400.out)); (case side2 => repeat (first | (with_reducible first | exact HB.out | apply bal | apply bdn | apply bd1 | refine bst ?_ (IsS117.ge HI400.out) | refine bst ?_ GE397.out | refine bst ?_ GE407.out) | exact HB.out)); rintro e w18 ⟨rfl, hi, hb, hk⟩; have n0_ := Aside0.mk (Kd.R_mono (Kd.R_keep (IsS117.apart (show IsS117 w _ g400 x401000_1 x401001_1 from by repeat (first | (with_reducible first | exact HI400.out | apply IsS117.alloc | apply IsS117.drewN | apply IsS117.drew | apply IsS117.set_0 | apply IsS117.set_1 | refine IsS117.far ?_ NB400_397.out _ | refine IsS117.far ?_ NB400_407.out _) | exact HI400.out)) (by (with_reducible repeat (first | apply Kd.R_alloc | apply Kd.R_drewN | apply Kd.R_drew)); exact HO_408002.out) (by decide)) hk (fun _ h => h.2)) (fun _ h => h.1)); have n1_ := Aside0.mk (KeepBut.blk hk (g' := gb397) (o := .cells #[.int .i64 0, .int .i64 0, .slice none 0 0] 24 (0, 0)) bk_ NB397_400.out (by simp)); have n2_ := Aside0.mk (KeepBut.blk hk (g' := gb407) (o := .cells #[.int .i64 t401, .int .i64 t404, u408002] 24 (0, 0)) bk_ NB407_400.out (by simp)); have n3_ := Aside0.mk (hb); have n4_ := Aside0.mk (hi); clear HO_408002; clear BK397; clear BK407; clear HB; clear HI400; have HO_408002 := n0_; have BK397 := n1_; have BK407 := n2_; have HB := n3_; have HI400 := n4_; clear n0_ n1_ n2_ n3_ n4_; (try clear hb); (try clear hb2); (try clear hk); (try clear hi)))
      go_meet
      case rel => exact ⟨_, ((t411 == 0)), (t412), (t413), eqv_, H', ⟨by have := HK1.out; first | omega | exact Nat.le_refl _⟩, ⟨by (with_reducible repeat (first | apply Kd.R_alloc | apply Kd.R_drewN | apply Kd.R_drew)); exact HO_408002.out⟩, ⟨bk_⟩, ⟨bk_⟩, ⟨by repeat (first | (with_reducible first | exact HI400.out | apply IsS117.alloc | apply IsS117.drewN | apply IsS117.drew | apply IsS117.set_0 | apply IsS117.set_1 | refine IsS117.far ?_ NB400_397.out _ | refine IsS117.far ?_ NB400_407.out _) | exact HI400.out)⟩, ⟨by repeat (first | (with_reducible first | exact HB.out | apply bal | apply bdn | apply bd1 | refine bst ?_ (IsS117.ge HI400.out) | refine bst ?_ GE397.out | refine bst ?_ GE407.out) | exact HB.out)⟩⟩
    clear HC15
    try clear c1
    try clear p2
    try clear c3
    try clear c11
    try clear c12
    try clear c14
    try clear c16
    try clear c16b0
    try clear hcz13
    try clear p2
    obtain ⟨kq, x24_14, x401000_14, x401001_14, rfl, HA, HJ14, HO_408002, BK397, BK407, HI400, HB⟩ := hcut
    cases kq with
    | zero => exact absurd HA.out (by simp [value_Parse.j1])
    | succ kj14 =>
      have H := HA.out
      clear HA
      simp only [value_Parse.j1] at H
      by_cases c19 : x24_14 = true
      rotate_left
      · replace c19 := Bool.eq_false_iff.mpr c19
        subst c19
        have H1 : ((codec_In_End.f x401000_14 x401001_14).bind fun bt423 => (if bt423.1 = 0 then ((value_State_Check.f kj14 t401 t404 x408002_1).bind fun t426 => (if t426 = 0 then (some (t401, t404, x408002_1, 0)) else (some (0, 0, ([] : List (S68)), t426)))) else (some (0, 0, ([] : List (S68)), bt423.1)))) = some (r1, r2, r3, r4) := by rw [if_neg (show ¬ (false = true) by decide)] at H; exact H
        clear H
        have H := H1
        clear H1
        replace H := Option.bind_eq_some_iff.mp H
        obtain ⟨⟨t423, t424, t425⟩, A290, H⟩ := H
        replace H : (if t423 = 0 then ((value_State_Check.f kj14 t401 t404 x408002_1).bind fun t426 => (if t426 = 0 then (some (t401, t404, x408002_1, 0)) else (some (0, 0, ([] : List (S68)), t426)))) else (some (0, 0, ([] : List (S68)), t423))) = some (r1, r2, r3, r4) := H
        have A29 := Aside0.mk A290
        clear A290
        have HS30 := Aside0.mk H
        clear H
        go_upto_if 40 with (first | ((with_reducible refine gcl (f := 40) rfl ?_); refine gl_ (some 38) rfl rfl Try.func40 (by kernel_rfl) rfl #[.pointer (some ⟨g400, 0, none⟩)] rfl ar_ ?_; (with_reducible refine (codec_In_End.calls g400 x401000_14 x401001_14 t423 t424 t425 w _ ?side1 ?side2 A29.out).mono ?_); (case side1 => repeat (first | (with_reducible first | exact HI400.out | apply IsS117.alloc | apply IsS117.drewN | apply IsS117.drew | apply IsS117.set_0 | apply IsS117.set_1 | refine IsS117.far ?_ NB400_397.out _ | refine IsS117.far ?_ NB400_407.out _) | exact HI400.out)); (case side2 => repeat (first | (with_reducible first | exact HB.out | apply bal | apply bdn | apply bd1 | refine bst ?_ (IsS117.ge HI400.out) | refine bst ?_ GE397.out | refine bst ?_ GE407.out) | exact HB.out)); rintro e w31 ⟨rfl, hi, hb, hk⟩; refine ⟨_, rfl, ?_⟩; have n0_ := Aside0.mk (Kd.R_mono (Kd.R_keep (IsS117.apart (show IsS117 w _ g400 x401000_14 x401001_14 from by repeat (first | (with_reducible first | exact HI400.out | apply IsS117.alloc | apply IsS117.drewN | apply IsS117.drew | apply IsS117.set_0 | apply IsS117.set_1 | refine IsS117.far ?_ NB400_397.out _ | refine IsS117.far ?_ NB400_407.out _) | exact HI400.out)) (by (with_reducible repeat (first | apply Kd.R_alloc | apply Kd.R_drewN | apply Kd.R_drew)); exact HO_408002.out) (by decide)) hk (fun _ h => h.2)) (fun _ h => h.1)); have n1_ := Aside0.mk (KeepBut.blk hk (g' := gb397) (o := .cells #[.int .i64 0, .int .i64 0, .slice none 0 0] 24 (0, 0)) bk_ NB397_400.out (by simp)); have n2_ := Aside0.mk (KeepBut.blk hk (g' := gb407) (o := .cells #[.int .i64 t401, .int .i64 t404, u408002] 24 (0, 0)) bk_ NB407_400.out (by simp)); have n3_ := Aside0.mk (hb); have n4_ := Aside0.mk (hi); clear HO_408002; clear BK397; clear BK407; clear HB; clear HI400; have HO_408002 := n0_; have BK397 := n1_; have BK407 := n2_; have HB := n3_; have HI400 := n4_; clear n0_ n1_ n2_ n3_ n4_; (try clear hb); (try clear hb2); (try clear hk); (try clear hi)))
        (try simp only [Act.put, List.setIfInBounds_toArray, List.set_cons_zero, List.set_cons_succ])
        have H := HS30.out
        clear HS30
        by_cases c32 : t423 = 0
        rotate_left
        · rw [if_neg c32] at H
          have c32b0 : (t423 == 0) = false := beq_eq_false_iff_ne.mpr c32
          have c32b1 : (t423 != 0) = true := bne_iff_ne.mpr c32
          (first | rw [c32b0] | (simp only [i64_w, i32_w]; rw [c32b0]) | skip)
          simp only [Option.some.injEq, Prod.mk.injEq] at H
          obtain ⟨rfl, rfl, rfl, rfl⟩ := H
          have hnb49 := NB397_407.out
          have hnc49 := NB407_397.out
          have hnb50 := NB397_400.out
          have hnc50 := NB400_397.out
          have hcz51 := bc3 BK397.out
          go_wp2
          refine bodyPost_ret (results_ct rfl _ _ gb397 24 #[.int .i64 0, .int .i64 0, .slice none 0 0] (0, 0) _ rfl bk_ Try.underlying24 rfl (by kernel_rfl)) rfl ?_
          exact ⟨_, er_, by first | exact Kd.R_nil _ _ _ _ _ | exact Kd.N_nil _ _ _ _ _ | exact Kd.V_nil _ _ _ _ _ | exact Kd.Q_nil _ _ _ _ _ | exact Kd.S_nil _ _ _ _ _, by repeat (first | (with_reducible first | exact HB.out | apply bal | apply bdn | apply bd1 | refine bst ?_ (IsS117.ge HI400.out) | refine bst ?_ GE397.out | refine bst ?_ GE407.out) | exact HB.out)⟩
        rw [if_pos c32] at H
        have c32b0 : (t423 == 0) = true := beq_iff_eq.mpr c32
        have c32b1 : (t423 != 0) = false := bne_eq_false_iff_eq.mpr c32
        clear c32
        (first | rw [c32b0] | (simp only [i64_w, i32_w]; rw [c32b0]) | skip)
        replace H := Option.bind_eq_some_iff.mp H
        obtain ⟨t426, A330, H⟩ := H
        replace H : (if t426 = 0 then (some (t401, t404, x408002_1, 0)) else (some (0, 0, ([] : List (S68)), t426))) = some (r1, r2, r3, r4) := H
        have A33 := Aside0.mk A330
        clear A330
        have HS34 := Aside0.mk H
        clear H
        have hnb35 := NB407_397.out
        have hnc35 := NB397_407.out
        have hnb36 := NB407_400.out
        have hnc36 := NB400_407.out
        have hcz37 := bc3 BK407.out
        obtain ⟨Ao38, co38, eo38⟩ := Kd.R_slice HO_408002.out
        subst eo38
        go_upto_if 46 with (first | ((with_reducible refine gcl (f := 12) rfl ?_); refine gl_ (some 44) rfl rfl Try.func12 (by kernel_rfl) rfl #[.agg #[.int .i64 t401, .int .i64 t404, .slice Ao38 x408002_1.length co38]] rfl ar_ ?_; (with_reducible refine (value_State_Check.calls kj14 t401 t404 _ _ x408002_1 t426 _ ?side1 ?side2 A33.out).mono ?_); (case side1 => repeat (first | exact (Kd.R_reads' HO_408002.out).2.2 | (with_reducible refine Kd.C_alloc ?_ _) | (with_reducible refine Kd.C_drewN ?_ _) | (with_reducible refine Kd.C_drew ?_))); (case side2 => exact (Kd.R_reads' HO_408002.out).2.1); rintro e w39 ⟨rfl, hb⟩; refine ⟨_, rfl, ?_⟩; have n0_ := Aside0.mk (Kd.R_below (by (with_reducible repeat (first | apply Kd.R_alloc | apply Kd.R_drewN | apply Kd.R_drew)); exact HO_408002.out) hb); have n1_ := Aside0.mk (kbl (g := gb397) (o := .cells #[.int .i64 0, .int .i64 0, .slice none 0 0] 24 (0, 0)) bk_ hb); have n2_ := Aside0.mk (kbl (g := gb407) (o := .cells #[.int .i64 t401, .int .i64 t404, .slice Ao38 x408002_1.length co38] 24 (0, 0)) bk_ hb); have n3_ := Aside0.mk (IsS117.below (by repeat (first | (with_reducible first | exact HI400.out | apply IsS117.alloc | apply IsS117.drewN | apply IsS117.drew | apply IsS117.set_0 | apply IsS117.set_1 | refine IsS117.far ?_ NB400_397.out _ | refine IsS117.far ?_ NB400_407.out _) | exact HI400.out)) hb); have n4_ := Aside0.mk (bsp (by repeat (first | (with_reducible first | exact HB.out | apply bal | apply bdn | apply bd1 | refine bst ?_ (IsS117.ge HI400.out) | refine bst ?_ GE397.out | refine bst ?_ GE407.out) | exact HB.out)) hb); clear HO_408002; clear BK397; clear BK407; clear HI400; clear HB; have HO_408002 := n0_; have BK397 := n1_; have BK407 := n2_; have HI400 := n3_; have HB := n4_; clear n0_ n1_ n2_ n3_ n4_; (try clear hb); (try clear hb2); (try clear hk); (try clear hi)))
        (try simp only [Act.put, List.setIfInBounds_toArray, List.set_cons_zero, List.set_cons_succ])
        have H := HS34.out
        clear HS34
        by_cases c40 : t426 = 0
        rotate_left
        · rw [if_neg c40] at H
          have c40b0 : (t426 == 0) = false := beq_eq_false_iff_ne.mpr c40
          have c40b1 : (t426 != 0) = true := bne_iff_ne.mpr c40
          (first | rw [c40b0] | (simp only [i64_w, i32_w]; rw [c40b0]) | skip)
          simp only [Option.some.injEq, Prod.mk.injEq] at H
          obtain ⟨rfl, rfl, rfl, rfl⟩ := H
          have hnb46 := NB397_407.out
          have hnc46 := NB407_397.out
          have hnb47 := NB397_400.out
          have hnc47 := NB400_397.out
          have hcz48 := bc3 BK397.out
          go_wp2
          refine bodyPost_ret (results_ct rfl _ _ gb397 24 #[.int .i64 0, .int .i64 0, .slice none 0 0] (0, 0) _ rfl bk_ Try.underlying24 rfl (by kernel_rfl)) rfl ?_
          exact ⟨_, er_, by first | exact Kd.R_nil _ _ _ _ _ | exact Kd.N_nil _ _ _ _ _ | exact Kd.V_nil _ _ _ _ _ | exact Kd.Q_nil _ _ _ _ _ | exact Kd.S_nil _ _ _ _ _, by repeat (first | (with_reducible first | exact HB.out | apply bal | apply bdn | apply bd1 | refine bst ?_ (IsS117.ge HI400.out) | refine bst ?_ GE397.out | refine bst ?_ GE407.out) | exact HB.out)⟩
        rw [if_pos c40] at H
        have c40b0 : (t426 == 0) = true := beq_iff_eq.mpr c40
        have c40b1 : (t426 != 0) = false := bne_eq_false_iff_eq.mpr c40
        clear c40
        (first | rw [c40b0] | (simp only [i64_w, i32_w]; rw [c40b0]) | skip)
        simp only [Option.some.injEq, Prod.mk.injEq] at H
        obtain ⟨rfl, rfl, rfl, rfl⟩ := H
        have hnb41 := NB407_397.out
        have hnc41 := NB397_407.out
        have hnb42 := NB407_400.out
        have hnc42 := NB400_407.out
        have hcz43 := bc3 BK407.out
        have hnb44 := NB397_400.out
        have hnc44 := NB400_397.out
        have hcz45 := bc3 BK397.out
        go_wp2
        refine bodyPost_ret (results_ct rfl _ _ gb397 24 #[.int .i64 t401, .int .i64 t404, .slice Ao38 x408002_1.length co38] (0, 0) _ rfl bk_ Try.underlying24 rfl (by kernel_rfl)) rfl ?_
        exact ⟨_, er_, by (with_reducible repeat (first | apply Kd.R_alloc | apply Kd.R_drewN | apply Kd.R_drew)); exact Kd.R_mono (Kd.R_far (p := ⟨gb397, 2, none⟩) (Kd.R_far (p := ⟨gb397, 1, none⟩) (Kd.R_far (p := ⟨gb397, 0, none⟩) (Kd.R_types HO_408002.out BK397.out (by decide)) (fun _ hk => hk.2) (.int .i64 t401)) (fun _ hk => hk.2) (.int .i64 t404)) (fun _ hk => hk.2) (.slice Ao38 x408002_1.length co38)) (fun _ hk => trivial), by repeat (first | (with_reducible first | exact HB.out | apply bal | apply bdn | apply bd1 | refine bst ?_ (IsS117.ge HI400.out) | refine bst ?_ GE397.out | refine bst ?_ GE407.out) | exact HB.out)⟩
      subst c19
      have H1 : ((codec_In_S.f x401000_14 x401001_14 24).bind fun bt414 => ((codec_In_S.f bt414.2.1 bt414.2.2 24).bind fun bt417 => (if x408002_1.length < 4398046511104 then (value_Parse.l0 kj14 (wrap64 (x6_1 - 1)) bt417.2.1 bt417.2.2 t401 t404 (x408002_1 ++ [(⟨bt414.1, bt417.1⟩ : S68)])) else (none)))) = some (r1, r2, r3, r4) := by rw [if_pos rfl] at H; exact H
      clear H
      have H := H1
      clear H1
      replace H := Option.bind_eq_some_iff.mp H
      obtain ⟨⟨t414, t415, t416⟩, A200, H⟩ := H
      replace H : ((codec_In_S.f t415 t416 24).bind fun bt417 => (if x408002_1.length < 4398046511104 then (value_Parse.l0 kj14 (wrap64 (x6_1 - 1)) bt417.2.1 bt417.2.2 t401 t404 (x408002_1 ++ [(⟨t414, bt417.1⟩ : S68)])) else (none))) = some (r1, r2, r3, r4) := H
      have A20 := Aside0.mk A200
      clear A200
      replace H := Option.bind_eq_some_iff.mp H
      obtain ⟨⟨t417, t418, t419⟩, A210, H⟩ := H
      replace H : (if x408002_1.length < 4398046511104 then (value_Parse.l0 kj14 (wrap64 (x6_1 - 1)) t418 t419 t401 t404 (x408002_1 ++ [(⟨t414, t417⟩ : S68)])) else (none)) = some (r1, r2, r3, r4) := H
      have A21 := Aside0.mk A210
      clear A210
      by_cases c22 : x408002_1.length < 4398046511104
      rotate_left
      · rw [if_neg c22] at H
        exact absurd H (by simp)
      rw [if_pos c22] at H
      have LMc22 := Aside0.mk c22
      clear c22
      obtain ⟨y420, hy420⟩ : ∃ y_ : List (S68), y_ = (x408002_1 ++ [(⟨t414, t417⟩ : S68)]) := ⟨_, rfl⟩
      replace H : (value_Parse.l0 kj14 (wrap64 (x6_1 - 1)) t418 t419 t401 t404 y420) = some (r1, r2, r3, r4) := by first | (rw [hy420]; with_reducible exact H) | (have H2_ := (Option.bind_some _ _).symm.trans H; rw [hy420]; with_reducible exact H2_) | (have H2_ := (Option.bind_some _ _).symm.trans H; with_reducible exact H2_) | with_reducible exact H | (rw [hy420]; exact H) | exact H
      have Ny420 := Aside0.mk hy420
      clear hy420
      have H' := Aside0.mk H
      clear H
      try go_wp2
      have n0_ := Aside0.mk (Kd.R_drew HO_408002.out)
      have n1_ := Aside0.mk (kdw BK397.out)
      have n2_ := Aside0.mk (kdw BK407.out)
      have n3_ := Aside0.mk (IsS117.drew HI400.out)
      have n4_ := Aside0.mk (bd1 HB.out)
      clear HO_408002
      clear BK397
      clear BK407
      clear HI400
      clear HB
      have HO_408002 := n0_
      have BK397 := n1_
      have BK407 := n2_
      have HI400 := n3_
      have HB := n4_
      clear n0_ n1_ n2_ n3_ n4_
      refine start_ (n := 11) (S := fun w' => w'.cell? ⟨gb407, 0, none⟩ = some (.int .i64 t401) ∧ w'.cell? ⟨gb407, 1, none⟩ = some (.int .i64 t404) ∧ w'.cell? ⟨gb407, 2, none⟩ = some (u408002)) (ds := [10]) #[false,false,false,false,false,false,false,false,false,false,false] (by kernel_rfl) rfl rfl ⟨(kcl BK407.out 0).trans rfl, (kcl BK407.out 1).trans rfl, (kcl BK407.out 2).trans rfl⟩ (fun hHeld => ?_); refine with_tabW value_Parse.tab6 value_Parse.bits6 (fun HT_ HW_ => ?_)
      generalize wc.drew = w23 at HO_408002 BK397 BK407 HI400 HB hHeld ⊢
      refine pure_ (i := 0) (N := some 27) (v := ?_) (a' := ?_) (bA 11 1) rfl rfl (any_of HT_.out (by kernel_rfl)) (fun _ _ _ h => h) (Or.inl ⟨by rfl, ?_⟩) ?_ ?_
      rotate_left; (intro w'; go_simp; with_reducible rfl); rotate_left; (simp only [Act.put, List.setIfInBounds_toArray, List.set_cons_zero, List.set_cons_succ, i64_w, i32_w]; rfl)
      refine pure_ (i := 2) (N := some 29) (v := ?_) (a' := ?_) (bA 11 5) rfl rfl (any_of HT_.out (by kernel_rfl)) (fun _ _ _ h => h) (Or.inl ⟨by rfl, ?_⟩) ?_ ?_
      rotate_left; (intro w'; go_simp; with_reducible rfl); rotate_left; (simp only [Act.put, List.setIfInBounds_toArray, List.set_cons_zero, List.set_cons_succ, i64_w, i32_w]; rfl)
      refine pure_ (i := 4) (N := some 31) (v := ?_) (a' := ?_) (bA 11 21) rfl rfl (any_of HT_.out (by kernel_rfl)) (fun _ _ _ h => h) (Or.inl ⟨by rfl, ?_⟩) ?_ ?_
      rotate_left; (intro w'; go_simp; with_reducible rfl); rotate_left; (simp only [Act.put, List.setIfInBounds_toArray, List.set_cons_zero, List.set_cons_succ, i64_w, i32_w]; rfl)
      refine take_ (i := 1) (N := some 28) (v := ?_) (a' := ?_) #[true,true,true,false,true,false,false,false,false,false,false] rfl rfl (tkw HT_.out HW_.out (by kernel_rfl)) (fun _ _ _ h => h) (Or.inl ⟨by rfl, ?_⟩) hHeld ?_ ?_
      rotate_left
      · rintro w' ⟨s0, s1, s2⟩
        go_simp
        with_reducible rfl
      rotate_left; (simp only [Act.put, List.setIfInBounds_toArray, List.set_cons_zero, List.set_cons_succ, i64_w, i32_w]; rfl)
      refine one_ (i := 3) (N := some 30) #[true,true,true,true,true,false,false,false,false,false,false] rfl rfl (one_of HT_.out (by kernel_rfl)) (by decide) (fun K hK => ?_)
      refine goes_ Try.func39 (by kernel_rfl) rfl #[.pointer (some ⟨g400, 0, none⟩), .int .i64 24] (by rfl) rfl rfl (by (try simp only [List.map_toArray, List.map_cons, List.map_nil]); first | done | rfl | (simp only [List.length_drop, List.length_take]; rfl) | (simp only [Act.eval, Array.getD_eq_getD_getElem?, Option.getD_some, *]; done) | (simp only [Array.mk.injEq, List.cons.injEq, Value.int.injEq, true_and, and_true]; first | omega | (simp [IntKind.wrap, IntKind.bits, IntKind.signed]; omega))) ?_
      with_reducible refine (codec_In_S.calls g400 x401000_14 x401001_14 24 t414 t415 t416 w _ ?side1 ?side2 A20.out).mono ?_
      (case side1 => repeat (first | (with_reducible first | exact HI400.out | apply IsS117.alloc | apply IsS117.drewN | apply IsS117.drew | apply IsS117.set_0 | apply IsS117.set_1 | refine IsS117.far ?_ NB400_397.out _ | refine IsS117.far ?_ NB400_407.out _) | exact HI400.out))
      (case side2 => repeat (first | (with_reducible first | exact HB.out | apply bal | apply bdn | apply bd1 | refine bst ?_ (IsS117.ge HI400.out) | refine bst ?_ GE397.out | refine bst ?_ GE407.out) | exact HB.out))
      rintro e w24 ⟨rfl, hi, hb, hk⟩
      refine ⟨_, rfl, ?_⟩
      have n0_ := Aside0.mk (Kd.R_mono (Kd.R_keep (IsS117.apart (show IsS117 w _ g400 x401000_14 x401001_14 from by repeat (first | (with_reducible first | exact HI400.out | apply IsS117.alloc | apply IsS117.drewN | apply IsS117.drew | apply IsS117.set_0 | apply IsS117.set_1 | refine IsS117.far ?_ NB400_397.out _ | refine IsS117.far ?_ NB400_407.out _) | exact HI400.out)) (by (with_reducible repeat (first | apply Kd.R_alloc | apply Kd.R_drewN | apply Kd.R_drew)); exact HO_408002.out) (by decide)) hk (fun _ h => h.2)) (fun _ h => h.1))
      have n1_ := Aside0.mk (KeepBut.blk hk (g' := gb397) (o := .cells #[.int .i64 0, .int .i64 0, .slice none 0 0] 24 (0, 0)) bk_ NB397_400.out (by simp))
      have n2_ := Aside0.mk (KeepBut.blk hk (g' := gb407) (o := .cells #[.int .i64 t401, .int .i64 t404, u408002] 24 (0, 0)) bk_ NB407_400.out (by simp))
      have n3_ := Aside0.mk (hb)
      have n4_ := Aside0.mk (hi)
      clear HO_408002
      clear BK397
      clear BK407
      clear HB
      clear HI400
      have HO_408002 := n0_
      have BK397 := n1_
      have BK407 := n2_
      have HB := n3_
      have HI400 := n4_
      clear n0_ n1_ n2_ n3_ n4_
      (try clear hb)
      (try clear hb2)
      (try clear hk)
      (try clear hi)
      refine hK.out _ _ ⟨(kcl BK407.out 0).trans rfl, (kcl BK407.out 1).trans rfl, (kcl BK407.out 2).trans rfl⟩ (fun hHeld => ?_)
      clear hK K
      refine norm_ (a' := ?_) ?_ ?_
      rotate_left
      · show Act.put _ (some 30) _ = _
        simp only [Act.put, List.setIfInBounds_toArray, List.set_cons_zero, List.set_cons_succ, i64_w, i32_w]
        rfl
      refine one_ (i := 5) (N := some 32) #[true,true,true,true,true,true,false,false,false,false,false] rfl rfl (one_of HT_.out (by kernel_rfl)) (by decide) (fun K hK => ?_)
      refine goes_ Try.func39 (by kernel_rfl) rfl #[.pointer (some ⟨g400, 0, none⟩), .int .i64 24] (by rfl) rfl rfl (by (try simp only [List.map_toArray, List.map_cons, List.map_nil]); first | done | rfl | (simp only [List.length_drop, List.length_take]; rfl) | (simp only [Act.eval, Array.getD_eq_getD_getElem?, Option.getD_some, *]; done) | (simp only [Array.mk.injEq, List.cons.injEq, Value.int.injEq, true_and, and_true]; first | omega | (simp [IntKind.wrap, IntKind.bits, IntKind.signed]; omega))) ?_
      with_reducible refine (codec_In_S.calls g400 t415 t416 24 t417 t418 t419 w _ ?side1 ?side2 A21.out).mono ?_
      (case side1 => repeat (first | (with_reducible first | exact HI400.out | apply IsS117.alloc | apply IsS117.drewN | apply IsS117.drew | apply IsS117.set_0 | apply IsS117.set_1 | refine IsS117.far ?_ NB400_397.out _ | refine IsS117.far ?_ NB400_407.out _) | exact HI400.out))
      (case side2 => repeat (first | (with_reducible first | exact HB.out | apply bal | apply bdn | apply bd1 | refine bst ?_ (IsS117.ge HI400.out) | refine bst ?_ GE397.out | refine bst ?_ GE407.out) | exact HB.out))
      rintro e w25 ⟨rfl, hi, hb, hk⟩
      refine ⟨_, rfl, ?_⟩
      have n0_ := Aside0.mk (Kd.R_mono (Kd.R_keep (IsS117.apart (show IsS117 w _ g400 t415 t416 from by repeat (first | (with_reducible first | exact HI400.out | apply IsS117.alloc | apply IsS117.drewN | apply IsS117.drew | apply IsS117.set_0 | apply IsS117.set_1 | refine IsS117.far ?_ NB400_397.out _ | refine IsS117.far ?_ NB400_407.out _) | exact HI400.out)) (by (with_reducible repeat (first | apply Kd.R_alloc | apply Kd.R_drewN | apply Kd.R_drew)); exact HO_408002.out) (by decide)) hk (fun _ h => h.2)) (fun _ h => h.1))
      have n1_ := Aside0.mk (KeepBut.blk hk (g' := gb397) (o := .cells #[.int .i64 0, .int .i64 0, .slice none 0 0] 24 (0, 0)) bk_ NB397_400.out (by simp))
      have n2_ := Aside0.mk (KeepBut.blk hk (g' := gb407) (o := .cells #[.int .i64 t401, .int .i64 t404, u408002] 24 (0, 0)) bk_ NB407_400.out (by simp))
      have n3_ := Aside0.mk (hb)
      have n4_ := Aside0.mk (hi)
      clear HO_408002
      clear BK397
      clear BK407
      clear HB
      clear HI400
      have HO_408002 := n0_
      have BK397 := n1_
      have BK407 := n2_
      have HB := n3_
      have HI400 := n4_
      clear n0_ n1_ n2_ n3_ n4_
      (try clear hb)
      (try clear hb2)
      (try clear hk)
      (try clear hi)
      refine hK.out _ _ ⟨(kcl BK407.out 0).trans rfl, (kcl BK407.out 1).trans rfl, (kcl BK407.out 2).trans rfl⟩ (fun hHeld => ?_)
      clear hK K
      refine norm_ (a' := ?_) ?_ ?_
      rotate_left
      · show Act.put _ (some 32) _ = _
        simp only [Act.put, List.setIfInBounds_toArray, List.set_cons_zero, List.set_cons_succ, i64_w, i32_w]
        rfl
      refine pure_ (i := 6) (N := some 33) (v := ?_) (a' := ?_) (bA 11 127) rfl rfl (any_of HT_.out (by kernel_rfl)) (fun _ _ _ h => h) (Or.inl ⟨by rfl, ?_⟩) ?_ ?_
      rotate_left; (intro w'; go_simp; with_reducible rfl); rotate_left; (simp only [Act.put, List.setIfInBounds_toArray, List.set_cons_zero, List.set_cons_succ, i64_w, i32_w]; rfl)
      refine one_ (i := 7) (N := some 34) #[true,true,true,true,true,true,true,true,false,false,false] rfl rfl (one_of HT_.out (by kernel_rfl)) (by decide) (fun K hK => ?_)
      refine value_ (w1 := ?_) (v := ?_) (by rfl) rfl ?_ ?_
      rotate_left 2
      · go_simp
        constructor
        · rfl
        · rfl
      refine hK.out _ _ ⟨(kcl (kal BK407.out _) 0).trans rfl, (kcl (kal BK407.out _) 1).trans rfl, (kcl (kal BK407.out _) 2).trans rfl⟩ (fun hHeld => ?_)
      clear hK K
      refine norm_ (a' := ?_) ?_ ?_
      rotate_left
      · show Act.put _ (some 34) _ = _
        simp only [Act.put, List.setIfInBounds_toArray, List.set_cons_zero, List.set_cons_succ, i64_w, i32_w]
        rfl
      refine one_ (i := 8) (N := some 35) #[true,true,true,true,true,true,true,true,true,false,false] rfl rfl (one_of HT_.out (by kernel_rfl)) (by decide) (fun K hK => ?_)
      refine Kd.R_append_step k68 (w0 := w) w.heap.size (by rfl) (.tmp 28) (.tmp 34) 22 68 (.agg #[(.string ⟨#[]⟩), (.string ⟨#[]⟩)]) 32 rfl Try.underlying22 info68 rfl (by decide) (by omega) u408002 x408002_1 (⟨t414, t417⟩ : S68) [.string t414, .string t417] (fun _ => True) (fun _ => False) rfl rfl ?aP (fun _ hk => hk.elim) ?aF ?aO ?aB ?aS ?aL ?_
      (case aP => exact k68_mkM _ _ _ (⟨t414, t417⟩ : S68))
      (case aB => exact (by repeat (first | (with_reducible first | exact HB.out | apply bal | apply bdn | apply bd1 | refine bst ?_ (IsS117.ge HI400.out) | refine bst ?_ GE397.out | refine bst ?_ GE407.out) | exact HB.out)))
      (case aF => exact (fun _ _ => trivial))
      (case aO => exact (by (with_reducible repeat (first | apply Kd.R_alloc | apply Kd.R_drewN | apply Kd.R_drew)); exact HO_408002.out))
      (case aS => exact (bsz (by repeat (first | (with_reducible first | exact HB.out | apply bal | apply bdn | apply bd1 | refine bst ?_ (IsS117.ge HI400.out) | refine bst ?_ GE397.out | refine bst ?_ GE407.out) | exact HB.out))))
      (case aL => have := LMc22.out; omega)
      intro v421 w26 ho hb hg hat
      rw [← Ny420.out] at ho
      have n0_ := Aside0.mk (blk_grown (g := gb397) (o := .cells #[.int .i64 0, .int .i64 0, .slice none 0 0] 24 (0, 0)) bk_ hg (Kd.R_ne HO_408002.out BK397.out (by decide)))
      have n1_ := Aside0.mk (blk_grown (g := gb407) (o := .cells #[.int .i64 t401, .int .i64 t404, u408002] 24 (0, 0)) bk_ hg (Kd.R_ne HO_408002.out BK407.out (by decide)))
      have n2_ := Aside0.mk (IsS117.grown (by repeat (first | (with_reducible first | exact HI400.out | apply IsS117.alloc | apply IsS117.drewN | apply IsS117.drew | apply IsS117.set_0 | apply IsS117.set_1 | refine IsS117.far ?_ NB400_397.out _ | refine IsS117.far ?_ NB400_407.out _) | exact HI400.out)) hg (IsS117.own_ne HI400.out HO_408002.out (by decide)))
      have n3_ := Aside0.mk (hb)
      have n4_ := Aside0.mk (ho)
      clear BK397
      clear BK407
      clear HI400
      clear HB
      clear HO_408002
      have BK397 := n0_
      have BK407 := n1_
      have HI400 := n2_
      have HB := n3_
      have HO422 := n4_
      clear n0_ n1_ n2_ n3_ n4_
      clear ho hb hg hat
      obtain ⟨Ao27, co27, eo27⟩ := Kd.R_slice HO422.out
      (first | subst eo27 | (injection eo27 with f1_ f2_ f3_; have f4_ := f1_.symm; have f5_ := f3_.symm; clear f1_ f2_ f3_; subst f4_; subst f5_))
      refine hK.out _ _ ⟨(kcl BK407.out 0).trans rfl, (kcl BK407.out 1).trans rfl, (kcl BK407.out 2).trans rfl⟩ (fun hHeld => ?_)
      clear hK K
      refine norm_ (a' := ?_) ?_ ?_
      rotate_left
      · show Act.put _ (some 35) _ = _
        simp only [Act.put, List.setIfInBounds_toArray, List.set_cons_zero, List.set_cons_succ, i64_w, i32_w]
        rfl
      refine pure_ (i := 9) (N := some 36) (v := ?_) (a' := ?_) (bA 11 1023) rfl rfl (any_of HT_.out (by kernel_rfl)) (fun _ _ _ h => h) (Or.inl ⟨by rfl, ?_⟩) ?_ ?_
      rotate_left; (intro w'; go_simp; with_reducible rfl); rotate_left; (simp only [Act.put, List.setIfInBounds_toArray, List.set_cons_zero, List.set_cons_succ, i64_w, i32_w]; rfl)
      refine last_ (i := 10) (N := none) #[true,true,true,true,true,true,true,true,true,true,true] rfl rfl (one_of HT_.out (by kernel_rfl)) (by decide) (fun K hK => ?_)
      have hs28 : w26.cell? ⟨gb407, 2, none⟩ = some (u408002) := (kcl BK407.out 2).trans rfl
      have hfs28 := kfr BK407.out 2
      have hns28_0 := NB397_407.out
      have hms28_0 := NB407_397.out
      refine skip_ (w1 := ?_) (by rfl) rfl ?_ ?_
      rotate_left
      · go_simp
        rfl
      refine hK.out _ _ ?_
      clear hK K
      refine done_ (done_of HT_.out (by kernel_rfl)) ?_
      try go_wp2
      go_roundg kj14
      case measure => have := HK1.out; have := HJ14.out; omega
      case rel => exact ⟨(wrap64 (x6_1 - 1)), (t418), (t419), (y420), (.slice Ao27 y420.length co27), eqv_, H', ⟨by have := HK1.out; have := HJ14.out; omega⟩, ⟨by (with_reducible repeat (first | apply Kd.R_alloc | apply Kd.R_drewN | apply Kd.R_drew)); exact Kd.R_mono (Kd.R_far (p := ⟨gb407, 2, none⟩) (Kd.R_types HO422.out BK407.out (by decide)) (fun _ hk => hk.2) (.slice Ao27 y420.length co27)) (fun _ hk => trivial)⟩, ⟨bk_⟩, ⟨bk_⟩, ⟨by repeat (first | (with_reducible first | exact HI400.out | apply IsS117.alloc | apply IsS117.drewN | apply IsS117.drew | apply IsS117.set_0 | apply IsS117.set_1 | refine IsS117.far ?_ NB400_397.out _ | refine IsS117.far ?_ NB400_407.out _) | exact HI400.out)⟩, ⟨by repeat (first | (with_reducible first | exact HB.out | apply bal | apply bdn | apply bd1 | refine bst ?_ (IsS117.ge HI400.out) | refine bst ?_ GE397.out | refine bst ?_ GE407.out) | exact HB.out)⟩⟩
end Go.Proofs.Ytjiblcncadekcaa.PA

