import Derived.Test.YtjiblcncadekcaaGreatQOxPAx0
import Derived.Test.YtjiblcncadekcaaGreatQOxPAx2
import Derived.Test.YtjiblcncadekcaaGreatQOxPAx11
import Derived.Test.YtjiblcncadekcaaGreatQOxPAx12
namespace Go.Proofs.YtjiblcncadekcaaGreat.PA
open Go.Proofs.YtjiblcncadekcaaGreat.PL
open Go.RowKit Go.Proofs.YtjiblcncadekcaaGreatW.PrintWords Go.Proofs.YtjiblcncadekcaaGreatW.PrintLast Go.Proofs.YtjiblcncadekcaaGreatW.PrintMore
attribute [local go_sem] max2_int min2_int bl_leq max_two min_two max_three min_three max_four min_four
set_option linter.unusedVariables false
set_option linter.unusedSimpArgs false
attribute [local go_sem high] eqA40
def commute_member.f (k : Nat) (a0_0 : Int) (a0_1 : ByteArray) (a0_2 : ByteArray) (a0_3 : Int) (a0_4 : Int) (a0_5 : ByteArray) (a0_6 : Int) (a1_0 : Int) (a1_1 : ByteArray) (a1_2 : ByteArray) (a1_3 : Int) (a1_4 : Int) (a1_5 : ByteArray) (a1_6 : Int) : Option (Bool) := if a0_1.toList = a1_1.toList then ((commute_inside.f a0_0 a0_1 a0_2 a0_3 a0_4 a0_5 a0_6).bind fun t396 => ((commute_inside.f a1_0 a1_1 a1_2 a1_3 a1_4 a1_5 a1_6).bind fun t397 => (if (t396 == t397) = true then ((method_Changes.f k a0_0 a0_1 a0_2 a0_3 a0_4 a0_5 a0_6).bind fun t398 => (if t398 = true then (some true) else ((method_Changes.f k a1_0 a1_1 a1_2 a1_3 a1_4 a1_5 a1_6).bind fun t399 => (some t399)))) else (some false)))) else (some false)
def commute_member.T1 : Bool × List (List Nat × List Nat) := (true, [([], []), ([0], [0]), ([1], [1]), ([], []), ([3], [3]), ([4], [4]), ([2, 5], [2, 5]), ([6], [6]), ([7], [7]), ([8, 7, 7], [7, 8]), ([7], [7]), ([10, 9, 7], [7, 10]), ([9, 11, 7], [7, 9, 11]), ([7, 12], [7, 12]), ([13, 11], [13]), ([14], [14]), ([15, 14], [14, 15]), ([14], [14]), ([17, 14], [14, 17]), ([16, 18, 14, 14], [14, 16, 18]), ([19, 19, 14], [14, 19]), ([20], [20]), ([21, 20], [20, 21]), ([20], [20]), ([23, 20], [20, 23]), ([22, 24, 20, 20], [20, 22, 24]), ([20, 25, 14], [14, 20, 25]), ([14, 26], [14, 26]), ([27, 25, 0, 1, 2, 3, 4, 5, 6, 7, 8, 9, 10, 11, 12, 13, 14, 15, 16, 17, 18, 19, 20, 21, 22, 23, 24, 25, 26, 27], [27])])
def commute_member.B1 : List Nat := [0, 1, 3, 0, 8, 24, 63, 127, 255, 511, 255, 2047, 4095, 8191, 16383, 32767, 65535, 32767, 163839, 524287, 1048575, 2097151, 4194303, 2097151, 10485759, 33554431, 67108863, 134217727, 268435455]
theorem commute_member.tab1 : rtab .any (opsOf Tryz.f81 1) = commute_member.T1 := by kernel_rfl
theorem commute_member.bits1 : waitsOk commute_member.T1.2 commute_member.B1 = true := by kernel_rfl
set_option maxHeartbeats 8000000 in
set_option maxRecDepth 100000 in
theorem commute_member.calls (k : Nat) (a0_0 : Int) (a0_1 : ByteArray) (a0_2 : ByteArray) (a0_3 : Int) (a0_4 : Int) (a0_5 : ByteArray) (a0_6 : Int) (a1_0 : Int) (a1_1 : ByteArray) (a1_2 : ByteArray) (a1_3 : Int) (a1_4 : Int) (a1_5 : ByteArray) (a1_6 : Int) (r : Bool) (w : World) (h : commute_member.f k a0_0 a0_1 a0_2 a0_3 a0_4 a0_5 a0_6 a1_0 a1_1 a1_2 a1_3 a1_4 a1_5 a1_6 = some r) :
    Calls Tryz.prog 81 #[.agg #[.int .i64 a0_0, .string a0_1, .string a0_2, .int .i64 a0_3, .int .i64 a0_4, .string a0_5, .int .i64 a0_6], .agg #[.int .i64 a1_0, .string a1_1, .string a1_2, .int .i64 a1_3, .int .i64 a1_4, .string a1_5, .int .i64 a1_6]] w fun e w' => e = .returned (.bool r) ∧ Below w.heap.size w w' := by
  have hu53 := Tryz.underlying53
  have hu38 := Tryz.underlying38
  have hu40 := Tryz.underlying40
  have HB := Z0.mk (Below.refl w.heap.size w)
  have H : (if a0_1.toList = a1_1.toList then ((commute_inside.f a0_0 a0_1 a0_2 a0_3 a0_4 a0_5 a0_6).bind fun t396 => ((commute_inside.f a1_0 a1_1 a1_2 a1_3 a1_4 a1_5 a1_6).bind fun t397 => (if (t396 == t397) = true then ((method_Changes.f k a0_0 a0_1 a0_2 a0_3 a0_4 a0_5 a0_6).bind fun t398 => (if t398 = true then (some true) else ((method_Changes.f k a1_0 a1_1 a1_2 a1_3 a1_4 a1_5 a1_6).bind fun t399 => (some t399)))) else (some false)))) else (some false)) = some r := h
  clear h
  by_cases c3 : a0_1.toList = a1_1.toList
  rotate_left
  · rw [if_neg c3] at H
    have c3b0 : (a0_1.toList == a1_1.toList) = false := beq_eq_false_iff_ne.mpr c3
    have c3b1 : (a0_1.toList != a1_1.toList) = true := bne_iff_ne.mpr c3
    obtain rfl := Option.some.inj H
    go_enter Tryz.func81, Tryz.ntmps81
    try go_wp2_with (first | ((with_reducible refine gds (N := 2) rfl ?_); refine bx_ (N := 2) (cs := #[.int .i64 a0_0, .string a0_1, .string a0_2, .int .i64 a0_3, .int .i64 a0_4, .string a0_5, .int .i64 a0_6]) (t := 53) ?_; intro gb394 hg w28 hbox hb; have n0_ := Z0.mk (bsp bl_ hb); have n1_ := Z0.mk (hbox); have n2_ := Z0.mk ((by rw [hg]; exact bsz bl_ : w.heap.size ≤ gb394)); have n3_ := Z0.mk ((by rw [hg]; exact bsz bl_ : w.heap.size ≤ gb394)); clear HB; have HB := n0_; have BK394 := n1_; have GW394 := n2_; have GE394 := n3_; clear n0_ n1_ n2_ n3_; clear hb hbox hg) | ((with_reducible refine gds (N := 3) rfl ?_); refine bx_ (N := 3) (cs := #[.int .i64 a1_0, .string a1_1, .string a1_2, .int .i64 a1_3, .int .i64 a1_4, .string a1_5, .int .i64 a1_6]) (t := 53) ?_; intro gb395 hg w29 hbox hb; have n0_ := Z0.mk (kbl (g := gb394) bk_ hb); have n1_ := Z0.mk (bsp bl_ hb); have n2_ := Z0.mk (hbox); have n3_ := Z0.mk ((by rw [hg]; exact bsz bl_ : w.heap.size ≤ gb395)); have n4_ := Z0.mk ((by rw [hg]; exact bsz bl_ : w.heap.size ≤ gb395)); have n5_ := Z0.mk ((by rw [hg]; exact Nat.ne_of_lt (klt_ (g := gb394) bk_) : gb394 ≠ gb395)); have n6_ := Z0.mk ((by rw [hg]; exact Nat.ne_of_gt (klt_ (g := gb394) bk_) : gb395 ≠ gb394)); clear BK394; clear HB; have BK394 := n0_; have HB := n1_; have BK395 := n2_; have GW395 := n3_; have GE395 := n4_; have NB394_395 := n5_; have NB395_394 := n6_; clear n0_ n1_ n2_ n3_ n4_ n5_ n6_; clear hb hbox hg))
    have n0_ := Z0.mk (kdw BK394.out)
    have n1_ := Z0.mk (kdw BK395.out)
    have n2_ := Z0.mk (bd1 HB.out)
    clear BK394
    clear BK395
    clear HB
    have BK394 := n0_
    have BK395 := n1_
    have HB := n2_
    clear n0_ n1_ n2_
    refine start_ (n := 29) (S := fun w' => w'.cell? ⟨gb394, 0, none⟩ = some (.int .i64 a0_0) ∧ w'.cell? ⟨gb394, 1, none⟩ = some (.string a0_1) ∧ w'.cell? ⟨gb394, 2, none⟩ = some (.string a0_2) ∧ w'.cell? ⟨gb394, 3, none⟩ = some (.int .i64 a0_3) ∧ w'.cell? ⟨gb394, 4, none⟩ = some (.int .i64 a0_4) ∧ w'.cell? ⟨gb394, 5, none⟩ = some (.string a0_5) ∧ w'.cell? ⟨gb394, 6, none⟩ = some (.int .i64 a0_6) ∧ w'.cell? ⟨gb395, 0, none⟩ = some (.int .i64 a1_0) ∧ w'.cell? ⟨gb395, 1, none⟩ = some (.string a1_1) ∧ w'.cell? ⟨gb395, 2, none⟩ = some (.string a1_2) ∧ w'.cell? ⟨gb395, 3, none⟩ = some (.int .i64 a1_3) ∧ w'.cell? ⟨gb395, 4, none⟩ = some (.int .i64 a1_4) ∧ w'.cell? ⟨gb395, 5, none⟩ = some (.string a1_5) ∧ w'.cell? ⟨gb395, 6, none⟩ = some (.int .i64 a1_6)) (ds := []) #[false,false,false,false,false,false,false,false,false,false,false,false,false,false,false,false,false,false,false,false,false,false,false,false,false,false,false,false,false] (by kernel_rfl) rfl rfl ⟨(kcl BK394.out 0).trans rfl, (kcl BK394.out 1).trans rfl, (kcl BK394.out 2).trans rfl, (kcl BK394.out 3).trans rfl, (kcl BK394.out 4).trans rfl, (kcl BK394.out 5).trans rfl, (kcl BK394.out 6).trans rfl, (kcl BK395.out 0).trans rfl, (kcl BK395.out 1).trans rfl, (kcl BK395.out 2).trans rfl, (kcl BK395.out 3).trans rfl, (kcl BK395.out 4).trans rfl, (kcl BK395.out 5).trans rfl, (kcl BK395.out 6).trans rfl⟩ (fun hHeld => ?_); refine with_tabW commute_member.tab1 commute_member.bits1 (fun HT_ HW_ => ?_)
    generalize w29.drew = w30 at BK394 BK395 HB hHeld ⊢
    refine pw_ HT_.out 0 (some 5) (bA 29 1) ?_
    refine pw_ HT_.out 1 (some 6) (bA 29 3) ?_
    refine pw_ HT_.out 3 (some 8) (bA 29 11) ?_
    refine pw_ HT_.out 4 (some 9) (bA 29 27) ?_
    refine tw_ HT_.out HW_.out 2 (some 7) (bA 29 31) hHeld ?_
    refine tw_ HT_.out HW_.out 5 (some 10) (bA 29 63) hHeld ?_
    refine pw_ HT_.out 6 (some 11) (bA 29 127) ?_
    refine pw_ HT_.out 7 (some 12) (bA 29 255) ?_
    refine pv_ HT_.out 8 (some 13) (bA 29 511) ?_
    refine pv_ HT_.out 9 (some 14) (bA 29 1023) ?_
    refine pv_ HT_.out 10 (some 15) (bA 29 2047) ?_
    refine pv_ HT_.out 11 (some 16) (bA 29 4095) ?_
    refine pv_ HT_.out 12 (some 17) (bA 29 8191) ?_
    refine pw_ HT_.out 13 (some 18) (bA 29 16383) ?_
    refine pw_ HT_.out 14 (some 19) (bA 29 32767) ?_
    refine pv_ HT_.out 15 (some 20) (bA 29 65535) ?_
    refine pv_ HT_.out 16 (some 21) (bA 29 131071) ?_
    refine pv_ HT_.out 17 (some 22) (bA 29 262143) ?_
    refine pv_ HT_.out 18 (some 23) (bA 29 524287) ?_
    refine pv_ HT_.out 19 (some 24) (bA 29 1048575) ?_
    refine pv_ HT_.out 20 (some 25) (bA 29 2097151) ?_
    refine pv_ HT_.out 21 (some 26) (bA 29 4194303) ?_
    refine pv_ HT_.out 22 (some 27) (bA 29 8388607) ?_
    refine pv_ HT_.out 23 (some 28) (bA 29 16777215) ?_
    refine pv_ HT_.out 24 (some 29) (bA 29 33554431) ?_
    refine pv_ HT_.out 25 (some 30) (bA 29 67108863) ?_
    refine pv_ HT_.out 26 (some 31) (bA 29 134217727) ?_
    refine pw_ HT_.out 27 (some 32) (bA 29 268435455) ?_
    refine pw_ HT_.out 28 (some 4) (bA 29 536870911) ?_
    refine done_ (done_of HT_.out (by kernel_rfl)) ?_
    try go_wp2
    go_ret
    exact ⟨er_, bl_⟩
  rw [if_pos c3] at H
  have c3b0 : (a0_1.toList == a1_1.toList) = true := beq_iff_eq.mpr c3
  have c3b1 : (a0_1.toList != a1_1.toList) = false := bne_eq_false_iff_eq.mpr c3
  clear c3
  replace H := Option.bind_eq_some_iff.mp H
  obtain ⟨t396, A40, H⟩ := H
  replace H : ((commute_inside.f a1_0 a1_1 a1_2 a1_3 a1_4 a1_5 a1_6).bind fun t397 => (if (t396 == t397) = true then ((method_Changes.f k a0_0 a0_1 a0_2 a0_3 a0_4 a0_5 a0_6).bind fun t398 => (if t398 = true then (some true) else ((method_Changes.f k a1_0 a1_1 a1_2 a1_3 a1_4 a1_5 a1_6).bind fun t399 => (some t399)))) else (some false))) = some r := H
  have A4 := Z0.mk A40
  clear A40
  replace H := Option.bind_eq_some_iff.mp H
  obtain ⟨t397, A50, H⟩ := H
  replace H : (if (t396 == t397) = true then ((method_Changes.f k a0_0 a0_1 a0_2 a0_3 a0_4 a0_5 a0_6).bind fun t398 => (if t398 = true then (some true) else ((method_Changes.f k a1_0 a1_1 a1_2 a1_3 a1_4 a1_5 a1_6).bind fun t399 => (some t399)))) else (some false)) = some r := H
  have A5 := Z0.mk A50
  clear A50
  by_cases c6 : (t396 == t397) = true
  rotate_left
  · rw [if_neg c6] at H
    have c6b0 : (t396 == t397) = false := by simpa using c6
    (try (have c6b1 : decide (t396 = t397) = false := by simpa using c6))
    (try (have c6b2 : (t396 == t397) = false := by simpa using c6))
    (try (have c6b3 : ¬ (t396 = t397) := by simpa using c6))
    clear c6
    obtain rfl := Option.some.inj H
    go_enter Tryz.func81, Tryz.ntmps81
    try go_wp2_with (first | ((with_reducible refine gds (N := 2) rfl ?_); refine bx_ (N := 2) (cs := #[.int .i64 a0_0, .string a0_1, .string a0_2, .int .i64 a0_3, .int .i64 a0_4, .string a0_5, .int .i64 a0_6]) (t := 53) ?_; intro gb394 hg w23 hbox hb; have n0_ := Z0.mk (bsp bl_ hb); have n1_ := Z0.mk (hbox); have n2_ := Z0.mk ((by rw [hg]; exact bsz bl_ : w.heap.size ≤ gb394)); have n3_ := Z0.mk ((by rw [hg]; exact bsz bl_ : w.heap.size ≤ gb394)); clear HB; have HB := n0_; have BK394 := n1_; have GW394 := n2_; have GE394 := n3_; clear n0_ n1_ n2_ n3_; clear hb hbox hg) | ((with_reducible refine gds (N := 3) rfl ?_); refine bx_ (N := 3) (cs := #[.int .i64 a1_0, .string a1_1, .string a1_2, .int .i64 a1_3, .int .i64 a1_4, .string a1_5, .int .i64 a1_6]) (t := 53) ?_; intro gb395 hg w24 hbox hb; have n0_ := Z0.mk (kbl (g := gb394) bk_ hb); have n1_ := Z0.mk (bsp bl_ hb); have n2_ := Z0.mk (hbox); have n3_ := Z0.mk ((by rw [hg]; exact bsz bl_ : w.heap.size ≤ gb395)); have n4_ := Z0.mk ((by rw [hg]; exact bsz bl_ : w.heap.size ≤ gb395)); have n5_ := Z0.mk ((by rw [hg]; exact Nat.ne_of_lt (klt_ (g := gb394) bk_) : gb394 ≠ gb395)); have n6_ := Z0.mk ((by rw [hg]; exact Nat.ne_of_gt (klt_ (g := gb394) bk_) : gb395 ≠ gb394)); clear BK394; clear HB; have BK394 := n0_; have HB := n1_; have BK395 := n2_; have GW395 := n3_; have GE395 := n4_; have NB394_395 := n5_; have NB395_394 := n6_; clear n0_ n1_ n2_ n3_ n4_ n5_ n6_; clear hb hbox hg))
    have n0_ := Z0.mk (kdw BK394.out)
    have n1_ := Z0.mk (kdw BK395.out)
    have n2_ := Z0.mk (bd1 HB.out)
    clear BK394
    clear BK395
    clear HB
    have BK394 := n0_
    have BK395 := n1_
    have HB := n2_
    clear n0_ n1_ n2_
    refine start_ (n := 29) (S := fun w' => w'.cell? ⟨gb394, 0, none⟩ = some (.int .i64 a0_0) ∧ w'.cell? ⟨gb394, 1, none⟩ = some (.string a0_1) ∧ w'.cell? ⟨gb394, 2, none⟩ = some (.string a0_2) ∧ w'.cell? ⟨gb394, 3, none⟩ = some (.int .i64 a0_3) ∧ w'.cell? ⟨gb394, 4, none⟩ = some (.int .i64 a0_4) ∧ w'.cell? ⟨gb394, 5, none⟩ = some (.string a0_5) ∧ w'.cell? ⟨gb394, 6, none⟩ = some (.int .i64 a0_6) ∧ w'.cell? ⟨gb395, 0, none⟩ = some (.int .i64 a1_0) ∧ w'.cell? ⟨gb395, 1, none⟩ = some (.string a1_1) ∧ w'.cell? ⟨gb395, 2, none⟩ = some (.string a1_2) ∧ w'.cell? ⟨gb395, 3, none⟩ = some (.int .i64 a1_3) ∧ w'.cell? ⟨gb395, 4, none⟩ = some (.int .i64 a1_4) ∧ w'.cell? ⟨gb395, 5, none⟩ = some (.string a1_5) ∧ w'.cell? ⟨gb395, 6, none⟩ = some (.int .i64 a1_6)) (ds := []) #[false,false,false,false,false,false,false,false,false,false,false,false,false,false,false,false,false,false,false,false,false,false,false,false,false,false,false,false,false] (by kernel_rfl) rfl rfl ⟨(kcl BK394.out 0).trans rfl, (kcl BK394.out 1).trans rfl, (kcl BK394.out 2).trans rfl, (kcl BK394.out 3).trans rfl, (kcl BK394.out 4).trans rfl, (kcl BK394.out 5).trans rfl, (kcl BK394.out 6).trans rfl, (kcl BK395.out 0).trans rfl, (kcl BK395.out 1).trans rfl, (kcl BK395.out 2).trans rfl, (kcl BK395.out 3).trans rfl, (kcl BK395.out 4).trans rfl, (kcl BK395.out 5).trans rfl, (kcl BK395.out 6).trans rfl⟩ (fun hHeld => ?_); refine with_tabW commute_member.tab1 commute_member.bits1 (fun HT_ HW_ => ?_)
    generalize w24.drew = w25 at BK394 BK395 HB hHeld ⊢
    refine pw_ HT_.out 0 (some 5) (bA 29 1) ?_
    refine pw_ HT_.out 1 (some 6) (bA 29 3) ?_
    refine pw_ HT_.out 3 (some 8) (bA 29 11) ?_
    refine pw_ HT_.out 4 (some 9) (bA 29 27) ?_
    refine tw_ HT_.out HW_.out 2 (some 7) (bA 29 31) hHeld ?_
    refine tw_ HT_.out HW_.out 5 (some 10) (bA 29 63) hHeld ?_
    refine pw_ HT_.out 6 (some 11) (bA 29 127) ?_
    refine pw_ HT_.out 7 (some 12) (bA 29 255) ?_
    refine tw_ HT_.out HW_.out 8 (some 13) (bA 29 511) hHeld ?_
    refine tw_ HT_.out HW_.out 10 (some 15) (bA 29 1535) hHeld ?_
    refine one_ (i := 9) (N := some 14) (bA 29 2047) rfl rfl (one_of HT_.out (by kernel_rfl)) (by decide) (fun K hK => ?_)
    refine goes_ Tryz.func98 (by kernel_rfl) rfl #[.agg #[.int .i64 a0_0, .string a0_1, .string a0_2, .int .i64 a0_3, .int .i64 a0_4, .string a0_5, .int .i64 a0_6]] (by rfl) rfl rfl (by (try simp only [List.map_toArray, List.map_cons, List.map_nil]); first | done | rfl | (simp only [List.length_drop, List.length_take]; rfl) | (simp only [Act.eval, Array.getD_eq_getD_getElem?, Option.getD_some, *]; done) | (simp only [Array.mk.injEq, List.cons.injEq, Value.int.injEq, true_and, and_true]; first | omega | (simp [IntKind.wrap, IntKind.bits, IntKind.signed]; omega))) ?_
    with_reducible refine (commute_inside.calls a0_0 a0_1 a0_2 a0_3 a0_4 a0_5 a0_6 t396 _ A4.out).mono ?_
    rintro e w26 ⟨rfl, hb⟩
    refine ⟨_, rfl, ?_⟩
    have n0_ := Z0.mk (kbl (g := gb394) bk_ hb)
    have n1_ := Z0.mk (kbl (g := gb395) bk_ hb)
    have n2_ := Z0.mk (bsp bl_ hb)
    clear BK394
    clear BK395
    clear HB
    have BK394 := n0_
    have BK395 := n1_
    have HB := n2_
    clear n0_ n1_ n2_
    (try clear hb)
    (try clear hb2)
    (try clear hk)
    (try clear hi)
    refine hK.out _ _ ⟨(kcl BK394.out 0).trans rfl, (kcl BK394.out 1).trans rfl, (kcl BK394.out 2).trans rfl, (kcl BK394.out 3).trans rfl, (kcl BK394.out 4).trans rfl, (kcl BK394.out 5).trans rfl, (kcl BK394.out 6).trans rfl, (kcl BK395.out 0).trans rfl, (kcl BK395.out 1).trans rfl, (kcl BK395.out 2).trans rfl, (kcl BK395.out 3).trans rfl, (kcl BK395.out 4).trans rfl, (kcl BK395.out 5).trans rfl, (kcl BK395.out 6).trans rfl⟩ (fun hHeld => ?_)
    clear hK K
    refine norm_ (a' := ?_) ?_ ?_
    rotate_left
    · show Act.put _ (some 14) _ = _
      simp only [Act.put, List.setIfInBounds_toArray, List.set_cons_zero, List.set_cons_succ, i64_w, i32_w]
      rfl
    refine one_ (i := 11) (N := some 16) (bA 29 4095) rfl rfl (one_of HT_.out (by kernel_rfl)) (by decide) (fun K hK => ?_)
    refine goes_ Tryz.func98 (by kernel_rfl) rfl #[.agg #[.int .i64 a1_0, .string a1_1, .string a1_2, .int .i64 a1_3, .int .i64 a1_4, .string a1_5, .int .i64 a1_6]] (by rfl) rfl rfl (by (try simp only [List.map_toArray, List.map_cons, List.map_nil]); first | done | rfl | (simp only [List.length_drop, List.length_take]; rfl) | (simp only [Act.eval, Array.getD_eq_getD_getElem?, Option.getD_some, *]; done) | (simp only [Array.mk.injEq, List.cons.injEq, Value.int.injEq, true_and, and_true]; first | omega | (simp [IntKind.wrap, IntKind.bits, IntKind.signed]; omega))) ?_
    with_reducible refine (commute_inside.calls a1_0 a1_1 a1_2 a1_3 a1_4 a1_5 a1_6 t397 _ A5.out).mono ?_
    rintro e w27 ⟨rfl, hb⟩
    refine ⟨_, rfl, ?_⟩
    have n0_ := Z0.mk (kbl (g := gb394) bk_ hb)
    have n1_ := Z0.mk (kbl (g := gb395) bk_ hb)
    have n2_ := Z0.mk (bsp bl_ hb)
    clear BK394
    clear BK395
    clear HB
    have BK394 := n0_
    have BK395 := n1_
    have HB := n2_
    clear n0_ n1_ n2_
    (try clear hb)
    (try clear hb2)
    (try clear hk)
    (try clear hi)
    refine hK.out _ _ ⟨(kcl BK394.out 0).trans rfl, (kcl BK394.out 1).trans rfl, (kcl BK394.out 2).trans rfl, (kcl BK394.out 3).trans rfl, (kcl BK394.out 4).trans rfl, (kcl BK394.out 5).trans rfl, (kcl BK394.out 6).trans rfl, (kcl BK395.out 0).trans rfl, (kcl BK395.out 1).trans rfl, (kcl BK395.out 2).trans rfl, (kcl BK395.out 3).trans rfl, (kcl BK395.out 4).trans rfl, (kcl BK395.out 5).trans rfl, (kcl BK395.out 6).trans rfl⟩ (fun hHeld => ?_)
    clear hK K
    refine norm_ (a' := ?_) ?_ ?_
    rotate_left
    · show Act.put _ (some 16) _ = _
      simp only [Act.put, List.setIfInBounds_toArray, List.set_cons_zero, List.set_cons_succ, i64_w, i32_w]
      rfl
    refine pw_ HT_.out 12 (some 17) (bA 29 8191) ?_
    refine pw_ HT_.out 13 (some 18) (bA 29 16383) ?_
    refine pw_ HT_.out 14 (some 19) (bA 29 32767) ?_
    refine pv_ HT_.out 15 (some 20) (bA 29 65535) ?_
    refine pv_ HT_.out 16 (some 21) (bA 29 131071) ?_
    refine pv_ HT_.out 17 (some 22) (bA 29 262143) ?_
    refine pv_ HT_.out 18 (some 23) (bA 29 524287) ?_
    refine pv_ HT_.out 19 (some 24) (bA 29 1048575) ?_
    refine pv_ HT_.out 20 (some 25) (bA 29 2097151) ?_
    refine pv_ HT_.out 21 (some 26) (bA 29 4194303) ?_
    refine pv_ HT_.out 22 (some 27) (bA 29 8388607) ?_
    refine pv_ HT_.out 23 (some 28) (bA 29 16777215) ?_
    refine pv_ HT_.out 24 (some 29) (bA 29 33554431) ?_
    refine pv_ HT_.out 25 (some 30) (bA 29 67108863) ?_
    refine pv_ HT_.out 26 (some 31) (bA 29 134217727) ?_
    refine pw_ HT_.out 27 (some 32) (bA 29 268435455) ?_
    refine pw_ HT_.out 28 (some 4) (bA 29 536870911) ?_
    refine done_ (done_of HT_.out (by kernel_rfl)) ?_
    try go_wp2
    go_ret
    exact ⟨er_, bl_⟩
  rw [if_pos c6] at H
  have c6b0 : (t396 == t397) = true := c6
  (try (have c6b1 : decide (t396 = t397) = true := by simpa using c6))
  (try (have c6b2 : (t396 == t397) = true := by simpa using c6))
  clear c6
  replace H := Option.bind_eq_some_iff.mp H
  obtain ⟨t398, A70, H⟩ := H
  replace H : (if t398 = true then (some true) else ((method_Changes.f k a1_0 a1_1 a1_2 a1_3 a1_4 a1_5 a1_6).bind fun t399 => (some t399))) = some r := H
  have A7 := Z0.mk A70
  clear A70
  by_cases c8 : t398 = true
  · subst c8
    have H1 : (some true) = some r := by rw [if_pos rfl] at H; exact H
    clear H
    have H := H1
    clear H1
    obtain rfl := Option.some.inj H
    go_enter Tryz.func81, Tryz.ntmps81
    try go_wp2_with (first | ((with_reducible refine gds (N := 2) rfl ?_); refine bx_ (N := 2) (cs := #[.int .i64 a0_0, .string a0_1, .string a0_2, .int .i64 a0_3, .int .i64 a0_4, .string a0_5, .int .i64 a0_6]) (t := 53) ?_; intro gb394 hg w9 hbox hb; have n0_ := Z0.mk (bsp bl_ hb); have n1_ := Z0.mk (hbox); have n2_ := Z0.mk ((by rw [hg]; exact bsz bl_ : w.heap.size ≤ gb394)); have n3_ := Z0.mk ((by rw [hg]; exact bsz bl_ : w.heap.size ≤ gb394)); clear HB; have HB := n0_; have BK394 := n1_; have GW394 := n2_; have GE394 := n3_; clear n0_ n1_ n2_ n3_; clear hb hbox hg) | ((with_reducible refine gds (N := 3) rfl ?_); refine bx_ (N := 3) (cs := #[.int .i64 a1_0, .string a1_1, .string a1_2, .int .i64 a1_3, .int .i64 a1_4, .string a1_5, .int .i64 a1_6]) (t := 53) ?_; intro gb395 hg w10 hbox hb; have n0_ := Z0.mk (kbl (g := gb394) bk_ hb); have n1_ := Z0.mk (bsp bl_ hb); have n2_ := Z0.mk (hbox); have n3_ := Z0.mk ((by rw [hg]; exact bsz bl_ : w.heap.size ≤ gb395)); have n4_ := Z0.mk ((by rw [hg]; exact bsz bl_ : w.heap.size ≤ gb395)); have n5_ := Z0.mk ((by rw [hg]; exact Nat.ne_of_lt (klt_ (g := gb394) bk_) : gb394 ≠ gb395)); have n6_ := Z0.mk ((by rw [hg]; exact Nat.ne_of_gt (klt_ (g := gb394) bk_) : gb395 ≠ gb394)); clear BK394; clear HB; have BK394 := n0_; have HB := n1_; have BK395 := n2_; have GW395 := n3_; have GE395 := n4_; have NB394_395 := n5_; have NB395_394 := n6_; clear n0_ n1_ n2_ n3_ n4_ n5_ n6_; clear hb hbox hg))
    have n0_ := Z0.mk (kdw BK394.out)
    have n1_ := Z0.mk (kdw BK395.out)
    have n2_ := Z0.mk (bd1 HB.out)
    clear BK394
    clear BK395
    clear HB
    have BK394 := n0_
    have BK395 := n1_
    have HB := n2_
    clear n0_ n1_ n2_
    refine start_ (n := 29) (S := fun w' => w'.cell? ⟨gb394, 0, none⟩ = some (.int .i64 a0_0) ∧ w'.cell? ⟨gb394, 1, none⟩ = some (.string a0_1) ∧ w'.cell? ⟨gb394, 2, none⟩ = some (.string a0_2) ∧ w'.cell? ⟨gb394, 3, none⟩ = some (.int .i64 a0_3) ∧ w'.cell? ⟨gb394, 4, none⟩ = some (.int .i64 a0_4) ∧ w'.cell? ⟨gb394, 5, none⟩ = some (.string a0_5) ∧ w'.cell? ⟨gb394, 6, none⟩ = some (.int .i64 a0_6) ∧ w'.cell? ⟨gb395, 0, none⟩ = some (.int .i64 a1_0) ∧ w'.cell? ⟨gb395, 1, none⟩ = some (.string a1_1) ∧ w'.cell? ⟨gb395, 2, none⟩ = some (.string a1_2) ∧ w'.cell? ⟨gb395, 3, none⟩ = some (.int .i64 a1_3) ∧ w'.cell? ⟨gb395, 4, none⟩ = some (.int .i64 a1_4) ∧ w'.cell? ⟨gb395, 5, none⟩ = some (.string a1_5) ∧ w'.cell? ⟨gb395, 6, none⟩ = some (.int .i64 a1_6)) (ds := []) #[false,false,false,false,false,false,false,false,false,false,false,false,false,false,false,false,false,false,false,false,false,false,false,false,false,false,false,false,false] (by kernel_rfl) rfl rfl ⟨(kcl BK394.out 0).trans rfl, (kcl BK394.out 1).trans rfl, (kcl BK394.out 2).trans rfl, (kcl BK394.out 3).trans rfl, (kcl BK394.out 4).trans rfl, (kcl BK394.out 5).trans rfl, (kcl BK394.out 6).trans rfl, (kcl BK395.out 0).trans rfl, (kcl BK395.out 1).trans rfl, (kcl BK395.out 2).trans rfl, (kcl BK395.out 3).trans rfl, (kcl BK395.out 4).trans rfl, (kcl BK395.out 5).trans rfl, (kcl BK395.out 6).trans rfl⟩ (fun hHeld => ?_); refine with_tabW commute_member.tab1 commute_member.bits1 (fun HT_ HW_ => ?_)
    generalize w10.drew = w11 at BK394 BK395 HB hHeld ⊢
    refine pw_ HT_.out 0 (some 5) (bA 29 1) ?_
    refine pw_ HT_.out 1 (some 6) (bA 29 3) ?_
    refine pw_ HT_.out 3 (some 8) (bA 29 11) ?_
    refine pw_ HT_.out 4 (some 9) (bA 29 27) ?_
    refine tw_ HT_.out HW_.out 2 (some 7) (bA 29 31) hHeld ?_
    refine tw_ HT_.out HW_.out 5 (some 10) (bA 29 63) hHeld ?_
    refine pw_ HT_.out 6 (some 11) (bA 29 127) ?_
    refine pw_ HT_.out 7 (some 12) (bA 29 255) ?_
    refine tw_ HT_.out HW_.out 8 (some 13) (bA 29 511) hHeld ?_
    refine tw_ HT_.out HW_.out 10 (some 15) (bA 29 1535) hHeld ?_
    refine one_ (i := 9) (N := some 14) (bA 29 2047) rfl rfl (one_of HT_.out (by kernel_rfl)) (by decide) (fun K hK => ?_)
    refine goes_ Tryz.func98 (by kernel_rfl) rfl #[.agg #[.int .i64 a0_0, .string a0_1, .string a0_2, .int .i64 a0_3, .int .i64 a0_4, .string a0_5, .int .i64 a0_6]] (by rfl) rfl rfl (by (try simp only [List.map_toArray, List.map_cons, List.map_nil]); first | done | rfl | (simp only [List.length_drop, List.length_take]; rfl) | (simp only [Act.eval, Array.getD_eq_getD_getElem?, Option.getD_some, *]; done) | (simp only [Array.mk.injEq, List.cons.injEq, Value.int.injEq, true_and, and_true]; first | omega | (simp [IntKind.wrap, IntKind.bits, IntKind.signed]; omega))) ?_
    with_reducible refine (commute_inside.calls a0_0 a0_1 a0_2 a0_3 a0_4 a0_5 a0_6 t396 _ A4.out).mono ?_
    rintro e w12 ⟨rfl, hb⟩
    refine ⟨_, rfl, ?_⟩
    have n0_ := Z0.mk (kbl (g := gb394) bk_ hb)
    have n1_ := Z0.mk (kbl (g := gb395) bk_ hb)
    have n2_ := Z0.mk (bsp bl_ hb)
    clear BK394
    clear BK395
    clear HB
    have BK394 := n0_
    have BK395 := n1_
    have HB := n2_
    clear n0_ n1_ n2_
    (try clear hb)
    (try clear hb2)
    (try clear hk)
    (try clear hi)
    refine hK.out _ _ ⟨(kcl BK394.out 0).trans rfl, (kcl BK394.out 1).trans rfl, (kcl BK394.out 2).trans rfl, (kcl BK394.out 3).trans rfl, (kcl BK394.out 4).trans rfl, (kcl BK394.out 5).trans rfl, (kcl BK394.out 6).trans rfl, (kcl BK395.out 0).trans rfl, (kcl BK395.out 1).trans rfl, (kcl BK395.out 2).trans rfl, (kcl BK395.out 3).trans rfl, (kcl BK395.out 4).trans rfl, (kcl BK395.out 5).trans rfl, (kcl BK395.out 6).trans rfl⟩ (fun hHeld => ?_)
    clear hK K
    refine norm_ (a' := ?_) ?_ ?_
    rotate_left
    · show Act.put _ (some 14) _ = _
      simp only [Act.put, List.setIfInBounds_toArray, List.set_cons_zero, List.set_cons_succ, i64_w, i32_w]
      rfl
    refine one_ (i := 11) (N := some 16) (bA 29 4095) rfl rfl (one_of HT_.out (by kernel_rfl)) (by decide) (fun K hK => ?_)
    refine goes_ Tryz.func98 (by kernel_rfl) rfl #[.agg #[.int .i64 a1_0, .string a1_1, .string a1_2, .int .i64 a1_3, .int .i64 a1_4, .string a1_5, .int .i64 a1_6]] (by rfl) rfl rfl (by (try simp only [List.map_toArray, List.map_cons, List.map_nil]); first | done | rfl | (simp only [List.length_drop, List.length_take]; rfl) | (simp only [Act.eval, Array.getD_eq_getD_getElem?, Option.getD_some, *]; done) | (simp only [Array.mk.injEq, List.cons.injEq, Value.int.injEq, true_and, and_true]; first | omega | (simp [IntKind.wrap, IntKind.bits, IntKind.signed]; omega))) ?_
    with_reducible refine (commute_inside.calls a1_0 a1_1 a1_2 a1_3 a1_4 a1_5 a1_6 t397 _ A5.out).mono ?_
    rintro e w13 ⟨rfl, hb⟩
    refine ⟨_, rfl, ?_⟩
    have n0_ := Z0.mk (kbl (g := gb394) bk_ hb)
    have n1_ := Z0.mk (kbl (g := gb395) bk_ hb)
    have n2_ := Z0.mk (bsp bl_ hb)
    clear BK394
    clear BK395
    clear HB
    have BK394 := n0_
    have BK395 := n1_
    have HB := n2_
    clear n0_ n1_ n2_
    (try clear hb)
    (try clear hb2)
    (try clear hk)
    (try clear hi)
    refine hK.out _ _ ⟨(kcl BK394.out 0).trans rfl, (kcl BK394.out 1).trans rfl, (kcl BK394.out 2).trans rfl, (kcl BK394.out 3).trans rfl, (kcl BK394.out 4).trans rfl, (kcl BK394.out 5).trans rfl, (kcl BK394.out 6).trans rfl, (kcl BK395.out 0).trans rfl, (kcl BK395.out 1).trans rfl, (kcl BK395.out 2).trans rfl, (kcl BK395.out 3).trans rfl, (kcl BK395.out 4).trans rfl, (kcl BK395.out 5).trans rfl, (kcl BK395.out 6).trans rfl⟩ (fun hHeld => ?_)
    clear hK K
    refine norm_ (a' := ?_) ?_ ?_
    rotate_left
    · show Act.put _ (some 16) _ = _
      simp only [Act.put, List.setIfInBounds_toArray, List.set_cons_zero, List.set_cons_succ, i64_w, i32_w]
      rfl
    refine pw_ HT_.out 12 (some 17) (bA 29 8191) ?_
    refine pw_ HT_.out 13 (some 18) (bA 29 16383) ?_
    refine pw_ HT_.out 14 (some 19) (bA 29 32767) ?_
    refine pw_ HT_.out 15 (some 20) (bA 29 65535) ?_
    refine pw_ HT_.out 17 (some 22) (bA 29 196607) ?_
    refine tw_ HT_.out HW_.out 16 (some 21) (bA 29 262143) hHeld ?_
    refine tw_ HT_.out HW_.out 18 (some 23) (bA 29 524287) hHeld ?_
    refine one_ (i := 19) (N := some 24) (bA 29 1048575) rfl rfl (one_of HT_.out (by kernel_rfl)) (by decide) (fun K hK => ?_)
    refine goes_ Tryz.func36 (by kernel_rfl) rfl #[.agg #[.int .i64 a0_0, .string a0_1, .string a0_2, .int .i64 a0_3], .agg #[.int .i64 a0_4, .string a0_5, .int .i64 a0_6]] (by rfl) rfl rfl (by (try simp only [List.map_toArray, List.map_cons, List.map_nil]); first | done | rfl | (simp only [List.length_drop, List.length_take]; rfl) | (simp only [Act.eval, Array.getD_eq_getD_getElem?, Option.getD_some, *]; done) | (simp only [Array.mk.injEq, List.cons.injEq, Value.int.injEq, true_and, and_true]; first | omega | (simp [IntKind.wrap, IntKind.bits, IntKind.signed]; omega))) ?_
    with_reducible refine (method_Changes.calls k a0_0 a0_1 a0_2 a0_3 a0_4 a0_5 a0_6 true _ A7.out).mono ?_
    rintro e w14 ⟨rfl, hb⟩
    refine ⟨_, rfl, ?_⟩
    have n0_ := Z0.mk (kbl (g := gb394) bk_ hb)
    have n1_ := Z0.mk (kbl (g := gb395) bk_ hb)
    have n2_ := Z0.mk (bsp bl_ hb)
    clear BK394
    clear BK395
    clear HB
    have BK394 := n0_
    have BK395 := n1_
    have HB := n2_
    clear n0_ n1_ n2_
    (try clear hb)
    (try clear hb2)
    (try clear hk)
    (try clear hi)
    refine hK.out _ _ ⟨(kcl BK394.out 0).trans rfl, (kcl BK394.out 1).trans rfl, (kcl BK394.out 2).trans rfl, (kcl BK394.out 3).trans rfl, (kcl BK394.out 4).trans rfl, (kcl BK394.out 5).trans rfl, (kcl BK394.out 6).trans rfl, (kcl BK395.out 0).trans rfl, (kcl BK395.out 1).trans rfl, (kcl BK395.out 2).trans rfl, (kcl BK395.out 3).trans rfl, (kcl BK395.out 4).trans rfl, (kcl BK395.out 5).trans rfl, (kcl BK395.out 6).trans rfl⟩ (fun hHeld => ?_)
    clear hK K
    refine norm_ (a' := ?_) ?_ ?_
    rotate_left
    · show Act.put _ (some 24) _ = _
      simp only [Act.put, List.setIfInBounds_toArray, List.set_cons_zero, List.set_cons_succ, i64_w, i32_w]
      rfl
    refine pw_ HT_.out 20 (some 25) (bA 29 2097151) ?_
    refine pv_ HT_.out 21 (some 26) (bA 29 4194303) ?_
    refine pv_ HT_.out 22 (some 27) (bA 29 8388607) ?_
    refine pv_ HT_.out 23 (some 28) (bA 29 16777215) ?_
    refine pv_ HT_.out 24 (some 29) (bA 29 33554431) ?_
    refine pv_ HT_.out 25 (some 30) (bA 29 67108863) ?_
    refine pw_ HT_.out 26 (some 31) (bA 29 134217727) ?_
    refine pw_ HT_.out 27 (some 32) (bA 29 268435455) ?_
    refine pw_ HT_.out 28 (some 4) (bA 29 536870911) ?_
    refine done_ (done_of HT_.out (by kernel_rfl)) ?_
    try go_wp2
    go_ret
    exact ⟨er_, bl_⟩
  replace c8 := Bool.eq_false_iff.mpr c8
  subst c8
  have H1 : ((method_Changes.f k a1_0 a1_1 a1_2 a1_3 a1_4 a1_5 a1_6).bind fun t399 => (some t399)) = some r := by rw [if_neg (show ¬ (false = true) by decide)] at H; exact H
  clear H
  have H := H1
  clear H1
  replace H := Option.bind_eq_some_iff.mp H
  obtain ⟨t399, A150, H⟩ := H
  replace H : (some t399) = some r := H
  have A15 := Z0.mk A150
  clear A150
  obtain rfl := Option.some.inj H
  go_enter Tryz.func81, Tryz.ntmps81
  try go_wp2_with (first | ((with_reducible refine gds (N := 2) rfl ?_); refine bx_ (N := 2) (cs := #[.int .i64 a0_0, .string a0_1, .string a0_2, .int .i64 a0_3, .int .i64 a0_4, .string a0_5, .int .i64 a0_6]) (t := 53) ?_; intro gb394 hg w16 hbox hb; have n0_ := Z0.mk (bsp bl_ hb); have n1_ := Z0.mk (hbox); have n2_ := Z0.mk ((by rw [hg]; exact bsz bl_ : w.heap.size ≤ gb394)); have n3_ := Z0.mk ((by rw [hg]; exact bsz bl_ : w.heap.size ≤ gb394)); clear HB; have HB := n0_; have BK394 := n1_; have GW394 := n2_; have GE394 := n3_; clear n0_ n1_ n2_ n3_; clear hb hbox hg) | ((with_reducible refine gds (N := 3) rfl ?_); refine bx_ (N := 3) (cs := #[.int .i64 a1_0, .string a1_1, .string a1_2, .int .i64 a1_3, .int .i64 a1_4, .string a1_5, .int .i64 a1_6]) (t := 53) ?_; intro gb395 hg w17 hbox hb; have n0_ := Z0.mk (kbl (g := gb394) bk_ hb); have n1_ := Z0.mk (bsp bl_ hb); have n2_ := Z0.mk (hbox); have n3_ := Z0.mk ((by rw [hg]; exact bsz bl_ : w.heap.size ≤ gb395)); have n4_ := Z0.mk ((by rw [hg]; exact bsz bl_ : w.heap.size ≤ gb395)); have n5_ := Z0.mk ((by rw [hg]; exact Nat.ne_of_lt (klt_ (g := gb394) bk_) : gb394 ≠ gb395)); have n6_ := Z0.mk ((by rw [hg]; exact Nat.ne_of_gt (klt_ (g := gb394) bk_) : gb395 ≠ gb394)); clear BK394; clear HB; have BK394 := n0_; have HB := n1_; have BK395 := n2_; have GW395 := n3_; have GE395 := n4_; have NB394_395 := n5_; have NB395_394 := n6_; clear n0_ n1_ n2_ n3_ n4_ n5_ n6_; clear hb hbox hg))
  have n0_ := Z0.mk (kdw BK394.out)
  have n1_ := Z0.mk (kdw BK395.out)
  have n2_ := Z0.mk (bd1 HB.out)
  clear BK394
  clear BK395
  clear HB
  have BK394 := n0_
  have BK395 := n1_
  have HB := n2_
  clear n0_ n1_ n2_
  refine start_ (n := 29) (S := fun w' => w'.cell? ⟨gb394, 0, none⟩ = some (.int .i64 a0_0) ∧ w'.cell? ⟨gb394, 1, none⟩ = some (.string a0_1) ∧ w'.cell? ⟨gb394, 2, none⟩ = some (.string a0_2) ∧ w'.cell? ⟨gb394, 3, none⟩ = some (.int .i64 a0_3) ∧ w'.cell? ⟨gb394, 4, none⟩ = some (.int .i64 a0_4) ∧ w'.cell? ⟨gb394, 5, none⟩ = some (.string a0_5) ∧ w'.cell? ⟨gb394, 6, none⟩ = some (.int .i64 a0_6) ∧ w'.cell? ⟨gb395, 0, none⟩ = some (.int .i64 a1_0) ∧ w'.cell? ⟨gb395, 1, none⟩ = some (.string a1_1) ∧ w'.cell? ⟨gb395, 2, none⟩ = some (.string a1_2) ∧ w'.cell? ⟨gb395, 3, none⟩ = some (.int .i64 a1_3) ∧ w'.cell? ⟨gb395, 4, none⟩ = some (.int .i64 a1_4) ∧ w'.cell? ⟨gb395, 5, none⟩ = some (.string a1_5) ∧ w'.cell? ⟨gb395, 6, none⟩ = some (.int .i64 a1_6)) (ds := []) #[false,false,false,false,false,false,false,false,false,false,false,false,false,false,false,false,false,false,false,false,false,false,false,false,false,false,false,false,false] (by kernel_rfl) rfl rfl ⟨(kcl BK394.out 0).trans rfl, (kcl BK394.out 1).trans rfl, (kcl BK394.out 2).trans rfl, (kcl BK394.out 3).trans rfl, (kcl BK394.out 4).trans rfl, (kcl BK394.out 5).trans rfl, (kcl BK394.out 6).trans rfl, (kcl BK395.out 0).trans rfl, (kcl BK395.out 1).trans rfl, (kcl BK395.out 2).trans rfl, (kcl BK395.out 3).trans rfl, (kcl BK395.out 4).trans rfl, (kcl BK395.out 5).trans rfl, (kcl BK395.out 6).trans rfl⟩ (fun hHeld => ?_); refine with_tabW commute_member.tab1 commute_member.bits1 (fun HT_ HW_ => ?_)
  generalize w17.drew = w18 at BK394 BK395 HB hHeld ⊢
  refine pw_ HT_.out 0 (some 5) (bA 29 1) ?_
  refine pw_ HT_.out 1 (some 6) (bA 29 3) ?_
  refine pw_ HT_.out 3 (some 8) (bA 29 11) ?_
  refine pw_ HT_.out 4 (some 9) (bA 29 27) ?_
  refine tw_ HT_.out HW_.out 2 (some 7) (bA 29 31) hHeld ?_
  refine tw_ HT_.out HW_.out 5 (some 10) (bA 29 63) hHeld ?_
  refine pw_ HT_.out 6 (some 11) (bA 29 127) ?_
  refine pw_ HT_.out 7 (some 12) (bA 29 255) ?_
  refine tw_ HT_.out HW_.out 8 (some 13) (bA 29 511) hHeld ?_
  refine tw_ HT_.out HW_.out 10 (some 15) (bA 29 1535) hHeld ?_
  refine one_ (i := 9) (N := some 14) (bA 29 2047) rfl rfl (one_of HT_.out (by kernel_rfl)) (by decide) (fun K hK => ?_)
  refine goes_ Tryz.func98 (by kernel_rfl) rfl #[.agg #[.int .i64 a0_0, .string a0_1, .string a0_2, .int .i64 a0_3, .int .i64 a0_4, .string a0_5, .int .i64 a0_6]] (by rfl) rfl rfl (by (try simp only [List.map_toArray, List.map_cons, List.map_nil]); first | done | rfl | (simp only [List.length_drop, List.length_take]; rfl) | (simp only [Act.eval, Array.getD_eq_getD_getElem?, Option.getD_some, *]; done) | (simp only [Array.mk.injEq, List.cons.injEq, Value.int.injEq, true_and, and_true]; first | omega | (simp [IntKind.wrap, IntKind.bits, IntKind.signed]; omega))) ?_
  with_reducible refine (commute_inside.calls a0_0 a0_1 a0_2 a0_3 a0_4 a0_5 a0_6 t396 _ A4.out).mono ?_
  rintro e w19 ⟨rfl, hb⟩
  refine ⟨_, rfl, ?_⟩
  have n0_ := Z0.mk (kbl (g := gb394) bk_ hb)
  have n1_ := Z0.mk (kbl (g := gb395) bk_ hb)
  have n2_ := Z0.mk (bsp bl_ hb)
  clear BK394
  clear BK395
  clear HB
  have BK394 := n0_
  have BK395 := n1_
  have HB := n2_
  clear n0_ n1_ n2_
  (try clear hb)
  (try clear hb2)
  (try clear hk)
  (try clear hi)
  refine hK.out _ _ ⟨(kcl BK394.out 0).trans rfl, (kcl BK394.out 1).trans rfl, (kcl BK394.out 2).trans rfl, (kcl BK394.out 3).trans rfl, (kcl BK394.out 4).trans rfl, (kcl BK394.out 5).trans rfl, (kcl BK394.out 6).trans rfl, (kcl BK395.out 0).trans rfl, (kcl BK395.out 1).trans rfl, (kcl BK395.out 2).trans rfl, (kcl BK395.out 3).trans rfl, (kcl BK395.out 4).trans rfl, (kcl BK395.out 5).trans rfl, (kcl BK395.out 6).trans rfl⟩ (fun hHeld => ?_)
  clear hK K
  refine norm_ (a' := ?_) ?_ ?_
  rotate_left
  · show Act.put _ (some 14) _ = _
    simp only [Act.put, List.setIfInBounds_toArray, List.set_cons_zero, List.set_cons_succ, i64_w, i32_w]
    rfl
  refine one_ (i := 11) (N := some 16) (bA 29 4095) rfl rfl (one_of HT_.out (by kernel_rfl)) (by decide) (fun K hK => ?_)
  refine goes_ Tryz.func98 (by kernel_rfl) rfl #[.agg #[.int .i64 a1_0, .string a1_1, .string a1_2, .int .i64 a1_3, .int .i64 a1_4, .string a1_5, .int .i64 a1_6]] (by rfl) rfl rfl (by (try simp only [List.map_toArray, List.map_cons, List.map_nil]); first | done | rfl | (simp only [List.length_drop, List.length_take]; rfl) | (simp only [Act.eval, Array.getD_eq_getD_getElem?, Option.getD_some, *]; done) | (simp only [Array.mk.injEq, List.cons.injEq, Value.int.injEq, true_and, and_true]; first | omega | (simp [IntKind.wrap, IntKind.bits, IntKind.signed]; omega))) ?_
  with_reducible refine (commute_inside.calls a1_0 a1_1 a1_2 a1_3 a1_4 a1_5 a1_6 t397 _ A5.out).mono ?_
  rintro e w20 ⟨rfl, hb⟩
  refine ⟨_, rfl, ?_⟩
  have n0_ := Z0.mk (kbl (g := gb394) bk_ hb)
  have n1_ := Z0.mk (kbl (g := gb395) bk_ hb)
  have n2_ := Z0.mk (bsp bl_ hb)
  clear BK394
  clear BK395
  clear HB
  have BK394 := n0_
  have BK395 := n1_
  have HB := n2_
  clear n0_ n1_ n2_
  (try clear hb)
  (try clear hb2)
  (try clear hk)
  (try clear hi)
  refine hK.out _ _ ⟨(kcl BK394.out 0).trans rfl, (kcl BK394.out 1).trans rfl, (kcl BK394.out 2).trans rfl, (kcl BK394.out 3).trans rfl, (kcl BK394.out 4).trans rfl, (kcl BK394.out 5).trans rfl, (kcl BK394.out 6).trans rfl, (kcl BK395.out 0).trans rfl, (kcl BK395.out 1).trans rfl, (kcl BK395.out 2).trans rfl, (kcl BK395.out 3).trans rfl, (kcl BK395.out 4).trans rfl, (kcl BK395.out 5).trans rfl, (kcl BK395.out 6).trans rfl⟩ (fun hHeld => ?_)
  clear hK K
  refine norm_ (a' := ?_) ?_ ?_
  rotate_left
  · show Act.put _ (some 16) _ = _
    simp only [Act.put, List.setIfInBounds_toArray, List.set_cons_zero, List.set_cons_succ, i64_w, i32_w]
    rfl
  refine pw_ HT_.out 12 (some 17) (bA 29 8191) ?_
  refine pw_ HT_.out 13 (some 18) (bA 29 16383) ?_
  refine pw_ HT_.out 14 (some 19) (bA 29 32767) ?_
  refine pw_ HT_.out 15 (some 20) (bA 29 65535) ?_
  refine pw_ HT_.out 17 (some 22) (bA 29 196607) ?_
  refine tw_ HT_.out HW_.out 16 (some 21) (bA 29 262143) hHeld ?_
  refine tw_ HT_.out HW_.out 18 (some 23) (bA 29 524287) hHeld ?_
  refine one_ (i := 19) (N := some 24) (bA 29 1048575) rfl rfl (one_of HT_.out (by kernel_rfl)) (by decide) (fun K hK => ?_)
  refine goes_ Tryz.func36 (by kernel_rfl) rfl #[.agg #[.int .i64 a0_0, .string a0_1, .string a0_2, .int .i64 a0_3], .agg #[.int .i64 a0_4, .string a0_5, .int .i64 a0_6]] (by rfl) rfl rfl (by (try simp only [List.map_toArray, List.map_cons, List.map_nil]); first | done | rfl | (simp only [List.length_drop, List.length_take]; rfl) | (simp only [Act.eval, Array.getD_eq_getD_getElem?, Option.getD_some, *]; done) | (simp only [Array.mk.injEq, List.cons.injEq, Value.int.injEq, true_and, and_true]; first | omega | (simp [IntKind.wrap, IntKind.bits, IntKind.signed]; omega))) ?_
  with_reducible refine (method_Changes.calls k a0_0 a0_1 a0_2 a0_3 a0_4 a0_5 a0_6 false _ A7.out).mono ?_
  rintro e w21 ⟨rfl, hb⟩
  refine ⟨_, rfl, ?_⟩
  have n0_ := Z0.mk (kbl (g := gb394) bk_ hb)
  have n1_ := Z0.mk (kbl (g := gb395) bk_ hb)
  have n2_ := Z0.mk (bsp bl_ hb)
  clear BK394
  clear BK395
  clear HB
  have BK394 := n0_
  have BK395 := n1_
  have HB := n2_
  clear n0_ n1_ n2_
  (try clear hb)
  (try clear hb2)
  (try clear hk)
  (try clear hi)
  refine hK.out _ _ ⟨(kcl BK394.out 0).trans rfl, (kcl BK394.out 1).trans rfl, (kcl BK394.out 2).trans rfl, (kcl BK394.out 3).trans rfl, (kcl BK394.out 4).trans rfl, (kcl BK394.out 5).trans rfl, (kcl BK394.out 6).trans rfl, (kcl BK395.out 0).trans rfl, (kcl BK395.out 1).trans rfl, (kcl BK395.out 2).trans rfl, (kcl BK395.out 3).trans rfl, (kcl BK395.out 4).trans rfl, (kcl BK395.out 5).trans rfl, (kcl BK395.out 6).trans rfl⟩ (fun hHeld => ?_)
  clear hK K
  refine norm_ (a' := ?_) ?_ ?_
  rotate_left
  · show Act.put _ (some 24) _ = _
    simp only [Act.put, List.setIfInBounds_toArray, List.set_cons_zero, List.set_cons_succ, i64_w, i32_w]
    rfl
  refine pw_ HT_.out 20 (some 25) (bA 29 2097151) ?_
  refine pw_ HT_.out 21 (some 26) (bA 29 4194303) ?_
  refine pw_ HT_.out 23 (some 28) (bA 29 12582911) ?_
  refine tw_ HT_.out HW_.out 22 (some 27) (bA 29 16777215) hHeld ?_
  refine tw_ HT_.out HW_.out 24 (some 29) (bA 29 33554431) hHeld ?_
  refine one_ (i := 25) (N := some 30) (bA 29 67108863) rfl rfl (one_of HT_.out (by kernel_rfl)) (by decide) (fun K hK => ?_)
  refine goes_ Tryz.func36 (by kernel_rfl) rfl #[.agg #[.int .i64 a1_0, .string a1_1, .string a1_2, .int .i64 a1_3], .agg #[.int .i64 a1_4, .string a1_5, .int .i64 a1_6]] (by rfl) rfl rfl (by (try simp only [List.map_toArray, List.map_cons, List.map_nil]); first | done | rfl | (simp only [List.length_drop, List.length_take]; rfl) | (simp only [Act.eval, Array.getD_eq_getD_getElem?, Option.getD_some, *]; done) | (simp only [Array.mk.injEq, List.cons.injEq, Value.int.injEq, true_and, and_true]; first | omega | (simp [IntKind.wrap, IntKind.bits, IntKind.signed]; omega))) ?_
  with_reducible refine (method_Changes.calls k a1_0 a1_1 a1_2 a1_3 a1_4 a1_5 a1_6 t399 _ A15.out).mono ?_
  rintro e w22 ⟨rfl, hb⟩
  refine ⟨_, rfl, ?_⟩
  have n0_ := Z0.mk (kbl (g := gb394) bk_ hb)
  have n1_ := Z0.mk (kbl (g := gb395) bk_ hb)
  have n2_ := Z0.mk (bsp bl_ hb)
  clear BK394
  clear BK395
  clear HB
  have BK394 := n0_
  have BK395 := n1_
  have HB := n2_
  clear n0_ n1_ n2_
  (try clear hb)
  (try clear hb2)
  (try clear hk)
  (try clear hi)
  refine hK.out _ _ ⟨(kcl BK394.out 0).trans rfl, (kcl BK394.out 1).trans rfl, (kcl BK394.out 2).trans rfl, (kcl BK394.out 3).trans rfl, (kcl BK394.out 4).trans rfl, (kcl BK394.out 5).trans rfl, (kcl BK394.out 6).trans rfl, (kcl BK395.out 0).trans rfl, (kcl BK395.out 1).trans rfl, (kcl BK395.out 2).trans rfl, (kcl BK395.out 3).trans rfl, (kcl BK395.out 4).trans rfl, (kcl BK395.out 5).trans rfl, (kcl BK395.out 6).trans rfl⟩ (fun hHeld => ?_)
  clear hK K
  refine norm_ (a' := ?_) ?_ ?_
  rotate_left
  · show Act.put _ (some 30) _ = _
    simp only [Act.put, List.setIfInBounds_toArray, List.set_cons_zero, List.set_cons_succ, i64_w, i32_w]
    rfl
  refine pw_ HT_.out 26 (some 31) (bA 29 134217727) ?_
  refine pw_ HT_.out 27 (some 32) (bA 29 268435455) ?_
  refine pw_ HT_.out 28 (some 4) (bA 29 536870911) ?_
  refine done_ (done_of HT_.out (by kernel_rfl)) ?_
  try go_wp2
  go_ret
  exact ⟨er_, bl_⟩
def commute_queue.f (a0_0 : Int) (a0_1 : ByteArray) (a0_2 : ByteArray) (a0_3 : Int) (a0_4 : Int) (a0_5 : ByteArray) (a0_6 : Int) (a1_0 : Int) (a1_1 : ByteArray) (a1_2 : ByteArray) (a1_3 : Int) (a1_4 : Int) (a1_5 : ByteArray) (a1_6 : Int) : Option (Bool) := if a0_0 = 15 then (if a0_4 = 1 then (some (a0_4 == a1_4 && (a0_5.toList == a1_5.toList && (a0_6 == a1_6)))) else (some false)) else (if a1_0 = 14 then (some (a0_1.toList != a1_1.toList)) else (some (a1_4 == 2)))
set_option maxHeartbeats 8000000 in
set_option maxRecDepth 100000 in
theorem commute_queue.calls (a0_0 : Int) (a0_1 : ByteArray) (a0_2 : ByteArray) (a0_3 : Int) (a0_4 : Int) (a0_5 : ByteArray) (a0_6 : Int) (a1_0 : Int) (a1_1 : ByteArray) (a1_2 : ByteArray) (a1_3 : Int) (a1_4 : Int) (a1_5 : ByteArray) (a1_6 : Int) (r : Bool) (w : World) (h : commute_queue.f a0_0 a0_1 a0_2 a0_3 a0_4 a0_5 a0_6 a1_0 a1_1 a1_2 a1_3 a1_4 a1_5 a1_6 = some r) :
    Calls Tryz.prog 82 #[.agg #[.int .i64 a0_0, .string a0_1, .string a0_2, .int .i64 a0_3, .int .i64 a0_4, .string a0_5, .int .i64 a0_6], .agg #[.int .i64 a1_0, .string a1_1, .string a1_2, .int .i64 a1_3, .int .i64 a1_4, .string a1_5, .int .i64 a1_6]] w fun e w' => e = .returned (.bool r) ∧ Below w.heap.size w w' := by
  have hu53 := Tryz.underlying53
  have hu40 := Tryz.underlying40
  have HB := Z0.mk (Below.refl w.heap.size w)
  have H : (if a0_0 = 15 then (if a0_4 = 1 then (some (a0_4 == a1_4 && (a0_5.toList == a1_5.toList && (a0_6 == a1_6)))) else (some false)) else (if a1_0 = 14 then (some (a0_1.toList != a1_1.toList)) else (some (a1_4 == 2)))) = some r := h
  clear h
  have HS3 := Z0.mk H
  clear H
  go_enter Tryz.func82, Tryz.ntmps82
  go_upto_if 5 with (first | ((with_reducible refine gds (N := 2) rfl ?_); refine bx_ (N := 2) (cs := #[.int .i64 a0_0, .string a0_1, .string a0_2, .int .i64 a0_3, .int .i64 a0_4, .string a0_5, .int .i64 a0_6]) (t := 53) ?_; intro gb400 hg w4 hbox hb; have n0_ := Z0.mk (bsp bl_ hb); have n1_ := Z0.mk (hbox); have n2_ := Z0.mk ((by rw [hg]; exact bsz bl_ : w.heap.size ≤ gb400)); have n3_ := Z0.mk ((by rw [hg]; exact bsz bl_ : w.heap.size ≤ gb400)); clear HB; have HB := n0_; have BK400 := n1_; have GW400 := n2_; have GE400 := n3_; clear n0_ n1_ n2_ n3_; clear hb hbox hg) | ((with_reducible refine gds (N := 3) rfl ?_); refine bx_ (N := 3) (cs := #[.int .i64 a1_0, .string a1_1, .string a1_2, .int .i64 a1_3, .int .i64 a1_4, .string a1_5, .int .i64 a1_6]) (t := 53) ?_; intro gb401 hg w5 hbox hb; have n0_ := Z0.mk (kbl (g := gb400) bk_ hb); have n1_ := Z0.mk (bsp bl_ hb); have n2_ := Z0.mk (hbox); have n3_ := Z0.mk ((by rw [hg]; exact bsz bl_ : w.heap.size ≤ gb401)); have n4_ := Z0.mk ((by rw [hg]; exact bsz bl_ : w.heap.size ≤ gb401)); have n5_ := Z0.mk ((by rw [hg]; exact Nat.ne_of_lt (klt_ (g := gb400) bk_) : gb400 ≠ gb401)); have n6_ := Z0.mk ((by rw [hg]; exact Nat.ne_of_gt (klt_ (g := gb400) bk_) : gb401 ≠ gb400)); clear BK400; clear HB; have BK400 := n0_; have HB := n1_; have BK401 := n2_; have GW401 := n3_; have GE401 := n4_; have NB400_401 := n5_; have NB401_400 := n6_; clear n0_ n1_ n2_ n3_ n4_ n5_ n6_; clear hb hbox hg; have hnb6 := NB400_401.out; have hnc6 := NB401_400.out; have hcz7 := bc7 BK400.out))
  (try simp only [Act.put, List.setIfInBounds_toArray, List.set_cons_zero, List.set_cons_succ])
  have H := HS3.out
  clear HS3
  by_cases c8 : a0_0 = 15
  · rw [if_pos c8] at H
    have c8b0 : (a0_0 == 15) = true := beq_iff_eq.mpr c8
    have c8b1 : (a0_0 != 15) = false := bne_eq_false_iff_eq.mpr c8
    clear c8
    (first | rw [c8b0] | (simp only [i64_w, i32_w]; rw [c8b0]) | skip)
    by_cases c9 : a0_4 = 1
    rotate_left
    · rw [if_neg c9] at H
      have c9b0 : (a0_4 == 1) = false := beq_eq_false_iff_ne.mpr c9
      have c9b1 : (a0_4 != 1) = true := bne_iff_ne.mpr c9
      obtain rfl := Option.some.inj H
      have hnb13 := NB400_401.out
      have hnc13 := NB401_400.out
      have hcz14 := bc7 BK400.out
      go_wp2
      go_ret
      exact ⟨er_, bl_⟩
    rw [if_pos c9] at H
    have c9b0 : (a0_4 == 1) = true := beq_iff_eq.mpr c9
    have c9b1 : (a0_4 != 1) = false := bne_eq_false_iff_eq.mpr c9
    clear c9
    obtain rfl := Option.some.inj H
    have hnb10 := NB400_401.out
    have hnc10 := NB401_400.out
    have hcz11 := bc7 BK400.out
    have hcz12 := bc7 BK401.out
    go_wp2
    go_ret
    exact ⟨er_, bl_⟩
  rw [if_neg c8] at H
  have c8b0 : (a0_0 == 15) = false := beq_eq_false_iff_ne.mpr c8
  have c8b1 : (a0_0 != 15) = true := bne_iff_ne.mpr c8
  (first | rw [c8b0] | (simp only [i64_w, i32_w]; rw [c8b0]) | skip)
  by_cases c15 : a1_0 = 14
  rotate_left
  · rw [if_neg c15] at H
    have c15b0 : (a1_0 == 14) = false := beq_eq_false_iff_ne.mpr c15
    have c15b1 : (a1_0 != 14) = true := bne_iff_ne.mpr c15
    obtain rfl := Option.some.inj H
    have hnb19 := NB401_400.out
    have hnc19 := NB400_401.out
    have hcz20 := bc7 BK401.out
    go_wp2
    go_ret
    exact ⟨er_, bl_⟩
  rw [if_pos c15] at H
  have c15b0 : (a1_0 == 14) = true := beq_iff_eq.mpr c15
  have c15b1 : (a1_0 != 14) = false := bne_eq_false_iff_eq.mpr c15
  clear c15
  obtain rfl := Option.some.inj H
  have hnb16 := NB401_400.out
  have hnc16 := NB400_401.out
  have hcz17 := bc7 BK401.out
  have hcz18 := bc7 BK400.out
  go_wp2
  go_ret
  exact ⟨er_, bl_⟩
def commute_semi.f (a0_0 : Int) (a0_1 : ByteArray) (a0_2 : ByteArray) (a0_3 : Int) (a0_4 : Int) (a0_5 : ByteArray) (a0_6 : Int) (a1_0 : Int) (a1_1 : ByteArray) (a1_2 : ByteArray) (a1_3 : Int) (a1_4 : Int) (a1_5 : ByteArray) (a1_6 : Int) : Option (Bool) := if a0_0 = 17 then (if a0_4 = 1 then (some (a0_4 == a1_4 && (a0_5.toList == a1_5.toList && (a0_6 == a1_6)))) else (some false)) else (if a1_0 = 16 then (some false) else (some (a1_4 == 2)))
set_option maxHeartbeats 8000000 in
set_option maxRecDepth 100000 in
theorem commute_semi.calls (a0_0 : Int) (a0_1 : ByteArray) (a0_2 : ByteArray) (a0_3 : Int) (a0_4 : Int) (a0_5 : ByteArray) (a0_6 : Int) (a1_0 : Int) (a1_1 : ByteArray) (a1_2 : ByteArray) (a1_3 : Int) (a1_4 : Int) (a1_5 : ByteArray) (a1_6 : Int) (r : Bool) (w : World) (h : commute_semi.f a0_0 a0_1 a0_2 a0_3 a0_4 a0_5 a0_6 a1_0 a1_1 a1_2 a1_3 a1_4 a1_5 a1_6 = some r) :
    Calls Tryz.prog 83 #[.agg #[.int .i64 a0_0, .string a0_1, .string a0_2, .int .i64 a0_3, .int .i64 a0_4, .string a0_5, .int .i64 a0_6], .agg #[.int .i64 a1_0, .string a1_1, .string a1_2, .int .i64 a1_3, .int .i64 a1_4, .string a1_5, .int .i64 a1_6]] w fun e w' => e = .returned (.bool r) ∧ Below w.heap.size w w' := by
  have hu53 := Tryz.underlying53
  have hu40 := Tryz.underlying40
  have HB := Z0.mk (Below.refl w.heap.size w)
  have H : (if a0_0 = 17 then (if a0_4 = 1 then (some (a0_4 == a1_4 && (a0_5.toList == a1_5.toList && (a0_6 == a1_6)))) else (some false)) else (if a1_0 = 16 then (some false) else (some (a1_4 == 2)))) = some r := h
  clear h
  have HS3 := Z0.mk H
  clear H
  go_enter Tryz.func83, Tryz.ntmps83
  go_upto_if 5 with (first | ((with_reducible refine gds (N := 2) rfl ?_); refine bx_ (N := 2) (cs := #[.int .i64 a0_0, .string a0_1, .string a0_2, .int .i64 a0_3, .int .i64 a0_4, .string a0_5, .int .i64 a0_6]) (t := 53) ?_; intro gb402 hg w4 hbox hb; have n0_ := Z0.mk (bsp bl_ hb); have n1_ := Z0.mk (hbox); have n2_ := Z0.mk ((by rw [hg]; exact bsz bl_ : w.heap.size ≤ gb402)); have n3_ := Z0.mk ((by rw [hg]; exact bsz bl_ : w.heap.size ≤ gb402)); clear HB; have HB := n0_; have BK402 := n1_; have GW402 := n2_; have GE402 := n3_; clear n0_ n1_ n2_ n3_; clear hb hbox hg) | ((with_reducible refine gds (N := 3) rfl ?_); refine bx_ (N := 3) (cs := #[.int .i64 a1_0, .string a1_1, .string a1_2, .int .i64 a1_3, .int .i64 a1_4, .string a1_5, .int .i64 a1_6]) (t := 53) ?_; intro gb403 hg w5 hbox hb; have n0_ := Z0.mk (kbl (g := gb402) bk_ hb); have n1_ := Z0.mk (bsp bl_ hb); have n2_ := Z0.mk (hbox); have n3_ := Z0.mk ((by rw [hg]; exact bsz bl_ : w.heap.size ≤ gb403)); have n4_ := Z0.mk ((by rw [hg]; exact bsz bl_ : w.heap.size ≤ gb403)); have n5_ := Z0.mk ((by rw [hg]; exact Nat.ne_of_lt (klt_ (g := gb402) bk_) : gb402 ≠ gb403)); have n6_ := Z0.mk ((by rw [hg]; exact Nat.ne_of_gt (klt_ (g := gb402) bk_) : gb403 ≠ gb402)); clear BK402; clear HB; have BK402 := n0_; have HB := n1_; have BK403 := n2_; have GW403 := n3_; have GE403 := n4_; have NB402_403 := n5_; have NB403_402 := n6_; clear n0_ n1_ n2_ n3_ n4_ n5_ n6_; clear hb hbox hg; have hnb6 := NB402_403.out; have hnc6 := NB403_402.out; have hcz7 := bc7 BK402.out))
  (try simp only [Act.put, List.setIfInBounds_toArray, List.set_cons_zero, List.set_cons_succ])
  have H := HS3.out
  clear HS3
  by_cases c8 : a0_0 = 17
  rotate_left
  · rw [if_neg c8] at H
    have c8b0 : (a0_0 == 17) = false := beq_eq_false_iff_ne.mpr c8
    have c8b1 : (a0_0 != 17) = true := bne_iff_ne.mpr c8
    (first | rw [c8b0] | (simp only [i64_w, i32_w]; rw [c8b0]) | skip)
    by_cases c15 : a1_0 = 16
    rotate_left
    · rw [if_neg c15] at H
      have c15b0 : (a1_0 == 16) = false := beq_eq_false_iff_ne.mpr c15
      have c15b1 : (a1_0 != 16) = true := bne_iff_ne.mpr c15
      obtain rfl := Option.some.inj H
      have hnb18 := NB403_402.out
      have hnc18 := NB402_403.out
      have hcz19 := bc7 BK403.out
      go_wp2
      go_ret
      exact ⟨er_, bl_⟩
    rw [if_pos c15] at H
    have c15b0 : (a1_0 == 16) = true := beq_iff_eq.mpr c15
    have c15b1 : (a1_0 != 16) = false := bne_eq_false_iff_eq.mpr c15
    clear c15
    obtain rfl := Option.some.inj H
    have hnb16 := NB403_402.out
    have hnc16 := NB402_403.out
    have hcz17 := bc7 BK403.out
    go_wp2
    go_ret
    exact ⟨er_, bl_⟩
  rw [if_pos c8] at H
  have c8b0 : (a0_0 == 17) = true := beq_iff_eq.mpr c8
  have c8b1 : (a0_0 != 17) = false := bne_eq_false_iff_eq.mpr c8
  clear c8
  (first | rw [c8b0] | (simp only [i64_w, i32_w]; rw [c8b0]) | skip)
  by_cases c9 : a0_4 = 1
  rotate_left
  · rw [if_neg c9] at H
    have c9b0 : (a0_4 == 1) = false := beq_eq_false_iff_ne.mpr c9
    have c9b1 : (a0_4 != 1) = true := bne_iff_ne.mpr c9
    obtain rfl := Option.some.inj H
    have hnb13 := NB402_403.out
    have hnc13 := NB403_402.out
    have hcz14 := bc7 BK402.out
    go_wp2
    go_ret
    exact ⟨er_, bl_⟩
  rw [if_pos c9] at H
  have c9b0 : (a0_4 == 1) = true := beq_iff_eq.mpr c9
  have c9b1 : (a0_4 != 1) = false := bne_eq_false_iff_eq.mpr c9
  clear c9
  obtain rfl := Option.some.inj H
  have hnb10 := NB402_403.out
  have hnc10 := NB403_402.out
  have hcz11 := bc7 BK402.out
  have hcz12 := bc7 BK403.out
  go_wp2
  go_ret
  exact ⟨er_, bl_⟩
end Go.Proofs.YtjiblcncadekcaaGreat.PA

