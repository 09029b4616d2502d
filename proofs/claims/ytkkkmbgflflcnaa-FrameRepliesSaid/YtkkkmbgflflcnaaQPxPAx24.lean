import Derived.Test.YtkkkmbgflflcnaaQPxPAx1
import Derived.Test.YtkkkmbgflflcnaaQPxPAx18
import Derived.Test.YtkkkmbgflflcnaaQPxPAx23
namespace Go.Proofs.Ytkkkmbgflflcnaa.PA
open Go.Proofs.Ytkkkmbgflflcnaa.PL
open Go.RowKit Go.Proofs.YtkkkmbgflflcnaaW.PrintWords Go.Proofs.YtkkkmbgflflcnaaW.PrintLast Go.Proofs.YtkkkmbgflflcnaaW.PrintMore
attribute [local go_sem] max2_int min2_int max_two min_two max_three min_three max_four min_four
set_option linter.unusedVariables false
set_option linter.unusedSimpArgs false
attribute [local go_sem high] eqA56
def armoireref24_TextReply.j0 : Nat → ByteArray → Option (ByteArray)
  | 0, _ => none
  | k + 1, x3 => (armoireref01_Of.f k x3).bind fun t454 => ((armoireref01_Bytes.f t454).bind fun t455 => (if t455.size + x3.size ≤ 9223372036854775807 then (some (t455 ++ x3)) else (none)))
def armoireref24_TextReply.f (k : Nat) (a0_0 : Int) (a0_1 : Int) (a0_2 : Int) (a0_3 : ByteArray) (a0_4 : Int) : Option (ByteArray) := (armoireref02_N.f k a0_0).bind fun t451 => ((armoireref02_N.f k a0_1).bind fun t452 => (if t451.size + t452.size ≤ 9223372036854775807 then (if (!(a0_2 == 0) || (!(a0_3.toList == ([] : List UInt8)) || (!(a0_4 == 0)))) = true then ((armoireref12_TextResult.f k a0_2 a0_3 a0_4).bind fun t453 => (if (t451 ++ t452).size + t453.size ≤ 9223372036854775807 then (armoireref24_TextReply.j0 k ((t451 ++ t452) ++ t453)) else (none))) else (armoireref24_TextReply.j0 k (t451 ++ t452))) else (none)))
def armoireref24_TextReply.T1 : Bool × List (List Nat × List Nat) := (true, [([], []), ([0], [0]), ([1], [1]), ([], []), ([3], [3]), ([4, 2], [4]), ([2, 5], [2, 5]), ([6, 5, 0, 1, 2, 3, 4, 5, 6], [6])])
def armoireref24_TextReply.B1 : List Nat := [0, 1, 3, 0, 8, 31, 63, 127]
theorem armoireref24_TextReply.tab1 : rtab .any (opsOf Try.f25 1) = armoireref24_TextReply.T1 := by kernel_rfl
theorem armoireref24_TextReply.bits1 : waitsOk armoireref24_TextReply.T1.2 armoireref24_TextReply.B1 = true := by kernel_rfl
set_option maxHeartbeats 2000000 in
set_option maxRecDepth 100000 in
theorem armoireref24_TextReply.calls (k : Nat) (a0_0 : Int) (a0_1 : Int) (a0_2 : Int) (a0_3 : ByteArray) (a0_4 : Int) (r : ByteArray) (w : World) (h : armoireref24_TextReply.f k a0_0 a0_1 a0_2 a0_3 a0_4 = some r) :
    Calls Try.prog 25 #[.agg #[.int .i64 a0_0, .int .i64 a0_1, .int .i64 a0_2, .string a0_3, .int .i64 a0_4]] w fun e w' => e = .returned (.string r) ∧ Below w.heap.size w w' := by
  have hu58 := Try.underlying58
  have hu56 := Try.underlying56
  have HB := Aside0.mk (Below.refl w.heap.size w)
  have H : ((armoireref02_N.f k a0_0).bind fun t451 => ((armoireref02_N.f k a0_1).bind fun t452 => (if t451.size + t452.size ≤ 9223372036854775807 then (if (!(a0_2 == 0) || (!(a0_3.toList == ([] : List UInt8)) || (!(a0_4 == 0)))) = true then ((armoireref12_TextResult.f k a0_2 a0_3 a0_4).bind fun t453 => (if (t451 ++ t452).size + t453.size ≤ 9223372036854775807 then (armoireref24_TextReply.j0 k ((t451 ++ t452) ++ t453)) else (none))) else (armoireref24_TextReply.j0 k (t451 ++ t452))) else (none)))) = some r := h
  clear h
  replace H := Option.bind_eq_some_iff.mp H
  obtain ⟨t451, A20, H⟩ := H
  replace H : ((armoireref02_N.f k a0_1).bind fun t452 => (if t451.size + t452.size ≤ 9223372036854775807 then (if (!(a0_2 == 0) || (!(a0_3.toList == ([] : List UInt8)) || (!(a0_4 == 0)))) = true then ((armoireref12_TextResult.f k a0_2 a0_3 a0_4).bind fun t453 => (if (t451 ++ t452).size + t453.size ≤ 9223372036854775807 then (armoireref24_TextReply.j0 k ((t451 ++ t452) ++ t453)) else (none))) else (armoireref24_TextReply.j0 k (t451 ++ t452))) else (none))) = some r := H
  have A2 := Aside0.mk A20
  clear A20
  replace H := Option.bind_eq_some_iff.mp H
  obtain ⟨t452, A30, H⟩ := H
  replace H : (if t451.size + t452.size ≤ 9223372036854775807 then (if (!(a0_2 == 0) || (!(a0_3.toList == ([] : List UInt8)) || (!(a0_4 == 0)))) = true then ((armoireref12_TextResult.f k a0_2 a0_3 a0_4).bind fun t453 => (if (t451 ++ t452).size + t453.size ≤ 9223372036854775807 then (armoireref24_TextReply.j0 k ((t451 ++ t452) ++ t453)) else (none))) else (armoireref24_TextReply.j0 k (t451 ++ t452))) else (none)) = some r := H
  have A3 := Aside0.mk A30
  clear A30
  by_cases c4 : t451.size + t452.size ≤ 9223372036854775807
  rotate_left
  · rw [if_neg c4] at H
    exact absurd H (by simp)
  rw [if_pos c4] at H
  have c4b0 := eq_true c4
  have c4b1 : decide (t451.size + t452.size ≤ 9223372036854775807) = true := decide_eq_true c4
  try have c4b2 : (9223372036854775807 < t451.size + t452.size) = False := eq_false (Nat.not_lt.2 c4)
  have HC5 := Aside0.mk H
  clear H
  go_enter Try.func25, Try.ntmps25
  try go_wp2_with (first | ((with_reducible refine gds (N := 1) rfl ?_); refine bev ?hg (N := 1) ?hd (cs := #[.int .i64 a0_0, .int .i64 a0_1, .int .i64 a0_2, .string a0_3, .int .i64 a0_4]) (t := 58) ?hr ?_; (case hd => rfl); (case hg => rfl); (case hr => first | (go_simp; done) | (go_simp; rfl)); intro gb450 hg w6 hbox hb; have n0_ := Aside0.mk (bsp (by repeat (first | (with_reducible first | exact HB.out | apply bal | apply bdn | apply bd1) | exact HB.out)) hb); have n1_ := Aside0.mk (hbox); have n2_ := Aside0.mk ((by rw [hg]; exact (bsz (by repeat (first | (with_reducible first | exact HB.out | apply bal | apply bdn | apply bd1) | exact HB.out))) : w.heap.size ≤ gb450)); have n3_ := Aside0.mk ((by rw [hg]; exact (bsz (by repeat (first | (with_reducible first | exact HB.out | apply bal | apply bdn | apply bd1) | exact HB.out))) : w.heap.size ≤ gb450)); clear HB; have HB := n0_; have BK450 := n1_; have GW450 := n2_; have GE450 := n3_; clear n0_ n1_ n2_ n3_; clear hb hbox hg))
  have n0_ := Aside0.mk (kdw BK450.out)
  have n1_ := Aside0.mk (bd1 HB.out)
  clear BK450
  clear HB
  have BK450 := n0_
  have HB := n1_
  clear n0_ n1_
  refine start_ (n := 8) (S := fun w' => w'.cell? ⟨gb450, 0, none⟩ = some (.int .i64 a0_0) ∧ w'.cell? ⟨gb450, 1, none⟩ = some (.int .i64 a0_1) ∧ w'.cell? ⟨gb450, 2, none⟩ = some (.int .i64 a0_2) ∧ w'.cell? ⟨gb450, 3, none⟩ = some (.string a0_3) ∧ w'.cell? ⟨gb450, 4, none⟩ = some (.int .i64 a0_4)) (ds := []) #[false,false,false,false,false,false,false,false] (by kernel_rfl) rfl rfl ⟨(kcl BK450.out 0).trans rfl, (kcl BK450.out 1).trans rfl, (kcl BK450.out 2).trans rfl, (kcl BK450.out 3).trans rfl, (kcl BK450.out 4).trans rfl⟩ (fun hHeld => ?_); refine with_tabW armoireref24_TextReply.tab1 armoireref24_TextReply.bits1 (fun HT_ HW_ => ?_)
  generalize w6.drew = w7 at BK450 HB hHeld ⊢
  refine pure_ (i := 0) (N := some 4) (v := ?_) (a' := ?_) (bA 8 1) rfl rfl (any_of HT_.out (by kernel_rfl)) (fun _ _ _ h => h) (Or.inl ⟨by rfl, ?_⟩) ?_ ?_
  rotate_left; (intro w'; go_simp; with_reducible rfl); rotate_left; (simp only [Act.put, List.setIfInBounds_toArray, List.set_cons_zero, List.set_cons_succ, i64_w, i32_w]; rfl)
  refine pure_ (i := 3) (N := some 7) (v := ?_) (a' := ?_) (bA 8 9) rfl rfl (any_of HT_.out (by kernel_rfl)) (fun _ _ _ h => h) (Or.inl ⟨by rfl, ?_⟩) ?_ ?_
  rotate_left; (intro w'; go_simp; with_reducible rfl); rotate_left; (simp only [Act.put, List.setIfInBounds_toArray, List.set_cons_zero, List.set_cons_succ, i64_w, i32_w]; rfl)
  refine take_ (i := 1) (N := some 5) (v := ?_) (a' := ?_) #[true,true,false,true,false,false,false,false] rfl rfl (tkw HT_.out HW_.out (by kernel_rfl)) (fun _ _ _ h => h) (Or.inl ⟨by rfl, ?_⟩) hHeld ?_ ?_
  rotate_left
  · rintro w' ⟨s0, s1, s2, s3, s4⟩
    go_simp
    with_reducible rfl
  rotate_left; (simp only [Act.put, List.setIfInBounds_toArray, List.set_cons_zero, List.set_cons_succ, i64_w, i32_w]; rfl)
  refine take_ (i := 4) (N := some 8) (v := ?_) (a' := ?_) #[true,true,false,true,true,false,false,false] rfl rfl (tkw HT_.out HW_.out (by kernel_rfl)) (fun _ _ _ h => h) (Or.inl ⟨by rfl, ?_⟩) hHeld ?_ ?_
  rotate_left
  · rintro w' ⟨s0, s1, s2, s3, s4⟩
    go_simp
    with_reducible rfl
  rotate_left; (simp only [Act.put, List.setIfInBounds_toArray, List.set_cons_zero, List.set_cons_succ, i64_w, i32_w]; rfl)
  refine one_ (i := 2) (N := some 6) #[true,true,true,true,true,false,false,false] rfl rfl (one_of HT_.out (by kernel_rfl)) (by decide) (fun K hK => ?_)
  refine goes_ Try.func43 (by kernel_rfl) rfl #[.int .i64 a0_0] (by rfl) rfl rfl (by (try simp only [List.map_toArray, List.map_cons, List.map_nil]); first | done | rfl | (simp only [List.length_drop, List.length_take]; rfl) | (simp only [Act.eval, Array.getD_eq_getD_getElem?, Option.getD_some, *]; done) | (simp only [Array.mk.injEq, List.cons.injEq, Value.int.injEq, true_and, and_true]; first | omega | (simp [IntKind.wrap, IntKind.bits, IntKind.signed]; omega))) ?_
  with_reducible refine (armoireref02_N.calls k a0_0 t451 _ A2.out).mono ?_
  rintro e w8 ⟨rfl, hb⟩
  refine ⟨_, rfl, ?_⟩
  have n0_ := Aside0.mk (kbl (g := gb450) (o := .cells #[.int .i64 a0_0, .int .i64 a0_1, .int .i64 a0_2, .string a0_3, .int .i64 a0_4] 58 (0, 0)) (by (with_reducible repeat (first | refine kdn ?_ _ | refine kdw ?_ | refine kal ?_ _)); exact BK450.out) hb)
  have n1_ := Aside0.mk (bsp (by repeat (first | (with_reducible first | exact HB.out | apply bal | apply bdn | apply bd1 | refine bst ?_ GE450.out) | exact HB.out)) hb)
  clear BK450
  clear HB
  have BK450 := n0_
  have HB := n1_
  clear n0_ n1_
  (try clear hb)
  (try clear hb2)
  (try clear hk)
  (try clear hi)
  refine hK.out _ _ ⟨(kcl BK450.out 0).trans rfl, (kcl BK450.out 1).trans rfl, (kcl BK450.out 2).trans rfl, (kcl BK450.out 3).trans rfl, (kcl BK450.out 4).trans rfl⟩ (fun hHeld => ?_)
  clear hK K
  refine norm_ (a' := ?_) ?_ ?_
  rotate_left
  · show Act.put _ (some 6) _ = _
    simp only [Act.put, List.setIfInBounds_toArray, List.set_cons_zero, List.set_cons_succ, i64_w, i32_w]
    rfl
  refine one_ (i := 5) (N := some 9) #[true,true,true,true,true,true,false,false] rfl rfl (one_of HT_.out (by kernel_rfl)) (by decide) (fun K hK => ?_)
  refine goes_ Try.func43 (by kernel_rfl) rfl #[.int .i64 a0_1] (by rfl) rfl rfl (by (try simp only [List.map_toArray, List.map_cons, List.map_nil]); first | done | rfl | (simp only [List.length_drop, List.length_take]; rfl) | (simp only [Act.eval, Array.getD_eq_getD_getElem?, Option.getD_some, *]; done) | (simp only [Array.mk.injEq, List.cons.injEq, Value.int.injEq, true_and, and_true]; first | omega | (simp [IntKind.wrap, IntKind.bits, IntKind.signed]; omega))) ?_
  with_reducible refine (armoireref02_N.calls k a0_1 t452 _ A3.out).mono ?_
  rintro e w9 ⟨rfl, hb⟩
  refine ⟨_, rfl, ?_⟩
  have n0_ := Aside0.mk (kbl (g := gb450) (o := .cells #[.int .i64 a0_0, .int .i64 a0_1, .int .i64 a0_2, .string a0_3, .int .i64 a0_4] 58 (0, 0)) (by (with_reducible repeat (first | refine kdn ?_ _ | refine kdw ?_ | refine kal ?_ _)); exact BK450.out) hb)
  have n1_ := Aside0.mk (bsp (by repeat (first | (with_reducible first | exact HB.out | apply bal | apply bdn | apply bd1 | refine bst ?_ GE450.out) | exact HB.out)) hb)
  clear BK450
  clear HB
  have BK450 := n0_
  have HB := n1_
  clear n0_ n1_
  (try clear hb)
  (try clear hb2)
  (try clear hk)
  (try clear hi)
  refine hK.out _ _ ⟨(kcl BK450.out 0).trans rfl, (kcl BK450.out 1).trans rfl, (kcl BK450.out 2).trans rfl, (kcl BK450.out 3).trans rfl, (kcl BK450.out 4).trans rfl⟩ (fun hHeld => ?_)
  clear hK K
  refine norm_ (a' := ?_) ?_ ?_
  rotate_left
  · show Act.put _ (some 9) _ = _
    simp only [Act.put, List.setIfInBounds_toArray, List.set_cons_zero, List.set_cons_succ, i64_w, i32_w]
    rfl
  refine pure_ (i := 6) (N := some 10) (v := ?_) (a' := ?_) (bA 8 127) rfl rfl (any_of HT_.out (by kernel_rfl)) (fun _ _ _ h => h) (Or.inl ⟨by rfl, ?_⟩) ?_ ?_
  rotate_left; (intro w'; go_simp; with_reducible rfl); rotate_left; (simp only [Act.put, List.setIfInBounds_toArray, List.set_cons_zero, List.set_cons_succ, i64_w, i32_w]; rfl)
  refine pure_ (i := 7) (N := some 3) (v := ?_) (a' := ?_) (bA 8 255) rfl rfl (any_of HT_.out (by kernel_rfl)) (fun _ _ _ h => h) (Or.inl ⟨by rfl, ?_⟩) ?_ ?_
  rotate_left; (intro w'; go_simp; with_reducible rfl); rotate_left; (simp only [Act.put, List.setIfInBounds_toArray, List.set_cons_zero, List.set_cons_succ, i64_w, i32_w]; rfl)
  refine done_ (done_of HT_.out (by kernel_rfl)) ?_
  have hcz10_0 : w9.cell? ⟨gb450, 0, none⟩ = some (.int .i64 a0_0) := (kcl BK450.out 0).trans rfl
  have hcz10_1 : w9.cell? ⟨gb450, 1, none⟩ = some (.int .i64 a0_1) := (kcl BK450.out 1).trans rfl
  have hcz10_2 : w9.cell? ⟨gb450, 2, none⟩ = some (.int .i64 a0_2) := (kcl BK450.out 2).trans rfl
  have hcz10_3 : w9.cell? ⟨gb450, 3, none⟩ = some (.string a0_3) := (kcl BK450.out 3).trans rfl
  have hcz10_4 : w9.cell? ⟨gb450, 4, none⟩ = some (.int .i64 a0_4) := (kcl BK450.out 4).trans rfl
  have hfz10_0 := kfr BK450.out 0
  have hfz10_1 := kfr BK450.out 1
  have hfz10_2 := kfr BK450.out 2
  have hfz10_3 := kfr BK450.out 3
  have hfz10_4 := kfr BK450.out 4
  go_upto_if 14 with (fail)
  go_cut [3] (fun v3 wc => ∃ (kq : Nat) (x3_4 : ByteArray), v3 = .string x3_4 ∧ Aside0 (armoireref24_TextReply.j0 kq x3_4 = some r) ∧ Aside0 (kq ≤ k) ∧ Aside0 (wc.heap[gb450]? = some (.cells #[.int .i64 a0_0, .int .i64 a0_1, .int .i64 a0_2, .string a0_3, .int .i64 a0_4] 58 (0, 0))) ∧ Aside0 (Below w.heap.size w wc))
  case first =>
    have H := HC5.out
    clear HC5
    by_cases c11 : (!(a0_2 == 0) || (!(a0_3.toList == ([] : List UInt8)) || (!(a0_4 == 0)))) = true
    rotate_left
    · rw [if_neg c11] at H
      have c11b0 : (!(a0_2 == 0) || (!(a0_3.toList == ([] : List UInt8)) || (!(a0_4 == 0)))) = false := by simpa using c11
      (try (have c11b1 : (!(a0_2 == 0) || (!a0_3.toList.isEmpty || (!(a0_4 == 0)))) = false := by simpa using c11))
      clear c11
      (first | rw [c11b0] | rw [c11b1] | (simp only [i64_w, i32_w]; rw [c11b0]) | (simp only [i64_w, i32_w]; rw [c11b1]) | skip)
      have H' := Aside0.mk H
      clear H
      go_wp2
      go_meet
      case rel => exact ⟨_, (t451 ++ t452), (by first | rfl | (simp; done) | (simp [*]; done) | exact emp1_ _ | exact (emp1_ _).symm | exact emp2_ _ | exact (emp2_ _).symm), H', ⟨by first | omega | exact Nat.le_refl _⟩, ⟨by (with_reducible repeat (first | refine kdn ?_ _ | refine kdw ?_ | refine kal ?_ _)); exact BK450.out⟩, ⟨by repeat (first | (with_reducible first | exact HB.out | apply bal | apply bdn | apply bd1 | refine bst ?_ GE450.out) | exact HB.out)⟩⟩
    rw [if_pos c11] at H
    have c11b0 : (!(a0_2 == 0) || (!(a0_3.toList == ([] : List UInt8)) || (!(a0_4 == 0)))) = true := c11
    (try (have c11b1 : (!(a0_2 == 0) || (!a0_3.toList.isEmpty || (!(a0_4 == 0)))) = true := by simpa using c11))
    clear c11
    (first | rw [c11b0] | rw [c11b1] | (simp only [i64_w, i32_w]; rw [c11b0]) | (simp only [i64_w, i32_w]; rw [c11b1]) | skip)
    replace H := Option.bind_eq_some_iff.mp H
    obtain ⟨t453, A120, H⟩ := H
    replace H : (if (t451 ++ t452).size + t453.size ≤ 9223372036854775807 then (armoireref24_TextReply.j0 k ((t451 ++ t452) ++ t453)) else (none)) = some r := H
    have A12 := Aside0.mk A120
    clear A120
    by_cases c13 : (t451 ++ t452).size + t453.size ≤ 9223372036854775807
    rotate_left
    · rw [if_neg c13] at H
      exact absurd H (by simp)
    rw [if_pos c13] at H
    have c13b0 := eq_true c13
    have c13b1 : decide ((t451 ++ t452).size + t453.size ≤ 9223372036854775807) = true := decide_eq_true c13
    try have c13b2 : (9223372036854775807 < (t451 ++ t452).size + t453.size) = False := eq_false (Nat.not_lt.2 c13)
    try (have c13b3 := c13b2; simp only [ByteArray.size_append] at c13b3)
    try (have c13b4 := c13; simp only [ByteArray.size_append] at c13b4; have c13b5 := eq_true c13b4)
    have H' := Aside0.mk H
    clear H
    have hcz14_0 : w9.cell? ⟨gb450, 0, none⟩ = some (.int .i64 a0_0) := (kcl BK450.out 0).trans rfl
    have hcz14_1 : w9.cell? ⟨gb450, 1, none⟩ = some (.int .i64 a0_1) := (kcl BK450.out 1).trans rfl
    have hcz14_2 : w9.cell? ⟨gb450, 2, none⟩ = some (.int .i64 a0_2) := (kcl BK450.out 2).trans rfl
    have hcz14_3 : w9.cell? ⟨gb450, 3, none⟩ = some (.string a0_3) := (kcl BK450.out 3).trans rfl
    have hcz14_4 : w9.cell? ⟨gb450, 4, none⟩ = some (.int .i64 a0_4) := (kcl BK450.out 4).trans rfl
    have hfz14_0 := kfr BK450.out 0
    have hfz14_1 := kfr BK450.out 1
    have hfz14_2 := kfr BK450.out 2
    have hfz14_3 := kfr BK450.out 3
    have hfz14_4 := kfr BK450.out 4
    go_wp2_with (first | ((with_reducible refine gcl (f := 57) rfl ?_); refine gl_ (some 18) rfl rfl Try.func57 (by kernel_rfl) rfl #[.agg #[.int .i64 a0_2, .string a0_3, .int .i64 a0_4]] rfl (by (try simp only [List.map_toArray, List.map_cons, List.map_nil]); first | done | rfl | (simp only [List.length_drop, List.length_take]; rfl)) ?_; (with_reducible refine (armoireref12_TextResult.calls k a0_2 a0_3 a0_4 t453 _ A12.out).mono ?_); rintro e w15 ⟨rfl, hb⟩; refine ⟨_, rfl, ?_⟩; have n0_ := Aside0.mk (kbl (g := gb450) (o := .cells #[.int .i64 a0_0, .int .i64 a0_1, .int .i64 a0_2, .string a0_3, .int .i64 a0_4] 58 (0, 0)) (by (with_reducible repeat (first | refine kdn ?_ _ | refine kdw ?_ | refine kal ?_ _)); exact BK450.out) hb); have n1_ := Aside0.mk (bsp (by repeat (first | (with_reducible first | exact HB.out | apply bal | apply bdn | apply bd1 | refine bst ?_ GE450.out) | exact HB.out)) hb); clear BK450; clear HB; have BK450 := n0_; have HB := n1_; clear n0_ n1_; (try clear hb); (try clear hb2); (try clear hk); (try clear hi)))
    go_meet
    case rel => exact ⟨_, ((t451 ++ t452) ++ t453), (by first | rfl | (simp; done) | (simp [*]; done) | exact emp1_ _ | exact (emp1_ _).symm | exact emp2_ _ | exact (emp2_ _).symm), H', ⟨by first | omega | exact Nat.le_refl _⟩, ⟨by (with_reducible repeat (first | refine kdn ?_ _ | refine kdw ?_ | refine kal ?_ _)); exact BK450.out⟩, ⟨by repeat (first | (with_reducible first | exact HB.out | apply bal | apply bdn | apply bd1 | refine bst ?_ GE450.out) | exact HB.out)⟩⟩
  clear HC5
  try clear c1
  try clear c2
  try clear p2
  try clear c4
  try clear c4b0
  try clear c4b1
  try clear c4b2
  try clear c5
  try clear c11
  try clear c11b0
  try clear c11b1
  try clear c13
  try clear c13b0
  try clear c13b1
  try clear c13b2
  try clear hcz10_0
  try clear hcz10_1
  try clear hcz10_2
  try clear hcz10_3
  try clear hcz10_4
  try clear hcz14_0
  try clear hcz14_1
  try clear hcz14_2
  try clear hcz14_3
  try clear hcz14_4
  try clear hfz10_0
  try clear hfz10_1
  try clear hfz10_2
  try clear hfz10_3
  try clear hfz10_4
  try clear hfz14_0
  try clear hfz14_1
  try clear hfz14_2
  try clear hfz14_3
  try clear hfz14_4
  obtain ⟨kq, x3_4, rfl, HA, HJ4, BK450, HB⟩ := hcut
  cases kq with
  | zero => exact absurd HA.out (by simp [armoireref24_TextReply.j0])
  | succ kj4 =>
    have H := HA.out
    clear HA
    simp only [armoireref24_TextReply.j0] at H
    replace H := Option.bind_eq_some_iff.mp H
    obtain ⟨t454, A160, H⟩ := H
    replace H : ((armoireref01_Bytes.f t454).bind fun t455 => (if t455.size + x3_4.size ≤ 9223372036854775807 then (some (t455 ++ x3_4)) else (none))) = some r := H
    have A16 := Aside0.mk A160
    clear A160
    replace H := Option.bind_eq_some_iff.mp H
    obtain ⟨t455, A170, H⟩ := H
    replace H : (if t455.size + x3_4.size ≤ 9223372036854775807 then (some (t455 ++ x3_4)) else (none)) = some r := H
    have A17 := Aside0.mk A170
    clear A170
    by_cases c18 : t455.size + x3_4.size ≤ 9223372036854775807
    rotate_left
    · rw [if_neg c18] at H
      exact absurd H (by simp)
    rw [if_pos c18] at H
    have c18b0 := eq_true c18
    have c18b1 : decide (t455.size + x3_4.size ≤ 9223372036854775807) = true := decide_eq_true c18
    try have c18b2 : (9223372036854775807 < t455.size + x3_4.size) = False := eq_false (Nat.not_lt.2 c18)
    obtain rfl := Option.some.inj H
    go_wp2_with (first | ((with_reducible refine gcl (f := 18) rfl ?_); refine gl_ (some 21) rfl rfl Try.func18 (by kernel_rfl) rfl #[.string x3_4] rfl (by (try simp only [List.map_toArray, List.map_cons, List.map_nil]); first | done | rfl | (simp only [List.length_drop, List.length_take]; rfl)) ?_; (with_reducible refine (armoireref01_Of.calls kj4 x3_4 t454 _ A16.out).mono ?_); rintro e w' ⟨rfl, ⟨nd, rfl⟩⟩; refine ⟨_, rfl, ?_⟩) | ((with_reducible refine gcl (f := 17) rfl ?_); refine gl_ (some 22) rfl rfl Try.func17 (by kernel_rfl) rfl #[.int .u32 t454] rfl (by (try simp only [List.map_toArray, List.map_cons, List.map_nil]); first | done | rfl | (simp only [List.length_drop, List.length_take]; rfl)) ?_; (with_reducible refine (armoireref01_Bytes.calls t454 t455 _ A17.out).mono ?_); rintro e w19 ⟨rfl, hb⟩; refine ⟨_, rfl, ?_⟩; have n0_ := Aside0.mk (kbl (g := gb450) (o := .cells #[.int .i64 a0_0, .int .i64 a0_1, .int .i64 a0_2, .string a0_3, .int .i64 a0_4] 58 (0, 0)) (by (with_reducible repeat (first | refine kdn ?_ _ | refine kdw ?_ | refine kal ?_ _)); exact BK450.out) hb); have n1_ := Aside0.mk (bsp (by repeat (first | (with_reducible first | exact HB.out | apply bal | apply bdn | apply bd1 | refine bst ?_ GE450.out) | exact HB.out)) hb); clear BK450; clear HB; have BK450 := n0_; have HB := n1_; clear n0_ n1_; (try clear hb); (try clear hb2); (try clear hk); (try clear hi)))
    go_ret
    exact ⟨by first | rfl | (simp [errW_none, errW_some] <;> rfl) | (simp [*, errW_none, errW_some] <;> rfl), by repeat (first | (with_reducible first | exact HB.out | apply bal | apply bdn | apply bd1 | refine bst ?_ GE450.out) | exact HB.out)⟩
end Go.Proofs.Ytkkkmbgflflcnaa.PA

