import Derived.Test.YtkkkmbgflflcnaaQQxPAx2
import Derived.Test.YtkkkmbgflflcnaaQQxPAx18
namespace Go.Proofs.Ytkkkmbgflflcnaa.PA
open Go.Proofs.Ytkkkmbgflflcnaa.PL
open Go.RowKit Go.Proofs.YtkkkmbgflflcnaaW.PrintWords Go.Proofs.YtkkkmbgflflcnaaW.PrintLast Go.Proofs.YtkkkmbgflflcnaaW.PrintMore
attribute [local go_sem] max2_int min2_int max_two min_two max_three min_three max_four min_four
set_option linter.unusedVariables false
set_option linter.unusedSimpArgs false
mutual
def armoireref24_Text.j0 : Nat → ByteArray → Int → Int → ByteArray → Int → ByteArray → ByteArray → Int → Option (ByteArray)
  | 0, _, _, _, _, _, _, _, _ => none
  | k + 1, x3, x320000, x320001, x320002, x320003, x320004, x320005, x320006 => if x320000 = 4 then (armoireref24_Text.j1 k x3 true x320000 x320001 x320002 x320003 x320004 x320005 x320006) else (armoireref24_Text.j1 k x3 (x320000 == 7) x320000 x320001 x320002 x320003 x320004 x320005 x320006)
def armoireref24_Text.j1 : Nat → ByteArray → Bool → Int → Int → ByteArray → Int → ByteArray → ByteArray → Int → Option (ByteArray)
  | 0, _, _, _, _, _, _, _, _, _ => none
  | k + 1, x3, x26, x320000, x320001, x320002, x320003, x320004, x320005, x320006 => if x26 = true then ((armoireref02_N.f k x320001).bind fun t323 => (if x3.size + t323.size ≤ 9223372036854775807 then ((armoireref01_Of.f k (x3 ++ t323)).bind fun t324 => ((armoireref01_Bytes.f t324).bind fun t325 => (if t325.size + (x3 ++ t323).size ≤ 9223372036854775807 then (some (t325 ++ (x3 ++ t323))) else (none)))) else (none))) else ((armoireref01_Of.f k x3).bind fun t326 => ((armoireref01_Bytes.f t326).bind fun t327 => (if t327.size + x3.size ≤ 9223372036854775807 then (some (t327 ++ x3)) else (none))))
end
def armoireref24_Text.f (k : Nat) (a0_0 : Int) (a0_1 : Int) (a0_2 : ByteArray) (a0_3 : Int) (a0_4 : ByteArray) (a0_5 : ByteArray) (a0_6 : Int) : Option (ByteArray) := (armoireref02_N.f k a0_0).bind fun t320 => (if a0_0 = 2 then ((armoireref02_S.f k a0_2).bind fun t321 => ((armoireref12_Text.f k a0_3 a0_4 a0_5 a0_6).bind fun t322 => (if t321.size + t322.size ≤ 9223372036854775807 then (if t320.size + (t321 ++ t322).size ≤ 9223372036854775807 then (armoireref24_Text.j0 k (t320 ++ (t321 ++ t322)) a0_0 a0_1 a0_2 a0_3 a0_4 a0_5 a0_6) else (none)) else (none)))) else (armoireref24_Text.j0 k t320 a0_0 a0_1 a0_2 a0_3 a0_4 a0_5 a0_6))
def armoireref24_Text.T3 : Bool × List (List Nat × List Nat) := (true, [([], []), ([], []), ([1], [1]), ([2], [2]), ([], []), ([4], [4]), ([5, 3], [5]), ([3, 6], [3, 6]), ([0, 7], [0, 7]), ([8, 6, 0, 1, 2, 3, 4, 5, 6, 7, 8], [0, 8])])
def armoireref24_Text.B3 : List Nat := [0, 0, 2, 6, 0, 16, 62, 126, 255, 511]
theorem armoireref24_Text.tab3 : rtab .any (opsOf Try.f15 3) = armoireref24_Text.T3 := by kernel_rfl
theorem armoireref24_Text.bits3 : waitsOk armoireref24_Text.T3.2 armoireref24_Text.B3 = true := by kernel_rfl
set_option maxHeartbeats 2000000 in
set_option maxRecDepth 100000 in
theorem armoireref24_Text.calls (k : Nat) (a0_0 : Int) (a0_1 : Int) (a0_2 : ByteArray) (a0_3 : Int) (a0_4 : ByteArray) (a0_5 : ByteArray) (a0_6 : Int) (r : ByteArray) (w : World) (h : armoireref24_Text.f k a0_0 a0_1 a0_2 a0_3 a0_4 a0_5 a0_6 = some r) :
    Calls Try.prog 15 #[.agg #[.int .i64 a0_0, .int .i64 a0_1, .string a0_2, .int .i64 a0_3, .string a0_4, .string a0_5, .int .i64 a0_6]] w fun e w' => e = .returned (.string r) ∧ Below w.heap.size w w' := by
  have hu36 := Try.underlying36
  have hu34 := Try.underlying34
  have HB := Aside0.mk (Below.refl w.heap.size w)
  have H : ((armoireref02_N.f k a0_0).bind fun t320 => (if a0_0 = 2 then ((armoireref02_S.f k a0_2).bind fun t321 => ((armoireref12_Text.f k a0_3 a0_4 a0_5 a0_6).bind fun t322 => (if t321.size + t322.size ≤ 9223372036854775807 then (if t320.size + (t321 ++ t322).size ≤ 9223372036854775807 then (armoireref24_Text.j0 k (t320 ++ (t321 ++ t322)) a0_0 a0_1 a0_2 a0_3 a0_4 a0_5 a0_6) else (none)) else (none)))) else (armoireref24_Text.j0 k t320 a0_0 a0_1 a0_2 a0_3 a0_4 a0_5 a0_6))) = some r := h
  clear h
  replace H := Option.bind_eq_some_iff.mp H
  obtain ⟨t320, A20, H⟩ := H
  replace H : (if a0_0 = 2 then ((armoireref02_S.f k a0_2).bind fun t321 => ((armoireref12_Text.f k a0_3 a0_4 a0_5 a0_6).bind fun t322 => (if t321.size + t322.size ≤ 9223372036854775807 then (if t320.size + (t321 ++ t322).size ≤ 9223372036854775807 then (armoireref24_Text.j0 k (t320 ++ (t321 ++ t322)) a0_0 a0_1 a0_2 a0_3 a0_4 a0_5 a0_6) else (none)) else (none)))) else (armoireref24_Text.j0 k t320 a0_0 a0_1 a0_2 a0_3 a0_4 a0_5 a0_6)) = some r := H
  have A2 := Aside0.mk A20
  clear A20
  have HC3 := Aside0.mk H
  clear H
  go_enter Try.func15, Try.ntmps15
  go_upto_if 9 with (first | ((with_reducible refine gds (N := 1) rfl ?_); refine bev ?hg (N := 1) ?hd (cs := #[.int .i64 a0_0, .int .i64 a0_1, .string a0_2, .int .i64 a0_3, .string a0_4, .string a0_5, .int .i64 a0_6]) (t := 36) ?hr ?_; (case hd => rfl); (case hg => rfl); (case hr => first | (go_simp; done) | (go_simp; rfl)); intro gb319 hg w4 hbox hb; have n0_ := Aside0.mk (bsp (by repeat (first | (with_reducible first | exact HB.out | apply bal | apply bdn | apply bd1) | exact HB.out)) hb); have n1_ := Aside0.mk (hbox); have n2_ := Aside0.mk ((by rw [hg]; exact (bsz (by repeat (first | (with_reducible first | exact HB.out | apply bal | apply bdn | apply bd1) | exact HB.out))) : w.heap.size ≤ gb319)); have n3_ := Aside0.mk ((by rw [hg]; exact (bsz (by repeat (first | (with_reducible first | exact HB.out | apply bal | apply bdn | apply bd1) | exact HB.out))) : w.heap.size ≤ gb319)); clear HB; have HB := n0_; have BK319 := n1_; have GW319 := n2_; have GE319 := n3_; clear n0_ n1_ n2_ n3_; clear hb hbox hg; have hcz5_0 : w4.cell? ⟨gb319, 0, none⟩ = some (.int .i64 a0_0) := (kcl BK319.out 0).trans rfl; have hcz5_1 : w4.cell? ⟨gb319, 1, none⟩ = some (.int .i64 a0_1) := (kcl BK319.out 1).trans rfl; have hcz5_2 : w4.cell? ⟨gb319, 2, none⟩ = some (.string a0_2) := (kcl BK319.out 2).trans rfl; have hcz5_3 : w4.cell? ⟨gb319, 3, none⟩ = some (.int .i64 a0_3) := (kcl BK319.out 3).trans rfl; have hcz5_4 : w4.cell? ⟨gb319, 4, none⟩ = some (.string a0_4) := (kcl BK319.out 4).trans rfl; have hcz5_5 : w4.cell? ⟨gb319, 5, none⟩ = some (.string a0_5) := (kcl BK319.out 5).trans rfl; have hcz5_6 : w4.cell? ⟨gb319, 6, none⟩ = some (.int .i64 a0_6) := (kcl BK319.out 6).trans rfl; have hfz5_0 := kfr BK319.out 0; have hfz5_1 := kfr BK319.out 1; have hfz5_2 := kfr BK319.out 2; have hfz5_3 := kfr BK319.out 3; have hfz5_4 := kfr BK319.out 4; have hfz5_5 := kfr BK319.out 5; have hfz5_6 := kfr BK319.out 6) | ((with_reducible refine gcl (f := 43) rfl ?_); refine gl_ (some 6) rfl rfl Try.func43 (by kernel_rfl) rfl #[.int .i64 a0_0] rfl (by (try simp only [List.map_toArray, List.map_cons, List.map_nil]); first | done | rfl | (simp only [List.length_drop, List.length_take]; rfl)) ?_; (with_reducible refine (armoireref02_N.calls k a0_0 t320 _ A2.out).mono ?_); rintro e w6 ⟨rfl, hb⟩; refine ⟨_, rfl, ?_⟩; have n0_ := Aside0.mk (kbl (g := gb319) (o := .cells #[.int .i64 a0_0, .int .i64 a0_1, .string a0_2, .int .i64 a0_3, .string a0_4, .string a0_5, .int .i64 a0_6] 36 (0, 0)) (by (with_reducible repeat (first | refine kdn ?_ _ | refine kdw ?_ | refine kal ?_ _)); exact BK319.out) hb); have n1_ := Aside0.mk (bsp (by repeat (first | (with_reducible first | exact HB.out | apply bal | apply bdn | apply bd1 | refine bst ?_ GE319.out) | exact HB.out)) hb); clear BK319; clear HB; have BK319 := n0_; have HB := n1_; clear n0_ n1_; (try clear hb); (try clear hb2); (try clear hk); (try clear hi); have hcz7_0 : w6.cell? ⟨gb319, 0, none⟩ = some (.int .i64 a0_0) := (kcl BK319.out 0).trans rfl; have hcz7_1 : w6.cell? ⟨gb319, 1, none⟩ = some (.int .i64 a0_1) := (kcl BK319.out 1).trans rfl; have hcz7_2 : w6.cell? ⟨gb319, 2, none⟩ = some (.string a0_2) := (kcl BK319.out 2).trans rfl; have hcz7_3 : w6.cell? ⟨gb319, 3, none⟩ = some (.int .i64 a0_3) := (kcl BK319.out 3).trans rfl; have hcz7_4 : w6.cell? ⟨gb319, 4, none⟩ = some (.string a0_4) := (kcl BK319.out 4).trans rfl; have hcz7_5 : w6.cell? ⟨gb319, 5, none⟩ = some (.string a0_5) := (kcl BK319.out 5).trans rfl; have hcz7_6 : w6.cell? ⟨gb319, 6, none⟩ = some (.int .i64 a0_6) := (kcl BK319.out 6).trans rfl; have hfz7_0 := kfr BK319.out 0; have hfz7_1 := kfr BK319.out 1; have hfz7_2 := kfr BK319.out 2; have hfz7_3 := kfr BK319.out 3; have hfz7_4 := kfr BK319.out 4; have hfz7_5 := kfr BK319.out 5; have hfz7_6 := kfr BK319.out 6))
  (try simp only [Act.put, List.setIfInBounds_toArray, List.set_cons_zero, List.set_cons_succ])
  go_cut [3] (fun v3 wc => ∃ (kq : Nat) (x3_2 : ByteArray), v3 = .string x3_2 ∧ Aside0 (armoireref24_Text.j0 kq x3_2 a0_0 a0_1 a0_2 a0_3 a0_4 a0_5 a0_6 = some r) ∧ Aside0 (kq ≤ k) ∧ Aside0 (wc.heap[gb319]? = some (.cells #[.int .i64 a0_0, .int .i64 a0_1, .string a0_2, .int .i64 a0_3, .string a0_4, .string a0_5, .int .i64 a0_6] 36 (0, 0))) ∧ Aside0 (Below w.heap.size w wc))
  case first =>
    have H := HC3.out
    clear HC3
    by_cases c8 : a0_0 = 2
    rotate_left
    · rw [if_neg c8] at H
      have c8b0 : (a0_0 == 2) = false := beq_eq_false_iff_ne.mpr c8
      have c8b1 : (a0_0 != 2) = true := bne_iff_ne.mpr c8
      (first | rw [c8b0] | (simp only [i64_w, i32_w]; rw [c8b0]) | skip)
      have H' := Aside0.mk H
      clear H
      go_wp2
      go_meet
      case rel => exact ⟨_, (t320), (by first | rfl | (simp; done) | (simp [*]; done) | exact emp1_ _ | exact (emp1_ _).symm | exact emp2_ _ | exact (emp2_ _).symm), H', ⟨by first | omega | exact Nat.le_refl _⟩, ⟨by (with_reducible repeat (first | refine kdn ?_ _ | refine kdw ?_ | refine kal ?_ _)); exact BK319.out⟩, ⟨by repeat (first | (with_reducible first | exact HB.out | apply bal | apply bdn | apply bd1 | refine bst ?_ GE319.out) | exact HB.out)⟩⟩
    rw [if_pos c8] at H
    have c8b0 : (a0_0 == 2) = true := beq_iff_eq.mpr c8
    have c8b1 : (a0_0 != 2) = false := bne_eq_false_iff_eq.mpr c8
    clear c8
    (first | rw [c8b0] | (simp only [i64_w, i32_w]; rw [c8b0]) | skip)
    replace H := Option.bind_eq_some_iff.mp H
    obtain ⟨t321, A90, H⟩ := H
    replace H : ((armoireref12_Text.f k a0_3 a0_4 a0_5 a0_6).bind fun t322 => (if t321.size + t322.size ≤ 9223372036854775807 then (if t320.size + (t321 ++ t322).size ≤ 9223372036854775807 then (armoireref24_Text.j0 k (t320 ++ (t321 ++ t322)) a0_0 a0_1 a0_2 a0_3 a0_4 a0_5 a0_6) else (none)) else (none))) = some r := H
    have A9 := Aside0.mk A90
    clear A90
    replace H := Option.bind_eq_some_iff.mp H
    obtain ⟨t322, A100, H⟩ := H
    replace H : (if t321.size + t322.size ≤ 9223372036854775807 then (if t320.size + (t321 ++ t322).size ≤ 9223372036854775807 then (armoireref24_Text.j0 k (t320 ++ (t321 ++ t322)) a0_0 a0_1 a0_2 a0_3 a0_4 a0_5 a0_6) else (none)) else (none)) = some r := H
    have A10 := Aside0.mk A100
    clear A100
    by_cases c11 : t321.size + t322.size ≤ 9223372036854775807
    rotate_left
    · rw [if_neg c11] at H
      exact absurd H (by simp)
    rw [if_pos c11] at H
    have c11b0 := eq_true c11
    have c11b1 : decide (t321.size + t322.size ≤ 9223372036854775807) = true := decide_eq_true c11
    try have c11b2 : (9223372036854775807 < t321.size + t322.size) = False := eq_false (Nat.not_lt.2 c11)
    by_cases c12 : t320.size + (t321 ++ t322).size ≤ 9223372036854775807
    rotate_left
    · rw [if_neg c12] at H
      exact absurd H (by simp)
    rw [if_pos c12] at H
    have c12b0 := eq_true c12
    have c12b1 : decide (t320.size + (t321 ++ t322).size ≤ 9223372036854775807) = true := decide_eq_true c12
    try have c12b2 : (9223372036854775807 < t320.size + (t321 ++ t322).size) = False := eq_false (Nat.not_lt.2 c12)
    try (have c12b3 := c12b2; simp only [ByteArray.size_append] at c12b3)
    try (have c12b4 := c12; simp only [ByteArray.size_append] at c12b4; have c12b5 := eq_true c12b4)
    have H' := Aside0.mk H
    clear H
    try go_wp2
    have n0_ := Aside0.mk (kdw BK319.out)
    have n1_ := Aside0.mk (bd1 HB.out)
    clear BK319
    clear HB
    have BK319 := n0_
    have HB := n1_
    clear n0_ n1_
    refine start_ (n := 10) (S := fun w' => w'.cell? ⟨gb319, 0, none⟩ = some (.int .i64 a0_0) ∧ w'.cell? ⟨gb319, 1, none⟩ = some (.int .i64 a0_1) ∧ w'.cell? ⟨gb319, 2, none⟩ = some (.string a0_2) ∧ w'.cell? ⟨gb319, 3, none⟩ = some (.int .i64 a0_3) ∧ w'.cell? ⟨gb319, 4, none⟩ = some (.string a0_4) ∧ w'.cell? ⟨gb319, 5, none⟩ = some (.string a0_5) ∧ w'.cell? ⟨gb319, 6, none⟩ = some (.int .i64 a0_6)) (ds := []) #[false,false,false,false,false,false,false,false,false,false] (by kernel_rfl) rfl rfl ⟨(kcl BK319.out 0).trans rfl, (kcl BK319.out 1).trans rfl, (kcl BK319.out 2).trans rfl, (kcl BK319.out 3).trans rfl, (kcl BK319.out 4).trans rfl, (kcl BK319.out 5).trans rfl, (kcl BK319.out 6).trans rfl⟩ (fun hHeld => ?_); refine with_tabW armoireref24_Text.tab3 armoireref24_Text.bits3 (fun HT_ HW_ => ?_)
    generalize w6.drew = w13 at BK319 HB hHeld ⊢
    refine pure_ (i := 0) (N := some 10) (v := ?_) (a' := ?_) (bA 10 1) rfl rfl (any_of HT_.out (by kernel_rfl)) (fun _ _ _ h => h) (Or.inl ⟨by rfl, ?_⟩) ?_ ?_
    rotate_left; (intro w'; go_simp; with_reducible rfl); rotate_left; (simp only [Act.put, List.setIfInBounds_toArray, List.set_cons_zero, List.set_cons_succ, i64_w, i32_w]; rfl)
    refine pure_ (i := 1) (N := some 11) (v := ?_) (a' := ?_) (bA 10 3) rfl rfl (any_of HT_.out (by kernel_rfl)) (fun _ _ _ h => h) (Or.inl ⟨by rfl, ?_⟩) ?_ ?_
    rotate_left; (intro w'; go_simp; with_reducible rfl); rotate_left; (simp only [Act.put, List.setIfInBounds_toArray, List.set_cons_zero, List.set_cons_succ, i64_w, i32_w]; rfl)
    refine pure_ (i := 4) (N := some 14) (v := ?_) (a' := ?_) (bA 10 19) rfl rfl (any_of HT_.out (by kernel_rfl)) (fun _ _ _ h => h) (Or.inl ⟨by rfl, ?_⟩) ?_ ?_
    rotate_left; (intro w'; go_simp; with_reducible rfl); rotate_left; (simp only [Act.put, List.setIfInBounds_toArray, List.set_cons_zero, List.set_cons_succ, i64_w, i32_w]; rfl)
    refine take_ (i := 2) (N := some 12) (v := ?_) (a' := ?_) #[true,true,true,false,true,false,false,false,false,false] rfl rfl (tkw HT_.out HW_.out (by kernel_rfl)) (fun _ _ _ h => h) (Or.inl ⟨by rfl, ?_⟩) hHeld ?_ ?_
    rotate_left
    · rintro w' ⟨s0, s1, s2, s3, s4, s5, s6⟩
      go_simp
      with_reducible rfl
    rotate_left; (simp only [Act.put, List.setIfInBounds_toArray, List.set_cons_zero, List.set_cons_succ, i64_w, i32_w]; rfl)
    refine take_ (i := 5) (N := some 15) (v := ?_) (a' := ?_) #[true,true,true,false,true,true,false,false,false,false] rfl rfl (tkw HT_.out HW_.out (by kernel_rfl)) (fun _ _ _ h => h) (Or.inl ⟨by rfl, ?_⟩) hHeld ?_ ?_
    rotate_left
    · rintro w' ⟨s0, s1, s2, s3, s4, s5, s6⟩
      go_simp
      with_reducible rfl
    rotate_left; (simp only [Act.put, List.setIfInBounds_toArray, List.set_cons_zero, List.set_cons_succ, i64_w, i32_w]; rfl)
    refine one_ (i := 3) (N := some 13) #[true,true,true,true,true,true,false,false,false,false] rfl rfl (one_of HT_.out (by kernel_rfl)) (by decide) (fun K hK => ?_)
    refine goes_ Try.func44 (by kernel_rfl) rfl #[.string a0_2] (by rfl) rfl rfl (by (try simp only [List.map_toArray, List.map_cons, List.map_nil]); first | done | rfl | (simp only [List.length_drop, List.length_take]; rfl) | (simp only [Act.eval, Array.getD_eq_getD_getElem?, Option.getD_some, *]; done) | (simp only [Array.mk.injEq, List.cons.injEq, Value.int.injEq, true_and, and_true]; first | omega | (simp [IntKind.wrap, IntKind.bits, IntKind.signed]; omega))) ?_
    with_reducible refine (armoireref02_S.calls k a0_2 t321 _ A9.out).mono ?_
    rintro e w14 ⟨rfl, hb⟩
    refine ⟨_, rfl, ?_⟩
    have n0_ := Aside0.mk (kbl (g := gb319) (o := .cells #[.int .i64 a0_0, .int .i64 a0_1, .string a0_2, .int .i64 a0_3, .string a0_4, .string a0_5, .int .i64 a0_6] 36 (0, 0)) (by (with_reducible repeat (first | refine kdn ?_ _ | refine kdw ?_ | refine kal ?_ _)); exact BK319.out) hb)
    have n1_ := Aside0.mk (bsp (by repeat (first | (with_reducible first | exact HB.out | apply bal | apply bdn | apply bd1 | refine bst ?_ GE319.out) | exact HB.out)) hb)
    clear BK319
    clear HB
    have BK319 := n0_
    have HB := n1_
    clear n0_ n1_
    (try clear hb)
    (try clear hb2)
    (try clear hk)
    (try clear hi)
    refine hK.out _ _ ⟨(kcl BK319.out 0).trans rfl, (kcl BK319.out 1).trans rfl, (kcl BK319.out 2).trans rfl, (kcl BK319.out 3).trans rfl, (kcl BK319.out 4).trans rfl, (kcl BK319.out 5).trans rfl, (kcl BK319.out 6).trans rfl⟩ (fun hHeld => ?_)
    clear hK K
    refine norm_ (a' := ?_) ?_ ?_
    rotate_left
    · show Act.put _ (some 13) _ = _
      simp only [Act.put, List.setIfInBounds_toArray, List.set_cons_zero, List.set_cons_succ, i64_w, i32_w]
      rfl
    refine one_ (i := 6) (N := some 16) #[true,true,true,true,true,true,true,false,false,false] rfl rfl (one_of HT_.out (by kernel_rfl)) (by decide) (fun K hK => ?_)
    refine goes_ Try.func45 (by kernel_rfl) rfl #[.agg #[.int .i64 a0_3, .string a0_4, .string a0_5, .int .i64 a0_6]] (by rfl) rfl rfl (by (try simp only [List.map_toArray, List.map_cons, List.map_nil]); first | done | rfl | (simp only [List.length_drop, List.length_take]; rfl) | (simp only [Act.eval, Array.getD_eq_getD_getElem?, Option.getD_some, *]; done) | (simp only [Array.mk.injEq, List.cons.injEq, Value.int.injEq, true_and, and_true]; first | omega | (simp [IntKind.wrap, IntKind.bits, IntKind.signed]; omega))) ?_
    with_reducible refine (armoireref12_Text.calls k a0_3 a0_4 a0_5 a0_6 t322 _ A10.out).mono ?_
    rintro e w15 ⟨rfl, hb⟩
    refine ⟨_, rfl, ?_⟩
    have n0_ := Aside0.mk (kbl (g := gb319) (o := .cells #[.int .i64 a0_0, .int .i64 a0_1, .string a0_2, .int .i64 a0_3, .string a0_4, .string a0_5, .int .i64 a0_6] 36 (0, 0)) (by (with_reducible repeat (first | refine kdn ?_ _ | refine kdw ?_ | refine kal ?_ _)); exact BK319.out) hb)
    have n1_ := Aside0.mk (bsp (by repeat (first | (with_reducible first | exact HB.out | apply bal | apply bdn | apply bd1 | refine bst ?_ GE319.out) | exact HB.out)) hb)
    clear BK319
    clear HB
    have BK319 := n0_
    have HB := n1_
    clear n0_ n1_
    (try clear hb)
    (try clear hb2)
    (try clear hk)
    (try clear hi)
    refine hK.out _ _ ⟨(kcl BK319.out 0).trans rfl, (kcl BK319.out 1).trans rfl, (kcl BK319.out 2).trans rfl, (kcl BK319.out 3).trans rfl, (kcl BK319.out 4).trans rfl, (kcl BK319.out 5).trans rfl, (kcl BK319.out 6).trans rfl⟩ (fun hHeld => ?_)
    clear hK K
    refine norm_ (a' := ?_) ?_ ?_
    rotate_left
    · show Act.put _ (some 16) _ = _
      simp only [Act.put, List.setIfInBounds_toArray, List.set_cons_zero, List.set_cons_succ, i64_w, i32_w]
      rfl
    refine pure_ (i := 7) (N := some 17) (v := ?_) (a' := ?_) (bA 10 255) rfl rfl (any_of HT_.out (by kernel_rfl)) (fun _ _ _ h => h) (Or.inl ⟨by rfl, ?_⟩) ?_ ?_
    rotate_left; (intro w'; go_simp; with_reducible rfl); rotate_left; (simp only [Act.put, List.setIfInBounds_toArray, List.set_cons_zero, List.set_cons_succ, i64_w, i32_w]; rfl)
    refine pure_ (i := 8) (N := some 18) (v := ?_) (a' := ?_) (bA 10 511) rfl rfl (any_of HT_.out (by kernel_rfl)) (fun _ _ _ h => h) (Or.inl ⟨by rfl, ?_⟩) ?_ ?_
    rotate_left; (intro w'; go_simp; with_reducible rfl); rotate_left; (simp only [Act.put, List.setIfInBounds_toArray, List.set_cons_zero, List.set_cons_succ, i64_w, i32_w]; rfl)
    refine pure_ (i := 9) (N := some 3) (v := ?_) (a' := ?_) (bA 10 1023) rfl rfl (any_of HT_.out (by kernel_rfl)) (fun _ _ _ h => h) (Or.inl ⟨by rfl, ?_⟩) ?_ ?_
    rotate_left; (intro w'; go_simp; with_reducible rfl); rotate_left; (simp only [Act.put, List.setIfInBounds_toArray, List.set_cons_zero, List.set_cons_succ, i64_w, i32_w]; rfl)
    refine done_ (done_of HT_.out (by kernel_rfl)) ?_
    try go_wp2
    go_meet
    case rel => exact ⟨_, (t320 ++ (t321 ++ t322)), (by first | rfl | (simp; done) | (simp [*]; done) | exact emp1_ _ | exact (emp1_ _).symm | exact emp2_ _ | exact (emp2_ _).symm), H', ⟨by first | omega | exact Nat.le_refl _⟩, ⟨by (with_reducible repeat (first | refine kdn ?_ _ | refine kdw ?_ | refine kal ?_ _)); exact BK319.out⟩, ⟨by repeat (first | (with_reducible first | exact HB.out | apply bal | apply bdn | apply bd1 | refine bst ?_ GE319.out) | exact HB.out)⟩⟩
  clear HC3
  try clear c1
  try clear p2
  try clear c4
  try clear c8
  try clear c8b0
  try clear c8b1
  try clear c11
  try clear c11b0
  try clear c11b1
  try clear c11b2
  try clear c12
  try clear c12b0
  try clear c12b1
  try clear c12b2
  try clear c15
  try clear hcz5_0
  try clear hcz5_1
  try clear hcz5_2
  try clear hcz5_3
  try clear hcz5_4
  try clear hcz5_5
  try clear hcz5_6
  try clear hcz7_0
  try clear hcz7_1
  try clear hcz7_2
  try clear hcz7_3
  try clear hcz7_4
  try clear hcz7_5
  try clear hcz7_6
  try clear hfz5_0
  try clear hfz5_1
  try clear hfz5_2
  try clear hfz5_3
  try clear hfz5_4
  try clear hfz5_5
  try clear hfz5_6
  try clear hfz7_0
  try clear hfz7_1
  try clear hfz7_2
  try clear hfz7_3
  try clear hfz7_4
  try clear hfz7_5
  try clear hfz7_6
  obtain ⟨kq, x3_2, rfl, HA, HJ2, BK319, HB⟩ := hcut
  cases kq with
  | zero => exact absurd HA.out (by simp [armoireref24_Text.j0])
  | succ kj2 =>
    have H := HA.out
    clear HA
    simp only [armoireref24_Text.j0] at H
    have HC16 := Aside0.mk H
    clear H
    go_upto_region 4 with (fail)
    go_cut [26] (fun v26 wc => ∃ (kq : Nat) (x26_15 : Bool), v26 = .bool x26_15 ∧ Aside0 (armoireref24_Text.j1 kq x3_2 x26_15 a0_0 a0_1 a0_2 a0_3 a0_4 a0_5 a0_6 = some r) ∧ Aside0 (kq ≤ kj2) ∧ Aside0 (wc.heap[gb319]? = some (.cells #[.int .i64 a0_0, .int .i64 a0_1, .string a0_2, .int .i64 a0_3, .string a0_4, .string a0_5, .int .i64 a0_6] 36 (0, 0))) ∧ Aside0 (Below w.heap.size w wc))
    case first =>
      have H := HC16.out
      clear HC16
      by_cases c17 : a0_0 = 4
      rotate_left
      · rw [if_neg c17] at H
        have c17b0 : (a0_0 == 4) = false := beq_eq_false_iff_ne.mpr c17
        have c17b1 : (a0_0 != 4) = true := bne_iff_ne.mpr c17
        (first | rw [c17b0] | (simp only [i64_w, i32_w]; rw [c17b0]) | skip)
        have H' := Aside0.mk H
        clear H
        have hcz19_0 : wc.cell? ⟨gb319, 0, none⟩ = some (.int .i64 a0_0) := (kcl BK319.out 0).trans rfl
        have hcz19_1 : wc.cell? ⟨gb319, 1, none⟩ = some (.int .i64 a0_1) := (kcl BK319.out 1).trans rfl
        have hcz19_2 : wc.cell? ⟨gb319, 2, none⟩ = some (.string a0_2) := (kcl BK319.out 2).trans rfl
        have hcz19_3 : wc.cell? ⟨gb319, 3, none⟩ = some (.int .i64 a0_3) := (kcl BK319.out 3).trans rfl
        have hcz19_4 : wc.cell? ⟨gb319, 4, none⟩ = some (.string a0_4) := (kcl BK319.out 4).trans rfl
        have hcz19_5 : wc.cell? ⟨gb319, 5, none⟩ = some (.string a0_5) := (kcl BK319.out 5).trans rfl
        have hcz19_6 : wc.cell? ⟨gb319, 6, none⟩ = some (.int .i64 a0_6) := (kcl BK319.out 6).trans rfl
        have hfz19_0 := kfr BK319.out 0
        have hfz19_1 := kfr BK319.out 1
        have hfz19_2 := kfr BK319.out 2
        have hfz19_3 := kfr BK319.out 3
        have hfz19_4 := kfr BK319.out 4
        have hfz19_5 := kfr BK319.out 5
        have hfz19_6 := kfr BK319.out 6
        go_wp2
        go_meet
        case rel => exact ⟨_, ((a0_0 == 7)), (by first | rfl | (simp; done) | (simp [*]; done) | exact emp1_ _ | exact (emp1_ _).symm | exact emp2_ _ | exact (emp2_ _).symm), H', ⟨by have := HJ2.out; first | omega | exact Nat.le_refl _⟩, ⟨by (with_reducible repeat (first | refine kdn ?_ _ | refine kdw ?_ | refine kal ?_ _)); exact BK319.out⟩, ⟨by repeat (first | (with_reducible first | exact HB.out | apply bal | apply bdn | apply bd1 | refine bst ?_ GE319.out) | exact HB.out)⟩⟩
      rw [if_pos c17] at H
      have c17b0 : (a0_0 == 4) = true := beq_iff_eq.mpr c17
      have c17b1 : (a0_0 != 4) = false := bne_eq_false_iff_eq.mpr c17
      clear c17
      (first | rw [c17b0] | (simp only [i64_w, i32_w]; rw [c17b0]) | skip)
      have H' := Aside0.mk H
      clear H
      have hcz18_0 : wc.cell? ⟨gb319, 0, none⟩ = some (.int .i64 a0_0) := (kcl BK319.out 0).trans rfl
      have hcz18_1 : wc.cell? ⟨gb319, 1, none⟩ = some (.int .i64 a0_1) := (kcl BK319.out 1).trans rfl
      have hcz18_2 : wc.cell? ⟨gb319, 2, none⟩ = some (.string a0_2) := (kcl BK319.out 2).trans rfl
      have hcz18_3 : wc.cell? ⟨gb319, 3, none⟩ = some (.int .i64 a0_3) := (kcl BK319.out 3).trans rfl
      have hcz18_4 : wc.cell? ⟨gb319, 4, none⟩ = some (.string a0_4) := (kcl BK319.out 4).trans rfl
      have hcz18_5 : wc.cell? ⟨gb319, 5, none⟩ = some (.string a0_5) := (kcl BK319.out 5).trans rfl
      have hcz18_6 : wc.cell? ⟨gb319, 6, none⟩ = some (.int .i64 a0_6) := (kcl BK319.out 6).trans rfl
      have hfz18_0 := kfr BK319.out 0
      have hfz18_1 := kfr BK319.out 1
      have hfz18_2 := kfr BK319.out 2
      have hfz18_3 := kfr BK319.out 3
      have hfz18_4 := kfr BK319.out 4
      have hfz18_5 := kfr BK319.out 5
      have hfz18_6 := kfr BK319.out 6
      go_wp2
      go_meet
      case rel => exact ⟨_, (true), (by first | rfl | (simp; done) | (simp [*]; done) | exact emp1_ _ | exact (emp1_ _).symm | exact emp2_ _ | exact (emp2_ _).symm), H', ⟨by have := HJ2.out; first | omega | exact Nat.le_refl _⟩, ⟨by (with_reducible repeat (first | refine kdn ?_ _ | refine kdw ?_ | refine kal ?_ _)); exact BK319.out⟩, ⟨by repeat (first | (with_reducible first | exact HB.out | apply bal | apply bdn | apply bd1 | refine bst ?_ GE319.out) | exact HB.out)⟩⟩
    clear HC16
    try clear c1
    try clear p2
    try clear c4
    try clear c8
    try clear c8b0
    try clear c8b1
    try clear c11
    try clear c11b0
    try clear c11b1
    try clear c11b2
    try clear c12
    try clear c12b0
    try clear c12b1
    try clear c12b2
    try clear c15
    try clear c17
    try clear c17b0
    try clear c17b1
    try clear hcz18_0
    try clear hcz18_1
    try clear hcz18_2
    try clear hcz18_3
    try clear hcz18_4
    try clear hcz18_5
    try clear hcz18_6
    try clear hcz19_0
    try clear hcz19_1
    try clear hcz19_2
    try clear hcz19_3
    try clear hcz19_4
    try clear hcz19_5
    try clear hcz19_6
    try clear hcz5_0
    try clear hcz5_1
    try clear hcz5_2
    try clear hcz5_3
    try clear hcz5_4
    try clear hcz5_5
    try clear hcz5_6
    try clear hcz7_0
    try clear hcz7_1
    try clear hcz7_2
    try clear hcz7_3
    try clear hcz7_4
    try clear hcz7_5
    try clear hcz7_6
    try clear hfz18_0
    try clear hfz18_1
    try clear hfz18_2
    try clear hfz18_3
    try clear hfz18_4
    try clear hfz18_5
    try clear hfz18_6
    try clear hfz19_0
    try clear hfz19_1
    try clear hfz19_2
    try clear hfz19_3
    try clear hfz19_4
    try clear hfz19_5
    try clear hfz19_6
    try clear hfz5_0
    try clear hfz5_1
    try clear hfz5_2
    try clear hfz5_3
    try clear hfz5_4
    try clear hfz5_5
    try clear hfz5_6
    try clear hfz7_0
    try clear hfz7_1
    try clear hfz7_2
    try clear hfz7_3
    try clear hfz7_4
    try clear hfz7_5
    try clear hfz7_6
    try clear p2
    obtain ⟨kq, x26_15, rfl, HA, HJ15, BK319, HB⟩ := hcut
    cases kq with
    | zero => exact absurd HA.out (by simp [armoireref24_Text.j1])
    | succ kj15 =>
      have H := HA.out
      clear HA
      simp only [armoireref24_Text.j1] at H
      by_cases c20 : x26_15 = true
      rotate_left
      · replace c20 := Bool.eq_false_iff.mpr c20
        subst c20
        have H1 : ((armoireref01_Of.f kj15 x3_2).bind fun t326 => ((armoireref01_Bytes.f t326).bind fun t327 => (if t327.size + x3_2.size ≤ 9223372036854775807 then (some (t327 ++ x3_2)) else (none)))) = some r := by rw [if_neg (show ¬ (false = true) by decide)] at H; exact H
        clear H
        have H := H1
        clear H1
        replace H := Option.bind_eq_some_iff.mp H
        obtain ⟨t326, A290, H⟩ := H
        replace H : ((armoireref01_Bytes.f t326).bind fun t327 => (if t327.size + x3_2.size ≤ 9223372036854775807 then (some (t327 ++ x3_2)) else (none))) = some r := H
        have A29 := Aside0.mk A290
        clear A290
        replace H := Option.bind_eq_some_iff.mp H
        obtain ⟨t327, A300, H⟩ := H
        replace H : (if t327.size + x3_2.size ≤ 9223372036854775807 then (some (t327 ++ x3_2)) else (none)) = some r := H
        have A30 := Aside0.mk A300
        clear A300
        by_cases c31 : t327.size + x3_2.size ≤ 9223372036854775807
        rotate_left
        · rw [if_neg c31] at H
          exact absurd H (by simp)
        rw [if_pos c31] at H
        have c31b0 := eq_true c31
        have c31b1 : decide (t327.size + x3_2.size ≤ 9223372036854775807) = true := decide_eq_true c31
        try have c31b2 : (9223372036854775807 < t327.size + x3_2.size) = False := eq_false (Nat.not_lt.2 c31)
        obtain rfl := Option.some.inj H
        go_wp2_with (first | ((with_reducible refine gcl (f := 18) rfl ?_); refine gl_ (some 33) rfl rfl Try.func18 (by kernel_rfl) rfl #[.string x3_2] rfl (by (try simp only [List.map_toArray, List.map_cons, List.map_nil]); first | done | rfl | (simp only [List.length_drop, List.length_take]; rfl)) ?_; (with_reducible refine (armoireref01_Of.calls kj15 x3_2 t326 _ A29.out).mono ?_); rintro e w' ⟨rfl, ⟨nd, rfl⟩⟩; refine ⟨_, rfl, ?_⟩) | ((with_reducible refine gcl (f := 17) rfl ?_); refine gl_ (some 34) rfl rfl Try.func17 (by kernel_rfl) rfl #[.int .u32 t326] rfl (by (try simp only [List.map_toArray, List.map_cons, List.map_nil]); first | done | rfl | (simp only [List.length_drop, List.length_take]; rfl)) ?_; (with_reducible refine (armoireref01_Bytes.calls t326 t327 _ A30.out).mono ?_); rintro e w32 ⟨rfl, hb⟩; refine ⟨_, rfl, ?_⟩; have n0_ := Aside0.mk (kbl (g := gb319) (o := .cells #[.int .i64 a0_0, .int .i64 a0_1, .string a0_2, .int .i64 a0_3, .string a0_4, .string a0_5, .int .i64 a0_6] 36 (0, 0)) (by (with_reducible repeat (first | refine kdn ?_ _ | refine kdw ?_ | refine kal ?_ _)); exact BK319.out) hb); have n1_ := Aside0.mk (bsp (by repeat (first | (with_reducible first | exact HB.out | apply bal | apply bdn | apply bd1 | refine bst ?_ GE319.out) | exact HB.out)) hb); clear BK319; clear HB; have BK319 := n0_; have HB := n1_; clear n0_ n1_; (try clear hb); (try clear hb2); (try clear hk); (try clear hi)))
        go_ret
        exact ⟨by first | rfl | (simp [errW_none, errW_some] <;> rfl) | (simp [*, errW_none, errW_some] <;> rfl), by repeat (first | (with_reducible first | exact HB.out | apply bal | apply bdn | apply bd1 | refine bst ?_ GE319.out) | exact HB.out)⟩
      subst c20
      have H1 : ((armoireref02_N.f kj15 a0_1).bind fun t323 => (if x3_2.size + t323.size ≤ 9223372036854775807 then ((armoireref01_Of.f kj15 (x3_2 ++ t323)).bind fun t324 => ((armoireref01_Bytes.f t324).bind fun t325 => (if t325.size + (x3_2 ++ t323).size ≤ 9223372036854775807 then (some (t325 ++ (x3_2 ++ t323))) else (none)))) else (none))) = some r := by rw [if_pos rfl] at H; exact H
      clear H
      have H := H1
      clear H1
      replace H := Option.bind_eq_some_iff.mp H
      obtain ⟨t323, A210, H⟩ := H
      replace H : (if x3_2.size + t323.size ≤ 9223372036854775807 then ((armoireref01_Of.f kj15 (x3_2 ++ t323)).bind fun t324 => ((armoireref01_Bytes.f t324).bind fun t325 => (if t325.size + (x3_2 ++ t323).size ≤ 9223372036854775807 then (some (t325 ++ (x3_2 ++ t323))) else (none)))) else (none)) = some r := H
      have A21 := Aside0.mk A210
      clear A210
      by_cases c22 : x3_2.size + t323.size ≤ 9223372036854775807
      rotate_left
      · rw [if_neg c22] at H
        exact absurd H (by simp)
      rw [if_pos c22] at H
      have c22b0 := eq_true c22
      have c22b1 : decide (x3_2.size + t323.size ≤ 9223372036854775807) = true := decide_eq_true c22
      try have c22b2 : (9223372036854775807 < x3_2.size + t323.size) = False := eq_false (Nat.not_lt.2 c22)
      replace H := Option.bind_eq_some_iff.mp H
      obtain ⟨t324, A230, H⟩ := H
      replace H : ((armoireref01_Bytes.f t324).bind fun t325 => (if t325.size + (x3_2 ++ t323).size ≤ 9223372036854775807 then (some (t325 ++ (x3_2 ++ t323))) else (none))) = some r := H
      have A23 := Aside0.mk A230
      clear A230
      replace H := Option.bind_eq_some_iff.mp H
      obtain ⟨t325, A240, H⟩ := H
      replace H : (if t325.size + (x3_2 ++ t323).size ≤ 9223372036854775807 then (some (t325 ++ (x3_2 ++ t323))) else (none)) = some r := H
      have A24 := Aside0.mk A240
      clear A240
      by_cases c25 : t325.size + (x3_2 ++ t323).size ≤ 9223372036854775807
      rotate_left
      · rw [if_neg c25] at H
        exact absurd H (by simp)
      rw [if_pos c25] at H
      have c25b0 := eq_true c25
      have c25b1 : decide (t325.size + (x3_2 ++ t323).size ≤ 9223372036854775807) = true := decide_eq_true c25
      try have c25b2 : (9223372036854775807 < t325.size + (x3_2 ++ t323).size) = False := eq_false (Nat.not_lt.2 c25)
      try (have c25b3 := c25b2; simp only [ByteArray.size_append] at c25b3)
      try (have c25b4 := c25; simp only [ByteArray.size_append] at c25b4; have c25b5 := eq_true c25b4)
      obtain rfl := Option.some.inj H
      have hcz26_0 : wc.cell? ⟨gb319, 0, none⟩ = some (.int .i64 a0_0) := (kcl BK319.out 0).trans rfl
      have hcz26_1 : wc.cell? ⟨gb319, 1, none⟩ = some (.int .i64 a0_1) := (kcl BK319.out 1).trans rfl
      have hcz26_2 : wc.cell? ⟨gb319, 2, none⟩ = some (.string a0_2) := (kcl BK319.out 2).trans rfl
      have hcz26_3 : wc.cell? ⟨gb319, 3, none⟩ = some (.int .i64 a0_3) := (kcl BK319.out 3).trans rfl
      have hcz26_4 : wc.cell? ⟨gb319, 4, none⟩ = some (.string a0_4) := (kcl BK319.out 4).trans rfl
      have hcz26_5 : wc.cell? ⟨gb319, 5, none⟩ = some (.string a0_5) := (kcl BK319.out 5).trans rfl
      have hcz26_6 : wc.cell? ⟨gb319, 6, none⟩ = some (.int .i64 a0_6) := (kcl BK319.out 6).trans rfl
      have hfz26_0 := kfr BK319.out 0
      have hfz26_1 := kfr BK319.out 1
      have hfz26_2 := kfr BK319.out 2
      have hfz26_3 := kfr BK319.out 3
      have hfz26_4 := kfr BK319.out 4
      have hfz26_5 := kfr BK319.out 5
      have hfz26_6 := kfr BK319.out 6
      go_wp2_with (first | ((with_reducible refine gcl (f := 43) rfl ?_); refine gl_ (some 30) rfl rfl Try.func43 (by kernel_rfl) rfl #[.int .i64 a0_1] rfl (by (try simp only [List.map_toArray, List.map_cons, List.map_nil]); first | done | rfl | (simp only [List.length_drop, List.length_take]; rfl)) ?_; (with_reducible refine (armoireref02_N.calls kj15 a0_1 t323 _ A21.out).mono ?_); rintro e w27 ⟨rfl, hb⟩; refine ⟨_, rfl, ?_⟩; have n0_ := Aside0.mk (kbl (g := gb319) (o := .cells #[.int .i64 a0_0, .int .i64 a0_1, .string a0_2, .int .i64 a0_3, .string a0_4, .string a0_5, .int .i64 a0_6] 36 (0, 0)) (by (with_reducible repeat (first | refine kdn ?_ _ | refine kdw ?_ | refine kal ?_ _)); exact BK319.out) hb); have n1_ := Aside0.mk (bsp (by repeat (first | (with_reducible first | exact HB.out | apply bal | apply bdn | apply bd1 | refine bst ?_ GE319.out) | exact HB.out)) hb); clear BK319; clear HB; have BK319 := n0_; have HB := n1_; clear n0_ n1_; (try clear hb); (try clear hb2); (try clear hk); (try clear hi)) | ((with_reducible refine gcl (f := 18) rfl ?_); refine gl_ (some 33) rfl rfl Try.func18 (by kernel_rfl) rfl #[.string (x3_2 ++ t323)] rfl (by (try simp only [List.map_toArray, List.map_cons, List.map_nil]); first | done | rfl | (simp only [List.length_drop, List.length_take]; rfl)) ?_; (with_reducible refine (armoireref01_Of.calls kj15 (x3_2 ++ t323) t324 _ A23.out).mono ?_); rintro e w' ⟨rfl, ⟨nd, rfl⟩⟩; refine ⟨_, rfl, ?_⟩) | ((with_reducible refine gcl (f := 17) rfl ?_); refine gl_ (some 34) rfl rfl Try.func17 (by kernel_rfl) rfl #[.int .u32 t324] rfl (by (try simp only [List.map_toArray, List.map_cons, List.map_nil]); first | done | rfl | (simp only [List.length_drop, List.length_take]; rfl)) ?_; (with_reducible refine (armoireref01_Bytes.calls t324 t325 _ A24.out).mono ?_); rintro e w28 ⟨rfl, hb⟩; refine ⟨_, rfl, ?_⟩; have n0_ := Aside0.mk (kbl (g := gb319) (o := .cells #[.int .i64 a0_0, .int .i64 a0_1, .string a0_2, .int .i64 a0_3, .string a0_4, .string a0_5, .int .i64 a0_6] 36 (0, 0)) (by (with_reducible repeat (first | refine kdn ?_ _ | refine kdw ?_ | refine kal ?_ _)); exact BK319.out) hb); have n1_ := Aside0.mk (bsp (by repeat (first | (with_reducible first | exact HB.out | apply bal | apply bdn | apply bd1 | refine bst ?_ GE319.out) | exact HB.out)) hb); clear BK319; clear HB; have BK319 := n0_; have HB := n1_; clear n0_ n1_; (try clear hb); (try clear hb2); (try clear hk); (try clear hi)))
      go_ret
      exact ⟨by first | rfl | (simp [errW_none, errW_some] <;> rfl) | (simp [*, errW_none, errW_some] <;> rfl), by repeat (first | (with_reducible first | exact HB.out | apply bal | apply bdn | apply bd1 | refine bst ?_ GE319.out) | exact HB.out)⟩
end Go.Proofs.Ytkkkmbgflflcnaa.PA

