import Derived.Test.YtfllpmmfjbjgoaaQScxPAx0
import Derived.Test.YtfllpmmfjbjgoaaQScxPAx3
import Derived.Test.YtfllpmmfjbjgoaaQScxPAx4
namespace Go.Proofs.Ytfllpmmfjbjgoaa.PA
open Go.Proofs.Ytfllpmmfjbjgoaa.PL
open Go.RowKit Go.Proofs.YtfllpmmfjbjgoaaW.PrintWords Go.Proofs.YtfllpmmfjbjgoaaW.PrintLast Go.Proofs.YtfllpmmfjbjgoaaW.PrintMore
attribute [local go_sem] max2_int min2_int max_two min_two max_three min_three max_four min_four
set_option linter.unusedVariables false
set_option linter.unusedSimpArgs false
def armoireref04_Text.l0 : Nat → ByteArray → Int → Option (ByteArray)
  | 0, _, _ => none
  | k + 1, x3, x4 => if x4 < 60 then (if (x3.size : Int) < 60 then (if x3.size + 1 ≤ 9223372036854775807 then (armoireref04_Text.l0 k (x3 ++ (⟨#[0]⟩ : ByteArray)) (wrap64 (x4 + 1))) else (none)) else ((armoireref01_Of.f k x3).bind fun t214 => ((armoireref01_Bytes.f t214).bind fun t215 => (if t215.size + x3.size ≤ 9223372036854775807 then (some (t215 ++ x3)) else (none))))) else ((armoireref01_Of.f k x3).bind fun t216 => ((armoireref01_Bytes.f t216).bind fun t217 => (if t217.size + x3.size ≤ 9223372036854775807 then (some (t217 ++ x3)) else (none))))
def armoireref04_Text.f (k : Nat) (a0_0 : Int) (a0_1 : Int) (a0_2 : ByteArray) : Option (ByteArray) := (armoireref02_N.f k a0_0).bind fun t211 => ((armoireref02_N.f k a0_1).bind fun t212 => (if t211.size + t212.size ≤ 9223372036854775807 then ((armoireref02_S.f k a0_2).bind fun t213 => (if (t211 ++ t212).size + t213.size ≤ 9223372036854775807 then (armoireref04_Text.l0 k ((t211 ++ t212) ++ t213) 0) else (none))) else (none)))
def armoireref04_Text.T1 : Bool × List (List Nat × List Nat) := (true, [([], []), ([0], [0]), ([1], [1]), ([], []), ([3], [3]), ([4, 2], [4]), ([2, 5], [2, 5]), ([], []), ([7], [7]), ([8, 5], [8]), ([6, 9], [6, 9]), ([10, 9, 0, 1, 2, 3, 4, 5, 6, 7, 8, 9, 10], [10])])
def armoireref04_Text.B1 : List Nat := [0, 1, 3, 0, 8, 31, 63, 0, 128, 447, 1023, 2047]
theorem armoireref04_Text.tab1 : rtab .any (opsOf Try.f59 1) = armoireref04_Text.T1 := by kernel_rfl
theorem armoireref04_Text.bits1 : waitsOk armoireref04_Text.T1.2 armoireref04_Text.B1 = true := by kernel_rfl
set_option maxHeartbeats 2000000 in
set_option maxRecDepth 100000 in
theorem armoireref04_Text.calls (k : Nat) (a0_0 : Int) (a0_1 : Int) (a0_2 : ByteArray) (r : ByteArray) (w : World) (h : armoireref04_Text.f k a0_0 a0_1 a0_2 = some r) :
    Calls Try.prog 59 #[.agg #[.int .i64 a0_0, .int .i64 a0_1, .string a0_2]] w fun e w' => e = .returned (.string r) ∧ Below w.heap.size w w' := by
  have hu89 := Try.underlying89
  have HB := Aside0.mk (Below.refl w.heap.size w)
  have H : ((armoireref02_N.f k a0_0).bind fun t211 => ((armoireref02_N.f k a0_1).bind fun t212 => (if t211.size + t212.size ≤ 9223372036854775807 then ((armoireref02_S.f k a0_2).bind fun t213 => (if (t211 ++ t212).size + t213.size ≤ 9223372036854775807 then (armoireref04_Text.l0 k ((t211 ++ t212) ++ t213) 0) else (none))) else (none)))) = some r := h
  clear h
  replace H := Option.bind_eq_some_iff.mp H
  obtain ⟨t211, A20, H⟩ := H
  replace H : ((armoireref02_N.f k a0_1).bind fun t212 => (if t211.size + t212.size ≤ 9223372036854775807 then ((armoireref02_S.f k a0_2).bind fun t213 => (if (t211 ++ t212).size + t213.size ≤ 9223372036854775807 then (armoireref04_Text.l0 k ((t211 ++ t212) ++ t213) 0) else (none))) else (none))) = some r := H
  have A2 := Aside0.mk A20
  clear A20
  replace H := Option.bind_eq_some_iff.mp H
  obtain ⟨t212, A30, H⟩ := H
  replace H : (if t211.size + t212.size ≤ 9223372036854775807 then ((armoireref02_S.f k a0_2).bind fun t213 => (if (t211 ++ t212).size + t213.size ≤ 9223372036854775807 then (armoireref04_Text.l0 k ((t211 ++ t212) ++ t213) 0) else (none))) else (none)) = some r := H
  have A3 := Aside0.mk A30
  clear A30
  by_cases c4 : t211.size + t212.size ≤ 9223372036854775807
  rotate_left
  · rw [if_neg c4] at H
    exact absurd H (by simp)
  rw [if_pos c4] at H
  have c4b0 := eq_true c4
  have c4b1 : decide (t211.size + t212.size ≤ 9223372036854775807) = true := decide_eq_true c4
  try have c4b2 : (9223372036854775807 < t211.size + t212.size) = False := eq_false (Nat.not_lt.2 c4)
  replace H := Option.bind_eq_some_iff.mp H
  obtain ⟨t213, A50, H⟩ := H
  replace H : (if (t211 ++ t212).size + t213.size ≤ 9223372036854775807 then (armoireref04_Text.l0 k ((t211 ++ t212) ++ t213) 0) else (none)) = some r := H
  have A5 := Aside0.mk A50
  clear A50
  by_cases c6 : (t211 ++ t212).size + t213.size ≤ 9223372036854775807
  rotate_left
  · rw [if_neg c6] at H
    exact absurd H (by simp)
  rw [if_pos c6] at H
  have c6b0 := eq_true c6
  have c6b1 : decide ((t211 ++ t212).size + t213.size ≤ 9223372036854775807) = true := decide_eq_true c6
  try have c6b2 : (9223372036854775807 < (t211 ++ t212).size + t213.size) = False := eq_false (Nat.not_lt.2 c6)
  try (have c6b3 := c6b2; simp only [ByteArray.size_append] at c6b3)
  try (have c6b4 := c6; simp only [ByteArray.size_append] at c6b4; have c6b5 := eq_true c6b4)
  have H' := Aside0.mk H
  clear H
  go_enter Try.func59, Try.ntmps59
  try go_wp2_with (first | ((with_reducible refine gds (N := 1) rfl ?_); (try (refine gate_guard (by rfl) ?_; dsimp only)); refine bev ?hg (N := 1) ?hd (cs := #[.int .i64 a0_0, .int .i64 a0_1, .string a0_2]) (t := 89) ?hr ?_; (case hd => rfl); (case hg => rfl); (case hr => first | (go_simp; done) | (go_simp; rfl)); intro gb210 hg w7 hbox hb; have n0_ := Aside0.mk (bsp bl_ hb); have n1_ := Aside0.mk (hbox); have n2_ := Aside0.mk ((by rw [hg]; exact bsz bl_ : w.heap.size ≤ gb210)); have n3_ := Aside0.mk ((by rw [hg]; exact bsz bl_ : w.heap.size ≤ gb210)); clear HB; have HB := n0_; have BK210 := n1_; have GW210 := n2_; have GE210 := n3_; clear n0_ n1_ n2_ n3_; clear hb hbox hg))
  have n0_ := Aside0.mk (kdw BK210.out)
  have n1_ := Aside0.mk (bd1 HB.out)
  clear BK210
  clear HB
  have BK210 := n0_
  have HB := n1_
  clear n0_ n1_
  refine start_ (n := 12) (S := fun w' => w'.cell? ⟨gb210, 0, none⟩ = some (.int .i64 a0_0) ∧ w'.cell? ⟨gb210, 1, none⟩ = some (.int .i64 a0_1) ∧ w'.cell? ⟨gb210, 2, none⟩ = some (.string a0_2)) (ds := []) #[false,false,false,false,false,false,false,false,false,false,false,false] (by kernel_rfl) rfl rfl ⟨(kcl BK210.out 0).trans rfl, (kcl BK210.out 1).trans rfl, (kcl BK210.out 2).trans rfl⟩ (fun hHeld => ?_); refine with_tabW armoireref04_Text.tab1 armoireref04_Text.bits1 (fun HT_ HW_ => ?_)
  generalize w7.drew = w8 at BK210 HB hHeld ⊢
  refine pure_ (i := 0) (N := some 5) (v := ?_) (a' := ?_) (bA 12 1) rfl rfl (any_of HT_.out (by kernel_rfl)) (fun _ _ _ h => h) (Or.inl ⟨by rfl, ?_⟩) ?_ ?_
  rotate_left; (intro w'; go_simp; with_reducible rfl); rotate_left; (simp only [Act.put, List.setIfInBounds_toArray, List.set_cons_zero, List.set_cons_succ, i64_w, i32_w]; rfl)
  refine pure_ (i := 3) (N := some 8) (v := ?_) (a' := ?_) (bA 12 9) rfl rfl (any_of HT_.out (by kernel_rfl)) (fun _ _ _ h => h) (Or.inl ⟨by rfl, ?_⟩) ?_ ?_
  rotate_left; (intro w'; go_simp; with_reducible rfl); rotate_left; (simp only [Act.put, List.setIfInBounds_toArray, List.set_cons_zero, List.set_cons_succ, i64_w, i32_w]; rfl)
  refine pure_ (i := 7) (N := some 12) (v := ?_) (a' := ?_) (bA 12 137) rfl rfl (any_of HT_.out (by kernel_rfl)) (fun _ _ _ h => h) (Or.inl ⟨by rfl, ?_⟩) ?_ ?_
  rotate_left; (intro w'; go_simp; with_reducible rfl); rotate_left; (simp only [Act.put, List.setIfInBounds_toArray, List.set_cons_zero, List.set_cons_succ, i64_w, i32_w]; rfl)
  refine take_ (i := 1) (N := some 6) (v := ?_) (a' := ?_) #[true,true,false,true,false,false,false,true,false,false,false,false] rfl rfl (tkw HT_.out HW_.out (by kernel_rfl)) (fun _ _ _ h => h) (Or.inl ⟨by rfl, ?_⟩) hHeld ?_ ?_
  rotate_left
  · rintro w' ⟨s0, s1, s2⟩
    go_simp
    with_reducible rfl
  rotate_left; (simp only [Act.put, List.setIfInBounds_toArray, List.set_cons_zero, List.set_cons_succ, i64_w, i32_w]; rfl)
  refine take_ (i := 4) (N := some 9) (v := ?_) (a' := ?_) #[true,true,false,true,true,false,false,true,false,false,false,false] rfl rfl (tkw HT_.out HW_.out (by kernel_rfl)) (fun _ _ _ h => h) (Or.inl ⟨by rfl, ?_⟩) hHeld ?_ ?_
  rotate_left
  · rintro w' ⟨s0, s1, s2⟩
    go_simp
    with_reducible rfl
  rotate_left; (simp only [Act.put, List.setIfInBounds_toArray, List.set_cons_zero, List.set_cons_succ, i64_w, i32_w]; rfl)
  refine take_ (i := 8) (N := some 13) (v := ?_) (a' := ?_) #[true,true,false,true,true,false,false,true,true,false,false,false] rfl rfl (tkw HT_.out HW_.out (by kernel_rfl)) (fun _ _ _ h => h) (Or.inl ⟨by rfl, ?_⟩) hHeld ?_ ?_
  rotate_left
  · rintro w' ⟨s0, s1, s2⟩
    go_simp
    with_reducible rfl
  rotate_left; (simp only [Act.put, List.setIfInBounds_toArray, List.set_cons_zero, List.set_cons_succ, i64_w, i32_w]; rfl)
  refine one_ (i := 2) (N := some 7) #[true,true,true,true,true,false,false,true,true,false,false,false] rfl rfl (one_of HT_.out (by kernel_rfl)) (by decide) (fun K hK => ?_)
  refine goes_ Try.func72 (by kernel_rfl) rfl #[.int .i64 a0_0] (by rfl) rfl rfl (by (try simp only [List.map_toArray, List.map_cons, List.map_nil]); first | done | rfl | (simp only [List.length_drop, List.length_take]; rfl) | (simp only [Act.eval, Array.getD_eq_getD_getElem?, Option.getD_some, *]; done) | (simp only [Array.mk.injEq, List.cons.injEq, Value.int.injEq, true_and, and_true]; first | omega | (simp [IntKind.wrap, IntKind.bits, IntKind.signed]; omega))) ?_
  with_reducible refine (armoireref02_N.calls k a0_0 t211 _ A2.out).mono ?_
  rintro e w9 ⟨rfl, hb⟩
  refine ⟨_, rfl, ?_⟩
  have n0_ := Aside0.mk (kbl (g := gb210) (o := .cells #[.int .i64 a0_0, .int .i64 a0_1, .string a0_2] 89 (0, 0)) bk_ hb)
  have n1_ := Aside0.mk (bsp bl_ hb)
  clear BK210
  clear HB
  have BK210 := n0_
  have HB := n1_
  clear n0_ n1_
  (try clear hb)
  (try clear hb2)
  (try clear hk)
  (try clear hi)
  refine hK.out _ _ ⟨(kcl BK210.out 0).trans rfl, (kcl BK210.out 1).trans rfl, (kcl BK210.out 2).trans rfl⟩ (fun hHeld => ?_)
  clear hK K
  refine norm_ (a' := ?_) ?_ ?_
  rotate_left
  · show Act.put _ (some 7) _ = _
    simp only [Act.put, List.setIfInBounds_toArray, List.set_cons_zero, List.set_cons_succ, i64_w, i32_w]
    rfl
  refine one_ (i := 5) (N := some 10) #[true,true,true,true,true,true,false,true,true,false,false,false] rfl rfl (one_of HT_.out (by kernel_rfl)) (by decide) (fun K hK => ?_)
  refine goes_ Try.func72 (by kernel_rfl) rfl #[.int .i64 a0_1] (by rfl) rfl rfl (by (try simp only [List.map_toArray, List.map_cons, List.map_nil]); first | done | rfl | (simp only [List.length_drop, List.length_take]; rfl) | (simp only [Act.eval, Array.getD_eq_getD_getElem?, Option.getD_some, *]; done) | (simp only [Array.mk.injEq, List.cons.injEq, Value.int.injEq, true_and, and_true]; first | omega | (simp [IntKind.wrap, IntKind.bits, IntKind.signed]; omega))) ?_
  with_reducible refine (armoireref02_N.calls k a0_1 t212 _ A3.out).mono ?_
  rintro e w10 ⟨rfl, hb⟩
  refine ⟨_, rfl, ?_⟩
  have n0_ := Aside0.mk (kbl (g := gb210) (o := .cells #[.int .i64 a0_0, .int .i64 a0_1, .string a0_2] 89 (0, 0)) bk_ hb)
  have n1_ := Aside0.mk (bsp bl_ hb)
  clear BK210
  clear HB
  have BK210 := n0_
  have HB := n1_
  clear n0_ n1_
  (try clear hb)
  (try clear hb2)
  (try clear hk)
  (try clear hi)
  refine hK.out _ _ ⟨(kcl BK210.out 0).trans rfl, (kcl BK210.out 1).trans rfl, (kcl BK210.out 2).trans rfl⟩ (fun hHeld => ?_)
  clear hK K
  refine norm_ (a' := ?_) ?_ ?_
  rotate_left
  · show Act.put _ (some 10) _ = _
    simp only [Act.put, List.setIfInBounds_toArray, List.set_cons_zero, List.set_cons_succ, i64_w, i32_w]
    rfl
  refine pure_ (i := 6) (N := some 11) (v := ?_) (a' := ?_) (bA 12 511) rfl rfl (any_of HT_.out (by kernel_rfl)) (fun _ _ _ h => h) (Or.inl ⟨by rfl, ?_⟩) ?_ ?_
  rotate_left; (intro w'; go_simp; with_reducible rfl); rotate_left; (simp only [Act.put, List.setIfInBounds_toArray, List.set_cons_zero, List.set_cons_succ, i64_w, i32_w]; rfl)
  refine one_ (i := 9) (N := some 14) #[true,true,true,true,true,true,true,true,true,true,false,false] rfl rfl (one_of HT_.out (by kernel_rfl)) (by decide) (fun K hK => ?_)
  refine goes_ Try.func73 (by kernel_rfl) rfl #[.string a0_2] (by rfl) rfl rfl (by (try simp only [List.map_toArray, List.map_cons, List.map_nil]); first | done | rfl | (simp only [List.length_drop, List.length_take]; rfl) | (simp only [Act.eval, Array.getD_eq_getD_getElem?, Option.getD_some, *]; done) | (simp only [Array.mk.injEq, List.cons.injEq, Value.int.injEq, true_and, and_true]; first | omega | (simp [IntKind.wrap, IntKind.bits, IntKind.signed]; omega))) ?_
  with_reducible refine (armoireref02_S.calls k a0_2 t213 _ A5.out).mono ?_
  rintro e w11 ⟨rfl, hb⟩
  refine ⟨_, rfl, ?_⟩
  have n0_ := Aside0.mk (kbl (g := gb210) (o := .cells #[.int .i64 a0_0, .int .i64 a0_1, .string a0_2] 89 (0, 0)) bk_ hb)
  have n1_ := Aside0.mk (bsp bl_ hb)
  clear BK210
  clear HB
  have BK210 := n0_
  have HB := n1_
  clear n0_ n1_
  (try clear hb)
  (try clear hb2)
  (try clear hk)
  (try clear hi)
  refine hK.out _ _ ⟨(kcl BK210.out 0).trans rfl, (kcl BK210.out 1).trans rfl, (kcl BK210.out 2).trans rfl⟩ (fun hHeld => ?_)
  clear hK K
  refine norm_ (a' := ?_) ?_ ?_
  rotate_left
  · show Act.put _ (some 14) _ = _
    simp only [Act.put, List.setIfInBounds_toArray, List.set_cons_zero, List.set_cons_succ, i64_w, i32_w]
    rfl
  refine pure_ (i := 10) (N := some 15) (v := ?_) (a' := ?_) (bA 12 2047) rfl rfl (any_of HT_.out (by kernel_rfl)) (fun _ _ _ h => h) (Or.inl ⟨by rfl, ?_⟩) ?_ ?_
  rotate_left; (intro w'; go_simp; with_reducible rfl); rotate_left; (simp only [Act.put, List.setIfInBounds_toArray, List.set_cons_zero, List.set_cons_succ, i64_w, i32_w]; rfl)
  refine pure_ (i := 11) (N := some 3) (v := ?_) (a' := ?_) (bA 12 4095) rfl rfl (any_of HT_.out (by kernel_rfl)) (fun _ _ _ h => h) (Or.inl ⟨by rfl, ?_⟩) ?_ ?_
  rotate_left; (intro w'; go_simp; with_reducible rfl); rotate_left; (simp only [Act.put, List.setIfInBounds_toArray, List.set_cons_zero, List.set_cons_succ, i64_w, i32_w]; rfl)
  refine done_ (done_of HT_.out (by kernel_rfl)) ?_
  try go_wp2
  go_loopg [3, 4] k (fun kq v3 v4 w' => ∃ (x3_1 : ByteArray) (x4_1 : Int), v3 = .string x3_1 ∧ v4 = .int .i64 x4_1 ∧ Aside0 (armoireref04_Text.l0 kq x3_1 x4_1 = some r) ∧ Aside0 (kq ≤ k) ∧ Aside0 (w'.heap[gb210]? = some (.cells #[.int .i64 a0_0, .int .i64 a0_1, .string a0_2] 89 (0, 0))) ∧ Aside0 (Below w.heap.size w w'))
  case atStart => exact ⟨((t211 ++ t212) ++ t213), (0), (by first | rfl | (simp; done) | (simp [*]; done) | exact emp1_ _ | exact (emp1_ _).symm | exact emp2_ _ | exact (emp2_ _).symm), (by first | rfl | (simp; done) | (simp [*]; done) | exact emp1_ _ | exact (emp1_ _).symm | exact emp2_ _ | exact (emp2_ _).symm), H', ⟨Nat.le_refl _⟩, ⟨bk_⟩, ⟨bl_⟩⟩
  clear H'
  try clear p2
  try clear c4
  try clear c4b0
  try clear c4b1
  try clear c4b2
  try clear c5
  try clear c6
  try clear c6b0
  try clear c6b1
  try clear c6b2
  try clear c7
  obtain ⟨x3_1, x4_1, rfl, rfl, HA, HK1, BK210, HB⟩ := hrel
  cases gk with
  | zero => exact absurd HA.out (by simp [armoireref04_Text.l0])
  | succ k1 =>
    have H := HA.out
    clear HA
    simp only [armoireref04_Text.l0] at H
    by_cases c12 : x4_1 < 60
    rotate_left
    · rw [if_neg c12] at H
      have c12b0 : decide (x4_1 < 60) = false := decide_eq_false c12
      clear c12
      replace H := Option.bind_eq_some_iff.mp H
      obtain ⟨t216, A190, H⟩ := H
      replace H : ((armoireref01_Bytes.f t216).bind fun t217 => (if t217.size + x3_1.size ≤ 9223372036854775807 then (some (t217 ++ x3_1)) else (none))) = some r := H
      have A19 := Aside0.mk A190
      clear A190
      replace H := Option.bind_eq_some_iff.mp H
      obtain ⟨t217, A200, H⟩ := H
      replace H : (if t217.size + x3_1.size ≤ 9223372036854775807 then (some (t217 ++ x3_1)) else (none)) = some r := H
      have A20 := Aside0.mk A200
      clear A200
      by_cases c21 : t217.size + x3_1.size ≤ 9223372036854775807
      rotate_left
      · rw [if_neg c21] at H
        exact absurd H (by simp)
      rw [if_pos c21] at H
      have c21b0 := eq_true c21
      have c21b1 : decide (t217.size + x3_1.size ≤ 9223372036854775807) = true := decide_eq_true c21
      try have c21b2 : (9223372036854775807 < t217.size + x3_1.size) = False := eq_false (Nat.not_lt.2 c21)
      obtain rfl := Option.some.inj H
      go_wp2_with (first | ((with_reducible refine gcl (f := 56) rfl ?_); refine gl_ (some 28) rfl rfl Try.func56 (by kernel_rfl) rfl #[.string x3_1] rfl ar_ ?_; (with_reducible refine (armoireref01_Of.calls k1 x3_1 t216 _ A19.out).mono ?_); rintro e w' ⟨rfl, ⟨nd, rfl⟩⟩; refine ⟨_, rfl, ?_⟩) | ((with_reducible refine gcl (f := 55) rfl ?_); refine gl_ (some 29) rfl rfl Try.func55 (by kernel_rfl) rfl #[.int .u32 t216] rfl ar_ ?_; (with_reducible refine (armoireref01_Bytes.calls t216 t217 _ A20.out).mono ?_); rintro e w22 ⟨rfl, hb⟩; refine ⟨_, rfl, ?_⟩; have n0_ := Aside0.mk (kbl (g := gb210) (o := .cells #[.int .i64 a0_0, .int .i64 a0_1, .string a0_2] 89 (0, 0)) bk_ hb); have n1_ := Aside0.mk (bsp bl_ hb); clear BK210; clear HB; have BK210 := n0_; have HB := n1_; clear n0_ n1_; (try clear hb); (try clear hb2); (try clear hk); (try clear hi)))
      go_ret
      exact ⟨er_, bl_⟩
    rw [if_pos c12] at H
    have c12b0 : decide (x4_1 < 60) = true := decide_eq_true c12
    clear c12
    by_cases c13 : (x3_1.size : Int) < 60
    · rw [if_pos c13] at H
      have c13b0 : decide ((x3_1.size : Int) < 60) = true := decide_eq_true c13
      have c13b1 : decide (x3_1.size < 60) = true := decide_eq_true (by omega)
      clear c13
      by_cases c14 : x3_1.size + 1 ≤ 9223372036854775807
      rotate_left
      · rw [if_neg c14] at H
        exact absurd H (by simp)
      rw [if_pos c14] at H
      have c14b0 := eq_true c14
      have c14b1 : decide (x3_1.size + 1 ≤ 9223372036854775807) = true := decide_eq_true c14
      try have c14b2 : (9223372036854775807 < x3_1.size + 1) = False := eq_false (Nat.not_lt.2 c14)
      have H' := Aside0.mk H
      clear H
      go_wp2
      go_roundg k1
      case measure => have := HK1.out; omega
      case rel => exact ⟨(x3_1 ++ (⟨#[0]⟩ : ByteArray)), (wrap64 (x4_1 + 1)), (by first | rfl | (simp; done) | (simp [*]; done) | exact emp1_ _ | exact (emp1_ _).symm | exact emp2_ _ | exact (emp2_ _).symm), (by first | rfl | (simp; done) | (simp [*]; done) | exact emp1_ _ | exact (emp1_ _).symm | exact emp2_ _ | exact (emp2_ _).symm), H', ⟨by have := HK1.out; omega⟩, ⟨bk_⟩, ⟨bl_⟩⟩
    rw [if_neg c13] at H
    have c13b0 : decide ((x3_1.size : Int) < 60) = false := decide_eq_false c13
    have c13b1 : decide (x3_1.size < 60) = false := decide_eq_false (by omega)
    clear c13
    replace H := Option.bind_eq_some_iff.mp H
    obtain ⟨t214, A150, H⟩ := H
    replace H : ((armoireref01_Bytes.f t214).bind fun t215 => (if t215.size + x3_1.size ≤ 9223372036854775807 then (some (t215 ++ x3_1)) else (none))) = some r := H
    have A15 := Aside0.mk A150
    clear A150
    replace H := Option.bind_eq_some_iff.mp H
    obtain ⟨t215, A160, H⟩ := H
    replace H : (if t215.size + x3_1.size ≤ 9223372036854775807 then (some (t215 ++ x3_1)) else (none)) = some r := H
    have A16 := Aside0.mk A160
    clear A160
    by_cases c17 : t215.size + x3_1.size ≤ 9223372036854775807
    rotate_left
    · rw [if_neg c17] at H
      exact absurd H (by simp)
    rw [if_pos c17] at H
    have c17b0 := eq_true c17
    have c17b1 : decide (t215.size + x3_1.size ≤ 9223372036854775807) = true := decide_eq_true c17
    try have c17b2 : (9223372036854775807 < t215.size + x3_1.size) = False := eq_false (Nat.not_lt.2 c17)
    obtain rfl := Option.some.inj H
    go_wp2_with (first | ((with_reducible refine gcl (f := 56) rfl ?_); refine gl_ (some 28) rfl rfl Try.func56 (by kernel_rfl) rfl #[.string x3_1] rfl ar_ ?_; (with_reducible refine (armoireref01_Of.calls k1 x3_1 t214 _ A15.out).mono ?_); rintro e w' ⟨rfl, ⟨nd, rfl⟩⟩; refine ⟨_, rfl, ?_⟩) | ((with_reducible refine gcl (f := 55) rfl ?_); refine gl_ (some 29) rfl rfl Try.func55 (by kernel_rfl) rfl #[.int .u32 t214] rfl ar_ ?_; (with_reducible refine (armoireref01_Bytes.calls t214 t215 _ A16.out).mono ?_); rintro e w18 ⟨rfl, hb⟩; refine ⟨_, rfl, ?_⟩; have n0_ := Aside0.mk (kbl (g := gb210) (o := .cells #[.int .i64 a0_0, .int .i64 a0_1, .string a0_2] 89 (0, 0)) bk_ hb); have n1_ := Aside0.mk (bsp bl_ hb); clear BK210; clear HB; have BK210 := n0_; have HB := n1_; clear n0_ n1_; (try clear hb); (try clear hb2); (try clear hk); (try clear hi)))
    go_ret
    exact ⟨er_, bl_⟩
def armoireref04_Parse.f (k : Nat) (a0 : ByteArray) : Option (Int × Int × ByteArray × Int) := if (a0.size : Int) = 64 then (if 0 ≤ 4 then (if 4 ≤ (a0.size : Int) then ((armoireref01_Of.f k (a0.extract 4 a0.size)).bind fun t219 => ((armoireref01_Bytes.f t219).bind fun t220 => (if (a0.extract 0 4).toList = t220.toList then ((armoireref02_TakeN.f k (a0.extract 4 a0.size) 0 1099511627776).bind fun bt221 => ((armoireref02_TakeN.f k bt221.1 bt221.2.1 255).bind fun bt225 => ((armoireref02_TakeS.f k bt225.1 bt225.2.1 44).bind fun bt228 => (if bt228.2.1 = 0 then (if bt221.2.2 < 1 then (some (0, 0, (⟨#[]⟩ : ByteArray), 2)) else ((armoireref04_Text.f k bt221.2.2 bt225.2.2 bt228.2.2).bind fun t231 => (if t231.toList = a0.toList then (some (bt221.2.2, bt225.2.2, bt228.2.2, 0)) else (some (0, 0, (⟨#[]⟩ : ByteArray), 2))))) else (some (0, 0, (⟨#[]⟩ : ByteArray), bt228.2.1)))))) else (some (0, 0, (⟨#[]⟩ : ByteArray), 5))))) else (none)) else (none)) else (some (0, 0, (⟨#[]⟩ : ByteArray), 1))
set_option maxHeartbeats 2000000 in
set_option maxRecDepth 100000 in
theorem armoireref04_Parse.calls (k : Nat) (a0 : ByteArray) (r1 : Int) (r2 : Int) (r3 : ByteArray) (r4 : Int) (w : World) (h : armoireref04_Parse.f k a0 = some (r1, r2, r3, r4)) :
    Calls Try.prog 45 #[.string a0] w fun e w' => e = .returned (.tuple #[.agg #[.int .i64 r1, .int .i64 r2, .string r3], .int .i64 r4]) ∧ Below w.heap.size w w' := by
  have hu89 := Try.underlying89
  have hu110 := Try.underlying110
  have HB := Aside0.mk (Below.refl w.heap.size w)
  have H : (if (a0.size : Int) = 64 then (if 0 ≤ 4 then (if 4 ≤ (a0.size : Int) then ((armoireref01_Of.f k (a0.extract 4 a0.size)).bind fun t219 => ((armoireref01_Bytes.f t219).bind fun t220 => (if (a0.extract 0 4).toList = t220.toList then ((armoireref02_TakeN.f k (a0.extract 4 a0.size) 0 1099511627776).bind fun bt221 => ((armoireref02_TakeN.f k bt221.1 bt221.2.1 255).bind fun bt225 => ((armoireref02_TakeS.f k bt225.1 bt225.2.1 44).bind fun bt228 => (if bt228.2.1 = 0 then (if bt221.2.2 < 1 then (some (0, 0, (⟨#[]⟩ : ByteArray), 2)) else ((armoireref04_Text.f k bt221.2.2 bt225.2.2 bt228.2.2).bind fun t231 => (if t231.toList = a0.toList then (some (bt221.2.2, bt225.2.2, bt228.2.2, 0)) else (some (0, 0, (⟨#[]⟩ : ByteArray), 2))))) else (some (0, 0, (⟨#[]⟩ : ByteArray), bt228.2.1)))))) else (some (0, 0, (⟨#[]⟩ : ByteArray), 5))))) else (none)) else (none)) else (some (0, 0, (⟨#[]⟩ : ByteArray), 1))) = some (r1, r2, r3, r4) := h
  clear h
  have HS2 := Aside0.mk H
  clear H
  go_enter Try.func45, Try.ntmps45
  go_upto_if 10 with (first | ((with_reducible refine gds (N := 2) rfl ?_); refine bev ?hg (N := 2) ?hd (cs := #[.int .i64 0, .int .i64 0, .string (⟨#[]⟩ : ByteArray)]) (t := 89) ?hr ?_; (case hd => rfl); (case hg => rfl); (case hr => first | (go_simp; done) | (go_simp; rfl)); intro gb218 hg w3 hbox hb; have n0_ := Aside0.mk (bsp bl_ hb); have n1_ := Aside0.mk (hbox); have n2_ := Aside0.mk ((by rw [hg]; exact bsz bl_ : w.heap.size ≤ gb218)); have n3_ := Aside0.mk ((by rw [hg]; exact bsz bl_ : w.heap.size ≤ gb218)); clear HB; have HB := n0_; have BK218 := n1_; have GW218 := n2_; have GE218 := n3_; clear n0_ n1_ n2_ n3_; clear hb hbox hg))
  (try simp only [Act.put, List.setIfInBounds_toArray, List.set_cons_zero, List.set_cons_succ])
  have H := HS2.out
  clear HS2
  by_cases c4 : (a0.size : Int) = 64
  rotate_left
  · rw [if_neg c4] at H
    have c4b0 : ((a0.size : Int) == 64) = false := beq_eq_false_iff_ne.mpr c4
    have c4b1 : ((a0.size : Int) != 64) = true := bne_iff_ne.mpr c4
    (first | rw [c4b0] | rw [c4b1] | (simp only [i64_w, i32_w]; rw [c4b0]) | (simp only [i64_w, i32_w]; rw [c4b1]) | rw [c4b2] | skip)
    simp only [Option.some.injEq, Prod.mk.injEq] at H
    obtain ⟨rfl, rfl, rfl, rfl⟩ := H
    have hcz45 := bc3 BK218.out
    go_wp2
    refine bodyPost_ret (results_ct rfl _ _ gb218 89 #[.int .i64 0, .int .i64 0, .string (⟨#[]⟩ : ByteArray)] (0, 0) _ rfl bk_ Try.underlying89 rfl (by kernel_rfl)) rfl ?_
    exact ⟨er_, bl_⟩
  rw [if_pos c4] at H
  have c4b0 : ((a0.size : Int) == 64) = true := beq_iff_eq.mpr c4
  have c4b1 : ((a0.size : Int) != 64) = false := bne_eq_false_iff_eq.mpr c4
  clear c4
  (first | rw [c4b0] | rw [c4b1] | (simp only [i64_w, i32_w]; rw [c4b0]) | (simp only [i64_w, i32_w]; rw [c4b1]) | rw [c4b2] | skip)
  by_cases c5 : 0 ≤ 4
  rotate_left
  · rw [if_neg c5] at H
    exact absurd H (by simp)
  rw [if_pos c5] at H
  have c5b0 := eq_true c5
  have c5b1 : decide (0 ≤ 4) = true := decide_eq_true c5
  clear c5
  by_cases c6 : 4 ≤ (a0.size : Int)
  rotate_left
  · rw [if_neg c6] at H
    exact absurd H (by simp)
  rw [if_pos c6] at H
  have c6b0 := eq_true c6
  have c6b1 : decide (4 ≤ (a0.size : Int)) = true := decide_eq_true c6
  clear c6
  have c7b0 := eq_true (of_decide_eq_true (by first | (with_reducible assumption) | assumption) : 4 ≤ (a0.size : Int))
  replace H := Option.bind_eq_some_iff.mp H
  obtain ⟨t219, A80, H⟩ := H
  replace H : ((armoireref01_Bytes.f t219).bind fun t220 => (if (a0.extract 0 4).toList = t220.toList then ((armoireref02_TakeN.f k (a0.extract 4 a0.size) 0 1099511627776).bind fun bt221 => ((armoireref02_TakeN.f k bt221.1 bt221.2.1 255).bind fun bt225 => ((armoireref02_TakeS.f k bt225.1 bt225.2.1 44).bind fun bt228 => (if bt228.2.1 = 0 then (if bt221.2.2 < 1 then (some (0, 0, (⟨#[]⟩ : ByteArray), 2)) else ((armoireref04_Text.f k bt221.2.2 bt225.2.2 bt228.2.2).bind fun t231 => (if t231.toList = a0.toList then (some (bt221.2.2, bt225.2.2, bt228.2.2, 0)) else (some (0, 0, (⟨#[]⟩ : ByteArray), 2))))) else (some (0, 0, (⟨#[]⟩ : ByteArray), bt228.2.1)))))) else (some (0, 0, (⟨#[]⟩ : ByteArray), 5)))) = some (r1, r2, r3, r4) := H
  have A8 := Aside0.mk A80
  clear A80
  replace H := Option.bind_eq_some_iff.mp H
  obtain ⟨t220, A90, H⟩ := H
  replace H : (if (a0.extract 0 4).toList = t220.toList then ((armoireref02_TakeN.f k (a0.extract 4 a0.size) 0 1099511627776).bind fun bt221 => ((armoireref02_TakeN.f k bt221.1 bt221.2.1 255).bind fun bt225 => ((armoireref02_TakeS.f k bt225.1 bt225.2.1 44).bind fun bt228 => (if bt228.2.1 = 0 then (if bt221.2.2 < 1 then (some (0, 0, (⟨#[]⟩ : ByteArray), 2)) else ((armoireref04_Text.f k bt221.2.2 bt225.2.2 bt228.2.2).bind fun t231 => (if t231.toList = a0.toList then (some (bt221.2.2, bt225.2.2, bt228.2.2, 0)) else (some (0, 0, (⟨#[]⟩ : ByteArray), 2))))) else (some (0, 0, (⟨#[]⟩ : ByteArray), bt228.2.1)))))) else (some (0, 0, (⟨#[]⟩ : ByteArray), 5))) = some (r1, r2, r3, r4) := H
  have A9 := Aside0.mk A90
  clear A90
  have HS10 := Aside0.mk H
  clear H
  try go_wp2
  have n0_ := Aside0.mk (kdw BK218.out)
  have n1_ := Aside0.mk (bd1 HB.out)
  clear BK218
  clear HB
  have BK218 := n0_
  have HB := n1_
  clear n0_ n1_
  refine start_ (n := 7) (S := fun w' => True) (ds := []) #[false,false,false,false,false,false,false] (by kernel_rfl) rfl rfl trivial (fun hHeld => ?_)
  generalize w3.drew = w11 at BK218 HB hHeld ⊢
  refine pure_ (i := 0) (N := some 12) (v := ?_) (a' := ?_) (bA 7 1) rfl rfl (by kernel_rfl) (fun _ _ _ h => h) (Or.inl ⟨by rfl, ?_⟩) ?_ ?_
  rotate_left; (intro w'; go_simp; with_reducible rfl); rotate_left; (simp only [Act.put, List.setIfInBounds_toArray, List.set_cons_zero, List.set_cons_succ, i64_w, i32_w]; rfl)
  refine pure_ (i := 1) (N := some 13) (v := ?_) (a' := ?_) (bA 7 3) rfl rfl (by kernel_rfl) (fun _ _ _ h => h) (Or.inl ⟨by rfl, ?_⟩) ?_ ?_
  rotate_left; (intro w'; go_simp; with_reducible rfl); rotate_left; (simp only [Act.put, List.setIfInBounds_toArray, List.set_cons_zero, List.set_cons_succ, i64_w, i32_w]; rfl)
  refine pure_ (i := 2) (N := some 14) (v := ?_) (a' := ?_) (bA 7 7) rfl rfl (by kernel_rfl) (fun _ _ _ h => h) (Or.inl ⟨by rfl, ?_⟩) ?_ ?_
  rotate_left; (intro w'; go_simp; with_reducible rfl); rotate_left; (simp only [Act.put, List.setIfInBounds_toArray, List.set_cons_zero, List.set_cons_succ, i64_w, i32_w]; rfl)
  refine pure_ (i := 3) (N := some 15) (v := ?_) (a' := ?_) (bA 7 15) rfl rfl (by kernel_rfl) (fun _ _ _ h => h) (Or.inl ⟨by rfl, ?_⟩) ?_ ?_
  rotate_left; (intro w'; go_simp; with_reducible rfl); rotate_left; (simp only [Act.put, List.setIfInBounds_toArray, List.set_cons_zero, List.set_cons_succ, i64_w, i32_w]; rfl)
  refine one_ (i := 4) (N := some 16) #[true,true,true,true,true,false,false] rfl rfl (by kernel_rfl) (by decide) (fun K hK => ?_)
  refine goes_ Try.func56 (by kernel_rfl) rfl #[.string (a0.extract 4 a0.size)] (by rfl) rfl rfl (by (try simp only [List.map_toArray, List.map_cons, List.map_nil]); first | done | rfl | (simp only [List.length_drop, List.length_take]; rfl) | (simp only [Act.eval, Array.getD_eq_getD_getElem?, Option.getD_some, *]; done) | (simp only [Array.mk.injEq, List.cons.injEq, Value.int.injEq, true_and, and_true]; first | omega | (simp [IntKind.wrap, IntKind.bits, IntKind.signed]; omega))) ?_
  with_reducible refine (armoireref01_Of.calls k (a0.extract 4 a0.size) t219 _ A8.out).mono ?_
  rintro e w' ⟨rfl, ⟨nd, rfl⟩⟩
  refine ⟨_, rfl, ?_⟩
  refine hK.out _ _ trivial (fun hHeld => ?_)
  clear hK K
  refine norm_ (a' := ?_) ?_ ?_
  rotate_left
  · show Act.put _ (some 16) _ = _
    simp only [Act.put, List.setIfInBounds_toArray, List.set_cons_zero, List.set_cons_succ, i64_w, i32_w]
    rfl
  refine one_ (i := 5) (N := some 17) #[true,true,true,true,true,true,false] rfl rfl (by kernel_rfl) (by decide) (fun K hK => ?_)
  refine goes_ Try.func55 (by kernel_rfl) rfl #[.int .u32 t219] (by rfl) rfl rfl (by (try simp only [List.map_toArray, List.map_cons, List.map_nil]); first | done | rfl | (simp only [List.length_drop, List.length_take]; rfl) | (simp only [Act.eval, Array.getD_eq_getD_getElem?, Option.getD_some, *]; done) | (simp only [Array.mk.injEq, List.cons.injEq, Value.int.injEq, true_and, and_true]; first | omega | (simp [IntKind.wrap, IntKind.bits, IntKind.signed]; omega))) ?_
  with_reducible refine (armoireref01_Bytes.calls t219 t220 _ A9.out).mono ?_
  rintro e w12 ⟨rfl, hb⟩
  refine ⟨_, rfl, ?_⟩
  have n0_ := Aside0.mk (kbl (g := gb218) (o := .cells #[.int .i64 0, .int .i64 0, .string (⟨#[]⟩ : ByteArray)] 89 (0, 0)) bk_ hb)
  have n1_ := Aside0.mk (bsp bl_ hb)
  clear BK218
  clear HB
  have BK218 := n0_
  have HB := n1_
  clear n0_ n1_
  (try clear hb)
  (try clear hb2)
  (try clear hk)
  (try clear hi)
  refine hK.out _ _ trivial (fun hHeld => ?_)
  clear hK K
  refine norm_ (a' := ?_) ?_ ?_
  rotate_left
  · show Act.put _ (some 17) _ = _
    simp only [Act.put, List.setIfInBounds_toArray, List.set_cons_zero, List.set_cons_succ, i64_w, i32_w]
    rfl
  refine pure_ (i := 6) (N := some 18) (v := ?_) (a' := ?_) (bA 7 127) rfl rfl (by kernel_rfl) (fun _ _ _ h => h) (Or.inl ⟨by rfl, ?_⟩) ?_ ?_
  rotate_left; (intro w'; go_simp; with_reducible rfl); rotate_left; (simp only [Act.put, List.setIfInBounds_toArray, List.set_cons_zero, List.set_cons_succ, i64_w, i32_w]; rfl)
  refine done_ (by kernel_rfl) ?_
  go_upto_if 18 with (fail)
  have H := HS10.out
  clear HS10
  by_cases c13 : (a0.extract 0 4).toList = t220.toList
  rotate_left
  · rw [if_neg c13] at H
    have c13b0 : ((a0.extract 0 4).toList == t220.toList) = false := beq_eq_false_iff_ne.mpr c13
    have c13b1 : ((a0.extract 0 4).toList != t220.toList) = true := bne_iff_ne.mpr c13
    (first | rw [c13b0] | (simp only [i64_w, i32_w]; rw [c13b0]) | skip)
    simp only [Option.some.injEq, Prod.mk.injEq] at H
    obtain ⟨rfl, rfl, rfl, rfl⟩ := H
    have hcz44 := bc3 BK218.out
    go_wp2
    refine bodyPost_ret (results_ct rfl _ _ gb218 89 #[.int .i64 0, .int .i64 0, .string (⟨#[]⟩ : ByteArray)] (0, 0) _ rfl bk_ Try.underlying89 rfl (by kernel_rfl)) rfl ?_
    exact ⟨er_, bl_⟩
  rw [if_pos c13] at H
  have c13b0 : ((a0.extract 0 4).toList == t220.toList) = true := beq_iff_eq.mpr c13
  have c13b1 : ((a0.extract 0 4).toList != t220.toList) = false := bne_eq_false_iff_eq.mpr c13
  clear c13
  (first | rw [c13b0] | (simp only [i64_w, i32_w]; rw [c13b0]) | skip)
  have c14b0 := eq_true (of_decide_eq_true (by first | (with_reducible assumption) | assumption) : 4 ≤ (a0.size : Int))
  replace H := Option.bind_eq_some_iff.mp H
  obtain ⟨⟨t221, t222, t223⟩, A150, H⟩ := H
  replace H : ((armoireref02_TakeN.f k t221 t222 255).bind fun bt225 => ((armoireref02_TakeS.f k bt225.1 bt225.2.1 44).bind fun bt228 => (if bt228.2.1 = 0 then (if t223 < 1 then (some (0, 0, (⟨#[]⟩ : ByteArray), 2)) else ((armoireref04_Text.f k t223 bt225.2.2 bt228.2.2).bind fun t231 => (if t231.toList = a0.toList then (some (t223, bt225.2.2, bt228.2.2, 0)) else (some (0, 0, (⟨#[]⟩ : ByteArray), 2))))) else (some (0, 0, (⟨#[]⟩ : ByteArray), bt228.2.1))))) = some (r1, r2, r3, r4) := H
  have A15 := Aside0.mk A150
  clear A150
  replace H := Option.bind_eq_some_iff.mp H
  obtain ⟨⟨t225, t226, t227⟩, A160, H⟩ := H
  replace H : ((armoireref02_TakeS.f k t225 t226 44).bind fun bt228 => (if bt228.2.1 = 0 then (if t223 < 1 then (some (0, 0, (⟨#[]⟩ : ByteArray), 2)) else ((armoireref04_Text.f k t223 t227 bt228.2.2).bind fun t231 => (if t231.toList = a0.toList then (some (t223, t227, bt228.2.2, 0)) else (some (0, 0, (⟨#[]⟩ : ByteArray), 2))))) else (some (0, 0, (⟨#[]⟩ : ByteArray), bt228.2.1)))) = some (r1, r2, r3, r4) := H
  have A16 := Aside0.mk A160
  clear A160
  replace H := Option.bind_eq_some_iff.mp H
  obtain ⟨⟨t228, t229, t230⟩, A170, H⟩ := H
  replace H : (if t229 = 0 then (if t223 < 1 then (some (0, 0, (⟨#[]⟩ : ByteArray), 2)) else ((armoireref04_Text.f k t223 t227 t230).bind fun t231 => (if t231.toList = a0.toList then (some (t223, t227, t230, 0)) else (some (0, 0, (⟨#[]⟩ : ByteArray), 2))))) else (some (0, 0, (⟨#[]⟩ : ByteArray), t229))) = some (r1, r2, r3, r4) := H
  have A17 := Aside0.mk A170
  clear A170
  have HS18 := Aside0.mk H
  clear H
  go_upto_if 39 with (first | ((with_reducible refine gcl (f := 57) rfl ?_); refine gl_ (some 24) rfl rfl Try.func57 (by kernel_rfl) rfl #[.agg #[.string (a0.extract 4 a0.size), .int .i64 0], .int .i64 1099511627776] rfl ar_ ?_; (with_reducible refine (armoireref02_TakeN.calls k (a0.extract 4 a0.size) 0 1099511627776 t221 t222 t223 _ A15.out).mono ?_); rintro e w19 ⟨rfl, hb⟩; refine ⟨_, rfl, ?_⟩; have n0_ := Aside0.mk (kbl (g := gb218) (o := .cells #[.int .i64 0, .int .i64 0, .string (⟨#[]⟩ : ByteArray)] 89 (0, 0)) bk_ hb); have n1_ := Aside0.mk (bsp bl_ hb); clear BK218; clear HB; have BK218 := n0_; have HB := n1_; clear n0_ n1_; (try clear hb); (try clear hb2); (try clear hk); (try clear hi)) | ((with_reducible refine gds (N := 4) rfl ?_); refine bev ?hg (N := 4) ?hd (cs := #[.string (⟨#[]⟩ : ByteArray), .int .i64 0]) (t := 110) ?hr ?_; (case hd => rfl); (case hg => rfl); (case hr => first | (go_simp; done) | (go_simp; rfl)); intro gb224 hg w20 hbox hb; have n0_ := Aside0.mk (kbl (g := gb218) (o := .cells #[.int .i64 0, .int .i64 0, .string (⟨#[]⟩ : ByteArray)] 89 (0, 0)) bk_ hb); have n1_ := Aside0.mk (bsp bl_ hb); have n2_ := Aside0.mk (hbox); have n3_ := Aside0.mk ((by rw [hg]; exact bsz bl_ : w.heap.size ≤ gb224)); have n4_ := Aside0.mk ((by rw [hg]; exact bsz bl_ : w.heap.size ≤ gb224)); have n5_ := Aside0.mk ((by rw [hg]; exact Nat.ne_of_lt (blk_lt (g := gb218) (o := .cells #[.int .i64 0, .int .i64 0, .string (⟨#[]⟩ : ByteArray)] 89 (0, 0)) bk_) : gb218 ≠ gb224)); have n6_ := Aside0.mk ((by rw [hg]; exact Nat.ne_of_gt (blk_lt (g := gb218) (o := .cells #[.int .i64 0, .int .i64 0, .string (⟨#[]⟩ : ByteArray)] 89 (0, 0)) bk_) : gb224 ≠ gb218)); clear BK218; clear HB; have BK218 := n0_; have HB := n1_; have BK224 := n2_; have GW224 := n3_; have GE224 := n4_; have NB218_224 := n5_; have NB224_218 := n6_; clear n0_ n1_ n2_ n3_ n4_ n5_ n6_; clear hb hbox hg; have hnb21 := NB224_218.out; have hnc21 := NB218_224.out; have hcz22 := bc2 BK224.out) | ((with_reducible refine gcl (f := 57) rfl ?_); refine gl_ (some 29) rfl rfl Try.func57 (by kernel_rfl) rfl #[.agg #[.string t221, .int .i64 t222], .int .i64 255] rfl ar_ ?_; (with_reducible refine (armoireref02_TakeN.calls k t221 t222 255 t225 t226 t227 _ A16.out).mono ?_); rintro e w23 ⟨rfl, hb⟩; refine ⟨_, rfl, ?_⟩; have n0_ := Aside0.mk (kbl (g := gb218) (o := .cells #[.int .i64 0, .int .i64 0, .string (⟨#[]⟩ : ByteArray)] 89 (0, 0)) bk_ hb); have n1_ := Aside0.mk (kbl (g := gb224) (o := .cells #[.string t221, .int .i64 t222] 110 (0, 0)) bk_ hb); have n2_ := Aside0.mk (bsp bl_ hb); clear BK218; clear BK224; clear HB; have BK218 := n0_; have BK224 := n1_; have HB := n2_; clear n0_ n1_ n2_; (try clear hb); (try clear hb2); (try clear hk); (try clear hi); have hcz24 := bc2 BK224.out) | ((with_reducible refine gcl (f := 58) rfl ?_); refine gl_ (some 34) rfl rfl Try.func58 (by kernel_rfl) rfl #[.agg #[.string t225, .int .i64 t226], .int .i64 44] rfl ar_ ?_; (with_reducible refine (armoireref02_TakeS.calls k t225 t226 44 t228 t229 t230 _ A17.out).mono ?_); rintro e w25 ⟨rfl, hb⟩; refine ⟨_, rfl, ?_⟩; have n0_ := Aside0.mk (kbl (g := gb218) (o := .cells #[.int .i64 0, .int .i64 0, .string (⟨#[]⟩ : ByteArray)] 89 (0, 0)) bk_ hb); have n1_ := Aside0.mk (kbl (g := gb224) (o := .cells #[.string t225, .int .i64 t226] 110 (0, 0)) bk_ hb); have n2_ := Aside0.mk (bsp bl_ hb); clear BK218; clear BK224; clear HB; have BK218 := n0_; have BK224 := n1_; have HB := n2_; clear n0_ n1_ n2_; (try clear hb); (try clear hb2); (try clear hk); (try clear hi); have hcz26 := bc2 BK224.out))
  (try simp only [Act.put, List.setIfInBounds_toArray, List.set_cons_zero, List.set_cons_succ])
  have H := HS18.out
  clear HS18
  by_cases c27 : t229 = 0
  rotate_left
  · rw [if_neg c27] at H
    have c27b0 : (t229 == 0) = false := beq_eq_false_iff_ne.mpr c27
    have c27b1 : (t229 != 0) = true := bne_iff_ne.mpr c27
    (first | rw [c27b0] | (simp only [i64_w, i32_w]; rw [c27b0]) | skip)
    simp only [Option.some.injEq, Prod.mk.injEq] at H
    obtain ⟨rfl, rfl, rfl, rfl⟩ := H
    try go_wp2
    have n0_ : Aside0 (((w25.setCell ⟨gb224, 0, none⟩ (.string t228)).setCell ⟨gb224, 1, none⟩ (.int .i64 t229)).heap[gb218]? = some (.cells #[.int .i64 0, .int .i64 0, .string (⟨#[]⟩ : ByteArray)] 89 (0, 0))) := ⟨bk_⟩
    have n1_ : Aside0 (((w25.setCell ⟨gb224, 0, none⟩ (.string t228)).setCell ⟨gb224, 1, none⟩ (.int .i64 t229)).heap[gb224]? = some (.cells #[.string t228, .int .i64 t229] 110 (0, 0))) := ⟨bk_⟩
    have n2_ : Aside0 (Below w.heap.size w ((w25.setCell ⟨gb224, 0, none⟩ (.string t228)).setCell ⟨gb224, 1, none⟩ (.int .i64 t229))) := ⟨bl_⟩
    (try clear BK218)
    (try clear BK224)
    (try clear HB)
    generalize ((w25.setCell ⟨gb224, 0, none⟩ (.string t228)).setCell ⟨gb224, 1, none⟩ (.int .i64 t229)) = w39 at n0_ n1_ n2_ ⊢
    have BK218 := n0_
    have BK224 := n1_
    have HB := n2_
    clear n0_ n1_ n2_
    have n0_ := Aside0.mk (kdw BK218.out)
    have n1_ := Aside0.mk (kdw BK224.out)
    have n2_ := Aside0.mk (bd1 HB.out)
    clear BK218
    clear BK224
    clear HB
    have BK218 := n0_
    have BK224 := n1_
    have HB := n2_
    clear n0_ n1_ n2_
    refine start_ (n := 5) (S := fun w' => w'.cell? ⟨gb224, 0, none⟩ = some (.string t228) ∧ w'.cell? ⟨gb224, 1, none⟩ = some (.int .i64 t229)) (ds := []) #[false,false,false,false,false] (by kernel_rfl) rfl rfl ⟨(kcl BK224.out 0).trans rfl, (kcl BK224.out 1).trans rfl⟩ (fun hHeld => ?_)
    generalize w39.drew = w40 at BK218 BK224 HB hHeld ⊢
    refine pure_ (i := 0) (N := some 40) (v := ?_) (a' := ?_) (bA 5 1) rfl rfl (by kernel_rfl) (fun _ _ _ h => h) (Or.inl ⟨by rfl, ?_⟩) ?_ ?_
    rotate_left; (intro w'; go_simp; with_reducible rfl); rotate_left; (simp only [Act.put, List.setIfInBounds_toArray, List.set_cons_zero, List.set_cons_succ, i64_w, i32_w]; rfl)
    refine pure_ (i := 1) (N := some 41) (v := ?_) (a' := ?_) (bA 5 3) rfl rfl (by kernel_rfl) (fun _ _ _ h => h) (Or.inl ⟨by rfl, ?_⟩) ?_ ?_
    rotate_left; (intro w'; go_simp; with_reducible rfl); rotate_left; (simp only [Act.put, List.setIfInBounds_toArray, List.set_cons_zero, List.set_cons_succ, i64_w, i32_w]; rfl)
    refine take_ (i := 2) (N := some 42) (v := ?_) (a' := ?_) #[true,true,true,false,false] rfl rfl (by kernel_rfl) (fun _ _ _ h => h) (Or.inl ⟨by rfl, ?_⟩) hHeld ?_ ?_
    rotate_left
    · rintro w' ⟨s0, s1⟩
      go_simp
      with_reducible rfl
    rotate_left; (simp only [Act.put, List.setIfInBounds_toArray, List.set_cons_zero, List.set_cons_succ, i64_w, i32_w]; rfl)
    refine one_ (i := 3) (N := none) #[true,true,true,true,false] rfl rfl (by kernel_rfl) (by decide) (fun K hK => ?_)
    have hs41 : w40.cell? ⟨gb218, 0, none⟩ = some (.int .i64 0) := (kcl BK218.out 0).trans rfl
    have hfs41 := kfr BK218.out 0
    have hns41_1 := NB224_218.out
    have hms41_1 := NB218_224.out
    have hs42 : w40.cell? ⟨gb218, 1, none⟩ = some (.int .i64 0) := (kcl BK218.out 1).trans rfl
    have hfs42 := kfr BK218.out 1
    have hns42_1 := NB224_218.out
    have hms42_1 := NB218_224.out
    have hs43 : w40.cell? ⟨gb218, 2, none⟩ = some (.string (⟨#[]⟩ : ByteArray)) := (kcl BK218.out 2).trans rfl
    have hfs43 := kfr BK218.out 2
    have hns43_1 := NB224_218.out
    have hms43_1 := NB218_224.out
    refine skip_ (w1 := ?_) (by rfl) rfl ?_ ?_
    rotate_left
    · go_simp
      rfl
    refine hK.out _ _ ⟨((cell_far (p := ⟨gb218, _, none⟩) NB224_218.out _).trans (((cell_far (p := ⟨gb218, _, none⟩) NB224_218.out _).trans (((cell_far (p := ⟨gb218, _, none⟩) NB224_218.out _).trans (hHeld.1)))))), ((cell_far (p := ⟨gb218, _, none⟩) NB224_218.out _).trans (((cell_far (p := ⟨gb218, _, none⟩) NB224_218.out _).trans (((cell_far (p := ⟨gb218, _, none⟩) NB224_218.out _).trans (hHeld.2))))))⟩ (fun hHeld => ?_)
    clear hK K
    refine pure_ (i := 4) (N := some 3) (v := ?_) (a' := ?_) (bA 5 31) rfl rfl (by kernel_rfl) (fun _ _ _ h => h) (Or.inl ⟨by rfl, ?_⟩) ?_ ?_
    rotate_left; (intro w'; go_simp; with_reducible rfl); rotate_left; (simp only [Act.put, List.setIfInBounds_toArray, List.set_cons_zero, List.set_cons_succ, i64_w, i32_w]; rfl)
    refine done_ (by kernel_rfl) ?_
    try go_wp2
    refine bodyPost_ret (results_ct rfl _ _ gb218 89 #[.int .i64 0, .int .i64 0, .string (⟨#[]⟩ : ByteArray)] (0, 0) _ rfl bk_ Try.underlying89 rfl (by kernel_rfl)) rfl ?_
    exact ⟨er_, bl_⟩
  rw [if_pos c27] at H
  have c27b0 : (t229 == 0) = true := beq_iff_eq.mpr c27
  have c27b1 : (t229 != 0) = false := bne_eq_false_iff_eq.mpr c27
  clear c27
  (first | rw [c27b0] | (simp only [i64_w, i32_w]; rw [c27b0]) | skip)
  by_cases c28 : t223 < 1
  · rw [if_pos c28] at H
    have c28b0 : decide (t223 < 1) = true := decide_eq_true c28
    clear c28
    simp only [Option.some.injEq, Prod.mk.injEq] at H
    obtain ⟨rfl, rfl, rfl, rfl⟩ := H
    have hnb29 := NB218_224.out
    have hnc29 := NB224_218.out
    have hcz30 := bc3 BK218.out
    go_wp2
    refine bodyPost_ret (results_ct rfl _ _ gb218 89 #[.int .i64 0, .int .i64 0, .string (⟨#[]⟩ : ByteArray)] (0, 0) _ rfl bk_ Try.underlying89 rfl (by kernel_rfl)) rfl ?_
    exact ⟨er_, bl_⟩
  rw [if_neg c28] at H
  have c28b0 : decide (t223 < 1) = false := decide_eq_false c28
  clear c28
  replace H := Option.bind_eq_some_iff.mp H
  obtain ⟨t231, A310, H⟩ := H
  replace H : (if t231.toList = a0.toList then (some (t223, t227, t230, 0)) else (some (0, 0, (⟨#[]⟩ : ByteArray), 2))) = some (r1, r2, r3, r4) := H
  have A31 := Aside0.mk A310
  clear A310
  have HS32 := Aside0.mk H
  clear H
  go_upto_if 53 with (first | (go_at_call 59; (with_reducible refine (armoireref04_Text.calls k t223 t227 t230 t231 _ A31.out).mono ?_); rintro e w33 ⟨rfl, hb⟩; have n0_ := Aside0.mk (kbl (g := gb218) (o := .cells #[.int .i64 0, .int .i64 0, .string (⟨#[]⟩ : ByteArray)] 89 (0, 0)) bk_ hb); have n1_ := Aside0.mk (kbl (g := gb224) (o := .cells #[.string t228, .int .i64 t229] 110 (0, 0)) bk_ hb); have n2_ := Aside0.mk (bsp bl_ hb); clear BK218; clear BK224; clear HB; have BK218 := n0_; have BK224 := n1_; have HB := n2_; clear n0_ n1_ n2_; (try clear hb); (try clear hb2); (try clear hk); (try clear hi)))
  (try simp only [Act.put, List.setIfInBounds_toArray, List.set_cons_zero, List.set_cons_succ])
  have H := HS32.out
  clear HS32
  by_cases c34 : t231.toList = a0.toList
  rotate_left
  · rw [if_neg c34] at H
    have c34b0 : (t231.toList == a0.toList) = false := beq_eq_false_iff_ne.mpr c34
    have c34b1 : (t231.toList != a0.toList) = true := bne_iff_ne.mpr c34
    (first | rw [c34b0] | (simp only [i64_w, i32_w]; rw [c34b0]) | skip)
    simp only [Option.some.injEq, Prod.mk.injEq] at H
    obtain ⟨rfl, rfl, rfl, rfl⟩ := H
    have hnb37 := NB218_224.out
    have hnc37 := NB224_218.out
    have hcz38 := bc3 BK218.out
    go_wp2
    refine bodyPost_ret (results_ct rfl _ _ gb218 89 #[.int .i64 0, .int .i64 0, .string (⟨#[]⟩ : ByteArray)] (0, 0) _ rfl bk_ Try.underlying89 rfl (by kernel_rfl)) rfl ?_
    exact ⟨er_, bl_⟩
  rw [if_pos c34] at H
  have c34b0 : (t231.toList == a0.toList) = true := beq_iff_eq.mpr c34
  have c34b1 : (t231.toList != a0.toList) = false := bne_eq_false_iff_eq.mpr c34
  clear c34
  (first | rw [c34b0] | (simp only [i64_w, i32_w]; rw [c34b0]) | skip)
  simp only [Option.some.injEq, Prod.mk.injEq] at H
  obtain ⟨rfl, rfl, rfl, rfl⟩ := H
  have hnb35 := NB218_224.out
  have hnc35 := NB224_218.out
  have hcz36 := bc3 BK218.out
  go_wp2
  refine bodyPost_ret (results_ct rfl _ _ gb218 89 #[.int .i64 t223, .int .i64 t227, .string t230] (0, 0) _ rfl bk_ Try.underlying89 rfl (by kernel_rfl)) rfl ?_
  exact ⟨er_, bl_⟩
end Go.Proofs.Ytfllpmmfjbjgoaa.PA

