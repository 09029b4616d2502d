import Derived.Test.YtkoojbkkkpljoaaQReaPAx0
namespace Go.Proofs.Ytkoojbkkkpljoaa.PA
open Go.Proofs.Ytkoojbkkkpljoaa.PL
open Go.RowKit Go.Proofs.YtkoojbkkkpljoaaW.PrintWords Go.Proofs.YtkoojbkkkpljoaaW.PrintLast Go.Proofs.YtkoojbkkkpljoaaW.PrintMore
attribute [local go_sem] max2_int min2_int max_two min_two max_three min_three max_four min_four
set_option linter.unusedVariables false
set_option linter.unusedSimpArgs false
def method_Result_Check.j0 : Nat → Bool → Int → ByteArray → Int → Option (Int)
  | 0, _, _, _, _ => none
  | k + 1, x3, x276000, x276001, x276002 => if x3 = true then (some 6) else (if (x276001.size : Int) > 24 then (some 3) else (if x276001.toList = ([] : List UInt8) then (some 0) else (if x276002 = 0 then (some 0) else (some 2))))
def method_Result_Check.f (k : Nat) (a0_0 : Int) (a0_1 : ByteArray) (a0_2 : Int) : Option (Int) := if a0_0 = 1 then (method_Result_Check.j0 k false a0_0 a0_1 a0_2) else (method_Result_Check.j0 k (a0_0 != 2) a0_0 a0_1 a0_2)
set_option maxHeartbeats 2000000 in
set_option maxRecDepth 100000 in
theorem method_Result_Check.calls (k : Nat) (a0_0 : Int) (a0_1 : ByteArray) (a0_2 : Int) (r : Int) (w : World) (h : method_Result_Check.f k a0_0 a0_1 a0_2 = some r) :
    Calls Try.prog 29 #[.agg #[.int .i64 a0_0, .string a0_1, .int .i64 a0_2]] w fun e w' => e = .returned (.int .i64 r) ∧ Below w.heap.size w w' := by
  have hu29 := Try.underlying29
  have HB := Aside0.mk (Below.refl w.heap.size w)
  have H : (if a0_0 = 1 then (method_Result_Check.j0 k false a0_0 a0_1 a0_2) else (method_Result_Check.j0 k (a0_0 != 2) a0_0 a0_1 a0_2)) = some r := h
  clear h
  have HC2 := Aside0.mk H
  clear H
  go_enter Try.func29, Try.ntmps29
  go_upto_region 1 with (first | ((with_reducible refine gds (N := 1) rfl ?_); refine bev ?hg (N := 1) ?hd (cs := #[.int .i64 a0_0, .string a0_1, .int .i64 a0_2]) (t := 29) ?hr ?_; (case hd => rfl); (case hg => rfl); (case hr => first | (go_simp; done) | (go_simp; rfl)); intro gb275 hg w3 hbox hb; have n0_ := Aside0.mk (bsp (by repeat (first | (with_reducible first | exact HB.out | apply bal | apply bdn | apply bd1) | exact HB.out)) hb); have n1_ := Aside0.mk (hbox); have n2_ := Aside0.mk ((by rw [hg]; exact (bsz (by repeat (first | (with_reducible first | exact HB.out | apply bal | apply bdn | apply bd1) | exact HB.out))) : w.heap.size ≤ gb275)); have n3_ := Aside0.mk ((by rw [hg]; exact (bsz (by repeat (first | (with_reducible first | exact HB.out | apply bal | apply bdn | apply bd1) | exact HB.out))) : w.heap.size ≤ gb275)); clear HB; have HB := n0_; have BK275 := n1_; have GW275 := n2_; have GE275 := n3_; clear n0_ n1_ n2_ n3_; clear hb hbox hg))
  (try simp only [Act.put, List.setIfInBounds_toArray, List.set_cons_zero, List.set_cons_succ])
  go_cut [3] (fun v3 wc => ∃ (kq : Nat) (x3_1 : Bool), v3 = .bool x3_1 ∧ Aside0 (method_Result_Check.j0 kq x3_1 a0_0 a0_1 a0_2 = some r) ∧ Aside0 (kq ≤ k) ∧ Aside0 (wc.heap[gb275]? = some (.cells #[.int .i64 a0_0, .string a0_1, .int .i64 a0_2] 29 (0, 0))) ∧ Aside0 (Below w.heap.size w wc))
  case first =>
    have H := HC2.out
    clear HC2
    by_cases c4 : a0_0 = 1
    rotate_left
    · rw [if_neg c4] at H
      have c4b0 : (a0_0 == 1) = false := beq_eq_false_iff_ne.mpr c4
      have c4b1 : (a0_0 != 1) = true := bne_iff_ne.mpr c4
      (first | rw [c4b0] | (simp only [i64_w, i32_w]; rw [c4b0]) | skip)
      have H' := Aside0.mk H
      clear H
      have hcz6_0 : w3.cell? ⟨gb275, 0, none⟩ = some (.int .i64 a0_0) := (kcl BK275.out 0).trans rfl
      have hcz6_1 : w3.cell? ⟨gb275, 1, none⟩ = some (.string a0_1) := (kcl BK275.out 1).trans rfl
      have hcz6_2 : w3.cell? ⟨gb275, 2, none⟩ = some (.int .i64 a0_2) := (kcl BK275.out 2).trans rfl
      have hfz6_0 := kfr BK275.out 0
      have hfz6_1 := kfr BK275.out 1
      have hfz6_2 := kfr BK275.out 2
      go_wp2
      go_meet
      case rel => exact ⟨_, ((a0_0 != 2)), (by first | rfl | (simp; done) | (simp [*]; done) | exact emp1_ _ | exact (emp1_ _).symm | exact emp2_ _ | exact (emp2_ _).symm), H', ⟨by first | omega | exact Nat.le_refl _⟩, ⟨by (with_reducible repeat (first | refine kdn ?_ _ | refine kdw ?_ | refine kal ?_ _)); exact BK275.out⟩, ⟨by repeat (first | (with_reducible first | exact HB.out | apply bal | apply bdn | apply bd1 | refine bst ?_ GE275.out) | exact HB.out)⟩⟩
    rw [if_pos c4] at H
    have c4b0 : (a0_0 == 1) = true := beq_iff_eq.mpr c4
    have c4b1 : (a0_0 != 1) = false := bne_eq_false_iff_eq.mpr c4
    clear c4
    (first | rw [c4b0] | (simp only [i64_w, i32_w]; rw [c4b0]) | skip)
    have H' := Aside0.mk H
    clear H
    have hcz5_0 : w3.cell? ⟨gb275, 0, none⟩ = some (.int .i64 a0_0) := (kcl BK275.out 0).trans rfl
    have hcz5_1 : w3.cell? ⟨gb275, 1, none⟩ = some (.string a0_1) := (kcl BK275.out 1).trans rfl
    have hcz5_2 : w3.cell? ⟨gb275, 2, none⟩ = some (.int .i64 a0_2) := (kcl BK275.out 2).trans rfl
    have hfz5_0 := kfr BK275.out 0
    have hfz5_1 := kfr BK275.out 1
    have hfz5_2 := kfr BK275.out 2
    go_wp2
    go_meet
    case rel => exact ⟨_, (false), (by first | rfl | (simp; done) | (simp [*]; done) | exact emp1_ _ | exact (emp1_ _).symm | exact emp2_ _ | exact (emp2_ _).symm), H', ⟨by first | omega | exact Nat.le_refl _⟩, ⟨by (with_reducible repeat (first | refine kdn ?_ _ | refine kdw ?_ | refine kal ?_ _)); exact BK275.out⟩, ⟨by repeat (first | (with_reducible first | exact HB.out | apply bal | apply bdn | apply bd1 | refine bst ?_ GE275.out) | exact HB.out)⟩⟩
  clear HC2
  try clear c2
  try clear p2
  try clear c4
  try clear c4b0
  try clear c4b1
  try clear hcz5_0
  try clear hcz5_1
  try clear hcz5_2
  try clear hcz6_0
  try clear hcz6_1
  try clear hcz6_2
  try clear hfz5_0
  try clear hfz5_1
  try clear hfz5_2
  try clear hfz6_0
  try clear hfz6_1
  try clear hfz6_2
  obtain ⟨kq, x3_1, rfl, HA, HJ1, BK275, HB⟩ := hcut
  cases kq with
  | zero => exact absurd HA.out (by simp [method_Result_Check.j0])
  | succ kj1 =>
    have H := HA.out
    clear HA
    simp only [method_Result_Check.j0] at H
    by_cases c7 : x3_1 = true
    · subst c7
      have H1 : (some 6) = some r := by rw [if_pos rfl] at H; exact H
      clear H
      have H := H1
      clear H1
      obtain rfl := Option.some.inj H
      go_wp2
      go_ret
      exact ⟨by first | rfl | (simp [errW_none, errW_some] <;> rfl) | (simp [*, errW_none, errW_some] <;> rfl), by repeat (first | (with_reducible first | exact HB.out | apply bal | apply bdn | apply bd1 | refine bst ?_ GE275.out) | exact HB.out)⟩
    replace c7 := Bool.eq_false_iff.mpr c7
    subst c7
    have H1 : (if (a0_1.size : Int) > 24 then (some 3) else (if a0_1.toList = ([] : List UInt8) then (some 0) else (if a0_2 = 0 then (some 0) else (some 2)))) = some r := by rw [if_neg (show ¬ (false = true) by decide)] at H; exact H
    clear H
    have H := H1
    clear H1
    by_cases c8 : (a0_1.size : Int) > 24
    · rw [if_pos c8] at H
      have c8b0 : decide (24 < (a0_1.size : Int)) = true := decide_eq_true c8
      have c8b1 : decide (24 < a0_1.size) = true := decide_eq_true (by omega)
      clear c8
      obtain rfl := Option.some.inj H
      have hcz9_0 : wc.cell? ⟨gb275, 0, none⟩ = some (.int .i64 a0_0) := (kcl BK275.out 0).trans rfl
      have hcz9_1 : wc.cell? ⟨gb275, 1, none⟩ = some (.string a0_1) := (kcl BK275.out 1).trans rfl
      have hcz9_2 : wc.cell? ⟨gb275, 2, none⟩ = some (.int .i64 a0_2) := (kcl BK275.out 2).trans rfl
      have hfz9_0 := kfr BK275.out 0
      have hfz9_1 := kfr BK275.out 1
      have hfz9_2 := kfr BK275.out 2
      go_wp2
      go_ret
      exact ⟨by first | rfl | (simp [errW_none, errW_some] <;> rfl) | (simp [*, errW_none, errW_some] <;> rfl), by repeat (first | (with_reducible first | exact HB.out | apply bal | apply bdn | apply bd1 | refine bst ?_ GE275.out) | exact HB.out)⟩
    rw [if_neg c8] at H
    have c8b0 : decide (24 < (a0_1.size : Int)) = false := decide_eq_false c8
    have c8b1 : decide (24 < a0_1.size) = false := decide_eq_false (by omega)
    clear c8
    by_cases c10 : a0_1.toList = ([] : List UInt8)
    · rw [if_pos c10] at H
      have c10b0 : (a0_1.toList == ([] : List UInt8)) = true := beq_iff_eq.mpr c10
      have c10b1 : (a0_1.toList != ([] : List UInt8)) = false := bne_eq_false_iff_eq.mpr c10
      clear c10
      obtain rfl := Option.some.inj H
      have hcz11_0 : wc.cell? ⟨gb275, 0, none⟩ = some (.int .i64 a0_0) := (kcl BK275.out 0).trans rfl
      have hcz11_1 : wc.cell? ⟨gb275, 1, none⟩ = some (.string a0_1) := (kcl BK275.out 1).trans rfl
      have hcz11_2 : wc.cell? ⟨gb275, 2, none⟩ = some (.int .i64 a0_2) := (kcl BK275.out 2).trans rfl
      have hfz11_0 := kfr BK275.out 0
      have hfz11_1 := kfr BK275.out 1
      have hfz11_2 := kfr BK275.out 2
      go_wp2
      go_ret
      exact ⟨by first | rfl | (simp [errW_none, errW_some] <;> rfl) | (simp [*, errW_none, errW_some] <;> rfl), by repeat (first | (with_reducible first | exact HB.out | apply bal | apply bdn | apply bd1 | refine bst ?_ GE275.out) | exact HB.out)⟩
    rw [if_neg c10] at H
    have c10b0 : (a0_1.toList == ([] : List UInt8)) = false := beq_eq_false_iff_ne.mpr c10
    have c10b1 : (a0_1.toList != ([] : List UInt8)) = true := bne_iff_ne.mpr c10
    by_cases c12 : a0_2 = 0
    rotate_left
    · rw [if_neg c12] at H
      have c12b0 : (a0_2 == 0) = false := beq_eq_false_iff_ne.mpr c12
      have c12b1 : (a0_2 != 0) = true := bne_iff_ne.mpr c12
      obtain rfl := Option.some.inj H
      have hcz14_0 : wc.cell? ⟨gb275, 0, none⟩ = some (.int .i64 a0_0) := (kcl BK275.out 0).trans rfl
      have hcz14_1 : wc.cell? ⟨gb275, 1, none⟩ = some (.string a0_1) := (kcl BK275.out 1).trans rfl
      have hcz14_2 : wc.cell? ⟨gb275, 2, none⟩ = some (.int .i64 a0_2) := (kcl BK275.out 2).trans rfl
      have hfz14_0 := kfr BK275.out 0
      have hfz14_1 := kfr BK275.out 1
      have hfz14_2 := kfr BK275.out 2
      go_wp2
      go_ret
      exact ⟨by first | rfl | (simp [errW_none, errW_some] <;> rfl) | (simp [*, errW_none, errW_some] <;> rfl), by repeat (first | (with_reducible first | exact HB.out | apply bal | apply bdn | apply bd1 | refine bst ?_ GE275.out) | exact HB.out)⟩
    rw [if_pos c12] at H
    have c12b0 : (a0_2 == 0) = true := beq_iff_eq.mpr c12
    have c12b1 : (a0_2 != 0) = false := bne_eq_false_iff_eq.mpr c12
    clear c12
    obtain rfl := Option.some.inj H
    have hcz13_0 : wc.cell? ⟨gb275, 0, none⟩ = some (.int .i64 a0_0) := (kcl BK275.out 0).trans rfl
    have hcz13_1 : wc.cell? ⟨gb275, 1, none⟩ = some (.string a0_1) := (kcl BK275.out 1).trans rfl
    have hcz13_2 : wc.cell? ⟨gb275, 2, none⟩ = some (.int .i64 a0_2) := (kcl BK275.out 2).trans rfl
    have hfz13_0 := kfr BK275.out 0
    have hfz13_1 := kfr BK275.out 1
    have hfz13_2 := kfr BK275.out 2
    go_wp2
    go_ret
    exact ⟨by first | rfl | (simp [errW_none, errW_some] <;> rfl) | (simp [*, errW_none, errW_some] <;> rfl), by repeat (first | (with_reducible first | exact HB.out | apply bal | apply bdn | apply bd1 | refine bst ?_ GE275.out) | exact HB.out)⟩
def armoireref12_CheckResult.j0 : Nat → Bool → Int → ByteArray → Int → Option (Int)
  | 0, _, _, _, _ => none
  | k + 1, x10, x277000, x277001, x277002 => if x10 = true then (some 6) else (if (x277001.size : Int) > 24 then (some 3) else (if x277001.toList = ([] : List UInt8) then (some 0) else (if x277002 = 0 then (some 0) else (some 2))))
def armoireref12_CheckResult.f (k : Nat) (a0_0 : Int) (a0_1 : ByteArray) (a0_2 : Int) : Option (Int) := if a0_0 = 1 then (armoireref12_CheckResult.j0 k false a0_0 a0_1 a0_2) else (armoireref12_CheckResult.j0 k (a0_0 != 2) a0_0 a0_1 a0_2)
set_option maxHeartbeats 2000000 in
set_option maxRecDepth 100000 in
theorem armoireref12_CheckResult.calls (k : Nat) (a0_0 : Int) (a0_1 : ByteArray) (a0_2 : Int) (r : Int) (w : World) (h : armoireref12_CheckResult.f k a0_0 a0_1 a0_2 = some r) :
    Calls Try.prog 30 #[.agg #[.int .i64 a0_0, .string a0_1, .int .i64 a0_2]] w fun e w' => e = .returned (.int .i64 r) ∧ Below w.heap.size w w' := by
  have hu39 := Try.underlying39
  have HB := Aside0.mk (Below.refl w.heap.size w)
  have H : (if a0_0 = 1 then (armoireref12_CheckResult.j0 k false a0_0 a0_1 a0_2) else (armoireref12_CheckResult.j0 k (a0_0 != 2) a0_0 a0_1 a0_2)) = some r := h
  clear h
  have HC2 := Aside0.mk H
  clear H
  go_enter Try.func30, Try.ntmps30
  go_upto_region 1 with (first | ((with_reducible refine gds (N := 1) rfl ?_); refine bev ?hg (N := 1) ?hd (cs := #[.int .i64 a0_0, .string a0_1, .int .i64 a0_2]) (t := 39) ?hr ?_; (case hd => rfl); (case hg => rfl); (case hr => first | (go_simp; done) | (go_simp; rfl)); intro gb276 hg w3 hbox hb; have n0_ := Aside0.mk (bsp (by repeat (first | (with_reducible first | exact HB.out | apply bal | apply bdn | apply bd1) | exact HB.out)) hb); have n1_ := Aside0.mk (hbox); have n2_ := Aside0.mk ((by rw [hg]; exact (bsz (by repeat (first | (with_reducible first | exact HB.out | apply bal | apply bdn | apply bd1) | exact HB.out))) : w.heap.size ≤ gb276)); have n3_ := Aside0.mk ((by rw [hg]; exact (bsz (by repeat (first | (with_reducible first | exact HB.out | apply bal | apply bdn | apply bd1) | exact HB.out))) : w.heap.size ≤ gb276)); clear HB; have HB := n0_; have BK276 := n1_; have GW276 := n2_; have GE276 := n3_; clear n0_ n1_ n2_ n3_; clear hb hbox hg))
  (try simp only [Act.put, List.setIfInBounds_toArray, List.set_cons_zero, List.set_cons_succ])
  go_cut [10] (fun v10 wc => ∃ (kq : Nat) (x10_1 : Bool), v10 = .bool x10_1 ∧ Aside0 (armoireref12_CheckResult.j0 kq x10_1 a0_0 a0_1 a0_2 = some r) ∧ Aside0 (kq ≤ k) ∧ Aside0 (wc.heap[gb276]? = some (.cells #[.int .i64 a0_0, .string a0_1, .int .i64 a0_2] 39 (0, 0))) ∧ Aside0 (Below w.heap.size w wc))
  case first =>
    have H := HC2.out
    clear HC2
    by_cases c4 : a0_0 = 1
    rotate_left
    · rw [if_neg c4] at H
      have c4b0 : (a0_0 == 1) = false := beq_eq_false_iff_ne.mpr c4
      have c4b1 : (a0_0 != 1) = true := bne_iff_ne.mpr c4
      (first | rw [c4b0] | (simp only [i64_w, i32_w]; rw [c4b0]) | skip)
      have H' := Aside0.mk H
      clear H
      have hcz6_0 : w3.cell? ⟨gb276, 0, none⟩ = some (.int .i64 a0_0) := (kcl BK276.out 0).trans rfl
      have hcz6_1 : w3.cell? ⟨gb276, 1, none⟩ = some (.string a0_1) := (kcl BK276.out 1).trans rfl
      have hcz6_2 : w3.cell? ⟨gb276, 2, none⟩ = some (.int .i64 a0_2) := (kcl BK276.out 2).trans rfl
      have hfz6_0 := kfr BK276.out 0
      have hfz6_1 := kfr BK276.out 1
      have hfz6_2 := kfr BK276.out 2
      go_wp2
      go_meet
      case rel => exact ⟨_, ((a0_0 != 2)), (by first | rfl | (simp; done) | (simp [*]; done) | exact emp1_ _ | exact (emp1_ _).symm | exact emp2_ _ | exact (emp2_ _).symm), H', ⟨by first | omega | exact Nat.le_refl _⟩, ⟨by (with_reducible repeat (first | refine kdn ?_ _ | refine kdw ?_ | refine kal ?_ _)); exact BK276.out⟩, ⟨by repeat (first | (with_reducible first | exact HB.out | apply bal | apply bdn | apply bd1 | refine bst ?_ GE276.out) | exact HB.out)⟩⟩
    rw [if_pos c4] at H
    have c4b0 : (a0_0 == 1) = true := beq_iff_eq.mpr c4
    have c4b1 : (a0_0 != 1) = false := bne_eq_false_iff_eq.mpr c4
    clear c4
    (first | rw [c4b0] | (simp only [i64_w, i32_w]; rw [c4b0]) | skip)
    have H' := Aside0.mk H
    clear H
    have hcz5_0 : w3.cell? ⟨gb276, 0, none⟩ = some (.int .i64 a0_0) := (kcl BK276.out 0).trans rfl
    have hcz5_1 : w3.cell? ⟨gb276, 1, none⟩ = some (.string a0_1) := (kcl BK276.out 1).trans rfl
    have hcz5_2 : w3.cell? ⟨gb276, 2, none⟩ = some (.int .i64 a0_2) := (kcl BK276.out 2).trans rfl
    have hfz5_0 := kfr BK276.out 0
    have hfz5_1 := kfr BK276.out 1
    have hfz5_2 := kfr BK276.out 2
    go_wp2
    go_meet
    case rel => exact ⟨_, (false), (by first | rfl | (simp; done) | (simp [*]; done) | exact emp1_ _ | exact (emp1_ _).symm | exact emp2_ _ | exact (emp2_ _).symm), H', ⟨by first | omega | exact Nat.le_refl _⟩, ⟨by (with_reducible repeat (first | refine kdn ?_ _ | refine kdw ?_ | refine kal ?_ _)); exact BK276.out⟩, ⟨by repeat (first | (with_reducible first | exact HB.out | apply bal | apply bdn | apply bd1 | refine bst ?_ GE276.out) | exact HB.out)⟩⟩
  clear HC2
  try clear p2
  try clear c3
  try clear c4
  try clear c4b0
  try clear c4b1
  try clear hcz5_0
  try clear hcz5_1
  try clear hcz5_2
  try clear hcz6_0
  try clear hcz6_1
  try clear hcz6_2
  try clear hfz5_0
  try clear hfz5_1
  try clear hfz5_2
  try clear hfz6_0
  try clear hfz6_1
  try clear hfz6_2
  obtain ⟨kq, x10_1, rfl, HA, HJ1, BK276, HB⟩ := hcut
  cases kq with
  | zero => exact absurd HA.out (by simp [armoireref12_CheckResult.j0])
  | succ kj1 =>
    have H := HA.out
    clear HA
    simp only [armoireref12_CheckResult.j0] at H
    by_cases c7 : x10_1 = true
    · subst c7
      have H1 : (some 6) = some r := by rw [if_pos rfl] at H; exact H
      clear H
      have H := H1
      clear H1
      obtain rfl := Option.some.inj H
      go_wp2
      go_ret
      exact ⟨by first | rfl | (simp [errW_none, errW_some] <;> rfl) | (simp [*, errW_none, errW_some] <;> rfl), by repeat (first | (with_reducible first | exact HB.out | apply bal | apply bdn | apply bd1 | refine bst ?_ GE276.out) | exact HB.out)⟩
    replace c7 := Bool.eq_false_iff.mpr c7
    subst c7
    have H1 : (if (a0_1.size : Int) > 24 then (some 3) else (if a0_1.toList = ([] : List UInt8) then (some 0) else (if a0_2 = 0 then (some 0) else (some 2)))) = some r := by rw [if_neg (show ¬ (false = true) by decide)] at H; exact H
    clear H
    have H := H1
    clear H1
    by_cases c8 : (a0_1.size : Int) > 24
    · rw [if_pos c8] at H
      have c8b0 : decide (24 < (a0_1.size : Int)) = true := decide_eq_true c8
      have c8b1 : decide (24 < a0_1.size) = true := decide_eq_true (by omega)
      clear c8
      obtain rfl := Option.some.inj H
      have hcz9_0 : wc.cell? ⟨gb276, 0, none⟩ = some (.int .i64 a0_0) := (kcl BK276.out 0).trans rfl
      have hcz9_1 : wc.cell? ⟨gb276, 1, none⟩ = some (.string a0_1) := (kcl BK276.out 1).trans rfl
      have hcz9_2 : wc.cell? ⟨gb276, 2, none⟩ = some (.int .i64 a0_2) := (kcl BK276.out 2).trans rfl
      have hfz9_0 := kfr BK276.out 0
      have hfz9_1 := kfr BK276.out 1
      have hfz9_2 := kfr BK276.out 2
      go_wp2
      go_ret
      exact ⟨by first | rfl | (simp [errW_none, errW_some] <;> rfl) | (simp [*, errW_none, errW_some] <;> rfl), by repeat (first | (with_reducible first | exact HB.out | apply bal | apply bdn | apply bd1 | refine bst ?_ GE276.out) | exact HB.out)⟩
    rw [if_neg c8] at H
    have c8b0 : decide (24 < (a0_1.size : Int)) = false := decide_eq_false c8
    have c8b1 : decide (24 < a0_1.size) = false := decide_eq_false (by omega)
    clear c8
    by_cases c10 : a0_1.toList = ([] : List UInt8)
    · rw [if_pos c10] at H
      have c10b0 : (a0_1.toList == ([] : List UInt8)) = true := beq_iff_eq.mpr c10
      have c10b1 : (a0_1.toList != ([] : List UInt8)) = false := bne_eq_false_iff_eq.mpr c10
      clear c10
      obtain rfl := Option.some.inj H
      have hcz11_0 : wc.cell? ⟨gb276, 0, none⟩ = some (.int .i64 a0_0) := (kcl BK276.out 0).trans rfl
      have hcz11_1 : wc.cell? ⟨gb276, 1, none⟩ = some (.string a0_1) := (kcl BK276.out 1).trans rfl
      have hcz11_2 : wc.cell? ⟨gb276, 2, none⟩ = some (.int .i64 a0_2) := (kcl BK276.out 2).trans rfl
      have hfz11_0 := kfr BK276.out 0
      have hfz11_1 := kfr BK276.out 1
      have hfz11_2 := kfr BK276.out 2
      go_wp2
      go_ret
      exact ⟨by first | rfl | (simp [errW_none, errW_some] <;> rfl) | (simp [*, errW_none, errW_some] <;> rfl), by repeat (first | (with_reducible first | exact HB.out | apply bal | apply bdn | apply bd1 | refine bst ?_ GE276.out) | exact HB.out)⟩
    rw [if_neg c10] at H
    have c10b0 : (a0_1.toList == ([] : List UInt8)) = false := beq_eq_false_iff_ne.mpr c10
    have c10b1 : (a0_1.toList != ([] : List UInt8)) = true := bne_iff_ne.mpr c10
    by_cases c12 : a0_2 = 0
    rotate_left
    · rw [if_neg c12] at H
      have c12b0 : (a0_2 == 0) = false := beq_eq_false_iff_ne.mpr c12
      have c12b1 : (a0_2 != 0) = true := bne_iff_ne.mpr c12
      obtain rfl := Option.some.inj H
      have hcz14_0 : wc.cell? ⟨gb276, 0, none⟩ = some (.int .i64 a0_0) := (kcl BK276.out 0).trans rfl
      have hcz14_1 : wc.cell? ⟨gb276, 1, none⟩ = some (.string a0_1) := (kcl BK276.out 1).trans rfl
      have hcz14_2 : wc.cell? ⟨gb276, 2, none⟩ = some (.int .i64 a0_2) := (kcl BK276.out 2).trans rfl
      have hfz14_0 := kfr BK276.out 0
      have hfz14_1 := kfr BK276.out 1
      have hfz14_2 := kfr BK276.out 2
      go_wp2
      go_ret
      exact ⟨by first | rfl | (simp [errW_none, errW_some] <;> rfl) | (simp [*, errW_none, errW_some] <;> rfl), by repeat (first | (with_reducible first | exact HB.out | apply bal | apply bdn | apply bd1 | refine bst ?_ GE276.out) | exact HB.out)⟩
    rw [if_pos c12] at H
    have c12b0 : (a0_2 == 0) = true := beq_iff_eq.mpr c12
    have c12b1 : (a0_2 != 0) = false := bne_eq_false_iff_eq.mpr c12
    clear c12
    obtain rfl := Option.some.inj H
    have hcz13_0 : wc.cell? ⟨gb276, 0, none⟩ = some (.int .i64 a0_0) := (kcl BK276.out 0).trans rfl
    have hcz13_1 : wc.cell? ⟨gb276, 1, none⟩ = some (.string a0_1) := (kcl BK276.out 1).trans rfl
    have hcz13_2 : wc.cell? ⟨gb276, 2, none⟩ = some (.int .i64 a0_2) := (kcl BK276.out 2).trans rfl
    have hfz13_0 := kfr BK276.out 0
    have hfz13_1 := kfr BK276.out 1
    have hfz13_2 := kfr BK276.out 2
    go_wp2
    go_ret
    exact ⟨by first | rfl | (simp [errW_none, errW_some] <;> rfl) | (simp [*, errW_none, errW_some] <;> rfl), by repeat (first | (with_reducible first | exact HB.out | apply bal | apply bdn | apply bd1 | refine bst ?_ GE276.out) | exact HB.out)⟩
end Go.Proofs.Ytkoojbkkkpljoaa.PA

