import Derived.Test.YtkkkmbgflflcnaaQPxPAx1
import Derived.Test.YtkkkmbgflflcnaaQPxPAx18
namespace Go.Proofs.Ytkkkmbgflflcnaa.PA
open Go.Proofs.Ytkkkmbgflflcnaa.PL
open Go.RowKit Go.Proofs.YtkkkmbgflflcnaaW.PrintWords Go.Proofs.YtkkkmbgflflcnaaW.PrintLast Go.Proofs.YtkkkmbgflflcnaaW.PrintMore
attribute [local go_sem] max2_int min2_int max_two min_two max_three min_three max_four min_four
set_option linter.unusedVariables false
set_option linter.unusedSimpArgs false
attribute [local go_sem high] eqA56
def armoireref12_CheckResult.j0 : Nat → Bool → Int → ByteArray → Int → Option (Int)
  | 0, _, _, _, _ => none
  | k + 1, x10, x444000, x444001, x444002 => if x10 = true then (some 6) else (if (x444001.size : Int) > 24 then (some 3) else (if x444001.toList = ([] : List UInt8) then (some 0) else (if x444002 = 0 then (some 0) else (some 2))))
def armoireref12_CheckResult.f (k : Nat) (a0_0 : Int) (a0_1 : ByteArray) (a0_2 : Int) : Option (Int) := if a0_0 = 1 then (armoireref12_CheckResult.j0 k false a0_0 a0_1 a0_2) else (armoireref12_CheckResult.j0 k (a0_0 != 2) a0_0 a0_1 a0_2)
set_option maxHeartbeats 2000000 in
set_option maxRecDepth 100000 in
theorem armoireref12_CheckResult.calls (k : Nat) (a0_0 : Int) (a0_1 : ByteArray) (a0_2 : Int) (r : Int) (w : World) (h : armoireref12_CheckResult.f k a0_0 a0_1 a0_2 = some r) :
    Calls Try.prog 56 #[.agg #[.int .i64 a0_0, .string a0_1, .int .i64 a0_2]] w fun e w' => e = .returned (.int .i64 r) ∧ Below w.heap.size w w' := by
  have hu56 := Try.underlying56
  have HB := Aside0.mk (Below.refl w.heap.size w)
  have H : (if a0_0 = 1 then (armoireref12_CheckResult.j0 k false a0_0 a0_1 a0_2) else (armoireref12_CheckResult.j0 k (a0_0 != 2) a0_0 a0_1 a0_2)) = some r := h
  clear h
  have HC2 := Aside0.mk H
  clear H
  go_enter Try.func56, Try.ntmps56
  go_upto_region 1 with (first | ((with_reducible refine gds (N := 1) rfl ?_); refine bev ?hg (N := 1) ?hd (cs := #[.int .i64 a0_0, .string a0_1, .int .i64 a0_2]) (t := 56) ?hr ?_; (case hd => rfl); (case hg => rfl); (case hr => first | (go_simp; done) | (go_simp; rfl)); intro gb443 hg w3 hbox hb; have n0_ := Aside0.mk (bsp (by repeat (first | (with_reducible first | exact HB.out | apply bal | apply bdn | apply bd1) | exact HB.out)) hb); have n1_ := Aside0.mk (hbox); have n2_ := Aside0.mk ((by rw [hg]; exact (bsz (by repeat (first | (with_reducible first | exact HB.out | apply bal | apply bdn | apply bd1) | exact HB.out))) : w.heap.size ≤ gb443)); have n3_ := Aside0.mk ((by rw [hg]; exact (bsz (by repeat (first | (with_reducible first | exact HB.out | apply bal | apply bdn | apply bd1) | exact HB.out))) : w.heap.size ≤ gb443)); clear HB; have HB := n0_; have BK443 := n1_; have GW443 := n2_; have GE443 := n3_; clear n0_ n1_ n2_ n3_; clear hb hbox hg))
  (try simp only [Act.put, List.setIfInBounds_toArray, List.set_cons_zero, List.set_cons_succ])
  go_cut [10] (fun v10 wc => ∃ (kq : Nat) (x10_1 : Bool), v10 = .bool x10_1 ∧ Aside0 (armoireref12_CheckResult.j0 kq x10_1 a0_0 a0_1 a0_2 = some r) ∧ Aside0 (kq ≤ k) ∧ Aside0 (wc.heap[gb443]? = some (.cells #[.int .i64 a0_0, .string a0_1, .int .i64 a0_2] 56 (0, 0))) ∧ Aside0 (Below w.heap.size w wc))
  case first =>
    have H := HC2.out
    clear HC2
    by_cases c4 : a0_0 = 1
    rotate_left
    · rw [if_neg c4] at H
      have c4b0 : (a0_0 == 1) = false := beq_eq_false_iff_ne.mpr c4
      have c4b1 : (a0_0 != 1) = true := bne_iff_ne.mpr c4
      (first | rw [c4b0] | (simp only [i64_w, i32_w]; rw [c4b0]) | skip)
      have H' := Aside0.mk H
      clear H
      have hcz6_0 : w3.cell? ⟨gb443, 0, none⟩ = some (.int .i64 a0_0) := (kcl BK443.out 0).trans rfl
      have hcz6_1 : w3.cell? ⟨gb443, 1, none⟩ = some (.string a0_1) := (kcl BK443.out 1).trans rfl
      have hcz6_2 : w3.cell? ⟨gb443, 2, none⟩ = some (.int .i64 a0_2) := (kcl BK443.out 2).trans rfl
      have hfz6_0 := kfr BK443.out 0
      have hfz6_1 := kfr BK443.out 1
      have hfz6_2 := kfr BK443.out 2
      go_wp2
      go_meet
      case rel => exact ⟨_, ((a0_0 != 2)), (by first | rfl | (simp; done) | (simp [*]; done) | exact emp1_ _ | exact (emp1_ _).symm | exact emp2_ _ | exact (emp2_ _).symm), H', ⟨by first | omega | exact Nat.le_refl _⟩, ⟨by (with_reducible repeat (first | refine kdn ?_ _ | refine kdw ?_ | refine kal ?_ _)); exact BK443.out⟩, ⟨by repeat (first | (with_reducible first | exact HB.out | apply bal | apply bdn | apply bd1 | refine bst ?_ GE443.out) | exact HB.out)⟩⟩
    rw [if_pos c4] at H
    have c4b0 : (a0_0 == 1) = true := beq_iff_eq.mpr c4
    have c4b1 : (a0_0 != 1) = false := bne_eq_false_iff_eq.mpr c4
    clear c4
    (first | rw [c4b0] | (simp only [i64_w, i32_w]; rw [c4b0]) | skip)
    have H' := Aside0.mk H
    clear H
    have hcz5_0 : w3.cell? ⟨gb443, 0, none⟩ = some (.int .i64 a0_0) := (kcl BK443.out 0).trans rfl
    have hcz5_1 : w3.cell? ⟨gb443, 1, none⟩ = some (.string a0_1) := (kcl BK443.out 1).trans rfl
    have hcz5_2 : w3.cell? ⟨gb443, 2, none⟩ = some (.int .i64 a0_2) := (kcl BK443.out 2).trans rfl
    have hfz5_0 := kfr BK443.out 0
    have hfz5_1 := kfr BK443.out 1
    have hfz5_2 := kfr BK443.out 2
    go_wp2
    go_meet
    case rel => exact ⟨_, (false), (by first | rfl | (simp; done) | (simp [*]; done) | exact emp1_ _ | exact (emp1_ _).symm | exact emp2_ _ | exact (emp2_ _).symm), H', ⟨by first | omega | exact Nat.le_refl _⟩, ⟨by (with_reducible repeat (first | refine kdn ?_ _ | refine kdw ?_ | refine kal ?_ _)); exact BK443.out⟩, ⟨by repeat (first | (with_reducible first | exact HB.out | apply bal | apply bdn | apply bd1 | refine bst ?_ GE443.out) | exact HB.out)⟩⟩
  clear HC2
  try clear p2
  try clear c4
  try clear c4b0
  try clear c4b1
  try clear c5
  try clear hcz5_0
  try clear hcz5_1
  try clear hcz5_2
  try clear hcz6_0
  try clear hcz6_1
  try clear hcz6_2
  try clear hfz5_0
  try clear hfz5_1
  try clear hfz5_2
  try clear hfz6_0
  try clear hfz6_1
  try clear hfz6_2
  obtain ⟨kq, x10_1, rfl, HA, HJ1, BK443, HB⟩ := hcut
  cases kq with
  | zero => exact absurd HA.out (by simp [armoireref12_CheckResult.j0])
  | succ kj1 =>
    have H := HA.out
    clear HA
    simp only [armoireref12_CheckResult.j0] at H
    by_cases c7 : x10_1 = true
    · subst c7
      have H1 : (some 6) = some r := by rw [if_pos rfl] at H; exact H
      clear H
      have H := H1
      clear H1
      obtain rfl := Option.some.inj H
      go_wp2
      go_ret
      exact ⟨by first | rfl | (simp [errW_none, errW_some] <;> rfl) | (simp [*, errW_none, errW_some] <;> rfl), by repeat (first | (with_reducible first | exact HB.out | apply bal | apply bdn | apply bd1 | refine bst ?_ GE443.out) | exact HB.out)⟩
    replace c7 := Bool.eq_false_iff.mpr c7
    subst c7
    have H1 : (if (a0_1.size : Int) > 24 then (some 3) else (if a0_1.toList = ([] : List UInt8) then (some 0) else (if a0_2 = 0 then (some 0) else (some 2)))) = some r := by rw [if_neg (show ¬ (false = true) by decide)] at H; exact H
    clear H
    have H := H1
    clear H1
    by_cases c8 : (a0_1.size : Int) > 24
    · rw [if_pos c8] at H
      have c8b0 : decide (24 < (a0_1.size : Int)) = true := decide_eq_true c8
      have c8b1 : decide (24 < a0_1.size) = true := decide_eq_true (by omega)
      clear c8
      obtain rfl := Option.some.inj H
      have hcz9_0 : wc.cell? ⟨gb443, 0, none⟩ = some (.int .i64 a0_0) := (kcl BK443.out 0).trans rfl
      have hcz9_1 : wc.cell? ⟨gb443, 1, none⟩ = some (.string a0_1) := (kcl BK443.out 1).trans rfl
      have hcz9_2 : wc.cell? ⟨gb443, 2, none⟩ = some (.int .i64 a0_2) := (kcl BK443.out 2).trans rfl
      have hfz9_0 := kfr BK443.out 0
      have hfz9_1 := kfr BK443.out 1
      have hfz9_2 := kfr BK443.out 2
      go_wp2
      go_ret
      exact ⟨by first | rfl | (simp [errW_none, errW_some] <;> rfl) | (simp [*, errW_none, errW_some] <;> rfl), by repeat (first | (with_reducible first | exact HB.out | apply bal | apply bdn | apply bd1 | refine bst ?_ GE443.out) | exact HB.out)⟩
    rw [if_neg c8] at H
    have c8b0 : decide (24 < (a0_1.size : Int)) = false := decide_eq_false c8
    have c8b1 : decide (24 < a0_1.size) = false := decide_eq_false (by omega)
    clear c8
    by_cases c10 : a0_1.toList = ([] : List UInt8)
    · rw [if_pos c10] at H
      have c10b0 : (a0_1.toList == ([] : List UInt8)) = true := beq_iff_eq.mpr c10
      have c10b1 : (a0_1.toList != ([] : List UInt8)) = false := bne_eq_false_iff_eq.mpr c10
      clear c10
      obtain rfl := Option.some.inj H
      have hcz11_0 : wc.cell? ⟨gb443, 0, none⟩ = some (.int .i64 a0_0) := (kcl BK443.out 0).trans rfl
      have hcz11_1 : wc.cell? ⟨gb443, 1, none⟩ = some (.string a0_1) := (kcl BK443.out 1).trans rfl
      have hcz11_2 : wc.cell? ⟨gb443, 2, none⟩ = some (.int .i64 a0_2) := (kcl BK443.out 2).trans rfl
      have hfz11_0 := kfr BK443.out 0
      have hfz11_1 := kfr BK443.out 1
      have hfz11_2 := kfr BK443.out 2
      go_wp2
      go_ret
      exact ⟨by first | rfl | (simp [errW_none, errW_some] <;> rfl) | (simp [*, errW_none, errW_some] <;> rfl), by repeat (first | (with_reducible first | exact HB.out | apply bal | apply bdn | apply bd1 | refine bst ?_ GE443.out) | exact HB.out)⟩
    rw [if_neg c10] at H
    have c10b0 : (a0_1.toList == ([] : List UInt8)) = false := beq_eq_false_iff_ne.mpr c10
    have c10b1 : (a0_1.toList != ([] : List UInt8)) = true := bne_iff_ne.mpr c10
    by_cases c12 : a0_2 = 0
    rotate_left
    · rw [if_neg c12] at H
      have c12b0 : (a0_2 == 0) = false := beq_eq_false_iff_ne.mpr c12
      have c12b1 : (a0_2 != 0) = true := bne_iff_ne.mpr c12
      obtain rfl := Option.some.inj H
      have hcz14_0 : wc.cell? ⟨gb443, 0, none⟩ = some (.int .i64 a0_0) := (kcl BK443.out 0).trans rfl
      have hcz14_1 : wc.cell? ⟨gb443, 1, none⟩ = some (.string a0_1) := (kcl BK443.out 1).trans rfl
      have hcz14_2 : wc.cell? ⟨gb443, 2, none⟩ = some (.int .i64 a0_2) := (kcl BK443.out 2).trans rfl
      have hfz14_0 := kfr BK443.out 0
      have hfz14_1 := kfr BK443.out 1
      have hfz14_2 := kfr BK443.out 2
      go_wp2
      go_ret
      exact ⟨by first | rfl | (simp [errW_none, errW_some] <;> rfl) | (simp [*, errW_none, errW_some] <;> rfl), by repeat (first | (with_reducible first | exact HB.out | apply bal | apply bdn | apply bd1 | refine bst ?_ GE443.out) | exact HB.out)⟩
    rw [if_pos c12] at H
    have c12b0 : (a0_2 == 0) = true := beq_iff_eq.mpr c12
    have c12b1 : (a0_2 != 0) = false := bne_eq_false_iff_eq.mpr c12
    clear c12
    obtain rfl := Option.some.inj H
    have hcz13_0 : wc.cell? ⟨gb443, 0, none⟩ = some (.int .i64 a0_0) := (kcl BK443.out 0).trans rfl
    have hcz13_1 : wc.cell? ⟨gb443, 1, none⟩ = some (.string a0_1) := (kcl BK443.out 1).trans rfl
    have hcz13_2 : wc.cell? ⟨gb443, 2, none⟩ = some (.int .i64 a0_2) := (kcl BK443.out 2).trans rfl
    have hfz13_0 := kfr BK443.out 0
    have hfz13_1 := kfr BK443.out 1
    have hfz13_2 := kfr BK443.out 2
    go_wp2
    go_ret
    exact ⟨by first | rfl | (simp [errW_none, errW_some] <;> rfl) | (simp [*, errW_none, errW_some] <;> rfl), by repeat (first | (with_reducible first | exact HB.out | apply bal | apply bdn | apply bd1 | refine bst ?_ GE443.out) | exact HB.out)⟩
def armoireref24_CheckReply.j0 : Nat → Bool → Int → Int → Int → ByteArray → Int → Option (Int)
  | 0, _, _, _, _, _, _ => none
  | k + 1, x20, x445000, x445001, x445002, x445003, x445004 => if x20 = true then (some 4) else (if (!(x445002 == 0) || (!(x445003.toList == ([] : List UInt8)) || (!(x445004 == 0)))) = true then ((armoireref12_CheckResult.f k x445002 x445003 x445004).bind fun t445 => (some t445)) else (some 0))
def armoireref24_CheckReply.f (k : Nat) (a0_0 : Int) (a0_1 : Int) (a0_2 : Int) (a0_3 : ByteArray) (a0_4 : Int) : Option (Int) := if a0_0 < 0 then (armoireref24_CheckReply.j0 k true a0_0 a0_1 a0_2 a0_3 a0_4) else (if a0_0 > 19 then (armoireref24_CheckReply.j0 k true a0_0 a0_1 a0_2 a0_3 a0_4) else (if a0_1 < 0 then (armoireref24_CheckReply.j0 k true a0_0 a0_1 a0_2 a0_3 a0_4) else (armoireref24_CheckReply.j0 k (decide (a0_1 > 1099511627776)) a0_0 a0_1 a0_2 a0_3 a0_4)))
set_option maxHeartbeats 2000000 in
set_option maxRecDepth 100000 in
theorem armoireref24_CheckReply.calls (k : Nat) (a0_0 : Int) (a0_1 : Int) (a0_2 : Int) (a0_3 : ByteArray) (a0_4 : Int) (r : Int) (w : World) (h : armoireref24_CheckReply.f k a0_0 a0_1 a0_2 a0_3 a0_4 = some r) :
    Calls Try.prog 24 #[.agg #[.int .i64 a0_0, .int .i64 a0_1, .int .i64 a0_2, .string a0_3, .int .i64 a0_4]] w fun e w' => e = .returned (.int .i64 r) ∧ Below w.heap.size w w' := by
  have hu58 := Try.underlying58
  have hu56 := Try.underlying56
  have HB := Aside0.mk (Below.refl w.heap.size w)
  have H : (if a0_0 < 0 then (armoireref24_CheckReply.j0 k true a0_0 a0_1 a0_2 a0_3 a0_4) else (if a0_0 > 19 then (armoireref24_CheckReply.j0 k true a0_0 a0_1 a0_2 a0_3 a0_4) else (if a0_1 < 0 then (armoireref24_CheckReply.j0 k true a0_0 a0_1 a0_2 a0_3 a0_4) else (armoireref24_CheckReply.j0 k (decide (a0_1 > 1099511627776)) a0_0 a0_1 a0_2 a0_3 a0_4)))) = some r := h
  clear h
  have HC2 := Aside0.mk H
  clear H
  go_enter Try.func24, Try.ntmps24
  go_upto_region 1 with (first | ((with_reducible refine gds (N := 1) rfl ?_); refine bev ?hg (N := 1) ?hd (cs := #[.int .i64 a0_0, .int .i64 a0_1, .int .i64 a0_2, .string a0_3, .int .i64 a0_4]) (t := 58) ?hr ?_; (case hd => rfl); (case hg => rfl); (case hr => first | (go_simp; done) | (go_simp; rfl)); intro gb444 hg w3 hbox hb; have n0_ := Aside0.mk (bsp (by repeat (first | (with_reducible first | exact HB.out | apply bal | apply bdn | apply bd1) | exact HB.out)) hb); have n1_ := Aside0.mk (hbox); have n2_ := Aside0.mk ((by rw [hg]; exact (bsz (by repeat (first | (with_reducible first | exact HB.out | apply bal | apply bdn | apply bd1) | exact HB.out))) : w.heap.size ≤ gb444)); have n3_ := Aside0.mk ((by rw [hg]; exact (bsz (by repeat (first | (with_reducible first | exact HB.out | apply bal | apply bdn | apply bd1) | exact HB.out))) : w.heap.size ≤ gb444)); clear HB; have HB := n0_; have BK444 := n1_; have GW444 := n2_; have GE444 := n3_; clear n0_ n1_ n2_ n3_; clear hb hbox hg))
  (try simp only [Act.put, List.setIfInBounds_toArray, List.set_cons_zero, List.set_cons_succ])
  go_cut [20] (fun v20 wc => ∃ (kq : Nat) (x20_1 : Bool), v20 = .bool x20_1 ∧ Aside0 (armoireref24_CheckReply.j0 kq x20_1 a0_0 a0_1 a0_2 a0_3 a0_4 = some r) ∧ Aside0 (kq ≤ k) ∧ Aside0 (wc.heap[gb444]? = some (.cells #[.int .i64 a0_0, .int .i64 a0_1, .int .i64 a0_2, .string a0_3, .int .i64 a0_4] 58 (0, 0))) ∧ Aside0 (Below w.heap.size w wc))
  case first =>
    have H := HC2.out
    clear HC2
    by_cases c4 : a0_0 < 0
    · rw [if_pos c4] at H
      have c4b0 : decide (a0_0 < 0) = true := decide_eq_true c4
      clear c4
      (first | rw [c4b0] | (simp only [i64_w, i32_w]; rw [c4b0]) | skip)
      have H' := Aside0.mk H
      clear H
      have hcz5_0 : w3.cell? ⟨gb444, 0, none⟩ = some (.int .i64 a0_0) := (kcl BK444.out 0).trans rfl
      have hcz5_1 : w3.cell? ⟨gb444, 1, none⟩ = some (.int .i64 a0_1) := (kcl BK444.out 1).trans rfl
      have hcz5_2 : w3.cell? ⟨gb444, 2, none⟩ = some (.int .i64 a0_2) := (kcl BK444.out 2).trans rfl
      have hcz5_3 : w3.cell? ⟨gb444, 3, none⟩ = some (.string a0_3) := (kcl BK444.out 3).trans rfl
      have hcz5_4 : w3.cell? ⟨gb444, 4, none⟩ = some (.int .i64 a0_4) := (kcl BK444.out 4).trans rfl
      have hfz5_0 := kfr BK444.out 0
      have hfz5_1 := kfr BK444.out 1
      have hfz5_2 := kfr BK444.out 2
      have hfz5_3 := kfr BK444.out 3
      have hfz5_4 := kfr BK444.out 4
      go_wp2
      go_meet
      case rel => exact ⟨_, (true), (by first | rfl | (simp; done) | (simp [*]; done) | exact emp1_ _ | exact (emp1_ _).symm | exact emp2_ _ | exact (emp2_ _).symm), H', ⟨by first | omega | exact Nat.le_refl _⟩, ⟨by (with_reducible repeat (first | refine kdn ?_ _ | refine kdw ?_ | refine kal ?_ _)); exact BK444.out⟩, ⟨by repeat (first | (with_reducible first | exact HB.out | apply bal | apply bdn | apply bd1 | refine bst ?_ GE444.out) | exact HB.out)⟩⟩
    rw [if_neg c4] at H
    have c4b0 : decide (a0_0 < 0) = false := decide_eq_false c4
    clear c4
    (first | rw [c4b0] | (simp only [i64_w, i32_w]; rw [c4b0]) | skip)
    by_cases c6 : a0_0 > 19
    · rw [if_pos c6] at H
      have c6b0 : decide (19 < a0_0) = true := decide_eq_true c6
      clear c6
      have H' := Aside0.mk H
      clear H
      have hcz7_0 : w3.cell? ⟨gb444, 0, none⟩ = some (.int .i64 a0_0) := (kcl BK444.out 0).trans rfl
      have hcz7_1 : w3.cell? ⟨gb444, 1, none⟩ = some (.int .i64 a0_1) := (kcl BK444.out 1).trans rfl
      have hcz7_2 : w3.cell? ⟨gb444, 2, none⟩ = some (.int .i64 a0_2) := (kcl BK444.out 2).trans rfl
      have hcz7_3 : w3.cell? ⟨gb444, 3, none⟩ = some (.string a0_3) := (kcl BK444.out 3).trans rfl
      have hcz7_4 : w3.cell? ⟨gb444, 4, none⟩ = some (.int .i64 a0_4) := (kcl BK444.out 4).trans rfl
      have hfz7_0 := kfr BK444.out 0
      have hfz7_1 := kfr BK444.out 1
      have hfz7_2 := kfr BK444.out 2
      have hfz7_3 := kfr BK444.out 3
      have hfz7_4 := kfr BK444.out 4
      go_wp2
      go_meet
      case rel => exact ⟨_, (true), (by first | rfl | (simp; done) | (simp [*]; done) | exact emp1_ _ | exact (emp1_ _).symm | exact emp2_ _ | exact (emp2_ _).symm), H', ⟨by first | omega | exact Nat.le_refl _⟩, ⟨by (with_reducible repeat (first | refine kdn ?_ _ | refine kdw ?_ | refine kal ?_ _)); exact BK444.out⟩, ⟨by repeat (first | (with_reducible first | exact HB.out | apply bal | apply bdn | apply bd1 | refine bst ?_ GE444.out) | exact HB.out)⟩⟩
    rw [if_neg c6] at H
    have c6b0 : decide (19 < a0_0) = false := decide_eq_false c6
    clear c6
    by_cases c8 : a0_1 < 0
    · rw [if_pos c8] at H
      have c8b0 : decide (a0_1 < 0) = true := decide_eq_true c8
      clear c8
      have H' := Aside0.mk H
      clear H
      have hcz9_0 : w3.cell? ⟨gb444, 0, none⟩ = some (.int .i64 a0_0) := (kcl BK444.out 0).trans rfl
      have hcz9_1 : w3.cell? ⟨gb444, 1, none⟩ = some (.int .i64 a0_1) := (kcl BK444.out 1).trans rfl
      have hcz9_2 : w3.cell? ⟨gb444, 2, none⟩ = some (.int .i64 a0_2) := (kcl BK444.out 2).trans rfl
      have hcz9_3 : w3.cell? ⟨gb444, 3, none⟩ = some (.string a0_3) := (kcl BK444.out 3).trans rfl
      have hcz9_4 : w3.cell? ⟨gb444, 4, none⟩ = some (.int .i64 a0_4) := (kcl BK444.out 4).trans rfl
      have hfz9_0 := kfr BK444.out 0
      have hfz9_1 := kfr BK444.out 1
      have hfz9_2 := kfr BK444.out 2
      have hfz9_3 := kfr BK444.out 3
      have hfz9_4 := kfr BK444.out 4
      go_wp2
      go_meet
      case rel => exact ⟨_, (true), (by first | rfl | (simp; done) | (simp [*]; done) | exact emp1_ _ | exact (emp1_ _).symm | exact emp2_ _ | exact (emp2_ _).symm), H', ⟨by first | omega | exact Nat.le_refl _⟩, ⟨by (with_reducible repeat (first | refine kdn ?_ _ | refine kdw ?_ | refine kal ?_ _)); exact BK444.out⟩, ⟨by repeat (first | (with_reducible first | exact HB.out | apply bal | apply bdn | apply bd1 | refine bst ?_ GE444.out) | exact HB.out)⟩⟩
    rw [if_neg c8] at H
    have c8b0 : decide (a0_1 < 0) = false := decide_eq_false c8
    clear c8
    have H' := Aside0.mk H
    clear H
    have hcz10_0 : w3.cell? ⟨gb444, 0, none⟩ = some (.int .i64 a0_0) := (kcl BK444.out 0).trans rfl
    have hcz10_1 : w3.cell? ⟨gb444, 1, none⟩ = some (.int .i64 a0_1) := (kcl BK444.out 1).trans rfl
    have hcz10_2 : w3.cell? ⟨gb444, 2, none⟩ = some (.int .i64 a0_2) := (kcl BK444.out 2).trans rfl
    have hcz10_3 : w3.cell? ⟨gb444, 3, none⟩ = some (.string a0_3) := (kcl BK444.out 3).trans rfl
    have hcz10_4 : w3.cell? ⟨gb444, 4, none⟩ = some (.int .i64 a0_4) := (kcl BK444.out 4).trans rfl
    have hfz10_0 := kfr BK444.out 0
    have hfz10_1 := kfr BK444.out 1
    have hfz10_2 := kfr BK444.out 2
    have hfz10_3 := kfr BK444.out 3
    have hfz10_4 := kfr BK444.out 4
    go_wp2
    go_meet
    case rel => exact ⟨_, (decide (a0_1 > 1099511627776)), (by first | rfl | (simp; done) | (simp [*]; done) | exact emp1_ _ | exact (emp1_ _).symm | exact emp2_ _ | exact (emp2_ _).symm), H', ⟨by first | omega | exact Nat.le_refl _⟩, ⟨by (with_reducible repeat (first | refine kdn ?_ _ | refine kdw ?_ | refine kal ?_ _)); exact BK444.out⟩, ⟨by repeat (first | (with_reducible first | exact HB.out | apply bal | apply bdn | apply bd1 | refine bst ?_ GE444.out) | exact HB.out)⟩⟩
  clear HC2
  try clear c2
  try clear p2
  try clear c4
  try clear c4b0
  try clear c6
  try clear c6b0
  try clear c8
  try clear c8b0
  try clear hcz10_0
  try clear hcz10_1
  try clear hcz10_2
  try clear hcz10_3
  try clear hcz10_4
  try clear hcz5_0
  try clear hcz5_1
  try clear hcz5_2
  try clear hcz5_3
  try clear hcz5_4
  try clear hcz7_0
  try clear hcz7_1
  try clear hcz7_2
  try clear hcz7_3
  try clear hcz7_4
  try clear hcz9_0
  try clear hcz9_1
  try clear hcz9_2
  try clear hcz9_3
  try clear hcz9_4
  try clear hfz10_0
  try clear hfz10_1
  try clear hfz10_2
  try clear hfz10_3
  try clear hfz10_4
  try clear hfz5_0
  try clear hfz5_1
  try clear hfz5_2
  try clear hfz5_3
  try clear hfz5_4
  try clear hfz7_0
  try clear hfz7_1
  try clear hfz7_2
  try clear hfz7_3
  try clear hfz7_4
  try clear hfz9_0
  try clear hfz9_1
  try clear hfz9_2
  try clear hfz9_3
  try clear hfz9_4
  obtain ⟨kq, x20_1, rfl, HA, HJ1, BK444, HB⟩ := hcut
  cases kq with
  | zero => exact absurd HA.out (by simp [armoireref24_CheckReply.j0])
  | succ kj1 =>
    have H := HA.out
    clear HA
    simp only [armoireref24_CheckReply.j0] at H
    by_cases c11 : x20_1 = true
    · subst c11
      have H1 : (some 4) = some r := by rw [if_pos rfl] at H; exact H
      clear H
      have H := H1
      clear H1
      obtain rfl := Option.some.inj H
      go_wp2
      go_ret
      exact ⟨by first | rfl | (simp [errW_none, errW_some] <;> rfl) | (simp [*, errW_none, errW_some] <;> rfl), by repeat (first | (with_reducible first | exact HB.out | apply bal | apply bdn | apply bd1 | refine bst ?_ GE444.out) | exact HB.out)⟩
    replace c11 := Bool.eq_false_iff.mpr c11
    subst c11
    have H1 : (if (!(a0_2 == 0) || (!(a0_3.toList == ([] : List UInt8)) || (!(a0_4 == 0)))) = true then ((armoireref12_CheckResult.f kj1 a0_2 a0_3 a0_4).bind fun t445 => (some t445)) else (some 0)) = some r := by rw [if_neg (show ¬ (false = true) by decide)] at H; exact H
    clear H
    have H := H1
    clear H1
    by_cases c12 : (!(a0_2 == 0) || (!(a0_3.toList == ([] : List UInt8)) || (!(a0_4 == 0)))) = true
    rotate_left
    · rw [if_neg c12] at H
      have c12b0 : (!(a0_2 == 0) || (!(a0_3.toList == ([] : List UInt8)) || (!(a0_4 == 0)))) = false := by simpa using c12
      (try (have c12b1 : (!(a0_2 == 0) || (!a0_3.toList.isEmpty || (!(a0_4 == 0)))) = false := by simpa using c12))
      clear c12
      obtain rfl := Option.some.inj H
      have hcz16_0 : wc.cell? ⟨gb444, 0, none⟩ = some (.int .i64 a0_0) := (kcl BK444.out 0).trans rfl
      have hcz16_1 : wc.cell? ⟨gb444, 1, none⟩ = some (.int .i64 a0_1) := (kcl BK444.out 1).trans rfl
      have hcz16_2 : wc.cell? ⟨gb444, 2, none⟩ = some (.int .i64 a0_2) := (kcl BK444.out 2).trans rfl
      have hcz16_3 : wc.cell? ⟨gb444, 3, none⟩ = some (.string a0_3) := (kcl BK444.out 3).trans rfl
      have hcz16_4 : wc.cell? ⟨gb444, 4, none⟩ = some (.int .i64 a0_4) := (kcl BK444.out 4).trans rfl
      have hfz16_0 := kfr BK444.out 0
      have hfz16_1 := kfr BK444.out 1
      have hfz16_2 := kfr BK444.out 2
      have hfz16_3 := kfr BK444.out 3
      have hfz16_4 := kfr BK444.out 4
      go_wp2
      go_ret
      exact ⟨by first | rfl | (simp [errW_none, errW_some] <;> rfl) | (simp [*, errW_none, errW_some] <;> rfl), by repeat (first | (with_reducible first | exact HB.out | apply bal | apply bdn | apply bd1 | refine bst ?_ GE444.out) | exact HB.out)⟩
    rw [if_pos c12] at H
    have c12b0 : (!(a0_2 == 0) || (!(a0_3.toList == ([] : List UInt8)) || (!(a0_4 == 0)))) = true := c12
    (try (have c12b1 : (!(a0_2 == 0) || (!a0_3.toList.isEmpty || (!(a0_4 == 0)))) = true := by simpa using c12))
    clear c12
    replace H := Option.bind_eq_some_iff.mp H
    obtain ⟨t445, A130, H⟩ := H
    replace H : (some t445) = some r := H
    have A13 := Aside0.mk A130
    clear A130
    obtain rfl := Option.some.inj H
    have hcz14_0 : wc.cell? ⟨gb444, 0, none⟩ = some (.int .i64 a0_0) := (kcl BK444.out 0).trans rfl
    have hcz14_1 : wc.cell? ⟨gb444, 1, none⟩ = some (.int .i64 a0_1) := (kcl BK444.out 1).trans rfl
    have hcz14_2 : wc.cell? ⟨gb444, 2, none⟩ = some (.int .i64 a0_2) := (kcl BK444.out 2).trans rfl
    have hcz14_3 : wc.cell? ⟨gb444, 3, none⟩ = some (.string a0_3) := (kcl BK444.out 3).trans rfl
    have hcz14_4 : wc.cell? ⟨gb444, 4, none⟩ = some (.int .i64 a0_4) := (kcl BK444.out 4).trans rfl
    have hfz14_0 := kfr BK444.out 0
    have hfz14_1 := kfr BK444.out 1
    have hfz14_2 := kfr BK444.out 2
    have hfz14_3 := kfr BK444.out 3
    have hfz14_4 := kfr BK444.out 4
    go_wp2_with (first | ((with_reducible refine gcl (f := 56) rfl ?_); refine gl_ (some 27) rfl rfl Try.func56 (by kernel_rfl) rfl #[.agg #[.int .i64 a0_2, .string a0_3, .int .i64 a0_4]] rfl (by (try simp only [List.map_toArray, List.map_cons, List.map_nil]); first | done | rfl | (simp only [List.length_drop, List.length_take]; rfl)) ?_; (with_reducible refine (armoireref12_CheckResult.calls kj1 a0_2 a0_3 a0_4 t445 _ A13.out).mono ?_); rintro e w15 ⟨rfl, hb⟩; refine ⟨_, rfl, ?_⟩; have n0_ := Aside0.mk (kbl (g := gb444) (o := .cells #[.int .i64 a0_0, .int .i64 a0_1, .int .i64 a0_2, .string a0_3, .int .i64 a0_4] 58 (0, 0)) (by (with_reducible repeat (first | refine kdn ?_ _ | refine kdw ?_ | refine kal ?_ _)); exact BK444.out) hb); have n1_ := Aside0.mk (bsp (by repeat (first | (with_reducible first | exact HB.out | apply bal | apply bdn | apply bd1 | refine bst ?_ GE444.out) | exact HB.out)) hb); clear BK444; clear HB; have BK444 := n0_; have HB := n1_; clear n0_ n1_; (try clear hb); (try clear hb2); (try clear hk); (try clear hi)))
    go_ret
    exact ⟨by first | rfl | (simp [errW_none, errW_some] <;> rfl) | (simp [*, errW_none, errW_some] <;> rfl), by repeat (first | (with_reducible first | exact HB.out | apply bal | apply bdn | apply bd1 | refine bst ?_ GE444.out) | exact HB.out)⟩
def armoireref12_TextResult.f (k : Nat) (a0_0 : Int) (a0_1 : ByteArray) (a0_2 : Int) : Option (ByteArray) := (armoireref02_N.f k a0_0).bind fun t447 => ((armoireref02_S.f k a0_1).bind fun t448 => (if t447.size + t448.size ≤ 9223372036854775807 then ((armoireref02_I.f k a0_2).bind fun t449 => (if (t447 ++ t448).size + t449.size ≤ 9223372036854775807 then (some ((t447 ++ t448) ++ t449)) else (none))) else (none)))
def armoireref12_TextResult.T1 : Bool × List (List Nat × List Nat) := (true, [([], []), ([0], [0]), ([1], [1]), ([], []), ([3], [3]), ([4, 2], [4]), ([2, 5], [2, 5]), ([], []), ([7], [7]), ([8, 5], [8]), ([6, 9], [6, 9]), ([10, 9, 0, 1, 2, 3, 4, 5, 6, 7, 8, 9, 10], [10])])
def armoireref12_TextResult.B1 : List Nat := [0, 1, 3, 0, 8, 31, 63, 0, 128, 447, 1023, 2047]
theorem armoireref12_TextResult.tab1 : rtab .any (opsOf Try.f57 1) = armoireref12_TextResult.T1 := by kernel_rfl
theorem armoireref12_TextResult.bits1 : waitsOk armoireref12_TextResult.T1.2 armoireref12_TextResult.B1 = true := by kernel_rfl
set_option maxHeartbeats 2000000 in
set_option maxRecDepth 100000 in
theorem armoireref12_TextResult.calls (k : Nat) (a0_0 : Int) (a0_1 : ByteArray) (a0_2 : Int) (r : ByteArray) (w : World) (h : armoireref12_TextResult.f k a0_0 a0_1 a0_2 = some r) :
    Calls Try.prog 57 #[.agg #[.int .i64 a0_0, .string a0_1, .int .i64 a0_2]] w fun e w' => e = .returned (.string r) ∧ Below w.heap.size w w' := by
  have hu56 := Try.underlying56
  have HB := Aside0.mk (Below.refl w.heap.size w)
  have H : ((armoireref02_N.f k a0_0).bind fun t447 => ((armoireref02_S.f k a0_1).bind fun t448 => (if t447.size + t448.size ≤ 9223372036854775807 then ((armoireref02_I.f k a0_2).bind fun t449 => (if (t447 ++ t448).size + t449.size ≤ 9223372036854775807 then (some ((t447 ++ t448) ++ t449)) else (none))) else (none)))) = some r := h
  clear h
  replace H := Option.bind_eq_some_iff.mp H
  obtain ⟨t447, A20, H⟩ := H
  replace H : ((armoireref02_S.f k a0_1).bind fun t448 => (if t447.size + t448.size ≤ 9223372036854775807 then ((armoireref02_I.f k a0_2).bind fun t449 => (if (t447 ++ t448).size + t449.size ≤ 9223372036854775807 then (some ((t447 ++ t448) ++ t449)) else (none))) else (none))) = some r := H
  have A2 := Aside0.mk A20
  clear A20
  replace H := Option.bind_eq_some_iff.mp H
  obtain ⟨t448, A30, H⟩ := H
  replace H : (if t447.size + t448.size ≤ 9223372036854775807 then ((armoireref02_I.f k a0_2).bind fun t449 => (if (t447 ++ t448).size + t449.size ≤ 9223372036854775807 then (some ((t447 ++ t448) ++ t449)) else (none))) else (none)) = some r := H
  have A3 := Aside0.mk A30
  clear A30
  by_cases c4 : t447.size + t448.size ≤ 9223372036854775807
  rotate_left
  · rw [if_neg c4] at H
    exact absurd H (by simp)
  rw [if_pos c4] at H
  have c4b0 := eq_true c4
  have c4b1 : decide (t447.size + t448.size ≤ 9223372036854775807) = true := decide_eq_true c4
  try have c4b2 : (9223372036854775807 < t447.size + t448.size) = False := eq_false (Nat.not_lt.2 c4)
  replace H := Option.bind_eq_some_iff.mp H
  obtain ⟨t449, A50, H⟩ := H
  replace H : (if (t447 ++ t448).size + t449.size ≤ 9223372036854775807 then (some ((t447 ++ t448) ++ t449)) else (none)) = some r := H
  have A5 := Aside0.mk A50
  clear A50
  by_cases c6 : (t447 ++ t448).size + t449.size ≤ 9223372036854775807
  rotate_left
  · rw [if_neg c6] at H
    exact absurd H (by simp)
  rw [if_pos c6] at H
  have c6b0 := eq_true c6
  have c6b1 : decide ((t447 ++ t448).size + t449.size ≤ 9223372036854775807) = true := decide_eq_true c6
  try have c6b2 : (9223372036854775807 < (t447 ++ t448).size + t449.size) = False := eq_false (Nat.not_lt.2 c6)
  try (have c6b3 := c6b2; simp only [ByteArray.size_append] at c6b3)
  try (have c6b4 := c6; simp only [ByteArray.size_append] at c6b4; have c6b5 := eq_true c6b4)
  obtain rfl := Option.some.inj H
  go_enter Try.func57, Try.ntmps57
  try go_wp2_with (first | ((with_reducible refine gds (N := 1) rfl ?_); refine bev ?hg (N := 1) ?hd (cs := #[.int .i64 a0_0, .string a0_1, .int .i64 a0_2]) (t := 56) ?hr ?_; (case hd => rfl); (case hg => rfl); (case hr => first | (go_simp; done) | (go_simp; rfl)); intro gb446 hg w7 hbox hb; have n0_ := Aside0.mk (bsp (by repeat (first | (with_reducible first | exact HB.out | apply bal | apply bdn | apply bd1) | exact HB.out)) hb); have n1_ := Aside0.mk (hbox); have n2_ := Aside0.mk ((by rw [hg]; exact (bsz (by repeat (first | (with_reducible first | exact HB.out | apply bal | apply bdn | apply bd1) | exact HB.out))) : w.heap.size ≤ gb446)); have n3_ := Aside0.mk ((by rw [hg]; exact (bsz (by repeat (first | (with_reducible first | exact HB.out | apply bal | apply bdn | apply bd1) | exact HB.out))) : w.heap.size ≤ gb446)); clear HB; have HB := n0_; have BK446 := n1_; have GW446 := n2_; have GE446 := n3_; clear n0_ n1_ n2_ n3_; clear hb hbox hg))
  have n0_ := Aside0.mk (kdw BK446.out)
  have n1_ := Aside0.mk (bd1 HB.out)
  clear BK446
  clear HB
  have BK446 := n0_
  have HB := n1_
  clear n0_ n1_
  refine start_ (n := 12) (S := fun w' => w'.cell? ⟨gb446, 0, none⟩ = some (.int .i64 a0_0) ∧ w'.cell? ⟨gb446, 1, none⟩ = some (.string a0_1) ∧ w'.cell? ⟨gb446, 2, none⟩ = some (.int .i64 a0_2)) (ds := []) #[false,false,false,false,false,false,false,false,false,false,false,false] (by kernel_rfl) rfl rfl ⟨(kcl BK446.out 0).trans rfl, (kcl BK446.out 1).trans rfl, (kcl BK446.out 2).trans rfl⟩ (fun hHeld => ?_); refine with_tabW armoireref12_TextResult.tab1 armoireref12_TextResult.bits1 (fun HT_ HW_ => ?_)
  generalize w7.drew = w8 at BK446 HB hHeld ⊢
  refine pure_ (i := 0) (N := some 3) (v := ?_) (a' := ?_) (bA 12 1) rfl rfl (any_of HT_.out (by kernel_rfl)) (fun _ _ _ h => h) (Or.inl ⟨by rfl, ?_⟩) ?_ ?_
  rotate_left; (intro w'; go_simp; with_reducible rfl); rotate_left; (simp only [Act.put, List.setIfInBounds_toArray, List.set_cons_zero, List.set_cons_succ, i64_w, i32_w]; rfl)
  refine pure_ (i := 3) (N := some 6) (v := ?_) (a' := ?_) (bA 12 9) rfl rfl (any_of HT_.out (by kernel_rfl)) (fun _ _ _ h => h) (Or.inl ⟨by rfl, ?_⟩) ?_ ?_
  rotate_left; (intro w'; go_simp; with_reducible rfl); rotate_left; (simp only [Act.put, List.setIfInBounds_toArray, List.set_cons_zero, List.set_cons_succ, i64_w, i32_w]; rfl)
  refine pure_ (i := 7) (N := some 10) (v := ?_) (a' := ?_) (bA 12 137) rfl rfl (any_of HT_.out (by kernel_rfl)) (fun _ _ _ h => h) (Or.inl ⟨by rfl, ?_⟩) ?_ ?_
  rotate_left; (intro w'; go_simp; with_reducible rfl); rotate_left; (simp only [Act.put, List.setIfInBounds_toArray, List.set_cons_zero, List.set_cons_succ, i64_w, i32_w]; rfl)
  refine take_ (i := 1) (N := some 4) (v := ?_) (a' := ?_) #[true,true,false,true,false,false,false,true,false,false,false,false] rfl rfl (tkw HT_.out HW_.out (by kernel_rfl)) (fun _ _ _ h => h) (Or.inl ⟨by rfl, ?_⟩) hHeld ?_ ?_
  rotate_left
  · rintro w' ⟨s0, s1, s2⟩
    go_simp
    with_reducible rfl
  rotate_left; (simp only [Act.put, List.setIfInBounds_toArray, List.set_cons_zero, List.set_cons_succ, i64_w, i32_w]; rfl)
  refine take_ (i := 4) (N := some 7) (v := ?_) (a' := ?_) #[true,true,false,true,true,false,false,true,false,false,false,false] rfl rfl (tkw HT_.out HW_.out (by kernel_rfl)) (fun _ _ _ h => h) (Or.inl ⟨by rfl, ?_⟩) hHeld ?_ ?_
  rotate_left
  · rintro w' ⟨s0, s1, s2⟩
    go_simp
    with_reducible rfl
  rotate_left; (simp only [Act.put, List.setIfInBounds_toArray, List.set_cons_zero, List.set_cons_succ, i64_w, i32_w]; rfl)
  refine take_ (i := 8) (N := some 11) (v := ?_) (a' := ?_) #[true,true,false,true,true,false,false,true,true,false,false,false] rfl rfl (tkw HT_.out HW_.out (by kernel_rfl)) (fun _ _ _ h => h) (Or.inl ⟨by rfl, ?_⟩) hHeld ?_ ?_
  rotate_left
  · rintro w' ⟨s0, s1, s2⟩
    go_simp
    with_reducible rfl
  rotate_left; (simp only [Act.put, List.setIfInBounds_toArray, List.set_cons_zero, List.set_cons_succ, i64_w, i32_w]; rfl)
  refine one_ (i := 2) (N := some 5) #[true,true,true,true,true,false,false,true,true,false,false,false] rfl rfl (one_of HT_.out (by kernel_rfl)) (by decide) (fun K hK => ?_)
  refine goes_ Try.func43 (by kernel_rfl) rfl #[.int .i64 a0_0] (by rfl) rfl rfl (by (try simp only [List.map_toArray, List.map_cons, List.map_nil]); first | done | rfl | (simp only [List.length_drop, List.length_take]; rfl) | (simp only [Act.eval, Array.getD_eq_getD_getElem?, Option.getD_some, *]; done) | (simp only [Array.mk.injEq, List.cons.injEq, Value.int.injEq, true_and, and_true]; first | omega | (simp [IntKind.wrap, IntKind.bits, IntKind.signed]; omega))) ?_
  with_reducible refine (armoireref02_N.calls k a0_0 t447 _ A2.out).mono ?_
  rintro e w9 ⟨rfl, hb⟩
  refine ⟨_, rfl, ?_⟩
  have n0_ := Aside0.mk (kbl (g := gb446) (o := .cells #[.int .i64 a0_0, .string a0_1, .int .i64 a0_2] 56 (0, 0)) (by (with_reducible repeat (first | refine kdn ?_ _ | refine kdw ?_ | refine kal ?_ _)); exact BK446.out) hb)
  have n1_ := Aside0.mk (bsp (by repeat (first | (with_reducible first | exact HB.out | apply bal | apply bdn | apply bd1 | refine bst ?_ GE446.out) | exact HB.out)) hb)
  clear BK446
  clear HB
  have BK446 := n0_
  have HB := n1_
  clear n0_ n1_
  (try clear hb)
  (try clear hb2)
  (try clear hk)
  (try clear hi)
  refine hK.out _ _ ⟨(kcl BK446.out 0).trans rfl, (kcl BK446.out 1).trans rfl, (kcl BK446.out 2).trans rfl⟩ (fun hHeld => ?_)
  clear hK K
  refine norm_ (a' := ?_) ?_ ?_
  rotate_left
  · show Act.put _ (some 5) _ = _
    simp only [Act.put, List.setIfInBounds_toArray, List.set_cons_zero, List.set_cons_succ, i64_w, i32_w]
    rfl
  refine one_ (i := 5) (N := some 8) #[true,true,true,true,true,true,false,true,true,false,false,false] rfl rfl (one_of HT_.out (by kernel_rfl)) (by decide) (fun K hK => ?_)
  refine goes_ Try.func44 (by kernel_rfl) rfl #[.string a0_1] (by rfl) rfl rfl (by (try simp only [List.map_toArray, List.map_cons, List.map_nil]); first | done | rfl | (simp only [List.length_drop, List.length_take]; rfl) | (simp only [Act.eval, Array.getD_eq_getD_getElem?, Option.getD_some, *]; done) | (simp only [Array.mk.injEq, List.cons.injEq, Value.int.injEq, true_and, and_true]; first | omega | (simp [IntKind.wrap, IntKind.bits, IntKind.signed]; omega))) ?_
  with_reducible refine (armoireref02_S.calls k a0_1 t448 _ A3.out).mono ?_
  rintro e w10 ⟨rfl, hb⟩
  refine ⟨_, rfl, ?_⟩
  have n0_ := Aside0.mk (kbl (g := gb446) (o := .cells #[.int .i64 a0_0, .string a0_1, .int .i64 a0_2] 56 (0, 0)) (by (with_reducible repeat (first | refine kdn ?_ _ | refine kdw ?_ | refine kal ?_ _)); exact BK446.out) hb)
  have n1_ := Aside0.mk (bsp (by repeat (first | (with_reducible first | exact HB.out | apply bal | apply bdn | apply bd1 | refine bst ?_ GE446.out) | exact HB.out)) hb)
  clear BK446
  clear HB
  have BK446 := n0_
  have HB := n1_
  clear n0_ n1_
  (try clear hb)
  (try clear hb2)
  (try clear hk)
  (try clear hi)
  refine hK.out _ _ ⟨(kcl BK446.out 0).trans rfl, (kcl BK446.out 1).trans rfl, (kcl BK446.out 2).trans rfl⟩ (fun hHeld => ?_)
  clear hK K
  refine norm_ (a' := ?_) ?_ ?_
  rotate_left
  · show Act.put _ (some 8) _ = _
    simp only [Act.put, List.setIfInBounds_toArray, List.set_cons_zero, List.set_cons_succ, i64_w, i32_w]
    rfl
  refine pure_ (i := 6) (N := some 9) (v := ?_) (a' := ?_) (bA 12 511) rfl rfl (any_of HT_.out (by kernel_rfl)) (fun _ _ _ h => h) (Or.inl ⟨by rfl, ?_⟩) ?_ ?_
  rotate_left; (intro w'; go_simp; with_reducible rfl); rotate_left; (simp only [Act.put, List.setIfInBounds_toArray, List.set_cons_zero, List.set_cons_succ, i64_w, i32_w]; rfl)
  refine one_ (i := 9) (N := some 12) #[true,true,true,true,true,true,true,true,true,true,false,false] rfl rfl (one_of HT_.out (by kernel_rfl)) (by decide) (fun K hK => ?_)
  refine goes_ Try.func70 (by kernel_rfl) rfl #[.int .i64 a0_2] (by rfl) rfl rfl (by (try simp only [List.map_toArray, List.map_cons, List.map_nil]); first | done | rfl | (simp only [List.length_drop, List.length_take]; rfl) | (simp only [Act.eval, Array.getD_eq_getD_getElem?, Option.getD_some, *]; done) | (simp only [Array.mk.injEq, List.cons.injEq, Value.int.injEq, true_and, and_true]; first | omega | (simp [IntKind.wrap, IntKind.bits, IntKind.signed]; omega))) ?_
  with_reducible refine (armoireref02_I.calls k a0_2 t449 _ A5.out).mono ?_
  rintro e w11 ⟨rfl, hb⟩
  refine ⟨_, rfl, ?_⟩
  have n0_ := Aside0.mk (kbl (g := gb446) (o := .cells #[.int .i64 a0_0, .string a0_1, .int .i64 a0_2] 56 (0, 0)) (by (with_reducible repeat (first | refine kdn ?_ _ | refine kdw ?_ | refine kal ?_ _)); exact BK446.out) hb)
  have n1_ := Aside0.mk (bsp (by repeat (first | (with_reducible first | exact HB.out | apply bal | apply bdn | apply bd1 | refine bst ?_ GE446.out) | exact HB.out)) hb)
  clear BK446
  clear HB
  have BK446 := n0_
  have HB := n1_
  clear n0_ n1_
  (try clear hb)
  (try clear hb2)
  (try clear hk)
  (try clear hi)
  refine hK.out _ _ ⟨(kcl BK446.out 0).trans rfl, (kcl BK446.out 1).trans rfl, (kcl BK446.out 2).trans rfl⟩ (fun hHeld => ?_)
  clear hK K
  refine norm_ (a' := ?_) ?_ ?_
  rotate_left
  · show Act.put _ (some 12) _ = _
    simp only [Act.put, List.setIfInBounds_toArray, List.set_cons_zero, List.set_cons_succ, i64_w, i32_w]
    rfl
  refine pure_ (i := 10) (N := some 13) (v := ?_) (a' := ?_) (bA 12 2047) rfl rfl (any_of HT_.out (by kernel_rfl)) (fun _ _ _ h => h) (Or.inl ⟨by rfl, ?_⟩) ?_ ?_
  rotate_left; (intro w'; go_simp; with_reducible rfl); rotate_left; (simp only [Act.put, List.setIfInBounds_toArray, List.set_cons_zero, List.set_cons_succ, i64_w, i32_w]; rfl)
  refine pure_ (i := 11) (N := some 2) (v := ?_) (a' := ?_) (bA 12 4095) rfl rfl (any_of HT_.out (by kernel_rfl)) (fun _ _ _ h => h) (Or.inl ⟨by rfl, ?_⟩) ?_ ?_
  rotate_left; (intro w'; go_simp; with_reducible rfl); rotate_left; (simp only [Act.put, List.setIfInBounds_toArray, List.set_cons_zero, List.set_cons_succ, i64_w, i32_w]; rfl)
  refine done_ (done_of HT_.out (by kernel_rfl)) ?_
  try go_wp2
  go_ret
  exact ⟨by first | rfl | (simp [errW_none, errW_some] <;> rfl) | (simp [*, errW_none, errW_some] <;> rfl), by repeat (first | (with_reducible first | exact HB.out | apply bal | apply bdn | apply bd1 | refine bst ?_ GE446.out) | exact HB.out)⟩
end Go.Proofs.Ytkkkmbgflflcnaa.PA

