import Derived.Test.YtkkkmbgflflcnaaQQxPAx2
import Derived.Test.YtkkkmbgflflcnaaQQxPAx3
import Derived.Test.YtkkkmbgflflcnaaQQxPAx16
namespace Go.Proofs.Ytkkkmbgflflcnaa.PA
open Go.Proofs.Ytkkkmbgflflcnaa.PL
open Go.RowKit Go.Proofs.YtkkkmbgflflcnaaW.PrintWords Go.Proofs.YtkkkmbgflflcnaaW.PrintLast Go.Proofs.YtkkkmbgflflcnaaW.PrintMore
attribute [local go_sem] max2_int min2_int max_two min_two max_three min_three max_four min_four
set_option linter.unusedVariables false
set_option linter.unusedSimpArgs false
attribute [local go_sem high] eqA34
mutual
def armoireref24_Check.j0 : Nat → Bool → Int → Int → ByteArray → Int → ByteArray → ByteArray → Int → Option (Int)
  | 0, _, _, _, _, _, _, _, _ => none
  | k + 1, x10, x289000, x289001, x289002, x289003, x289004, x289005, x289006 => if x10 = true then (some 6) else (if x289000 = 2 then (if x289000 = 4 then (armoireref24_Check.j1 k false x289000 x289001 x289002 x289003 x289004 x289005 x289006) else (if x289000 = 7 then (armoireref24_Check.j1 k false x289000 x289001 x289002 x289003 x289004 x289005 x289006) else (armoireref24_Check.j1 k (x289001 != 0) x289000 x289001 x289002 x289003 x289004 x289005 x289006))) else (if x289002.toList = ([] : List UInt8) then (if (!(x289003 == 0) || (!(x289004.toList == ([] : List UInt8)) || (!(x289005.toList == ([] : List UInt8)) || (!(x289006 == 0))))) = true then (armoireref24_Check.j1 k true x289000 x289001 x289002 x289003 x289004 x289005 x289006) else (if x289000 = 4 then (armoireref24_Check.j1 k false x289000 x289001 x289002 x289003 x289004 x289005 x289006) else (if x289000 = 7 then (armoireref24_Check.j1 k false x289000 x289001 x289002 x289003 x289004 x289005 x289006) else (armoireref24_Check.j1 k (x289001 != 0) x289000 x289001 x289002 x289003 x289004 x289005 x289006)))) else (armoireref24_Check.j1 k true x289000 x289001 x289002 x289003 x289004 x289005 x289006)))
def armoireref24_Check.j1 : Nat → Bool → Int → Int → ByteArray → Int → ByteArray → ByteArray → Int → Option (Int)
  | 0, _, _, _, _, _, _, _, _ => none
  | k + 1, x39, x289000, x289001, x289002, x289003, x289004, x289005, x289006 => if x39 = true then (some 2) else (if (x289002.size : Int) > 16 then (some 3) else (if x289001 < 0 then (armoireref24_Check.j2 k true x289000 x289001 x289002 x289003 x289004 x289005 x289006) else (armoireref24_Check.j2 k (decide (x289001 > 1099511627776)) x289000 x289001 x289002 x289003 x289004 x289005 x289006)))
def armoireref24_Check.j2 : Nat → Bool → Int → Int → ByteArray → Int → ByteArray → ByteArray → Int → Option (Int)
  | 0, _, _, _, _, _, _, _, _ => none
  | k + 1, x51, x289000, x289001, x289002, x289003, x289004, x289005, x289006 => if x51 = true then (some 4) else (if x289000 = 2 then ((armoireref12_Check.f k x289003 x289004 x289005 x289006).bind fun t289 => (some t289)) else (some 0))
end
def armoireref24_Check.f (k : Nat) (a0_0 : Int) (a0_1 : Int) (a0_2 : ByteArray) (a0_3 : Int) (a0_4 : ByteArray) (a0_5 : ByteArray) (a0_6 : Int) : Option (Int) := if a0_0 < 1 then (armoireref24_Check.j0 k true a0_0 a0_1 a0_2 a0_3 a0_4 a0_5 a0_6) else (armoireref24_Check.j0 k (decide (a0_0 > 7)) a0_0 a0_1 a0_2 a0_3 a0_4 a0_5 a0_6)
set_option maxHeartbeats 2000000 in
set_option maxRecDepth 100000 in
theorem armoireref24_Check.calls (k : Nat) (a0_0 : Int) (a0_1 : Int) (a0_2 : ByteArray) (a0_3 : Int) (a0_4 : ByteArray) (a0_5 : ByteArray) (a0_6 : Int) (r : Int) (w : World) (h : armoireref24_Check.f k a0_0 a0_1 a0_2 a0_3 a0_4 a0_5 a0_6 = some r) :
    Calls Try.prog 11 #[.agg #[.int .i64 a0_0, .int .i64 a0_1, .string a0_2, .int .i64 a0_3, .string a0_4, .string a0_5, .int .i64 a0_6]] w fun e w' => e = .returned (.int .i64 r) ∧ Below w.heap.size w w' := by
  have hu36 := Try.underlying36
  have hu34 := Try.underlying34
  have HB := Aside0.mk (Below.refl w.heap.size w)
  have H : (if a0_0 < 1 then (armoireref24_Check.j0 k true a0_0 a0_1 a0_2 a0_3 a0_4 a0_5 a0_6) else (armoireref24_Check.j0 k (decide (a0_0 > 7)) a0_0 a0_1 a0_2 a0_3 a0_4 a0_5 a0_6)) = some r := h
  clear h
  have HC2 := Aside0.mk H
  clear H
  go_enter Try.func11, Try.ntmps11
  go_upto_region 1 with (first | ((with_reducible refine gds (N := 1) rfl ?_); refine bev ?hg (N := 1) ?hd (cs := #[.int .i64 a0_0, .int .i64 a0_1, .string a0_2, .int .i64 a0_3, .string a0_4, .string a0_5, .int .i64 a0_6]) (t := 36) ?hr ?_; (case hd => rfl); (case hg => rfl); (case hr => first | (go_simp; done) | (go_simp; rfl)); intro gb288 hg w3 hbox hb; have n0_ := Aside0.mk (bsp (by repeat (first | (with_reducible first | exact HB.out | apply bal | apply bdn | apply bd1) | exact HB.out)) hb); have n1_ := Aside0.mk (hbox); have n2_ := Aside0.mk ((by rw [hg]; exact (bsz (by repeat (first | (with_reducible first | exact HB.out | apply bal | apply bdn | apply bd1) | exact HB.out))) : w.heap.size ≤ gb288)); have n3_ := Aside0.mk ((by rw [hg]; exact (bsz (by repeat (first | (with_reducible first | exact HB.out | apply bal | apply bdn | apply bd1) | exact HB.out))) : w.heap.size ≤ gb288)); clear HB; have HB := n0_; have BK288 := n1_; have GW288 := n2_; have GE288 := n3_; clear n0_ n1_ n2_ n3_; clear hb hbox hg))
  (try simp only [Act.put, List.setIfInBounds_toArray, List.set_cons_zero, List.set_cons_succ])
  go_cut [10] (fun v10 wc => ∃ (kq : Nat) (x10_1 : Bool), v10 = .bool x10_1 ∧ Aside0 (armoireref24_Check.j0 kq x10_1 a0_0 a0_1 a0_2 a0_3 a0_4 a0_5 a0_6 = some r) ∧ Aside0 (kq ≤ k) ∧ Aside0 (wc.heap[gb288]? = some (.cells #[.int .i64 a0_0, .int .i64 a0_1, .string a0_2, .int .i64 a0_3, .string a0_4, .string a0_5, .int .i64 a0_6] 36 (0, 0))) ∧ Aside0 (Below w.heap.size w wc))
  case first =>
    have H := HC2.out
    clear HC2
    by_cases c4 : a0_0 < 1
    · rw [if_pos c4] at H
      have c4b0 : decide (a0_0 < 1) = true := decide_eq_true c4
      clear c4
      (first | rw [c4b0] | (simp only [i64_w, i32_w]; rw [c4b0]) | skip)
      have H' := Aside0.mk H
      clear H
      have hcz5_0 : w3.cell? ⟨gb288, 0, none⟩ = some (.int .i64 a0_0) := (kcl BK288.out 0).trans rfl
      have hcz5_1 : w3.cell? ⟨gb288, 1, none⟩ = some (.int .i64 a0_1) := (kcl BK288.out 1).trans rfl
      have hcz5_2 : w3.cell? ⟨gb288, 2, none⟩ = some (.string a0_2) := (kcl BK288.out 2).trans rfl
      have hcz5_3 : w3.cell? ⟨gb288, 3, none⟩ = some (.int .i64 a0_3) := (kcl BK288.out 3).trans rfl
      have hcz5_4 : w3.cell? ⟨gb288, 4, none⟩ = some (.string a0_4) := (kcl BK288.out 4).trans rfl
      have hcz5_5 : w3.cell? ⟨gb288, 5, none⟩ = some (.string a0_5) := (kcl BK288.out 5).trans rfl
      have hcz5_6 : w3.cell? ⟨gb288, 6, none⟩ = some (.int .i64 a0_6) := (kcl BK288.out 6).trans rfl
      have hfz5_0 := kfr BK288.out 0
      have hfz5_1 := kfr BK288.out 1
      have hfz5_2 := kfr BK288.out 2
      have hfz5_3 := kfr BK288.out 3
      have hfz5_4 := kfr BK288.out 4
      have hfz5_5 := kfr BK288.out 5
      have hfz5_6 := kfr BK288.out 6
      go_wp2
      go_meet
      case rel => exact ⟨_, (true), (by first | rfl | (simp; done) | (simp [*]; done) | exact emp1_ _ | exact (emp1_ _).symm | exact emp2_ _ | exact (emp2_ _).symm), H', ⟨by first | omega | exact Nat.le_refl _⟩, ⟨by (with_reducible repeat (first | refine kdn ?_ _ | refine kdw ?_ | refine kal ?_ _)); exact BK288.out⟩, ⟨by repeat (first | (with_reducible first | exact HB.out | apply bal | apply bdn | apply bd1 | refine bst ?_ GE288.out) | exact HB.out)⟩⟩
    rw [if_neg c4] at H
    have c4b0 : decide (a0_0 < 1) = false := decide_eq_false c4
    clear c4
    (first | rw [c4b0] | (simp only [i64_w, i32_w]; rw [c4b0]) | skip)
    have H' := Aside0.mk H
    clear H
    have hcz6_0 : w3.cell? ⟨gb288, 0, none⟩ = some (.int .i64 a0_0) := (kcl BK288.out 0).trans rfl
    have hcz6_1 : w3.cell? ⟨gb288, 1, none⟩ = some (.int .i64 a0_1) := (kcl BK288.out 1).trans rfl
    have hcz6_2 : w3.cell? ⟨gb288, 2, none⟩ = some (.string a0_2) := (kcl BK288.out 2).trans rfl
    have hcz6_3 : w3.cell? ⟨gb288, 3, none⟩ = some (.int .i64 a0_3) := (kcl BK288.out 3).trans rfl
    have hcz6_4 : w3.cell? ⟨gb288, 4, none⟩ = some (.string a0_4) := (kcl BK288.out 4).trans rfl
    have hcz6_5 : w3.cell? ⟨gb288, 5, none⟩ = some (.string a0_5) := (kcl BK288.out 5).trans rfl
    have hcz6_6 : w3.cell? ⟨gb288, 6, none⟩ = some (.int .i64 a0_6) := (kcl BK288.out 6).trans rfl
    have hfz6_0 := kfr BK288.out 0
    have hfz6_1 := kfr BK288.out 1
    have hfz6_2 := kfr BK288.out 2
    have hfz6_3 := kfr BK288.out 3
    have hfz6_4 := kfr BK288.out 4
    have hfz6_5 := kfr BK288.out 5
    have hfz6_6 := kfr BK288.out 6
    go_wp2
    go_meet
    case rel => exact ⟨_, (decide (a0_0 > 7)), (by first | rfl | (simp; done) | (simp [*]; done) | exact emp1_ _ | exact (emp1_ _).symm | exact emp2_ _ | exact (emp2_ _).symm), H', ⟨by first | omega | exact Nat.le_refl _⟩, ⟨by (with_reducible repeat (first | refine kdn ?_ _ | refine kdw ?_ | refine kal ?_ _)); exact BK288.out⟩, ⟨by repeat (first | (with_reducible first | exact HB.out | apply bal | apply bdn | apply bd1 | refine bst ?_ GE288.out) | exact HB.out)⟩⟩
  clear HC2
  try clear c1
  try clear p2
  try clear c4
  try clear c4b0
  try clear hcz5_0
  try clear hcz5_1
  try clear hcz5_2
  try clear hcz5_3
  try clear hcz5_4
  try clear hcz5_5
  try clear hcz5_6
  try clear hcz6_0
  try clear hcz6_1
  try clear hcz6_2
  try clear hcz6_3
  try clear hcz6_4
  try clear hcz6_5
  try clear hcz6_6
  try clear hfz5_0
  try clear hfz5_1
  try clear hfz5_2
  try clear hfz5_3
  try clear hfz5_4
  try clear hfz5_5
  try clear hfz5_6
  try clear hfz6_0
  try clear hfz6_1
  try clear hfz6_2
  try clear hfz6_3
  try clear hfz6_4
  try clear hfz6_5
  try clear hfz6_6
  obtain ⟨kq, x10_1, rfl, HA, HJ1, BK288, HB⟩ := hcut
  cases kq with
  | zero => exact absurd HA.out (by simp [armoireref24_Check.j0])
  | succ kj1 =>
    have H := HA.out
    clear HA
    simp only [armoireref24_Check.j0] at H
    by_cases c7 : x10_1 = true
    · subst c7
      have H1 : (some 6) = some r := by rw [if_pos rfl] at H; exact H
      clear H
      have H := H1
      clear H1
      obtain rfl := Option.some.inj H
      go_wp2
      go_ret
      exact ⟨by first | rfl | (simp [errW_none, errW_some] <;> rfl) | (simp [*, errW_none, errW_some] <;> rfl), by repeat (first | (with_reducible first | exact HB.out | apply bal | apply bdn | apply bd1 | refine bst ?_ GE288.out) | exact HB.out)⟩
    replace c7 := Bool.eq_false_iff.mpr c7
    subst c7
    have H1 : (if a0_0 = 2 then (if a0_0 = 4 then (armoireref24_Check.j1 kj1 false a0_0 a0_1 a0_2 a0_3 a0_4 a0_5 a0_6) else (if a0_0 = 7 then (armoireref24_Check.j1 kj1 false a0_0 a0_1 a0_2 a0_3 a0_4 a0_5 a0_6) else (armoireref24_Check.j1 kj1 (a0_1 != 0) a0_0 a0_1 a0_2 a0_3 a0_4 a0_5 a0_6))) else (if a0_2.toList = ([] : List UInt8) then (if (!(a0_3 == 0) || (!(a0_4.toList == ([] : List UInt8)) || (!(a0_5.toList == ([] : List UInt8)) || (!(a0_6 == 0))))) = true then (armoireref24_Check.j1 kj1 true a0_0 a0_1 a0_2 a0_3 a0_4 a0_5 a0_6) else (if a0_0 = 4 then (armoireref24_Check.j1 kj1 false a0_0 a0_1 a0_2 a0_3 a0_4 a0_5 a0_6) else (if a0_0 = 7 then (armoireref24_Check.j1 kj1 false a0_0 a0_1 a0_2 a0_3 a0_4 a0_5 a0_6) else (armoireref24_Check.j1 kj1 (a0_1 != 0) a0_0 a0_1 a0_2 a0_3 a0_4 a0_5 a0_6)))) else (armoireref24_Check.j1 kj1 true a0_0 a0_1 a0_2 a0_3 a0_4 a0_5 a0_6))) = some r := by rw [if_neg (show ¬ (false = true) by decide)] at H; exact H
    clear H
    have H := H1
    clear H1
    have HC8 := Aside0.mk H
    clear H
    go_upto_region 3 with (fail)
    go_cut [39] (fun v39 wc => ∃ (kq : Nat) (x39_7 : Bool), v39 = .bool x39_7 ∧ Aside0 (armoireref24_Check.j1 kq x39_7 a0_0 a0_1 a0_2 a0_3 a0_4 a0_5 a0_6 = some r) ∧ Aside0 (kq ≤ kj1) ∧ Aside0 (wc.heap[gb288]? = some (.cells #[.int .i64 a0_0, .int .i64 a0_1, .string a0_2, .int .i64 a0_3, .string a0_4, .string a0_5, .int .i64 a0_6] 36 (0, 0))) ∧ Aside0 (Below w.heap.size w wc))
    case first =>
      have H := HC8.out
      clear HC8
      by_cases c9 : a0_0 = 2
      · rw [if_pos c9] at H
        have c9b0 : (a0_0 == 2) = true := beq_iff_eq.mpr c9
        have c9b1 : (a0_0 != 2) = false := bne_eq_false_iff_eq.mpr c9
        clear c9
        (first | rw [c9b0] | (simp only [i64_w, i32_w]; rw [c9b0]) | skip)
        by_cases c10 : a0_0 = 4
        · rw [if_pos c10] at H
          have c10b0 : (a0_0 == 4) = true := beq_iff_eq.mpr c10
          have c10b1 : (a0_0 != 4) = false := bne_eq_false_iff_eq.mpr c10
          clear c10
          have H' := Aside0.mk H
          clear H
          have hcz11_0 : wc.cell? ⟨gb288, 0, none⟩ = some (.int .i64 a0_0) := (kcl BK288.out 0).trans rfl
          have hcz11_1 : wc.cell? ⟨gb288, 1, none⟩ = some (.int .i64 a0_1) := (kcl BK288.out 1).trans rfl
          have hcz11_2 : wc.cell? ⟨gb288, 2, none⟩ = some (.string a0_2) := (kcl BK288.out 2).trans rfl
          have hcz11_3 : wc.cell? ⟨gb288, 3, none⟩ = some (.int .i64 a0_3) := (kcl BK288.out 3).trans rfl
          have hcz11_4 : wc.cell? ⟨gb288, 4, none⟩ = some (.string a0_4) := (kcl BK288.out 4).trans rfl
          have hcz11_5 : wc.cell? ⟨gb288, 5, none⟩ = some (.string a0_5) := (kcl BK288.out 5).trans rfl
          have hcz11_6 : wc.cell? ⟨gb288, 6, none⟩ = some (.int .i64 a0_6) := (kcl BK288.out 6).trans rfl
          have hfz11_0 := kfr BK288.out 0
          have hfz11_1 := kfr BK288.out 1
          have hfz11_2 := kfr BK288.out 2
          have hfz11_3 := kfr BK288.out 3
          have hfz11_4 := kfr BK288.out 4
          have hfz11_5 := kfr BK288.out 5
          have hfz11_6 := kfr BK288.out 6
          go_wp2
          go_meet
          case rel => exact ⟨_, (false), (by first | rfl | (simp; done) | (simp [*]; done) | exact emp1_ _ | exact (emp1_ _).symm | exact emp2_ _ | exact (emp2_ _).symm), H', ⟨by have := HJ1.out; first | omega | exact Nat.le_refl _⟩, ⟨by (with_reducible repeat (first | refine kdn ?_ _ | refine kdw ?_ | refine kal ?_ _)); exact BK288.out⟩, ⟨by repeat (first | (with_reducible first | exact HB.out | apply bal | apply bdn | apply bd1 | refine bst ?_ GE288.out) | exact HB.out)⟩⟩
        rw [if_neg c10] at H
        have c10b0 : (a0_0 == 4) = false := beq_eq_false_iff_ne.mpr c10
        have c10b1 : (a0_0 != 4) = true := bne_iff_ne.mpr c10
        by_cases c12 : a0_0 = 7
        rotate_left
        · rw [if_neg c12] at H
          have c12b0 : (a0_0 == 7) = false := beq_eq_false_iff_ne.mpr c12
          have c12b1 : (a0_0 != 7) = true := bne_iff_ne.mpr c12
          have H' := Aside0.mk H
          clear H
          have hcz14_0 : wc.cell? ⟨gb288, 0, none⟩ = some (.int .i64 a0_0) := (kcl BK288.out 0).trans rfl
          have hcz14_1 : wc.cell? ⟨gb288, 1, none⟩ = some (.int .i64 a0_1) := (kcl BK288.out 1).trans rfl
          have hcz14_2 : wc.cell? ⟨gb288, 2, none⟩ = some (.string a0_2) := (kcl BK288.out 2).trans rfl
          have hcz14_3 : wc.cell? ⟨gb288, 3, none⟩ = some (.int .i64 a0_3) := (kcl BK288.out 3).trans rfl
          have hcz14_4 : wc.cell? ⟨gb288, 4, none⟩ = some (.string a0_4) := (kcl BK288.out 4).trans rfl
          have hcz14_5 : wc.cell? ⟨gb288, 5, none⟩ = some (.string a0_5) := (kcl BK288.out 5).trans rfl
          have hcz14_6 : wc.cell? ⟨gb288, 6, none⟩ = some (.int .i64 a0_6) := (kcl BK288.out 6).trans rfl
          have hfz14_0 := kfr BK288.out 0
          have hfz14_1 := kfr BK288.out 1
          have hfz14_2 := kfr BK288.out 2
          have hfz14_3 := kfr BK288.out 3
          have hfz14_4 := kfr BK288.out 4
          have hfz14_5 := kfr BK288.out 5
          have hfz14_6 := kfr BK288.out 6
          go_wp2
          go_meet
          case rel => exact ⟨_, ((a0_1 != 0)), (by first | rfl | (simp; done) | (simp [*]; done) | exact emp1_ _ | exact (emp1_ _).symm | exact emp2_ _ | exact (emp2_ _).symm), H', ⟨by have := HJ1.out; first | omega | exact Nat.le_refl _⟩, ⟨by (with_reducible repeat (first | refine kdn ?_ _ | refine kdw ?_ | refine kal ?_ _)); exact BK288.out⟩, ⟨by repeat (first | (with_reducible first | exact HB.out | apply bal | apply bdn | apply bd1 | refine bst ?_ GE288.out) | exact HB.out)⟩⟩
        rw [if_pos c12] at H
        have c12b0 : (a0_0 == 7) = true := beq_iff_eq.mpr c12
        have c12b1 : (a0_0 != 7) = false := bne_eq_false_iff_eq.mpr c12
        clear c12
        have H' := Aside0.mk H
        clear H
        have hcz13_0 : wc.cell? ⟨gb288, 0, none⟩ = some (.int .i64 a0_0) := (kcl BK288.out 0).trans rfl
        have hcz13_1 : wc.cell? ⟨gb288, 1, none⟩ = some (.int .i64 a0_1) := (kcl BK288.out 1).trans rfl
        have hcz13_2 : wc.cell? ⟨gb288, 2, none⟩ = some (.string a0_2) := (kcl BK288.out 2).trans rfl
        have hcz13_3 : wc.cell? ⟨gb288, 3, none⟩ = some (.int .i64 a0_3) := (kcl BK288.out 3).trans rfl
        have hcz13_4 : wc.cell? ⟨gb288, 4, none⟩ = some (.string a0_4) := (kcl BK288.out 4).trans rfl
        have hcz13_5 : wc.cell? ⟨gb288, 5, none⟩ = some (.string a0_5) := (kcl BK288.out 5).trans rfl
        have hcz13_6 : wc.cell? ⟨gb288, 6, none⟩ = some (.int .i64 a0_6) := (kcl BK288.out 6).trans rfl
        have hfz13_0 := kfr BK288.out 0
        have hfz13_1 := kfr BK288.out 1
        have hfz13_2 := kfr BK288.out 2
        have hfz13_3 := kfr BK288.out 3
        have hfz13_4 := kfr BK288.out 4
        have hfz13_5 := kfr BK288.out 5
        have hfz13_6 := kfr BK288.out 6
        go_wp2
        go_meet
        case rel => exact ⟨_, (false), (by first | rfl | (simp; done) | (simp [*]; done) | exact emp1_ _ | exact (emp1_ _).symm | exact emp2_ _ | exact (emp2_ _).symm), H', ⟨by have := HJ1.out; first | omega | exact Nat.le_refl _⟩, ⟨by (with_reducible repeat (first | refine kdn ?_ _ | refine kdw ?_ | refine kal ?_ _)); exact BK288.out⟩, ⟨by repeat (first | (with_reducible first | exact HB.out | apply bal | apply bdn | apply bd1 | refine bst ?_ GE288.out) | exact HB.out)⟩⟩
      rw [if_neg c9] at H
      have c9b0 : (a0_0 == 2) = false := beq_eq_false_iff_ne.mpr c9
      have c9b1 : (a0_0 != 2) = true := bne_iff_ne.mpr c9
      (first | rw [c9b0] | (simp only [i64_w, i32_w]; rw [c9b0]) | skip)
      by_cases c15 : a0_2.toList = ([] : List UInt8)
      rotate_left
      · rw [if_neg c15] at H
        have c15b0 : (a0_2.toList == ([] : List UInt8)) = false := beq_eq_false_iff_ne.mpr c15
        have c15b1 : (a0_2.toList != ([] : List UInt8)) = true := bne_iff_ne.mpr c15
        have H' := Aside0.mk H
        clear H
        have hcz23_0 : wc.cell? ⟨gb288, 0, none⟩ = some (.int .i64 a0_0) := (kcl BK288.out 0).trans rfl
        have hcz23_1 : wc.cell? ⟨gb288, 1, none⟩ = some (.int .i64 a0_1) := (kcl BK288.out 1).trans rfl
        have hcz23_2 : wc.cell? ⟨gb288, 2, none⟩ = some (.string a0_2) := (kcl BK288.out 2).trans rfl
        have hcz23_3 : wc.cell? ⟨gb288, 3, none⟩ = some (.int .i64 a0_3) := (kcl BK288.out 3).trans rfl
        have hcz23_4 : wc.cell? ⟨gb288, 4, none⟩ = some (.string a0_4) := (kcl BK288.out 4).trans rfl
        have hcz23_5 : wc.cell? ⟨gb288, 5, none⟩ = some (.string a0_5) := (kcl BK288.out 5).trans rfl
        have hcz23_6 : wc.cell? ⟨gb288, 6, none⟩ = some (.int .i64 a0_6) := (kcl BK288.out 6).trans rfl
        have hfz23_0 := kfr BK288.out 0
        have hfz23_1 := kfr BK288.out 1
        have hfz23_2 := kfr BK288.out 2
        have hfz23_3 := kfr BK288.out 3
        have hfz23_4 := kfr BK288.out 4
        have hfz23_5 := kfr BK288.out 5
        have hfz23_6 := kfr BK288.out 6
        go_wp2
        go_meet
        case rel => exact ⟨_, (true), (by first | rfl | (simp; done) | (simp [*]; done) | exact emp1_ _ | exact (emp1_ _).symm | exact emp2_ _ | exact (emp2_ _).symm), H', ⟨by have := HJ1.out; first | omega | exact Nat.le_refl _⟩, ⟨by (with_reducible repeat (first | refine kdn ?_ _ | refine kdw ?_ | refine kal ?_ _)); exact BK288.out⟩, ⟨by repeat (first | (with_reducible first | exact HB.out | apply bal | apply bdn | apply bd1 | refine bst ?_ GE288.out) | exact HB.out)⟩⟩
      rw [if_pos c15] at H
      have c15b0 : (a0_2.toList == ([] : List UInt8)) = true := beq_iff_eq.mpr c15
      have c15b1 : (a0_2.toList != ([] : List UInt8)) = false := bne_eq_false_iff_eq.mpr c15
      clear c15
      by_cases c16 : (!(a0_3 == 0) || (!(a0_4.toList == ([] : List UInt8)) || (!(a0_5.toList == ([] : List UInt8)) || (!(a0_6 == 0))))) = true
      · rw [if_pos c16] at H
        have c16b0 : (!(a0_3 == 0) || (!(a0_4.toList == ([] : List UInt8)) || (!(a0_5.toList == ([] : List UInt8)) || (!(a0_6 == 0))))) = true := c16
        (try (have c16b1 : (!(a0_3 == 0) || (!a0_4.toList.isEmpty || (!a0_5.toList.isEmpty || (!(a0_6 == 0))))) = true := by simpa using c16))
        clear c16
        have H' := Aside0.mk H
        clear H
        have hcz17_0 : wc.cell? ⟨gb288, 0, none⟩ = some (.int .i64 a0_0) := (kcl BK288.out 0).trans rfl
        have hcz17_1 : wc.cell? ⟨gb288, 1, none⟩ = some (.int .i64 a0_1) := (kcl BK288.out 1).trans rfl
        have hcz17_2 : wc.cell? ⟨gb288, 2, none⟩ = some (.string a0_2) := (kcl BK288.out 2).trans rfl
        have hcz17_3 : wc.cell? ⟨gb288, 3, none⟩ = some (.int .i64 a0_3) := (kcl BK288.out 3).trans rfl
        have hcz17_4 : wc.cell? ⟨gb288, 4, none⟩ = some (.string a0_4) := (kcl BK288.out 4).trans rfl
        have hcz17_5 : wc.cell? ⟨gb288, 5, none⟩ = some (.string a0_5) := (kcl BK288.out 5).trans rfl
        have hcz17_6 : wc.cell? ⟨gb288, 6, none⟩ = some (.int .i64 a0_6) := (kcl BK288.out 6).trans rfl
        have hfz17_0 := kfr BK288.out 0
        have hfz17_1 := kfr BK288.out 1
        have hfz17_2 := kfr BK288.out 2
        have hfz17_3 := kfr BK288.out 3
        have hfz17_4 := kfr BK288.out 4
        have hfz17_5 := kfr BK288.out 5
        have hfz17_6 := kfr BK288.out 6
        go_wp2
        go_meet
        case rel => exact ⟨_, (true), (by first | rfl | (simp; done) | (simp [*]; done) | exact emp1_ _ | exact (emp1_ _).symm | exact emp2_ _ | exact (emp2_ _).symm), H', ⟨by have := HJ1.out; first | omega | exact Nat.le_refl _⟩, ⟨by (with_reducible repeat (first | refine kdn ?_ _ | refine kdw ?_ | refine kal ?_ _)); exact BK288.out⟩, ⟨by repeat (first | (with_reducible first | exact HB.out | apply bal | apply bdn | apply bd1 | refine bst ?_ GE288.out) | exact HB.out)⟩⟩
      rw [if_neg c16] at H
      have c16b0 : (!(a0_3 == 0) || (!(a0_4.toList == ([] : List UInt8)) || (!(a0_5.toList == ([] : List UInt8)) || (!(a0_6 == 0))))) = false := by simpa using c16
      (try (have c16b1 : (!(a0_3 == 0) || (!a0_4.toList.isEmpty || (!a0_5.toList.isEmpty || (!(a0_6 == 0))))) = false := by simpa using c16))
      clear c16
      by_cases c18 : a0_0 = 4
      · rw [if_pos c18] at H
        have c18b0 : (a0_0 == 4) = true := beq_iff_eq.mpr c18
        have c18b1 : (a0_0 != 4) = false := bne_eq_false_iff_eq.mpr c18
        clear c18
        have H' := Aside0.mk H
        clear H
        have hcz19_0 : wc.cell? ⟨gb288, 0, none⟩ = some (.int .i64 a0_0) := (kcl BK288.out 0).trans rfl
        have hcz19_1 : wc.cell? ⟨gb288, 1, none⟩ = some (.int .i64 a0_1) := (kcl BK288.out 1).trans rfl
        have hcz19_2 : wc.cell? ⟨gb288, 2, none⟩ = some (.string a0_2) := (kcl BK288.out 2).trans rfl
        have hcz19_3 : wc.cell? ⟨gb288, 3, none⟩ = some (.int .i64 a0_3) := (kcl BK288.out 3).trans rfl
        have hcz19_4 : wc.cell? ⟨gb288, 4, none⟩ = some (.string a0_4) := (kcl BK288.out 4).trans rfl
        have hcz19_5 : wc.cell? ⟨gb288, 5, none⟩ = some (.string a0_5) := (kcl BK288.out 5).trans rfl
        have hcz19_6 : wc.cell? ⟨gb288, 6, none⟩ = some (.int .i64 a0_6) := (kcl BK288.out 6).trans rfl
        have hfz19_0 := kfr BK288.out 0
        have hfz19_1 := kfr BK288.out 1
        have hfz19_2 := kfr BK288.out 2
        have hfz19_3 := kfr BK288.out 3
        have hfz19_4 := kfr BK288.out 4
        have hfz19_5 := kfr BK288.out 5
        have hfz19_6 := kfr BK288.out 6
        go_wp2
        go_meet
        case rel => exact ⟨_, (false), (by first | rfl | (simp; done) | (simp [*]; done) | exact emp1_ _ | exact (emp1_ _).symm | exact emp2_ _ | exact (emp2_ _).symm), H', ⟨by have := HJ1.out; first | omega | exact Nat.le_refl _⟩, ⟨by (with_reducible repeat (first | refine kdn ?_ _ | refine kdw ?_ | refine kal ?_ _)); exact BK288.out⟩, ⟨by repeat (first | (with_reducible first | exact HB.out | apply bal | apply bdn | apply bd1 | refine bst ?_ GE288.out) | exact HB.out)⟩⟩
      rw [if_neg c18] at H
      have c18b0 : (a0_0 == 4) = false := beq_eq_false_iff_ne.mpr c18
      have c18b1 : (a0_0 != 4) = true := bne_iff_ne.mpr c18
      by_cases c20 : a0_0 = 7
      rotate_left
      · rw [if_neg c20] at H
        have c20b0 : (a0_0 == 7) = false := beq_eq_false_iff_ne.mpr c20
        have c20b1 : (a0_0 != 7) = true := bne_iff_ne.mpr c20
        have H' := Aside0.mk H
        clear H
        have hcz22_0 : wc.cell? ⟨gb288, 0, none⟩ = some (.int .i64 a0_0) := (kcl BK288.out 0).trans rfl
        have hcz22_1 : wc.cell? ⟨gb288, 1, none⟩ = some (.int .i64 a0_1) := (kcl BK288.out 1).trans rfl
        have hcz22_2 : wc.cell? ⟨gb288, 2, none⟩ = some (.string a0_2) := (kcl BK288.out 2).trans rfl
        have hcz22_3 : wc.cell? ⟨gb288, 3, none⟩ = some (.int .i64 a0_3) := (kcl BK288.out 3).trans rfl
        have hcz22_4 : wc.cell? ⟨gb288, 4, none⟩ = some (.string a0_4) := (kcl BK288.out 4).trans rfl
        have hcz22_5 : wc.cell? ⟨gb288, 5, none⟩ = some (.string a0_5) := (kcl BK288.out 5).trans rfl
        have hcz22_6 : wc.cell? ⟨gb288, 6, none⟩ = some (.int .i64 a0_6) := (kcl BK288.out 6).trans rfl
        have hfz22_0 := kfr BK288.out 0
        have hfz22_1 := kfr BK288.out 1
        have hfz22_2 := kfr BK288.out 2
        have hfz22_3 := kfr BK288.out 3
        have hfz22_4 := kfr BK288.out 4
        have hfz22_5 := kfr BK288.out 5
        have hfz22_6 := kfr BK288.out 6
        go_wp2
        go_meet
        case rel => exact ⟨_, ((a0_1 != 0)), (by first | rfl | (simp; done) | (simp [*]; done) | exact emp1_ _ | exact (emp1_ _).symm | exact emp2_ _ | exact (emp2_ _).symm), H', ⟨by have := HJ1.out; first | omega | exact Nat.le_refl _⟩, ⟨by (with_reducible repeat (first | refine kdn ?_ _ | refine kdw ?_ | refine kal ?_ _)); exact BK288.out⟩, ⟨by repeat (first | (with_reducible first | exact HB.out | apply bal | apply bdn | apply bd1 | refine bst ?_ GE288.out) | exact HB.out)⟩⟩
      rw [if_pos c20] at H
      have c20b0 : (a0_0 == 7) = true := beq_iff_eq.mpr c20
      have c20b1 : (a0_0 != 7) = false := bne_eq_false_iff_eq.mpr c20
      clear c20
      have H' := Aside0.mk H
      clear H
      have hcz21_0 : wc.cell? ⟨gb288, 0, none⟩ = some (.int .i64 a0_0) := (kcl BK288.out 0).trans rfl
      have hcz21_1 : wc.cell? ⟨gb288, 1, none⟩ = some (.int .i64 a0_1) := (kcl BK288.out 1).trans rfl
      have hcz21_2 : wc.cell? ⟨gb288, 2, none⟩ = some (.string a0_2) := (kcl BK288.out 2).trans rfl
      have hcz21_3 : wc.cell? ⟨gb288, 3, none⟩ = some (.int .i64 a0_3) := (kcl BK288.out 3).trans rfl
      have hcz21_4 : wc.cell? ⟨gb288, 4, none⟩ = some (.string a0_4) := (kcl BK288.out 4).trans rfl
      have hcz21_5 : wc.cell? ⟨gb288, 5, none⟩ = some (.string a0_5) := (kcl BK288.out 5).trans rfl
      have hcz21_6 : wc.cell? ⟨gb288, 6, none⟩ = some (.int .i64 a0_6) := (kcl BK288.out 6).trans rfl
      have hfz21_0 := kfr BK288.out 0
      have hfz21_1 := kfr BK288.out 1
      have hfz21_2 := kfr BK288.out 2
      have hfz21_3 := kfr BK288.out 3
      have hfz21_4 := kfr BK288.out 4
      have hfz21_5 := kfr BK288.out 5
      have hfz21_6 := kfr BK288.out 6
      go_wp2
      go_meet
      case rel => exact ⟨_, (false), (by first | rfl | (simp; done) | (simp [*]; done) | exact emp1_ _ | exact (emp1_ _).symm | exact emp2_ _ | exact (emp2_ _).symm), H', ⟨by have := HJ1.out; first | omega | exact Nat.le_refl _⟩, ⟨by (with_reducible repeat (first | refine kdn ?_ _ | refine kdw ?_ | refine kal ?_ _)); exact BK288.out⟩, ⟨by repeat (first | (with_reducible first | exact HB.out | apply bal | apply bdn | apply bd1 | refine bst ?_ GE288.out) | exact HB.out)⟩⟩
    clear HC8
    try clear c1
    try clear c2
    try clear p2
    try clear c4
    try clear c4b0
    try clear c7
    try clear c9
    try clear c9b0
    try clear c9b1
    try clear c10
    try clear c10b0
    try clear c10b1
    try clear c11
    try clear c12
    try clear c12b0
    try clear c12b1
    try clear c15
    try clear c15b0
    try clear c15b1
    try clear c16
    try clear c16b0
    try clear c16b1
    try clear c18
    try clear c18b0
    try clear c18b1
    try clear c20
    try clear c20b0
    try clear c20b1
    try clear hcz11_0
    try clear hcz11_1
    try clear hcz11_2
    try clear hcz11_3
    try clear hcz11_4
    try clear hcz11_5
    try clear hcz11_6
    try clear hcz13_0
    try clear hcz13_1
    try clear hcz13_2
    try clear hcz13_3
    try clear hcz13_4
    try clear hcz13_5
    try clear hcz13_6
    try clear hcz14_0
    try clear hcz14_1
    try clear hcz14_2
    try clear hcz14_3
    try clear hcz14_4
    try clear hcz14_5
    try clear hcz14_6
    try clear hcz17_0
    try clear hcz17_1
    try clear hcz17_2
    try clear hcz17_3
    try clear hcz17_4
    try clear hcz17_5
    try clear hcz17_6
    try clear hcz19_0
    try clear hcz19_1
    try clear hcz19_2
    try clear hcz19_3
    try clear hcz19_4
    try clear hcz19_5
    try clear hcz19_6
    try clear hcz21_0
    try clear hcz21_1
    try clear hcz21_2
    try clear hcz21_3
    try clear hcz21_4
    try clear hcz21_5
    try clear hcz21_6
    try clear hcz22_0
    try clear hcz22_1
    try clear hcz22_2
    try clear hcz22_3
    try clear hcz22_4
    try clear hcz22_5
    try clear hcz22_6
    try clear hcz23_0
    try clear hcz23_1
    try clear hcz23_2
    try clear hcz23_3
    try clear hcz23_4
    try clear hcz23_5
    try clear hcz23_6
    try clear hcz5_0
    try clear hcz5_1
    try clear hcz5_2
    try clear hcz5_3
    try clear hcz5_4
    try clear hcz5_5
    try clear hcz5_6
    try clear hcz6_0
    try clear hcz6_1
    try clear hcz6_2
    try clear hcz6_3
    try clear hcz6_4
    try clear hcz6_5
    try clear hcz6_6
    try clear hfz11_0
    try clear hfz11_1
    try clear hfz11_2
    try clear hfz11_3
    try clear hfz11_4
    try clear hfz11_5
    try clear hfz11_6
    try clear hfz13_0
    try clear hfz13_1
    try clear hfz13_2
    try clear hfz13_3
    try clear hfz13_4
    try clear hfz13_5
    try clear hfz13_6
    try clear hfz14_0
    try clear hfz14_1
    try clear hfz14_2
    try clear hfz14_3
    try clear hfz14_4
    try clear hfz14_5
    try clear hfz14_6
    try clear hfz17_0
    try clear hfz17_1
    try clear hfz17_2
    try clear hfz17_3
    try clear hfz17_4
    try clear hfz17_5
    try clear hfz17_6
    try clear hfz19_0
    try clear hfz19_1
    try clear hfz19_2
    try clear hfz19_3
    try clear hfz19_4
    try clear hfz19_5
    try clear hfz19_6
    try clear hfz21_0
    try clear hfz21_1
    try clear hfz21_2
    try clear hfz21_3
    try clear hfz21_4
    try clear hfz21_5
    try clear hfz21_6
    try clear hfz22_0
    try clear hfz22_1
    try clear hfz22_2
    try clear hfz22_3
    try clear hfz22_4
    try clear hfz22_5
    try clear hfz22_6
    try clear hfz23_0
    try clear hfz23_1
    try clear hfz23_2
    try clear hfz23_3
    try clear hfz23_4
    try clear hfz23_5
    try clear hfz23_6
    try clear hfz5_0
    try clear hfz5_1
    try clear hfz5_2
    try clear hfz5_3
    try clear hfz5_4
    try clear hfz5_5
    try clear hfz5_6
    try clear hfz6_0
    try clear hfz6_1
    try clear hfz6_2
    try clear hfz6_3
    try clear hfz6_4
    try clear hfz6_5
    try clear hfz6_6
    try clear p2
    obtain ⟨kq, x39_7, rfl, HA, HJ7, BK288, HB⟩ := hcut
    cases kq with
    | zero => exact absurd HA.out (by simp [armoireref24_Check.j1])
    | succ kj7 =>
      have H := HA.out
      clear HA
      simp only [armoireref24_Check.j1] at H
      by_cases c24 : x39_7 = true
      · subst c24
        have H1 : (some 2) = some r := by rw [if_pos rfl] at H; exact H
        clear H
        have H := H1
        clear H1
        obtain rfl := Option.some.inj H
        go_wp2
        go_ret
        exact ⟨by first | rfl | (simp [errW_none, errW_some] <;> rfl) | (simp [*, errW_none, errW_some] <;> rfl), by repeat (first | (with_reducible first | exact HB.out | apply bal | apply bdn | apply bd1 | refine bst ?_ GE288.out) | exact HB.out)⟩
      replace c24 := Bool.eq_false_iff.mpr c24
      subst c24
      have H1 : (if (a0_2.size : Int) > 16 then (some 3) else (if a0_1 < 0 then (armoireref24_Check.j2 kj7 true a0_0 a0_1 a0_2 a0_3 a0_4 a0_5 a0_6) else (armoireref24_Check.j2 kj7 (decide (a0_1 > 1099511627776)) a0_0 a0_1 a0_2 a0_3 a0_4 a0_5 a0_6))) = some r := by rw [if_neg (show ¬ (false = true) by decide)] at H; exact H
      clear H
      have H := H1
      clear H1
      by_cases c25 : (a0_2.size : Int) > 16
      · rw [if_pos c25] at H
        have c25b0 : decide (16 < (a0_2.size : Int)) = true := decide_eq_true c25
        have c25b1 : decide (16 < a0_2.size) = true := decide_eq_true (by omega)
        clear c25
        obtain rfl := Option.some.inj H
        have hcz26_0 : wc.cell? ⟨gb288, 0, none⟩ = some (.int .i64 a0_0) := (kcl BK288.out 0).trans rfl
        have hcz26_1 : wc.cell? ⟨gb288, 1, none⟩ = some (.int .i64 a0_1) := (kcl BK288.out 1).trans rfl
        have hcz26_2 : wc.cell? ⟨gb288, 2, none⟩ = some (.string a0_2) := (kcl BK288.out 2).trans rfl
        have hcz26_3 : wc.cell? ⟨gb288, 3, none⟩ = some (.int .i64 a0_3) := (kcl BK288.out 3).trans rfl
        have hcz26_4 : wc.cell? ⟨gb288, 4, none⟩ = some (.string a0_4) := (kcl BK288.out 4).trans rfl
        have hcz26_5 : wc.cell? ⟨gb288, 5, none⟩ = some (.string a0_5) := (kcl BK288.out 5).trans rfl
        have hcz26_6 : wc.cell? ⟨gb288, 6, none⟩ = some (.int .i64 a0_6) := (kcl BK288.out 6).trans rfl
        have hfz26_0 := kfr BK288.out 0
        have hfz26_1 := kfr BK288.out 1
        have hfz26_2 := kfr BK288.out 2
        have hfz26_3 := kfr BK288.out 3
        have hfz26_4 := kfr BK288.out 4
        have hfz26_5 := kfr BK288.out 5
        have hfz26_6 := kfr BK288.out 6
        go_wp2
        go_ret
        exact ⟨by first | rfl | (simp [errW_none, errW_some] <;> rfl) | (simp [*, errW_none, errW_some] <;> rfl), by repeat (first | (with_reducible first | exact HB.out | apply bal | apply bdn | apply bd1 | refine bst ?_ GE288.out) | exact HB.out)⟩
      rw [if_neg c25] at H
      have c25b0 : decide (16 < (a0_2.size : Int)) = false := decide_eq_false c25
      have c25b1 : decide (16 < a0_2.size) = false := decide_eq_false (by omega)
      clear c25
      have HC27 := Aside0.mk H
      clear H
      have hcz28_0 : wc.cell? ⟨gb288, 0, none⟩ = some (.int .i64 a0_0) := (kcl BK288.out 0).trans rfl
      have hcz28_1 : wc.cell? ⟨gb288, 1, none⟩ = some (.int .i64 a0_1) := (kcl BK288.out 1).trans rfl
      have hcz28_2 : wc.cell? ⟨gb288, 2, none⟩ = some (.string a0_2) := (kcl BK288.out 2).trans rfl
      have hcz28_3 : wc.cell? ⟨gb288, 3, none⟩ = some (.int .i64 a0_3) := (kcl BK288.out 3).trans rfl
      have hcz28_4 : wc.cell? ⟨gb288, 4, none⟩ = some (.string a0_4) := (kcl BK288.out 4).trans rfl
      have hcz28_5 : wc.cell? ⟨gb288, 5, none⟩ = some (.string a0_5) := (kcl BK288.out 5).trans rfl
      have hcz28_6 : wc.cell? ⟨gb288, 6, none⟩ = some (.int .i64 a0_6) := (kcl BK288.out 6).trans rfl
      have hfz28_0 := kfr BK288.out 0
      have hfz28_1 := kfr BK288.out 1
      have hfz28_2 := kfr BK288.out 2
      have hfz28_3 := kfr BK288.out 3
      have hfz28_4 := kfr BK288.out 4
      have hfz28_5 := kfr BK288.out 5
      have hfz28_6 := kfr BK288.out 6
      go_upto_region 7 with (fail)
      go_cut [51] (fun v51 wc => ∃ (kq : Nat) (x51_26 : Bool), v51 = .bool x51_26 ∧ Aside0 (armoireref24_Check.j2 kq x51_26 a0_0 a0_1 a0_2 a0_3 a0_4 a0_5 a0_6 = some r) ∧ Aside0 (kq ≤ kj7) ∧ Aside0 (wc.heap[gb288]? = some (.cells #[.int .i64 a0_0, .int .i64 a0_1, .string a0_2, .int .i64 a0_3, .string a0_4, .string a0_5, .int .i64 a0_6] 36 (0, 0))) ∧ Aside0 (Below w.heap.size w wc))
      case first =>
        have H := HC27.out
        clear HC27
        by_cases c29 : a0_1 < 0
        · rw [if_pos c29] at H
          have c29b0 : decide (a0_1 < 0) = true := decide_eq_true c29
          clear c29
          (first | rw [c29b0] | (simp only [i64_w, i32_w]; rw [c29b0]) | skip)
          have H' := Aside0.mk H
          clear H
          have hcz30_0 : wc.cell? ⟨gb288, 0, none⟩ = some (.int .i64 a0_0) := (kcl BK288.out 0).trans rfl
          have hcz30_1 : wc.cell? ⟨gb288, 1, none⟩ = some (.int .i64 a0_1) := (kcl BK288.out 1).trans rfl
          have hcz30_2 : wc.cell? ⟨gb288, 2, none⟩ = some (.string a0_2) := (kcl BK288.out 2).trans rfl
          have hcz30_3 : wc.cell? ⟨gb288, 3, none⟩ = some (.int .i64 a0_3) := (kcl BK288.out 3).trans rfl
          have hcz30_4 : wc.cell? ⟨gb288, 4, none⟩ = some (.string a0_4) := (kcl BK288.out 4).trans rfl
          have hcz30_5 : wc.cell? ⟨gb288, 5, none⟩ = some (.string a0_5) := (kcl BK288.out 5).trans rfl
          have hcz30_6 : wc.cell? ⟨gb288, 6, none⟩ = some (.int .i64 a0_6) := (kcl BK288.out 6).trans rfl
          have hfz30_0 := kfr BK288.out 0
          have hfz30_1 := kfr BK288.out 1
          have hfz30_2 := kfr BK288.out 2
          have hfz30_3 := kfr BK288.out 3
          have hfz30_4 := kfr BK288.out 4
          have hfz30_5 := kfr BK288.out 5
          have hfz30_6 := kfr BK288.out 6
          go_wp2
          go_meet
          case rel => exact ⟨_, (true), (by first | rfl | (simp; done) | (simp [*]; done) | exact emp1_ _ | exact (emp1_ _).symm | exact emp2_ _ | exact (emp2_ _).symm), H', ⟨by have := HJ1.out; have := HJ7.out; first | omega | exact Nat.le_refl _⟩, ⟨by (with_reducible repeat (first | refine kdn ?_ _ | refine kdw ?_ | refine kal ?_ _)); exact BK288.out⟩, ⟨by repeat (first | (with_reducible first | exact HB.out | apply bal | apply bdn | apply bd1 | refine bst ?_ GE288.out) | exact HB.out)⟩⟩
        rw [if_neg c29] at H
        have c29b0 : decide (a0_1 < 0) = false := decide_eq_false c29
        clear c29
        (first | rw [c29b0] | (simp only [i64_w, i32_w]; rw [c29b0]) | skip)
        have H' := Aside0.mk H
        clear H
        have hcz31_0 : wc.cell? ⟨gb288, 0, none⟩ = some (.int .i64 a0_0) := (kcl BK288.out 0).trans rfl
        have hcz31_1 : wc.cell? ⟨gb288, 1, none⟩ = some (.int .i64 a0_1) := (kcl BK288.out 1).trans rfl
        have hcz31_2 : wc.cell? ⟨gb288, 2, none⟩ = some (.string a0_2) := (kcl BK288.out 2).trans rfl
        have hcz31_3 : wc.cell? ⟨gb288, 3, none⟩ = some (.int .i64 a0_3) := (kcl BK288.out 3).trans rfl
        have hcz31_4 : wc.cell? ⟨gb288, 4, none⟩ = some (.string a0_4) := (kcl BK288.out 4).trans rfl
        have hcz31_5 : wc.cell? ⟨gb288, 5, none⟩ = some (.string a0_5) := (kcl BK288.out 5).trans rfl
        have hcz31_6 : wc.cell? ⟨gb288, 6, none⟩ = some (.int .i64 a0_6) := (kcl BK288.out 6).trans rfl
        have hfz31_0 := kfr BK288.out 0
        have hfz31_1 := kfr BK288.out 1
        have hfz31_2 := kfr BK288.out 2
        have hfz31_3 := kfr BK288.out 3
        have hfz31_4 := kfr BK288.out 4
        have hfz31_5 := kfr BK288.out 5
        have hfz31_6 := kfr BK288.out 6
        go_wp2
        go_meet
        case rel => exact ⟨_, (decide (a0_1 > 1099511627776)), (by first | rfl | (simp; done) | (simp [*]; done) | exact emp1_ _ | exact (emp1_ _).symm | exact emp2_ _ | exact (emp2_ _).symm), H', ⟨by have := HJ1.out; have := HJ7.out; first | omega | exact Nat.le_refl _⟩, ⟨by (with_reducible repeat (first | refine kdn ?_ _ | refine kdw ?_ | refine kal ?_ _)); exact BK288.out⟩, ⟨by repeat (first | (with_reducible first | exact HB.out | apply bal | apply bdn | apply bd1 | refine bst ?_ GE288.out) | exact HB.out)⟩⟩
      clear HC27
      try clear c1
      try clear c2
      try clear p2
      try clear c4
      try clear c4b0
      try clear c7
      try clear c9
      try clear c9b0
      try clear c9b1
      try clear c10
      try clear c10b0
      try clear c10b1
      try clear c11
      try clear c12
      try clear c12b0
      try clear c12b1
      try clear c15
      try clear c15b0
      try clear c15b1
      try clear c16
      try clear c16b0
      try clear c16b1
      try clear c18
      try clear c18b0
      try clear c18b1
      try clear c20
      try clear c20b0
      try clear c20b1
      try clear c24
      try clear c25
      try clear c25b0
      try clear c25b1
      try clear c29
      try clear c29b0
      try clear hcz11_0
      try clear hcz11_1
      try clear hcz11_2
      try clear hcz11_3
      try clear hcz11_4
      try clear hcz11_5
      try clear hcz11_6
      try clear hcz13_0
      try clear hcz13_1
      try clear hcz13_2
      try clear hcz13_3
      try clear hcz13_4
      try clear hcz13_5
      try clear hcz13_6
      try clear hcz14_0
      try clear hcz14_1
      try clear hcz14_2
      try clear hcz14_3
      try clear hcz14_4
      try clear hcz14_5
      try clear hcz14_6
      try clear hcz17_0
      try clear hcz17_1
      try clear hcz17_2
      try clear hcz17_3
      try clear hcz17_4
      try clear hcz17_5
      try clear hcz17_6
      try clear hcz19_0
      try clear hcz19_1
      try clear hcz19_2
      try clear hcz19_3
      try clear hcz19_4
      try clear hcz19_5
      try clear hcz19_6
      try clear hcz21_0
      try clear hcz21_1
      try clear hcz21_2
      try clear hcz21_3
      try clear hcz21_4
      try clear hcz21_5
      try clear hcz21_6
      try clear hcz22_0
      try clear hcz22_1
      try clear hcz22_2
      try clear hcz22_3
      try clear hcz22_4
      try clear hcz22_5
      try clear hcz22_6
      try clear hcz23_0
      try clear hcz23_1
      try clear hcz23_2
      try clear hcz23_3
      try clear hcz23_4
      try clear hcz23_5
      try clear hcz23_6
      try clear hcz26_0
      try clear hcz26_1
      try clear hcz26_2
      try clear hcz26_3
      try clear hcz26_4
      try clear hcz26_5
      try clear hcz26_6
      try clear hcz28_0
      try clear hcz28_1
      try clear hcz28_2
      try clear hcz28_3
      try clear hcz28_4
      try clear hcz28_5
      try clear hcz28_6
      try clear hcz30_0
      try clear hcz30_1
      try clear hcz30_2
      try clear hcz30_3
      try clear hcz30_4
      try clear hcz30_5
      try clear hcz30_6
      try clear hcz31_0
      try clear hcz31_1
      try clear hcz31_2
      try clear hcz31_3
      try clear hcz31_4
      try clear hcz31_5
      try clear hcz31_6
      try clear hcz5_0
      try clear hcz5_1
      try clear hcz5_2
      try clear hcz5_3
      try clear hcz5_4
      try clear hcz5_5
      try clear hcz5_6
      try clear hcz6_0
      try clear hcz6_1
      try clear hcz6_2
      try clear hcz6_3
      try clear hcz6_4
      try clear hcz6_5
      try clear hcz6_6
      try clear hfz11_0
      try clear hfz11_1
      try clear hfz11_2
      try clear hfz11_3
      try clear hfz11_4
      try clear hfz11_5
      try clear hfz11_6
      try clear hfz13_0
      try clear hfz13_1
      try clear hfz13_2
      try clear hfz13_3
      try clear hfz13_4
      try clear hfz13_5
      try clear hfz13_6
      try clear hfz14_0
      try clear hfz14_1
      try clear hfz14_2
      try clear hfz14_3
      try clear hfz14_4
      try clear hfz14_5
      try clear hfz14_6
      try clear hfz17_0
      try clear hfz17_1
      try clear hfz17_2
      try clear hfz17_3
      try clear hfz17_4
      try clear hfz17_5
      try clear hfz17_6
      try clear hfz19_0
      try clear hfz19_1
      try clear hfz19_2
      try clear hfz19_3
      try clear hfz19_4
      try clear hfz19_5
      try clear hfz19_6
      try clear hfz21_0
      try clear hfz21_1
      try clear hfz21_2
      try clear hfz21_3
      try clear hfz21_4
      try clear hfz21_5
      try clear hfz21_6
      try clear hfz22_0
      try clear hfz22_1
      try clear hfz22_2
      try clear hfz22_3
      try clear hfz22_4
      try clear hfz22_5
      try clear hfz22_6
      try clear hfz23_0
      try clear hfz23_1
      try clear hfz23_2
      try clear hfz23_3
      try clear hfz23_4
      try clear hfz23_5
      try clear hfz23_6
      try clear hfz26_0
      try clear hfz26_1
      try clear hfz26_2
      try clear hfz26_3
      try clear hfz26_4
      try clear hfz26_5
      try clear hfz26_6
      try clear hfz28_0
      try clear hfz28_1
      try clear hfz28_2
      try clear hfz28_3
      try clear hfz28_4
      try clear hfz28_5
      try clear hfz28_6
      try clear hfz30_0
      try clear hfz30_1
      try clear hfz30_2
      try clear hfz30_3
      try clear hfz30_4
      try clear hfz30_5
      try clear hfz30_6
      try clear hfz31_0
      try clear hfz31_1
      try clear hfz31_2
      try clear hfz31_3
      try clear hfz31_4
      try clear hfz31_5
      try clear hfz31_6
      try clear hfz5_0
      try clear hfz5_1
      try clear hfz5_2
      try clear hfz5_3
      try clear hfz5_4
      try clear hfz5_5
      try clear hfz5_6
      try clear hfz6_0
      try clear hfz6_1
      try clear hfz6_2
      try clear hfz6_3
      try clear hfz6_4
      try clear hfz6_5
      try clear hfz6_6
      try clear p2
      obtain ⟨kq, x51_26, rfl, HA, HJ26, BK288, HB⟩ := hcut
      cases kq with
      | zero => exact absurd HA.out (by simp [armoireref24_Check.j2])
      | succ kj26 =>
        have H := HA.out
        clear HA
        simp only [armoireref24_Check.j2] at H
        by_cases c32 : x51_26 = true
        · subst c32
          have H1 : (some 4) = some r := by rw [if_pos rfl] at H; exact H
          clear H
          have H := H1
          clear H1
          obtain rfl := Option.some.inj H
          go_wp2
          go_ret
          exact ⟨by first | rfl | (simp [errW_none, errW_some] <;> rfl) | (simp [*, errW_none, errW_some] <;> rfl), by repeat (first | (with_reducible first | exact HB.out | apply bal | apply bdn | apply bd1 | refine bst ?_ GE288.out) | exact HB.out)⟩
        replace c32 := Bool.eq_false_iff.mpr c32
        subst c32
        have H1 : (if a0_0 = 2 then ((armoireref12_Check.f kj26 a0_3 a0_4 a0_5 a0_6).bind fun t289 => (some t289)) else (some 0)) = some r := by rw [if_neg (show ¬ (false = true) by decide)] at H; exact H
        clear H
        have H := H1
        clear H1
        by_cases c33 : a0_0 = 2
        rotate_left
        · rw [if_neg c33] at H
          have c33b0 : (a0_0 == 2) = false := beq_eq_false_iff_ne.mpr c33
          have c33b1 : (a0_0 != 2) = true := bne_iff_ne.mpr c33
          obtain rfl := Option.some.inj H
          have hcz37_0 : wc.cell? ⟨gb288, 0, none⟩ = some (.int .i64 a0_0) := (kcl BK288.out 0).trans rfl
          have hcz37_1 : wc.cell? ⟨gb288, 1, none⟩ = some (.int .i64 a0_1) := (kcl BK288.out 1).trans rfl
          have hcz37_2 : wc.cell? ⟨gb288, 2, none⟩ = some (.string a0_2) := (kcl BK288.out 2).trans rfl
          have hcz37_3 : wc.cell? ⟨gb288, 3, none⟩ = some (.int .i64 a0_3) := (kcl BK288.out 3).trans rfl
          have hcz37_4 : wc.cell? ⟨gb288, 4, none⟩ = some (.string a0_4) := (kcl BK288.out 4).trans rfl
          have hcz37_5 : wc.cell? ⟨gb288, 5, none⟩ = some (.string a0_5) := (kcl BK288.out 5).trans rfl
          have hcz37_6 : wc.cell? ⟨gb288, 6, none⟩ = some (.int .i64 a0_6) := (kcl BK288.out 6).trans rfl
          have hfz37_0 := kfr BK288.out 0
          have hfz37_1 := kfr BK288.out 1
          have hfz37_2 := kfr BK288.out 2
          have hfz37_3 := kfr BK288.out 3
          have hfz37_4 := kfr BK288.out 4
          have hfz37_5 := kfr BK288.out 5
          have hfz37_6 := kfr BK288.out 6
          go_wp2
          go_ret
          exact ⟨by first | rfl | (simp [errW_none, errW_some] <;> rfl) | (simp [*, errW_none, errW_some] <;> rfl), by repeat (first | (with_reducible first | exact HB.out | apply bal | apply bdn | apply bd1 | refine bst ?_ GE288.out) | exact HB.out)⟩
        rw [if_pos c33] at H
        have c33b0 : (a0_0 == 2) = true := beq_iff_eq.mpr c33
        have c33b1 : (a0_0 != 2) = false := bne_eq_false_iff_eq.mpr c33
        clear c33
        replace H := Option.bind_eq_some_iff.mp H
        obtain ⟨t289, A340, H⟩ := H
        replace H : (some t289) = some r := H
        have A34 := Aside0.mk A340
        clear A340
        obtain rfl := Option.some.inj H
        have hcz35_0 : wc.cell? ⟨gb288, 0, none⟩ = some (.int .i64 a0_0) := (kcl BK288.out 0).trans rfl
        have hcz35_1 : wc.cell? ⟨gb288, 1, none⟩ = some (.int .i64 a0_1) := (kcl BK288.out 1).trans rfl
        have hcz35_2 : wc.cell? ⟨gb288, 2, none⟩ = some (.string a0_2) := (kcl BK288.out 2).trans rfl
        have hcz35_3 : wc.cell? ⟨gb288, 3, none⟩ = some (.int .i64 a0_3) := (kcl BK288.out 3).trans rfl
        have hcz35_4 : wc.cell? ⟨gb288, 4, none⟩ = some (.string a0_4) := (kcl BK288.out 4).trans rfl
        have hcz35_5 : wc.cell? ⟨gb288, 5, none⟩ = some (.string a0_5) := (kcl BK288.out 5).trans rfl
        have hcz35_6 : wc.cell? ⟨gb288, 6, none⟩ = some (.int .i64 a0_6) := (kcl BK288.out 6).trans rfl
        have hfz35_0 := kfr BK288.out 0
        have hfz35_1 := kfr BK288.out 1
        have hfz35_2 := kfr BK288.out 2
        have hfz35_3 := kfr BK288.out 3
        have hfz35_4 := kfr BK288.out 4
        have hfz35_5 := kfr BK288.out 5
        have hfz35_6 := kfr BK288.out 6
        go_wp2_with (first | ((with_reducible refine gcl (f := 29) rfl ?_); refine gl_ (some 57) rfl rfl Try.func29 (by kernel_rfl) rfl #[.agg #[.int .i64 a0_3, .string a0_4, .string a0_5, .int .i64 a0_6]] rfl (by (try simp only [List.map_toArray, List.map_cons, List.map_nil]); first | done | rfl | (simp only [List.length_drop, List.length_take]; rfl)) ?_; (with_reducible refine (armoireref12_Check.calls kj26 a0_3 a0_4 a0_5 a0_6 t289 _ A34.out).mono ?_); rintro e w36 ⟨rfl, hb⟩; refine ⟨_, rfl, ?_⟩; have n0_ := Aside0.mk (kbl (g := gb288) (o := .cells #[.int .i64 a0_0, .int .i64 a0_1, .string a0_2, .int .i64 a0_3, .string a0_4, .string a0_5, .int .i64 a0_6] 36 (0, 0)) (by (with_reducible repeat (first | refine kdn ?_ _ | refine kdw ?_ | refine kal ?_ _)); exact BK288.out) hb); have n1_ := Aside0.mk (bsp (by repeat (first | (with_reducible first | exact HB.out | apply bal | apply bdn | apply bd1 | refine bst ?_ GE288.out) | exact HB.out)) hb); clear BK288; clear HB; have BK288 := n0_; have HB := n1_; clear n0_ n1_; (try clear hb); (try clear hb2); (try clear hk); (try clear hi)))
        go_ret
        exact ⟨by first | rfl | (simp [errW_none, errW_some] <;> rfl) | (simp [*, errW_none, errW_some] <;> rfl), by repeat (first | (with_reducible first | exact HB.out | apply bal | apply bdn | apply bd1 | refine bst ?_ GE288.out) | exact HB.out)⟩
end Go.Proofs.Ytkkkmbgflflcnaa.PA

