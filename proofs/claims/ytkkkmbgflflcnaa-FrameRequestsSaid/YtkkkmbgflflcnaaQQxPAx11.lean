import Derived.Test.YtkkkmbgflflcnaaQQxPAx2
import Derived.Test.YtkkkmbgflflcnaaQQxPAx10
namespace Go.Proofs.Ytkkkmbgflflcnaa.PA
open Go.Proofs.Ytkkkmbgflflcnaa.PL
open Go.RowKit Go.Proofs.YtkkkmbgflflcnaaW.PrintWords Go.Proofs.YtkkkmbgflflcnaaW.PrintLast Go.Proofs.YtkkkmbgflflcnaaW.PrintMore
attribute [local go_sem] max2_int min2_int max_two min_two max_three min_three max_four min_four
set_option linter.unusedVariables false
set_option linter.unusedSimpArgs false
attribute [local go_sem high] eqA24
mutual
def frame_Request_Check.j0 : Nat → Bool → Int → Int → ByteArray → Int → ByteArray → ByteArray → Int → Option (Int)
  | 0, _, _, _, _, _, _, _, _ => none
  | k + 1, x3, x139000, x139001, x139002, x139003, x139004, x139005, x139006 => if x3 = true then (some 6) else (if x139000 = 2 then (frame_Request_Check.j1 k false x139000 x139001 x139002 x139003 x139004 x139005 x139006) else (if x139002.toList = ([] : List UInt8) then (frame_Request_Check.j1 k (!(x139003 == 0) || (!(x139004.toList == ([] : List UInt8)) || (!(x139005.toList == ([] : List UInt8)) || (!(x139006 == 0))))) x139000 x139001 x139002 x139003 x139004 x139005 x139006) else (frame_Request_Check.j1 k true x139000 x139001 x139002 x139003 x139004 x139005 x139006)))
def frame_Request_Check.j1 : Nat → Bool → Int → Int → ByteArray → Int → ByteArray → ByteArray → Int → Option (Int)
  | 0, _, _, _, _, _, _, _, _ => none
  | k + 1, x12, x139000, x139001, x139002, x139003, x139004, x139005, x139006 => if x12 = true then (frame_Request_Check.j2 k x12 x139000 x139001 x139002 x139003 x139004 x139005 x139006) else (if x139000 = 4 then (frame_Request_Check.j2 k false x139000 x139001 x139002 x139003 x139004 x139005 x139006) else (if x139000 = 7 then (frame_Request_Check.j2 k false x139000 x139001 x139002 x139003 x139004 x139005 x139006) else (frame_Request_Check.j2 k (x139001 != 0) x139000 x139001 x139002 x139003 x139004 x139005 x139006)))
def frame_Request_Check.j2 : Nat → Bool → Int → Int → ByteArray → Int → ByteArray → ByteArray → Int → Option (Int)
  | 0, _, _, _, _, _, _, _, _ => none
  | k + 1, x12, x139000, x139001, x139002, x139003, x139004, x139005, x139006 => if x12 = true then (some 2) else (if (x139002.size : Int) > 16 then (some 3) else (if x139001 < 0 then (frame_Request_Check.j3 k true x139000 x139001 x139002 x139003 x139004 x139005 x139006) else (frame_Request_Check.j3 k (decide (x139001 > 1099511627776)) x139000 x139001 x139002 x139003 x139004 x139005 x139006)))
def frame_Request_Check.j3 : Nat → Bool → Int → Int → ByteArray → Int → ByteArray → ByteArray → Int → Option (Int)
  | 0, _, _, _, _, _, _, _, _ => none
  | k + 1, x45, x139000, x139001, x139002, x139003, x139004, x139005, x139006 => if x45 = true then (some 4) else (if x139000 = 2 then ((method_Call_Check.f k x139003 x139004 x139005 x139006).bind fun t139 => (some t139)) else (some 0))
end
def frame_Request_Check.f (k : Nat) (a0_0 : Int) (a0_1 : Int) (a0_2 : ByteArray) (a0_3 : Int) (a0_4 : ByteArray) (a0_5 : ByteArray) (a0_6 : Int) : Option (Int) := if a0_0 < 1 then (frame_Request_Check.j0 k true a0_0 a0_1 a0_2 a0_3 a0_4 a0_5 a0_6) else (frame_Request_Check.j0 k (decide (a0_0 > 7)) a0_0 a0_1 a0_2 a0_3 a0_4 a0_5 a0_6)
set_option maxHeartbeats 2000000 in
set_option maxRecDepth 100000 in
theorem frame_Request_Check.calls (k : Nat) (a0_0 : Int) (a0_1 : Int) (a0_2 : ByteArray) (a0_3 : Int) (a0_4 : ByteArray) (a0_5 : ByteArray) (a0_6 : Int) (r : Int) (w : World) (h : frame_Request_Check.f k a0_0 a0_1 a0_2 a0_3 a0_4 a0_5 a0_6 = some r) :
    Calls Try.prog 10 #[.agg #[.int .i64 a0_0, .int .i64 a0_1, .string a0_2, .int .i64 a0_3, .string a0_4, .string a0_5, .int .i64 a0_6]] w fun e w' => e = .returned (.int .i64 r) ∧ Below w.heap.size w w' := by
  have hu26 := Try.underlying26
  have hu24 := Try.underlying24
  have HB := Aside0.mk (Below.refl w.heap.size w)
  have H : (if a0_0 < 1 then (frame_Request_Check.j0 k true a0_0 a0_1 a0_2 a0_3 a0_4 a0_5 a0_6) else (frame_Request_Check.j0 k (decide (a0_0 > 7)) a0_0 a0_1 a0_2 a0_3 a0_4 a0_5 a0_6)) = some r := h
  clear h
  have HC2 := Aside0.mk H
  clear H
  go_enter Try.func10, Try.ntmps10
  go_upto_region 1 with (first | ((with_reducible refine gds (N := 1) rfl ?_); refine bev ?hg (N := 1) ?hd (cs := #[.int .i64 a0_0, .int .i64 a0_1, .string a0_2, .int .i64 a0_3, .string a0_4, .string a0_5, .int .i64 a0_6]) (t := 26) ?hr ?_; (case hd => rfl); (case hg => rfl); (case hr => first | (go_simp; done) | (go_simp; rfl)); intro gb138 hg w3 hbox hb; have n0_ := Aside0.mk (bsp (by repeat (first | (with_reducible first | exact HB.out | apply bal | apply bdn | apply bd1) | exact HB.out)) hb); have n1_ := Aside0.mk (hbox); have n2_ := Aside0.mk ((by rw [hg]; exact (bsz (by repeat (first | (with_reducible first | exact HB.out | apply bal | apply bdn | apply bd1) | exact HB.out))) : w.heap.size ≤ gb138)); have n3_ := Aside0.mk ((by rw [hg]; exact (bsz (by repeat (first | (with_reducible first | exact HB.out | apply bal | apply bdn | apply bd1) | exact HB.out))) : w.heap.size ≤ gb138)); clear HB; have HB := n0_; have BK138 := n1_; have GW138 := n2_; have GE138 := n3_; clear n0_ n1_ n2_ n3_; clear hb hbox hg))
  (try simp only [Act.put, List.setIfInBounds_toArray, List.set_cons_zero, List.set_cons_succ])
  go_cut [3] (fun v3 wc => ∃ (kq : Nat) (x3_1 : Bool), v3 = .bool x3_1 ∧ Aside0 (frame_Request_Check.j0 kq x3_1 a0_0 a0_1 a0_2 a0_3 a0_4 a0_5 a0_6 = some r) ∧ Aside0 (kq ≤ k) ∧ Aside0 (wc.heap[gb138]? = some (.cells #[.int .i64 a0_0, .int .i64 a0_1, .string a0_2, .int .i64 a0_3, .string a0_4, .string a0_5, .int .i64 a0_6] 26 (0, 0))) ∧ Aside0 (Below w.heap.size w wc))
  case first =>
    have H := HC2.out
    clear HC2
    by_cases c4 : a0_0 < 1
    · rw [if_pos c4] at H
      have c4b0 : decide (a0_0 < 1) = true := decide_eq_true c4
      clear c4
      (first | rw [c4b0] | (simp only [i64_w, i32_w]; rw [c4b0]) | skip)
      have H' := Aside0.mk H
      clear H
      have hcz5_0 : w3.cell? ⟨gb138, 0, none⟩ = some (.int .i64 a0_0) := (kcl BK138.out 0).trans rfl
      have hcz5_1 : w3.cell? ⟨gb138, 1, none⟩ = some (.int .i64 a0_1) := (kcl BK138.out 1).trans rfl
      have hcz5_2 : w3.cell? ⟨gb138, 2, none⟩ = some (.string a0_2) := (kcl BK138.out 2).trans rfl
      have hcz5_3 : w3.cell? ⟨gb138, 3, none⟩ = some (.int .i64 a0_3) := (kcl BK138.out 3).trans rfl
      have hcz5_4 : w3.cell? ⟨gb138, 4, none⟩ = some (.string a0_4) := (kcl BK138.out 4).trans rfl
      have hcz5_5 : w3.cell? ⟨gb138, 5, none⟩ = some (.string a0_5) := (kcl BK138.out 5).trans rfl
      have hcz5_6 : w3.cell? ⟨gb138, 6, none⟩ = some (.int .i64 a0_6) := (kcl BK138.out 6).trans rfl
      have hfz5_0 := kfr BK138.out 0
      have hfz5_1 := kfr BK138.out 1
      have hfz5_2 := kfr BK138.out 2
      have hfz5_3 := kfr BK138.out 3
      have hfz5_4 := kfr BK138.out 4
      have hfz5_5 := kfr BK138.out 5
      have hfz5_6 := kfr BK138.out 6
      go_wp2
      go_meet
      case rel => exact ⟨_, (true), (by first | rfl | (simp; done) | (simp [*]; done) | exact emp1_ _ | exact (emp1_ _).symm | exact emp2_ _ | exact (emp2_ _).symm), H', ⟨by first | omega | exact Nat.le_refl _⟩, ⟨by (with_reducible repeat (first | refine kdn ?_ _ | refine kdw ?_ | refine kal ?_ _)); exact BK138.out⟩, ⟨by repeat (first | (with_reducible first | exact HB.out | apply bal | apply bdn | apply bd1 | refine bst ?_ GE138.out) | exact HB.out)⟩⟩
    rw [if_neg c4] at H
    have c4b0 : decide (a0_0 < 1) = false := decide_eq_false c4
    clear c4
    (first | rw [c4b0] | (simp only [i64_w, i32_w]; rw [c4b0]) | skip)
    have H' := Aside0.mk H
    clear H
    have hcz6_0 : w3.cell? ⟨gb138, 0, none⟩ = some (.int .i64 a0_0) := (kcl BK138.out 0).trans rfl
    have hcz6_1 : w3.cell? ⟨gb138, 1, none⟩ = some (.int .i64 a0_1) := (kcl BK138.out 1).trans rfl
    have hcz6_2 : w3.cell? ⟨gb138, 2, none⟩ = some (.string a0_2) := (kcl BK138.out 2).trans rfl
    have hcz6_3 : w3.cell? ⟨gb138, 3, none⟩ = some (.int .i64 a0_3) := (kcl BK138.out 3).trans rfl
    have hcz6_4 : w3.cell? ⟨gb138, 4, none⟩ = some (.string a0_4) := (kcl BK138.out 4).trans rfl
    have hcz6_5 : w3.cell? ⟨gb138, 5, none⟩ = some (.string a0_5) := (kcl BK138.out 5).trans rfl
    have hcz6_6 : w3.cell? ⟨gb138, 6, none⟩ = some (.int .i64 a0_6) := (kcl BK138.out 6).trans rfl
    have hfz6_0 := kfr BK138.out 0
    have hfz6_1 := kfr BK138.out 1
    have hfz6_2 := kfr BK138.out 2
    have hfz6_3 := kfr BK138.out 3
    have hfz6_4 := kfr BK138.out 4
    have hfz6_5 := kfr BK138.out 5
    have hfz6_6 := kfr BK138.out 6
    go_wp2
    go_meet
    case rel => exact ⟨_, (decide (a0_0 > 7)), (by first | rfl | (simp; done) | (simp [*]; done) | exact emp1_ _ | exact (emp1_ _).symm | exact emp2_ _ | exact (emp2_ _).symm), H', ⟨by first | omega | exact Nat.le_refl _⟩, ⟨by (with_reducible repeat (first | refine kdn ?_ _ | refine kdw ?_ | refine kal ?_ _)); exact BK138.out⟩, ⟨by repeat (first | (with_reducible first | exact HB.out | apply bal | apply bdn | apply bd1 | refine bst ?_ GE138.out) | exact HB.out)⟩⟩
  clear HC2
  try clear c1
  try clear p2
  try clear c4
  try clear c4b0
  try clear hcz5_0
  try clear hcz5_1
  try clear hcz5_2
  try clear hcz5_3
  try clear hcz5_4
  try clear hcz5_5
  try clear hcz5_6
  try clear hcz6_0
  try clear hcz6_1
  try clear hcz6_2
  try clear hcz6_3
  try clear hcz6_4
  try clear hcz6_5
  try clear hcz6_6
  try clear hfz5_0
  try clear hfz5_1
  try clear hfz5_2
  try clear hfz5_3
  try clear hfz5_4
  try clear hfz5_5
  try clear hfz5_6
  try clear hfz6_0
  try clear hfz6_1
  try clear hfz6_2
  try clear hfz6_3
  try clear hfz6_4
  try clear hfz6_5
  try clear hfz6_6
  obtain ⟨kq, x3_1, rfl, HA, HJ1, BK138, HB⟩ := hcut
  cases kq with
  | zero => exact absurd HA.out (by simp [frame_Request_Check.j0])
  | succ kj1 =>
    have H := HA.out
    clear HA
    simp only [frame_Request_Check.j0] at H
    by_cases c7 : x3_1 = true
    · subst c7
      have H1 : (some 6) = some r := by rw [if_pos rfl] at H; exact H
      clear H
      have H := H1
      clear H1
      obtain rfl := Option.some.inj H
      go_wp2
      go_ret
      exact ⟨by first | rfl | (simp [errW_none, errW_some] <;> rfl) | (simp [*, errW_none, errW_some] <;> rfl), by repeat (first | (with_reducible first | exact HB.out | apply bal | apply bdn | apply bd1 | refine bst ?_ GE138.out) | exact HB.out)⟩
    replace c7 := Bool.eq_false_iff.mpr c7
    subst c7
    have H1 : (if a0_0 = 2 then (frame_Request_Check.j1 kj1 false a0_0 a0_1 a0_2 a0_3 a0_4 a0_5 a0_6) else (if a0_2.toList = ([] : List UInt8) then (frame_Request_Check.j1 kj1 (!(a0_3 == 0) || (!(a0_4.toList == ([] : List UInt8)) || (!(a0_5.toList == ([] : List UInt8)) || (!(a0_6 == 0))))) a0_0 a0_1 a0_2 a0_3 a0_4 a0_5 a0_6) else (frame_Request_Check.j1 kj1 true a0_0 a0_1 a0_2 a0_3 a0_4 a0_5 a0_6))) = some r := by rw [if_neg (show ¬ (false = true) by decide)] at H; exact H
    clear H
    have H := H1
    clear H1
    have HC8 := Aside0.mk H
    clear H
    go_upto_region 3 with (fail)
    go_cut [12] (fun v12 wc => ∃ (kq : Nat) (x12_7 : Bool), v12 = .bool x12_7 ∧ Aside0 (frame_Request_Check.j1 kq x12_7 a0_0 a0_1 a0_2 a0_3 a0_4 a0_5 a0_6 = some r) ∧ Aside0 (kq ≤ kj1) ∧ Aside0 (wc.heap[gb138]? = some (.cells #[.int .i64 a0_0, .int .i64 a0_1, .string a0_2, .int .i64 a0_3, .string a0_4, .string a0_5, .int .i64 a0_6] 26 (0, 0))) ∧ Aside0 (Below w.heap.size w wc))
    case first =>
      have H := HC8.out
      clear HC8
      by_cases c9 : a0_0 = 2
      · rw [if_pos c9] at H
        have c9b0 : (a0_0 == 2) = true := beq_iff_eq.mpr c9
        have c9b1 : (a0_0 != 2) = false := bne_eq_false_iff_eq.mpr c9
        clear c9
        (first | rw [c9b0] | (simp only [i64_w, i32_w]; rw [c9b0]) | skip)
        have H' := Aside0.mk H
        clear H
        have hcz10_0 : wc.cell? ⟨gb138, 0, none⟩ = some (.int .i64 a0_0) := (kcl BK138.out 0).trans rfl
        have hcz10_1 : wc.cell? ⟨gb138, 1, none⟩ = some (.int .i64 a0_1) := (kcl BK138.out 1).trans rfl
        have hcz10_2 : wc.cell? ⟨gb138, 2, none⟩ = some (.string a0_2) := (kcl BK138.out 2).trans rfl
        have hcz10_3 : wc.cell? ⟨gb138, 3, none⟩ = some (.int .i64 a0_3) := (kcl BK138.out 3).trans rfl
        have hcz10_4 : wc.cell? ⟨gb138, 4, none⟩ = some (.string a0_4) := (kcl BK138.out 4).trans rfl
        have hcz10_5 : wc.cell? ⟨gb138, 5, none⟩ = some (.string a0_5) := (kcl BK138.out 5).trans rfl
        have hcz10_6 : wc.cell? ⟨gb138, 6, none⟩ = some (.int .i64 a0_6) := (kcl BK138.out 6).trans rfl
        have hfz10_0 := kfr BK138.out 0
        have hfz10_1 := kfr BK138.out 1
        have hfz10_2 := kfr BK138.out 2
        have hfz10_3 := kfr BK138.out 3
        have hfz10_4 := kfr BK138.out 4
        have hfz10_5 := kfr BK138.out 5
        have hfz10_6 := kfr BK138.out 6
        go_wp2
        go_meet
        case rel => exact ⟨_, (false), (by first | rfl | (simp; done) | (simp [*]; done) | exact emp1_ _ | exact (emp1_ _).symm | exact emp2_ _ | exact (emp2_ _).symm), H', ⟨by have := HJ1.out; first | omega | exact Nat.le_refl _⟩, ⟨by (with_reducible repeat (first | refine kdn ?_ _ | refine kdw ?_ | refine kal ?_ _)); exact BK138.out⟩, ⟨by repeat (first | (with_reducible first | exact HB.out | apply bal | apply bdn | apply bd1 | refine bst ?_ GE138.out) | exact HB.out)⟩⟩
      rw [if_neg c9] at H
      have c9b0 : (a0_0 == 2) = false := beq_eq_false_iff_ne.mpr c9
      have c9b1 : (a0_0 != 2) = true := bne_iff_ne.mpr c9
      (first | rw [c9b0] | (simp only [i64_w, i32_w]; rw [c9b0]) | skip)
      by_cases c11 : a0_2.toList = ([] : List UInt8)
      rotate_left
      · rw [if_neg c11] at H
        have c11b0 : (a0_2.toList == ([] : List UInt8)) = false := beq_eq_false_iff_ne.mpr c11
        have c11b1 : (a0_2.toList != ([] : List UInt8)) = true := bne_iff_ne.mpr c11
        have H' := Aside0.mk H
        clear H
        have hcz13_0 : wc.cell? ⟨gb138, 0, none⟩ = some (.int .i64 a0_0) := (kcl BK138.out 0).trans rfl
        have hcz13_1 : wc.cell? ⟨gb138, 1, none⟩ = some (.int .i64 a0_1) := (kcl BK138.out 1).trans rfl
        have hcz13_2 : wc.cell? ⟨gb138, 2, none⟩ = some (.string a0_2) := (kcl BK138.out 2).trans rfl
        have hcz13_3 : wc.cell? ⟨gb138, 3, none⟩ = some (.int .i64 a0_3) := (kcl BK138.out 3).trans rfl
        have hcz13_4 : wc.cell? ⟨gb138, 4, none⟩ = some (.string a0_4) := (kcl BK138.out 4).trans rfl
        have hcz13_5 : wc.cell? ⟨gb138, 5, none⟩ = some (.string a0_5) := (kcl BK138.out 5).trans rfl
        have hcz13_6 : wc.cell? ⟨gb138, 6, none⟩ = some (.int .i64 a0_6) := (kcl BK138.out 6).trans rfl
        have hfz13_0 := kfr BK138.out 0
        have hfz13_1 := kfr BK138.out 1
        have hfz13_2 := kfr BK138.out 2
        have hfz13_3 := kfr BK138.out 3
        have hfz13_4 := kfr BK138.out 4
        have hfz13_5 := kfr BK138.out 5
        have hfz13_6 := kfr BK138.out 6
        go_wp2
        go_meet
        case rel => exact ⟨_, (true), (by first | rfl | (simp; done) | (simp [*]; done) | exact emp1_ _ | exact (emp1_ _).symm | exact emp2_ _ | exact (emp2_ _).symm), H', ⟨by have := HJ1.out; first | omega | exact Nat.le_refl _⟩, ⟨by (with_reducible repeat (first | refine kdn ?_ _ | refine kdw ?_ | refine kal ?_ _)); exact BK138.out⟩, ⟨by repeat (first | (with_reducible first | exact HB.out | apply bal | apply bdn | apply bd1 | refine bst ?_ GE138.out) | exact HB.out)⟩⟩
      rw [if_pos c11] at H
      have c11b0 : (a0_2.toList == ([] : List UInt8)) = true := beq_iff_eq.mpr c11
      have c11b1 : (a0_2.toList != ([] : List UInt8)) = false := bne_eq_false_iff_eq.mpr c11
      clear c11
      have H' := Aside0.mk H
      clear H
      have hcz12_0 : wc.cell? ⟨gb138, 0, none⟩ = some (.int .i64 a0_0) := (kcl BK138.out 0).trans rfl
      have hcz12_1 : wc.cell? ⟨gb138, 1, none⟩ = some (.int .i64 a0_1) := (kcl BK138.out 1).trans rfl
      have hcz12_2 : wc.cell? ⟨gb138, 2, none⟩ = some (.string a0_2) := (kcl BK138.out 2).trans rfl
      have hcz12_3 : wc.cell? ⟨gb138, 3, none⟩ = some (.int .i64 a0_3) := (kcl BK138.out 3).trans rfl
      have hcz12_4 : wc.cell? ⟨gb138, 4, none⟩ = some (.string a0_4) := (kcl BK138.out 4).trans rfl
      have hcz12_5 : wc.cell? ⟨gb138, 5, none⟩ = some (.string a0_5) := (kcl BK138.out 5).trans rfl
      have hcz12_6 : wc.cell? ⟨gb138, 6, none⟩ = some (.int .i64 a0_6) := (kcl BK138.out 6).trans rfl
      have hfz12_0 := kfr BK138.out 0
      have hfz12_1 := kfr BK138.out 1
      have hfz12_2 := kfr BK138.out 2
      have hfz12_3 := kfr BK138.out 3
      have hfz12_4 := kfr BK138.out 4
      have hfz12_5 := kfr BK138.out 5
      have hfz12_6 := kfr BK138.out 6
      go_wp2
      go_meet
      case rel => exact ⟨_, ((!(a0_3 == 0) || (!(a0_4.toList == ([] : List UInt8)) || (!(a0_5.toList == ([] : List UInt8)) || (!(a0_6 == 0)))))), (by first | rfl | (simp; done) | (simp [*]; done) | exact emp1_ _ | exact (emp1_ _).symm | exact emp2_ _ | exact (emp2_ _).symm), H', ⟨by have := HJ1.out; first | omega | exact Nat.le_refl _⟩, ⟨by (with_reducible repeat (first | refine kdn ?_ _ | refine kdw ?_ | refine kal ?_ _)); exact BK138.out⟩, ⟨by repeat (first | (with_reducible first | exact HB.out | apply bal | apply bdn | apply bd1 | refine bst ?_ GE138.out) | exact HB.out)⟩⟩
    clear HC8
    try clear c1
    try clear p2
    try clear c4
    try clear c4b0
    try clear c7
    try clear c9
    try clear c9b0
    try clear c9b1
    try clear c10
    try clear c11
    try clear c11b0
    try clear c11b1
    try clear hcz10_0
    try clear hcz10_1
    try clear hcz10_2
    try clear hcz10_3
    try clear hcz10_4
    try clear hcz10_5
    try clear hcz10_6
    try clear hcz12_0
    try clear hcz12_1
    try clear hcz12_2
    try clear hcz12_3
    try clear hcz12_4
    try clear hcz12_5
    try clear hcz12_6
    try clear hcz13_0
    try clear hcz13_1
    try clear hcz13_2
    try clear hcz13_3
    try clear hcz13_4
    try clear hcz13_5
    try clear hcz13_6
    try clear hcz5_0
    try clear hcz5_1
    try clear hcz5_2
    try clear hcz5_3
    try clear hcz5_4
    try clear hcz5_5
    try clear hcz5_6
    try clear hcz6_0
    try clear hcz6_1
    try clear hcz6_2
    try clear hcz6_3
    try clear hcz6_4
    try clear hcz6_5
    try clear hcz6_6
    try clear hfz10_0
    try clear hfz10_1
    try clear hfz10_2
    try clear hfz10_3
    try clear hfz10_4
    try clear hfz10_5
    try clear hfz10_6
    try clear hfz12_0
    try clear hfz12_1
    try clear hfz12_2
    try clear hfz12_3
    try clear hfz12_4
    try clear hfz12_5
    try clear hfz12_6
    try clear hfz13_0
    try clear hfz13_1
    try clear hfz13_2
    try clear hfz13_3
    try clear hfz13_4
    try clear hfz13_5
    try clear hfz13_6
    try clear hfz5_0
    try clear hfz5_1
    try clear hfz5_2
    try clear hfz5_3
    try clear hfz5_4
    try clear hfz5_5
    try clear hfz5_6
    try clear hfz6_0
    try clear hfz6_1
    try clear hfz6_2
    try clear hfz6_3
    try clear hfz6_4
    try clear hfz6_5
    try clear hfz6_6
    try clear p2
    obtain ⟨kq, x12_7, rfl, HA, HJ7, BK138, HB⟩ := hcut
    cases kq with
    | zero => exact absurd HA.out (by simp [frame_Request_Check.j1])
    | succ kj7 =>
      have H := HA.out
      clear HA
      simp only [frame_Request_Check.j1] at H
      have HC14 := Aside0.mk H
      clear H
      go_upto_if 12 with (fail)
      go_cut [12] (fun v12 wc => ∃ (kq : Nat) (x12_13 : Bool), v12 = .bool x12_13 ∧ Aside0 (frame_Request_Check.j2 kq x12_13 a0_0 a0_1 a0_2 a0_3 a0_4 a0_5 a0_6 = some r) ∧ Aside0 (kq ≤ kj7) ∧ Aside0 (wc.heap[gb138]? = some (.cells #[.int .i64 a0_0, .int .i64 a0_1, .string a0_2, .int .i64 a0_3, .string a0_4, .string a0_5, .int .i64 a0_6] 26 (0, 0))) ∧ Aside0 (Below w.heap.size w wc))
      case first =>
        have H := HC14.out
        clear HC14
        by_cases c15 : x12_7 = true
        · subst c15
          have H1 : (frame_Request_Check.j2 kj7 true a0_0 a0_1 a0_2 a0_3 a0_4 a0_5 a0_6) = some r := by rw [if_pos rfl] at H; exact H
          clear H
          have H := H1
          clear H1
          have H' := Aside0.mk H
          clear H
          go_wp2
          go_meet
          case rel => exact ⟨_, (true), (by first | rfl | (simp; done) | (simp [*]; done) | exact emp1_ _ | exact (emp1_ _).symm | exact emp2_ _ | exact (emp2_ _).symm), H', ⟨by have := HJ1.out; have := HJ7.out; first | omega | exact Nat.le_refl _⟩, ⟨by (with_reducible repeat (first | refine kdn ?_ _ | refine kdw ?_ | refine kal ?_ _)); exact BK138.out⟩, ⟨by repeat (first | (with_reducible first | exact HB.out | apply bal | apply bdn | apply bd1 | refine bst ?_ GE138.out) | exact HB.out)⟩⟩
        replace c15 := Bool.eq_false_iff.mpr c15
        subst c15
        have H1 : (if a0_0 = 4 then (frame_Request_Check.j2 kj7 false a0_0 a0_1 a0_2 a0_3 a0_4 a0_5 a0_6) else (if a0_0 = 7 then (frame_Request_Check.j2 kj7 false a0_0 a0_1 a0_2 a0_3 a0_4 a0_5 a0_6) else (frame_Request_Check.j2 kj7 (a0_1 != 0) a0_0 a0_1 a0_2 a0_3 a0_4 a0_5 a0_6))) = some r := by rw [if_neg (show ¬ (false = true) by decide)] at H; exact H
        clear H
        have H := H1
        clear H1
        by_cases c16 : a0_0 = 4
        · rw [if_pos c16] at H
          have c16b0 : (a0_0 == 4) = true := beq_iff_eq.mpr c16
          have c16b1 : (a0_0 != 4) = false := bne_eq_false_iff_eq.mpr c16
          clear c16
          (first | rw [c16b0] | (simp only [i64_w, i32_w]; rw [c16b0]) | skip)
          have H' := Aside0.mk H
          clear H
          have hcz17_0 : wc.cell? ⟨gb138, 0, none⟩ = some (.int .i64 a0_0) := (kcl BK138.out 0).trans rfl
          have hcz17_1 : wc.cell? ⟨gb138, 1, none⟩ = some (.int .i64 a0_1) := (kcl BK138.out 1).trans rfl
          have hcz17_2 : wc.cell? ⟨gb138, 2, none⟩ = some (.string a0_2) := (kcl BK138.out 2).trans rfl
          have hcz17_3 : wc.cell? ⟨gb138, 3, none⟩ = some (.int .i64 a0_3) := (kcl BK138.out 3).trans rfl
          have hcz17_4 : wc.cell? ⟨gb138, 4, none⟩ = some (.string a0_4) := (kcl BK138.out 4).trans rfl
          have hcz17_5 : wc.cell? ⟨gb138, 5, none⟩ = some (.string a0_5) := (kcl BK138.out 5).trans rfl
          have hcz17_6 : wc.cell? ⟨gb138, 6, none⟩ = some (.int .i64 a0_6) := (kcl BK138.out 6).trans rfl
          have hfz17_0 := kfr BK138.out 0
          have hfz17_1 := kfr BK138.out 1
          have hfz17_2 := kfr BK138.out 2
          have hfz17_3 := kfr BK138.out 3
          have hfz17_4 := kfr BK138.out 4
          have hfz17_5 := kfr BK138.out 5
          have hfz17_6 := kfr BK138.out 6
          go_wp2
          go_meet
          case rel => exact ⟨_, (false), (by first | rfl | (simp; done) | (simp [*]; done) | exact emp1_ _ | exact (emp1_ _).symm | exact emp2_ _ | exact (emp2_ _).symm), H', ⟨by have := HJ1.out; have := HJ7.out; first | omega | exact Nat.le_refl _⟩, ⟨by (with_reducible repeat (first | refine kdn ?_ _ | refine kdw ?_ | refine kal ?_ _)); exact BK138.out⟩, ⟨by repeat (first | (with_reducible first | exact HB.out | apply bal | apply bdn | apply bd1 | refine bst ?_ GE138.out) | exact HB.out)⟩⟩
        rw [if_neg c16] at H
        have c16b0 : (a0_0 == 4) = false := beq_eq_false_iff_ne.mpr c16
        have c16b1 : (a0_0 != 4) = true := bne_iff_ne.mpr c16
        (first | rw [c16b0] | (simp only [i64_w, i32_w]; rw [c16b0]) | skip)
        by_cases c18 : a0_0 = 7
        rotate_left
        · rw [if_neg c18] at H
          have c18b0 : (a0_0 == 7) = false := beq_eq_false_iff_ne.mpr c18
          have c18b1 : (a0_0 != 7) = true := bne_iff_ne.mpr c18
          have H' := Aside0.mk H
          clear H
          have hcz20_0 : wc.cell? ⟨gb138, 0, none⟩ = some (.int .i64 a0_0) := (kcl BK138.out 0).trans rfl
          have hcz20_1 : wc.cell? ⟨gb138, 1, none⟩ = some (.int .i64 a0_1) := (kcl BK138.out 1).trans rfl
          have hcz20_2 : wc.cell? ⟨gb138, 2, none⟩ = some (.string a0_2) := (kcl BK138.out 2).trans rfl
          have hcz20_3 : wc.cell? ⟨gb138, 3, none⟩ = some (.int .i64 a0_3) := (kcl BK138.out 3).trans rfl
          have hcz20_4 : wc.cell? ⟨gb138, 4, none⟩ = some (.string a0_4) := (kcl BK138.out 4).trans rfl
          have hcz20_5 : wc.cell? ⟨gb138, 5, none⟩ = some (.string a0_5) := (kcl BK138.out 5).trans rfl
          have hcz20_6 : wc.cell? ⟨gb138, 6, none⟩ = some (.int .i64 a0_6) := (kcl BK138.out 6).trans rfl
          have hfz20_0 := kfr BK138.out 0
          have hfz20_1 := kfr BK138.out 1
          have hfz20_2 := kfr BK138.out 2
          have hfz20_3 := kfr BK138.out 3
          have hfz20_4 := kfr BK138.out 4
          have hfz20_5 := kfr BK138.out 5
          have hfz20_6 := kfr BK138.out 6
          go_wp2
          go_meet
          case rel => exact ⟨_, ((a0_1 != 0)), (by first | rfl | (simp; done) | (simp [*]; done) | exact emp1_ _ | exact (emp1_ _).symm | exact emp2_ _ | exact (emp2_ _).symm), H', ⟨by have := HJ1.out; have := HJ7.out; first | omega | exact Nat.le_refl _⟩, ⟨by (with_reducible repeat (first | refine kdn ?_ _ | refine kdw ?_ | refine kal ?_ _)); exact BK138.out⟩, ⟨by repeat (first | (with_reducible first | exact HB.out | apply bal | apply bdn | apply bd1 | refine bst ?_ GE138.out) | exact HB.out)⟩⟩
        rw [if_pos c18] at H
        have c18b0 : (a0_0 == 7) = true := beq_iff_eq.mpr c18
        have c18b1 : (a0_0 != 7) = false := bne_eq_false_iff_eq.mpr c18
        clear c18
        have H' := Aside0.mk H
        clear H
        have hcz19_0 : wc.cell? ⟨gb138, 0, none⟩ = some (.int .i64 a0_0) := (kcl BK138.out 0).trans rfl
        have hcz19_1 : wc.cell? ⟨gb138, 1, none⟩ = some (.int .i64 a0_1) := (kcl BK138.out 1).trans rfl
        have hcz19_2 : wc.cell? ⟨gb138, 2, none⟩ = some (.string a0_2) := (kcl BK138.out 2).trans rfl
        have hcz19_3 : wc.cell? ⟨gb138, 3, none⟩ = some (.int .i64 a0_3) := (kcl BK138.out 3).trans rfl
        have hcz19_4 : wc.cell? ⟨gb138, 4, none⟩ = some (.string a0_4) := (kcl BK138.out 4).trans rfl
        have hcz19_5 : wc.cell? ⟨gb138, 5, none⟩ = some (.string a0_5) := (kcl BK138.out 5).trans rfl
        have hcz19_6 : wc.cell? ⟨gb138, 6, none⟩ = some (.int .i64 a0_6) := (kcl BK138.out 6).trans rfl
        have hfz19_0 := kfr BK138.out 0
        have hfz19_1 := kfr BK138.out 1
        have hfz19_2 := kfr BK138.out 2
        have hfz19_3 := kfr BK138.out 3
        have hfz19_4 := kfr BK138.out 4
        have hfz19_5 := kfr BK138.out 5
        have hfz19_6 := kfr BK138.out 6
        go_wp2
        go_meet
        case rel => exact ⟨_, (false), (by first | rfl | (simp; done) | (simp [*]; done) | exact emp1_ _ | exact (emp1_ _).symm | exact emp2_ _ | exact (emp2_ _).symm), H', ⟨by have := HJ1.out; have := HJ7.out; first | omega | exact Nat.le_refl _⟩, ⟨by (with_reducible repeat (first | refine kdn ?_ _ | refine kdw ?_ | refine kal ?_ _)); exact BK138.out⟩, ⟨by repeat (first | (with_reducible first | exact HB.out | apply bal | apply bdn | apply bd1 | refine bst ?_ GE138.out) | exact HB.out)⟩⟩
      clear HC14
      try clear c1
      try clear p2
      try clear c4
      try clear c4b0
      try clear c7
      try clear c9
      try clear c9b0
      try clear c9b1
      try clear c10
      try clear c11
      try clear c11b0
      try clear c11b1
      try clear c15
      try clear c16
      try clear c16b0
      try clear c16b1
      try clear c18
      try clear c18b0
      try clear c18b1
      try clear hcz10_0
      try clear hcz10_1
      try clear hcz10_2
      try clear hcz10_3
      try clear hcz10_4
      try clear hcz10_5
      try clear hcz10_6
      try clear hcz12_0
      try clear hcz12_1
      try clear hcz12_2
      try clear hcz12_3
      try clear hcz12_4
      try clear hcz12_5
      try clear hcz12_6
      try clear hcz13_0
      try clear hcz13_1
      try clear hcz13_2
      try clear hcz13_3
      try clear hcz13_4
      try clear hcz13_5
      try clear hcz13_6
      try clear hcz17_0
      try clear hcz17_1
      try clear hcz17_2
      try clear hcz17_3
      try clear hcz17_4
      try clear hcz17_5
      try clear hcz17_6
      try clear hcz19_0
      try clear hcz19_1
      try clear hcz19_2
      try clear hcz19_3
      try clear hcz19_4
      try clear hcz19_5
      try clear hcz19_6
      try clear hcz20_0
      try clear hcz20_1
      try clear hcz20_2
      try clear hcz20_3
      try clear hcz20_4
      try clear hcz20_5
      try clear hcz20_6
      try clear hcz5_0
      try clear hcz5_1
      try clear hcz5_2
      try clear hcz5_3
      try clear hcz5_4
      try clear hcz5_5
      try clear hcz5_6
      try clear hcz6_0
      try clear hcz6_1
      try clear hcz6_2
      try clear hcz6_3
      try clear hcz6_4
      try clear hcz6_5
      try clear hcz6_6
      try clear hfz10_0
      try clear hfz10_1
      try clear hfz10_2
      try clear hfz10_3
      try clear hfz10_4
      try clear hfz10_5
      try clear hfz10_6
      try clear hfz12_0
      try clear hfz12_1
      try clear hfz12_2
      try clear hfz12_3
      try clear hfz12_4
      try clear hfz12_5
      try clear hfz12_6
      try clear hfz13_0
      try clear hfz13_1
      try clear hfz13_2
      try clear hfz13_3
      try clear hfz13_4
      try clear hfz13_5
      try clear hfz13_6
      try clear hfz17_0
      try clear hfz17_1
      try clear hfz17_2
      try clear hfz17_3
      try clear hfz17_4
      try clear hfz17_5
      try clear hfz17_6
      try clear hfz19_0
      try clear hfz19_1
      try clear hfz19_2
      try clear hfz19_3
      try clear hfz19_4
      try clear hfz19_5
      try clear hfz19_6
      try clear hfz20_0
      try clear hfz20_1
      try clear hfz20_2
      try clear hfz20_3
      try clear hfz20_4
      try clear hfz20_5
      try clear hfz20_6
      try clear hfz5_0
      try clear hfz5_1
      try clear hfz5_2
      try clear hfz5_3
      try clear hfz5_4
      try clear hfz5_5
      try clear hfz5_6
      try clear hfz6_0
      try clear hfz6_1
      try clear hfz6_2
      try clear hfz6_3
      try clear hfz6_4
      try clear hfz6_5
      try clear hfz6_6
      try clear p2
      obtain ⟨kq, x12_13, rfl, HA, HJ13, BK138, HB⟩ := hcut
      cases kq with
      | zero => exact absurd HA.out (by simp [frame_Request_Check.j2])
      | succ kj13 =>
        have H := HA.out
        clear HA
        simp only [frame_Request_Check.j2] at H
        by_cases c21 : x12_13 = true
        · subst c21
          have H1 : (some 2) = some r := by rw [if_pos rfl] at H; exact H
          clear H
          have H := H1
          clear H1
          obtain rfl := Option.some.inj H
          go_wp2
          go_ret
          exact ⟨by first | rfl | (simp [errW_none, errW_some] <;> rfl) | (simp [*, errW_none, errW_some] <;> rfl), by repeat (first | (with_reducible first | exact HB.out | apply bal | apply bdn | apply bd1 | refine bst ?_ GE138.out) | exact HB.out)⟩
        replace c21 := Bool.eq_false_iff.mpr c21
        subst c21
        have H1 : (if (a0_2.size : Int) > 16 then (some 3) else (if a0_1 < 0 then (frame_Request_Check.j3 kj13 true a0_0 a0_1 a0_2 a0_3 a0_4 a0_5 a0_6) else (frame_Request_Check.j3 kj13 (decide (a0_1 > 1099511627776)) a0_0 a0_1 a0_2 a0_3 a0_4 a0_5 a0_6))) = some r := by rw [if_neg (show ¬ (false = true) by decide)] at H; exact H
        clear H
        have H := H1
        clear H1
        by_cases c22 : (a0_2.size : Int) > 16
        · rw [if_pos c22] at H
          have c22b0 : decide (16 < (a0_2.size : Int)) = true := decide_eq_true c22
          have c22b1 : decide (16 < a0_2.size) = true := decide_eq_true (by omega)
          clear c22
          obtain rfl := Option.some.inj H
          have hcz23_0 : wc.cell? ⟨gb138, 0, none⟩ = some (.int .i64 a0_0) := (kcl BK138.out 0).trans rfl
          have hcz23_1 : wc.cell? ⟨gb138, 1, none⟩ = some (.int .i64 a0_1) := (kcl BK138.out 1).trans rfl
          have hcz23_2 : wc.cell? ⟨gb138, 2, none⟩ = some (.string a0_2) := (kcl BK138.out 2).trans rfl
          have hcz23_3 : wc.cell? ⟨gb138, 3, none⟩ = some (.int .i64 a0_3) := (kcl BK138.out 3).trans rfl
          have hcz23_4 : wc.cell? ⟨gb138, 4, none⟩ = some (.string a0_4) := (kcl BK138.out 4).trans rfl
          have hcz23_5 : wc.cell? ⟨gb138, 5, none⟩ = some (.string a0_5) := (kcl BK138.out 5).trans rfl
          have hcz23_6 : wc.cell? ⟨gb138, 6, none⟩ = some (.int .i64 a0_6) := (kcl BK138.out 6).trans rfl
          have hfz23_0 := kfr BK138.out 0
          have hfz23_1 := kfr BK138.out 1
          have hfz23_2 := kfr BK138.out 2
          have hfz23_3 := kfr BK138.out 3
          have hfz23_4 := kfr BK138.out 4
          have hfz23_5 := kfr BK138.out 5
          have hfz23_6 := kfr BK138.out 6
          go_wp2
          go_ret
          exact ⟨by first | rfl | (simp [errW_none, errW_some] <;> rfl) | (simp [*, errW_none, errW_some] <;> rfl), by repeat (first | (with_reducible first | exact HB.out | apply bal | apply bdn | apply bd1 | refine bst ?_ GE138.out) | exact HB.out)⟩
        rw [if_neg c22] at H
        have c22b0 : decide (16 < (a0_2.size : Int)) = false := decide_eq_false c22
        have c22b1 : decide (16 < a0_2.size) = false := decide_eq_false (by omega)
        clear c22
        have HC24 := Aside0.mk H
        clear H
        have hcz25_0 : wc.cell? ⟨gb138, 0, none⟩ = some (.int .i64 a0_0) := (kcl BK138.out 0).trans rfl
        have hcz25_1 : wc.cell? ⟨gb138, 1, none⟩ = some (.int .i64 a0_1) := (kcl BK138.out 1).trans rfl
        have hcz25_2 : wc.cell? ⟨gb138, 2, none⟩ = some (.string a0_2) := (kcl BK138.out 2).trans rfl
        have hcz25_3 : wc.cell? ⟨gb138, 3, none⟩ = some (.int .i64 a0_3) := (kcl BK138.out 3).trans rfl
        have hcz25_4 : wc.cell? ⟨gb138, 4, none⟩ = some (.string a0_4) := (kcl BK138.out 4).trans rfl
        have hcz25_5 : wc.cell? ⟨gb138, 5, none⟩ = some (.string a0_5) := (kcl BK138.out 5).trans rfl
        have hcz25_6 : wc.cell? ⟨gb138, 6, none⟩ = some (.int .i64 a0_6) := (kcl BK138.out 6).trans rfl
        have hfz25_0 := kfr BK138.out 0
        have hfz25_1 := kfr BK138.out 1
        have hfz25_2 := kfr BK138.out 2
        have hfz25_3 := kfr BK138.out 3
        have hfz25_4 := kfr BK138.out 4
        have hfz25_5 := kfr BK138.out 5
        have hfz25_6 := kfr BK138.out 6
        go_upto_region 8 with (fail)
        go_cut [45] (fun v45 wc => ∃ (kq : Nat) (x45_23 : Bool), v45 = .bool x45_23 ∧ Aside0 (frame_Request_Check.j3 kq x45_23 a0_0 a0_1 a0_2 a0_3 a0_4 a0_5 a0_6 = some r) ∧ Aside0 (kq ≤ kj13) ∧ Aside0 (wc.heap[gb138]? = some (.cells #[.int .i64 a0_0, .int .i64 a0_1, .string a0_2, .int .i64 a0_3, .string a0_4, .string a0_5, .int .i64 a0_6] 26 (0, 0))) ∧ Aside0 (Below w.heap.size w wc))
        case first =>
          have H := HC24.out
          clear HC24
          by_cases c26 : a0_1 < 0
          · rw [if_pos c26] at H
            have c26b0 : decide (a0_1 < 0) = true := decide_eq_true c26
            clear c26
            (first | rw [c26b0] | (simp only [i64_w, i32_w]; rw [c26b0]) | skip)
            have H' := Aside0.mk H
            clear H
            have hcz27_0 : wc.cell? ⟨gb138, 0, none⟩ = some (.int .i64 a0_0) := (kcl BK138.out 0).trans rfl
            have hcz27_1 : wc.cell? ⟨gb138, 1, none⟩ = some (.int .i64 a0_1) := (kcl BK138.out 1).trans rfl
            have hcz27_2 : wc.cell? ⟨gb138, 2, none⟩ = some (.string a0_2) := (kcl BK138.out 2).trans rfl
            have hcz27_3 : wc.cell? ⟨gb138, 3, none⟩ = some (.int .i64 a0_3) := (kcl BK138.out 3).trans rfl
            have hcz27_4 : wc.cell? ⟨gb138, 4, none⟩ = some (.string a0_4) := (kcl BK138.out 4).trans rfl
            have hcz27_5 : wc.cell? ⟨gb138, 5, none⟩ = some (.string a0_5) := (kcl BK138.out 5).trans rfl
            have hcz27_6 : wc.cell? ⟨gb138, 6, none⟩ = some (.int .i64 a0_6) := (kcl BK138.out 6).trans rfl
            have hfz27_0 := kfr BK138.out 0
            have hfz27_1 := kfr BK138.out 1
            have hfz27_2 := kfr BK138.out 2
            have hfz27_3 := kfr BK138.out 3
            have hfz27_4 := kfr BK138.out 4
            have hfz27_5 := kfr BK138.out 5
            have hfz27_6 := kfr BK138.out 6
            go_wp2
            go_meet
            case rel => exact ⟨_, (true), (by first | rfl | (simp; done) | (simp [*]; done) | exact emp1_ _ | exact (emp1_ _).symm | exact emp2_ _ | exact (emp2_ _).symm), H', ⟨by have := HJ1.out; have := HJ7.out; have := HJ13.out; first | omega | exact Nat.le_refl _⟩, ⟨by (with_reducible repeat (first | refine kdn ?_ _ | refine kdw ?_ | refine kal ?_ _)); exact BK138.out⟩, ⟨by repeat (first | (with_reducible first | exact HB.out | apply bal | apply bdn | apply bd1 | refine bst ?_ GE138.out) | exact HB.out)⟩⟩
          rw [if_neg c26] at H
          have c26b0 : decide (a0_1 < 0) = false := decide_eq_false c26
          clear c26
          (first | rw [c26b0] | (simp only [i64_w, i32_w]; rw [c26b0]) | skip)
          have H' := Aside0.mk H
          clear H
          have hcz28_0 : wc.cell? ⟨gb138, 0, none⟩ = some (.int .i64 a0_0) := (kcl BK138.out 0).trans rfl
          have hcz28_1 : wc.cell? ⟨gb138, 1, none⟩ = some (.int .i64 a0_1) := (kcl BK138.out 1).trans rfl
          have hcz28_2 : wc.cell? ⟨gb138, 2, none⟩ = some (.string a0_2) := (kcl BK138.out 2).trans rfl
          have hcz28_3 : wc.cell? ⟨gb138, 3, none⟩ = some (.int .i64 a0_3) := (kcl BK138.out 3).trans rfl
          have hcz28_4 : wc.cell? ⟨gb138, 4, none⟩ = some (.string a0_4) := (kcl BK138.out 4).trans rfl
          have hcz28_5 : wc.cell? ⟨gb138, 5, none⟩ = some (.string a0_5) := (kcl BK138.out 5).trans rfl
          have hcz28_6 : wc.cell? ⟨gb138, 6, none⟩ = some (.int .i64 a0_6) := (kcl BK138.out 6).trans rfl
          have hfz28_0 := kfr BK138.out 0
          have hfz28_1 := kfr BK138.out 1
          have hfz28_2 := kfr BK138.out 2
          have hfz28_3 := kfr BK138.out 3
          have hfz28_4 := kfr BK138.out 4
          have hfz28_5 := kfr BK138.out 5
          have hfz28_6 := kfr BK138.out 6
          go_wp2
          go_meet
          case rel => exact ⟨_, (decide (a0_1 > 1099511627776)), (by first | rfl | (simp; done) | (simp [*]; done) | exact emp1_ _ | exact (emp1_ _).symm | exact emp2_ _ | exact (emp2_ _).symm), H', ⟨by have := HJ1.out; have := HJ7.out; have := HJ13.out; first | omega | exact Nat.le_refl _⟩, ⟨by (with_reducible repeat (first | refine kdn ?_ _ | refine kdw ?_ | refine kal ?_ _)); exact BK138.out⟩, ⟨by repeat (first | (with_reducible first | exact HB.out | apply bal | apply bdn | apply bd1 | refine bst ?_ GE138.out) | exact HB.out)⟩⟩
        clear HC24
        try clear c1
        try clear c2
        try clear p2
        try clear c4
        try clear c4b0
        try clear c7
        try clear c9
        try clear c9b0
        try clear c9b1
        try clear c10
        try clear c11
        try clear c11b0
        try clear c11b1
        try clear c15
        try clear c16
        try clear c16b0
        try clear c16b1
        try clear c18
        try clear c18b0
        try clear c18b1
        try clear c21
        try clear c22
        try clear c22b0
        try clear c22b1
        try clear c26
        try clear c26b0
        try clear hcz10_0
        try clear hcz10_1
        try clear hcz10_2
        try clear hcz10_3
        try clear hcz10_4
        try clear hcz10_5
        try clear hcz10_6
        try clear hcz12_0
        try clear hcz12_1
        try clear hcz12_2
        try clear hcz12_3
        try clear hcz12_4
        try clear hcz12_5
        try clear hcz12_6
        try clear hcz13_0
        try clear hcz13_1
        try clear hcz13_2
        try clear hcz13_3
        try clear hcz13_4
        try clear hcz13_5
        try clear hcz13_6
        try clear hcz17_0
        try clear hcz17_1
        try clear hcz17_2
        try clear hcz17_3
        try clear hcz17_4
        try clear hcz17_5
        try clear hcz17_6
        try clear hcz19_0
        try clear hcz19_1
        try clear hcz19_2
        try clear hcz19_3
        try clear hcz19_4
        try clear hcz19_5
        try clear hcz19_6
        try clear hcz20_0
        try clear hcz20_1
        try clear hcz20_2
        try clear hcz20_3
        try clear hcz20_4
        try clear hcz20_5
        try clear hcz20_6
        try clear hcz23_0
        try clear hcz23_1
        try clear hcz23_2
        try clear hcz23_3
        try clear hcz23_4
        try clear hcz23_5
        try clear hcz23_6
        try clear hcz25_0
        try clear hcz25_1
        try clear hcz25_2
        try clear hcz25_3
        try clear hcz25_4
        try clear hcz25_5
        try clear hcz25_6
        try clear hcz27_0
        try clear hcz27_1
        try clear hcz27_2
        try clear hcz27_3
        try clear hcz27_4
        try clear hcz27_5
        try clear hcz27_6
        try clear hcz28_0
        try clear hcz28_1
        try clear hcz28_2
        try clear hcz28_3
        try clear hcz28_4
        try clear hcz28_5
        try clear hcz28_6
        try clear hcz5_0
        try clear hcz5_1
        try clear hcz5_2
        try clear hcz5_3
        try clear hcz5_4
        try clear hcz5_5
        try clear hcz5_6
        try clear hcz6_0
        try clear hcz6_1
        try clear hcz6_2
        try clear hcz6_3
        try clear hcz6_4
        try clear hcz6_5
        try clear hcz6_6
        try clear hfz10_0
        try clear hfz10_1
        try clear hfz10_2
        try clear hfz10_3
        try clear hfz10_4
        try clear hfz10_5
        try clear hfz10_6
        try clear hfz12_0
        try clear hfz12_1
        try clear hfz12_2
        try clear hfz12_3
        try clear hfz12_4
        try clear hfz12_5
        try clear hfz12_6
        try clear hfz13_0
        try clear hfz13_1
        try clear hfz13_2
        try clear hfz13_3
        try clear hfz13_4
        try clear hfz13_5
        try clear hfz13_6
        try clear hfz17_0
        try clear hfz17_1
        try clear hfz17_2
        try clear hfz17_3
        try clear hfz17_4
        try clear hfz17_5
        try clear hfz17_6
        try clear hfz19_0
        try clear hfz19_1
        try clear hfz19_2
        try clear hfz19_3
        try clear hfz19_4
        try clear hfz19_5
        try clear hfz19_6
        try clear hfz20_0
        try clear hfz20_1
        try clear hfz20_2
        try clear hfz20_3
        try clear hfz20_4
        try clear hfz20_5
        try clear hfz20_6
        try clear hfz23_0
        try clear hfz23_1
        try clear hfz23_2
        try clear hfz23_3
        try clear hfz23_4
        try clear hfz23_5
        try clear hfz23_6
        try clear hfz25_0
        try clear hfz25_1
        try clear hfz25_2
        try clear hfz25_3
        try clear hfz25_4
        try clear hfz25_5
        try clear hfz25_6
        try clear hfz27_0
        try clear hfz27_1
        try clear hfz27_2
        try clear hfz27_3
        try clear hfz27_4
        try clear hfz27_5
        try clear hfz27_6
        try clear hfz28_0
        try clear hfz28_1
        try clear hfz28_2
        try clear hfz28_3
        try clear hfz28_4
        try clear hfz28_5
        try clear hfz28_6
        try clear hfz5_0
        try clear hfz5_1
        try clear hfz5_2
        try clear hfz5_3
        try clear hfz5_4
        try clear hfz5_5
        try clear hfz5_6
        try clear hfz6_0
        try clear hfz6_1
        try clear hfz6_2
        try clear hfz6_3
        try clear hfz6_4
        try clear hfz6_5
        try clear hfz6_6
        try clear p2
        obtain ⟨kq, x45_23, rfl, HA, HJ23, BK138, HB⟩ := hcut
        cases kq with
        | zero => exact absurd HA.out (by simp [frame_Request_Check.j3])
        | succ kj23 =>
          have H := HA.out
          clear HA
          simp only [frame_Request_Check.j3] at H
          by_cases c29 : x45_23 = true
          · subst c29
            have H1 : (some 4) = some r := by rw [if_pos rfl] at H; exact H
            clear H
            have H := H1
            clear H1
            obtain rfl := Option.some.inj H
            go_wp2
            go_ret
            exact ⟨by first | rfl | (simp [errW_none, errW_some] <;> rfl) | (simp [*, errW_none, errW_some] <;> rfl), by repeat (first | (with_reducible first | exact HB.out | apply bal | apply bdn | apply bd1 | refine bst ?_ GE138.out) | exact HB.out)⟩
          replace c29 := Bool.eq_false_iff.mpr c29
          subst c29
          have H1 : (if a0_0 = 2 then ((method_Call_Check.f kj23 a0_3 a0_4 a0_5 a0_6).bind fun t139 => (some t139)) else (some 0)) = some r := by rw [if_neg (show ¬ (false = true) by decide)] at H; exact H
          clear H
          have H := H1
          clear H1
          by_cases c30 : a0_0 = 2
          rotate_left
          · rw [if_neg c30] at H
            have c30b0 : (a0_0 == 2) = false := beq_eq_false_iff_ne.mpr c30
            have c30b1 : (a0_0 != 2) = true := bne_iff_ne.mpr c30
            obtain rfl := Option.some.inj H
            have hcz34_0 : wc.cell? ⟨gb138, 0, none⟩ = some (.int .i64 a0_0) := (kcl BK138.out 0).trans rfl
            have hcz34_1 : wc.cell? ⟨gb138, 1, none⟩ = some (.int .i64 a0_1) := (kcl BK138.out 1).trans rfl
            have hcz34_2 : wc.cell? ⟨gb138, 2, none⟩ = some (.string a0_2) := (kcl BK138.out 2).trans rfl
            have hcz34_3 : wc.cell? ⟨gb138, 3, none⟩ = some (.int .i64 a0_3) := (kcl BK138.out 3).trans rfl
            have hcz34_4 : wc.cell? ⟨gb138, 4, none⟩ = some (.string a0_4) := (kcl BK138.out 4).trans rfl
            have hcz34_5 : wc.cell? ⟨gb138, 5, none⟩ = some (.string a0_5) := (kcl BK138.out 5).trans rfl
            have hcz34_6 : wc.cell? ⟨gb138, 6, none⟩ = some (.int .i64 a0_6) := (kcl BK138.out 6).trans rfl
            have hfz34_0 := kfr BK138.out 0
            have hfz34_1 := kfr BK138.out 1
            have hfz34_2 := kfr BK138.out 2
            have hfz34_3 := kfr BK138.out 3
            have hfz34_4 := kfr BK138.out 4
            have hfz34_5 := kfr BK138.out 5
            have hfz34_6 := kfr BK138.out 6
            go_wp2
            go_ret
            exact ⟨by first | rfl | (simp [errW_none, errW_some] <;> rfl) | (simp [*, errW_none, errW_some] <;> rfl), by repeat (first | (with_reducible first | exact HB.out | apply bal | apply bdn | apply bd1 | refine bst ?_ GE138.out) | exact HB.out)⟩
          rw [if_pos c30] at H
          have c30b0 : (a0_0 == 2) = true := beq_iff_eq.mpr c30
          have c30b1 : (a0_0 != 2) = false := bne_eq_false_iff_eq.mpr c30
          clear c30
          replace H := Option.bind_eq_some_iff.mp H
          obtain ⟨t139, A310, H⟩ := H
          replace H : (some t139) = some r := H
          have A31 := Aside0.mk A310
          clear A310
          obtain rfl := Option.some.inj H
          have hcz32_0 : wc.cell? ⟨gb138, 0, none⟩ = some (.int .i64 a0_0) := (kcl BK138.out 0).trans rfl
          have hcz32_1 : wc.cell? ⟨gb138, 1, none⟩ = some (.int .i64 a0_1) := (kcl BK138.out 1).trans rfl
          have hcz32_2 : wc.cell? ⟨gb138, 2, none⟩ = some (.string a0_2) := (kcl BK138.out 2).trans rfl
          have hcz32_3 : wc.cell? ⟨gb138, 3, none⟩ = some (.int .i64 a0_3) := (kcl BK138.out 3).trans rfl
          have hcz32_4 : wc.cell? ⟨gb138, 4, none⟩ = some (.string a0_4) := (kcl BK138.out 4).trans rfl
          have hcz32_5 : wc.cell? ⟨gb138, 5, none⟩ = some (.string a0_5) := (kcl BK138.out 5).trans rfl
          have hcz32_6 : wc.cell? ⟨gb138, 6, none⟩ = some (.int .i64 a0_6) := (kcl BK138.out 6).trans rfl
          have hfz32_0 := kfr BK138.out 0
          have hfz32_1 := kfr BK138.out 1
          have hfz32_2 := kfr BK138.out 2
          have hfz32_3 := kfr BK138.out 3
          have hfz32_4 := kfr BK138.out 4
          have hfz32_5 := kfr BK138.out 5
          have hfz32_6 := kfr BK138.out 6
          go_wp2_with (first | ((with_reducible refine gcl (f := 28) rfl ?_); refine gl_ (some 60) rfl rfl Try.func28 (by kernel_rfl) rfl #[.agg #[.int .i64 a0_3, .string a0_4, .string a0_5, .int .i64 a0_6]] rfl (by (try simp only [List.map_toArray, List.map_cons, List.map_nil]); first | done | rfl | (simp only [List.length_drop, List.length_take]; rfl)) ?_; (with_reducible refine (method_Call_Check.calls kj23 a0_3 a0_4 a0_5 a0_6 t139 _ A31.out).mono ?_); rintro e w33 ⟨rfl, hb⟩; refine ⟨_, rfl, ?_⟩; have n0_ := Aside0.mk (kbl (g := gb138) (o := .cells #[.int .i64 a0_0, .int .i64 a0_1, .string a0_2, .int .i64 a0_3, .string a0_4, .string a0_5, .int .i64 a0_6] 26 (0, 0)) (by (with_reducible repeat (first | refine kdn ?_ _ | refine kdw ?_ | refine kal ?_ _)); exact BK138.out) hb); have n1_ := Aside0.mk (bsp (by repeat (first | (with_reducible first | exact HB.out | apply bal | apply bdn | apply bd1 | refine bst ?_ GE138.out) | exact HB.out)) hb); clear BK138; clear HB; have BK138 := n0_; have HB := n1_; clear n0_ n1_; (try clear hb); (try clear hb2); (try clear hk); (try clear hi)))
          go_ret
          exact ⟨by first | rfl | (simp [errW_none, errW_some] <;> rfl) | (simp [*, errW_none, errW_some] <;> rfl), by repeat (first | (with_reducible first | exact HB.out | apply bal | apply bdn | apply bd1 | refine bst ?_ GE138.out) | exact HB.out)⟩
end Go.Proofs.Ytkkkmbgflflcnaa.PA

