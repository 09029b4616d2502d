import Derived.Test.YtkoojbkkkpljoaaQResPAx0
namespace Go.Proofs.Ytkoojbkkkpljoaa.PA
open Go.Proofs.Ytkoojbkkkpljoaa.PL
open Go.RowKit Go.Proofs.YtkoojbkkkpljoaaW.PrintWords Go.Proofs.YtkoojbkkkpljoaaW.PrintLast Go.Proofs.YtkoojbkkkpljoaaW.PrintMore
attribute [local go_sem] max2_int min2_int max_two min_two max_three min_three max_four min_four
set_option linter.unusedVariables false
set_option linter.unusedSimpArgs false
def method_Result_Check.j0 : Nat → Bool → Int → ByteArray → Int → Option (Int)
  | 0, _, _, _, _ => none
  | k + 1, x3, x276000, x276001, x276002 => if x3 = true then (some 6) else (if (x276001.size : Int) > 24 then (some 3) else (if x276001.toList = ([] : List UInt8) then (some 0) else (if x276002 = 0 then (some 0) else (some 2))))
def method_Result_Check.f (k : Nat) (a0_0 : Int) (a0_1 : ByteArray) (a0_2 : Int) : Option (Int) := if a0_0 = 1 then (method_Result_Check.j0 k false a0_0 a0_1 a0_2) else (method_Result_Check.j0 k (a0_0 != 2) a0_0 a0_1 a0_2)
set_option maxHeartbeats 2000000 in
set_option maxRecDepth 100000 in
theorem method_Result_Check.calls (k : Nat) (a0_0 : Int) (a0_1 : ByteArray) (a0_2 : Int) (r : Int) (w : World) (h : method_Result_Check.f k a0_0 a0_1 a0_2 = some r) :
    Calls Try.prog 29 #[.agg #[.int .i64 a0_0, .string a0_1, .int .i64 a0_2]] w fun e w' => e = .returned (.int .i64 r) ∧ Below w.heap.size w w' := by
  have hu29 := Try.underlying29
  have HB := Aside0.mk (Below.refl w.heap.size w)
  have H : (if a0_0 = 1 then (method_Result_Check.j0 k false a0_0 a0_1 a0_2) else (method_Result_Check.j0 k (a0_0 != 2) a0_0 a0_1 a0_2)) = some r := h
  clear h
  have HC2 := Aside0.mk H
  clear H
  go_enter Try.func29, Try.ntmps29
  go_upto_region 1 with (first | ((with_reducible refine gate_dst (N := 1) rfl ?_); refine box_event ?hg (N := 1) ?hd (cs := #[.int .i64 a0_0, .string a0_1, .int .i64 a0_2]) (t := 29) ?hr ?_; (case hd => rfl); (case hg => rfl); (case hr => first | (go_simp; done) | (go_simp; rfl)); intro gb275 hg w3 hbox hb; have n0_ := Aside0.mk (below_step (by repeat (first | (with_reducible first | exact HB.out | apply below_alloc | apply pw_below_drewN | apply below_drew1) | exact HB.out)) hb); have n1_ := Aside0.mk (hbox); have n2_ := Aside0.mk ((by rw [hg]; exact (below_size (by repeat (first | (with_reducible first | exact HB.out | apply below_alloc | apply pw_below_drewN | apply below_drew1) | exact HB.out))) : w.heap.size ≤ gb275)); have n3_ := Aside0.mk ((by rw [hg]; exact (below_size (by repeat (first | (with_reducible first | exact HB.out | apply below_alloc | apply pw_below_drewN | apply below_drew1) | exact HB.out))) : w.heap.size ≤ gb275)); clear HB; have HB := n0_; have BK275 := n1_; have GW275 := n2_; have GE275 := n3_; clear n0_ n1_ n2_ n3_; clear hb hbox hg))
  (try simp only [Act.put, List.setIfInBounds_toArray, List.set_cons_zero, List.set_cons_succ])
  go_cut [3] (fun v3 wc => ∃ (kq : Nat) (x3_1 : Bool), v3 = .bool x3_1 ∧ Aside0 (method_Result_Check.j0 kq x3_1 a0_0 a0_1 a0_2 = some r) ∧ Aside0 (kq ≤ k) ∧ Aside0 (wc.heap[gb275]? = some (.cells #[.int .i64 a0_0, .string a0_1, .int .i64 a0_2] 29 (0, 0))) ∧ Aside0 (Below w.heap.size w wc))
  case first =>
    have H := HC2.out
    clear HC2
    by_cases c4 : a0_0 = 1
    rotate_left
    · rw [if_neg c4] at H
      have c4b0 : (a0_0 == 1) = false := beq_eq_false_iff_ne.mpr c4
      have c4b1 : (a0_0 != 1) = true := bne_iff_ne.mpr c4
      (first | rw [c4b0] | (simp only [i64_w, i32_w]; rw [c4b0]) | skip)
      have H' := Aside0.mk H
      clear H
      have hcz6_0 : w3.cell? ⟨gb275, 0, none⟩ = some (.int .i64 a0_0) := (blk_cell BK275.out 0).trans rfl
      have hcz6_1 : w3.cell? ⟨gb275, 1, none⟩ = some (.string a0_1) := (blk_cell BK275.out 1).trans rfl
      have hcz6_2 : w3.cell? ⟨gb275, 2, none⟩ = some (.int .i64 a0_2) := (blk_cell BK275.out 2).trans rfl
      have hfz6_0 := blk_frozen BK275.out 0
      have hfz6_1 := blk_frozen BK275.out 1
      have hfz6_2 := blk_frozen BK275.out 2
      go_wp2
      go_meet
      case rel => exact ⟨_, ((a0_0 != 2)), (by first | rfl | (simp; done) | (simp [*]; done) | exact emp1_ _ | exact (emp1_ _).symm | exact emp2_ _ | exact (emp2_ _).symm), H', ⟨by first | omega | exact Nat.le_refl _⟩, ⟨by (with_reducible repeat (first | refine blk_drewN ?_ _ | refine blk_drew ?_ | refine blk_alloc ?_ _)); exact BK275.out⟩, ⟨by repeat (first | (with_reducible first | exact HB.out | apply below_alloc | apply pw_below_drewN | apply below_drew1 | refine below_set ?_ GE275.out) | exact HB.out)⟩⟩
    rw [if_pos c4] at H
    have c4b0 : (a0_0 == 1) = true := beq_iff_eq.mpr c4
    have c4b1 : (a0_0 != 1) = false := bne_eq_false_iff_eq.mpr c4
    clear c4
    (first | rw [c4b0] | (simp only [i64_w, i32_w]; rw [c4b0]) | skip)
    have H' := Aside0.mk H
    clear H
    have hcz5_0 : w3.cell? ⟨gb275, 0, none⟩ = some (.int .i64 a0_0) := (blk_cell BK275.out 0).trans rfl
    have hcz5_1 : w3.cell? ⟨gb275, 1, none⟩ = some (.string a0_1) := (blk_cell BK275.out 1).trans rfl
    have hcz5_2 : w3.cell? ⟨gb275, 2, none⟩ = some (.int .i64 a0_2) := (blk_cell BK275.out 2).trans rfl
    have hfz5_0 := blk_frozen BK275.out 0
    have hfz5_1 := blk_frozen BK275.out 1
    have hfz5_2 := blk_frozen BK275.out 2
    go_wp2
    go_meet
    case rel => exact ⟨_, (false), (by first | rfl | (simp; done) | (simp [*]; done) | exact emp1_ _ | exact (emp1_ _).symm | exact emp2_ _ | exact (emp2_ _).symm), H', ⟨by first | omega | exact Nat.le_refl _⟩, ⟨by (with_reducible repeat (first | refine blk_drewN ?_ _ | refine blk_drew ?_ | refine blk_alloc ?_ _)); exact BK275.out⟩, ⟨by repeat (first | (with_reducible first | exact HB.out | apply below_alloc | apply pw_below_drewN | apply below_drew1 | refine below_set ?_ GE275.out) | exact HB.out)⟩⟩
  clear HC2
  try clear c2
  try clear p2
  try clear c4
  try clear c4b0
  try clear c4b1
  try clear hcz5_0
  try clear hcz5_1
  try clear hcz5_2
  try clear hcz6_0
  try clear hcz6_1
  try clear hcz6_2
  try clear hfz5_0
  try clear hfz5_1
  try clear hfz5_2
  try clear hfz6_0
  try clear hfz6_1
  try clear hfz6_2
  obtain ⟨kq, x3_1, rfl, HA, HJ1, BK275, HB⟩ := hcut
  cases kq with
  | zero => exact absurd HA.out (by simp [method_Result_Check.j0])
  | succ kj1 =>
    have H := HA.out
    clear HA
    simp only [method_Result_Check.j0] at H
    by_cases c7 : x3_1 = true
    · subst c7
      have H1 : (some 6) = some r := by rw [if_pos rfl] at H; exact H
      clear H
      have H := H1
      clear H1
      obtain rfl := Option.some.inj H
      go_wp2
      go_ret
      exact ⟨by first | rfl | (simp [errW_none, errW_some] <;> rfl) | (simp [*, errW_none, errW_some] <;> rfl), by repeat (first | (with_reducible first | exact HB.out | apply below_alloc | apply pw_below_drewN | apply below_drew1 | refine below_set ?_ GE275.out) | exact HB.out)⟩
    replace c7 := Bool.eq_false_iff.mpr c7
    subst c7
    have H1 : (if (a0_1.size : Int) > 24 then (some 3) else (if a0_1.toList = ([] : List UInt8) then (some 0) else (if a0_2 = 0 then (some 0) else (some 2)))) = some r := by rw [if_neg (show ¬ (false = true) by decide)] at H; exact H
    clear H
    have H := H1
    clear H1
    by_cases c8 : (a0_1.size : Int) > 24
    · rw [if_pos c8] at H
      have c8b0 : decide (24 < (a0_1.size : Int)) = true := decide_eq_true c8
      have c8b1 : decide (24 < a0_1.size) = true := decide_eq_true (by omega)
      clear c8
      obtain rfl := Option.some.inj H
      have hcz9_0 : wc.cell? ⟨gb275, 0, none⟩ = some (.int .i64 a0_0) := (blk_cell BK275.out 0).trans rfl
      have hcz9_1 : wc.cell? ⟨gb275, 1, none⟩ = some (.string a0_1) := (blk_cell BK275.out 1).trans rfl
      have hcz9_2 : wc.cell? ⟨gb275, 2, none⟩ = some (.int .i64 a0_2) := (blk_cell BK275.out 2).trans rfl
      have hfz9_0 := blk_frozen BK275.out 0
      have hfz9_1 := blk_frozen BK275.out 1
      have hfz9_2 := blk_frozen BK275.out 2
      go_wp2
      go_ret
      exact ⟨by first | rfl | (simp [errW_none, errW_some] <;> rfl) | (simp [*, errW_none, errW_some] <;> rfl), by repeat (first | (with_reducible first | exact HB.out | apply below_alloc | apply pw_below_drewN | apply below_drew1 | refine below_set ?_ GE275.out) | exact HB.out)⟩
    rw [if_neg c8] at H
    have c8b0 : decide (24 < (a0_1.size : Int)) = false := decide_eq_false c8
    have c8b1 : decide (24 < a0_1.size) = false := decide_eq_false (by omega)
    clear c8
    by_cases c10 : a0_1.toList = ([] : List UInt8)
    · rw [if_pos c10] at H
      have c10b0 : (a0_1.toList == ([] : List UInt8)) = true := beq_iff_eq.mpr c10
      have c10b1 : (a0_1.toList != ([] : List UInt8)) = false := bne_eq_false_iff_eq.mpr c10
      clear c10
      obtain rfl := Option.some.inj H
      have hcz11_0 : wc.cell? ⟨gb275, 0, none⟩ = some (.int .i64 a0_0) := (blk_cell BK275.out 0).trans rfl
      have hcz11_1 : wc.cell? ⟨gb275, 1, none⟩ = some (.string a0_1) := (blk_cell BK275.out 1).trans rfl
      have hcz11_2 : wc.cell? ⟨gb275, 2, none⟩ = some (.int .i64 a0_2) := (blk_cell BK275.out 2).trans rfl
      have hfz11_0 := blk_frozen BK275.out 0
      have hfz11_1 := blk_frozen BK275.out 1
      have hfz11_2 := blk_frozen BK275.out 2
      go_wp2
      go_ret
      exact ⟨by first | rfl | (simp [errW_none, errW_some] <;> rfl) | (simp [*, errW_none, errW_some] <;> rfl), by repeat (first | (with_reducible first | exact HB.out | apply below_alloc | apply pw_below_drewN | apply below_drew1 | refine below_set ?_ GE275.out) | exact HB.out)⟩
    rw [if_neg c10] at H
    have c10b0 : (a0_1.toList == ([] : List UInt8)) = false := beq_eq_false_iff_ne.mpr c10
    have c10b1 : (a0_1.toList != ([] : List UInt8)) = true := bne_iff_ne.mpr c10
    by_cases c12 : a0_2 = 0
    rotate_left
    · rw [if_neg c12] at H
      have c12b0 : (a0_2 == 0) = false := beq_eq_false_iff_ne.mpr c12
      have c12b1 : (a0_2 != 0) = true := bne_iff_ne.mpr c12
      obtain rfl := Option.some.inj H
      have hcz14_0 : wc.cell? ⟨gb275, 0, none⟩ = some (.int .i64 a0_0) := (blk_cell BK275.out 0).trans rfl
      have hcz14_1 : wc.cell? ⟨gb275, 1, none⟩ = some (.string a0_1) := (blk_cell BK275.out 1).trans rfl
      have hcz14_2 : wc.cell? ⟨gb275, 2, none⟩ = some (.int .i64 a0_2) := (blk_cell BK275.out 2).trans rfl
      have hfz14_0 := blk_frozen BK275.out 0
      have hfz14_1 := blk_frozen BK275.out 1
      have hfz14_2 := blk_frozen BK275.out 2
      go_wp2
      go_ret
      exact ⟨by first | rfl | (simp [errW_none, errW_some] <;> rfl) | (simp [*, errW_none, errW_some] <;> rfl), by repeat (first | (with_reducible first | exact HB.out | apply below_alloc | apply pw_below_drewN | apply below_drew1 | refine below_set ?_ GE275.out) | exact HB.out)⟩
    rw [if_pos c12] at H
    have c12b0 : (a0_2 == 0) = true := beq_iff_eq.mpr c12
    have c12b1 : (a0_2 != 0) = false := bne_eq_false_iff_eq.mpr c12
    clear c12
    obtain rfl := Option.some.inj H
    have hcz13_0 : wc.cell? ⟨gb275, 0, none⟩ = some (.int .i64 a0_0) := (blk_cell BK275.out 0).trans rfl
    have hcz13_1 : wc.cell? ⟨gb275, 1, none⟩ = some (.string a0_1) := (blk_cell BK275.out 1).trans rfl
    have hcz13_2 : wc.cell? ⟨gb275, 2, none⟩ = some (.int .i64 a0_2) := (blk_cell BK275.out 2).trans rfl
    have hfz13_0 := blk_frozen BK275.out 0
    have hfz13_1 := blk_frozen BK275.out 1
    have hfz13_2 := blk_frozen BK275.out 2
    go_wp2
    go_ret
    exact ⟨by first | rfl | (simp [errW_none, errW_some] <;> rfl) | (simp [*, errW_none, errW_some] <;> rfl), by repeat (first | (with_reducible first | exact HB.out | apply below_alloc | apply pw_below_drewN | apply below_drew1 | refine below_set ?_ GE275.out) | exact HB.out)⟩
def armoireref12_CheckResult.j0 : Nat → Bool → Int → ByteArray → Int → Option (Int)
  | 0, _, _, _, _ => none
  | k + 1, x10, x277000, x277001, x277002 => if x10 = true then (some 6) else (if (x277001.size : Int) > 24 then (some 3) else (if x277001.toList = ([] : List UInt8) then (some 0) else (if x277002 = 0 then (some 0) else (some 2))))
def armoireref12_CheckResult.f (k : Nat) (a0_0 : Int) (a0_1 : ByteArray) (a0_2 : Int) : Option (Int) := if a0_0 = 1 then (armoireref12_CheckResult.j0 k false a0_0 a0_1 a0_2) else (armoireref12_CheckResult.j0 k (a0_0 != 2) a0_0 a0_1 a0_2)
set_option maxHeartbeats 2000000 in
set_option maxRecDepth 100000 in
theorem armoireref12_CheckResult.calls (k : Nat) (a0_0 : Int) (a0_1 : ByteArray) (a0_2 : Int) (r : Int) (w : World) (h : armoireref12_CheckResult.f k a0_0 a0_1 a0_2 = some r) :
    Calls Try.prog 30 #[.agg #[.int .i64 a0_0, .string a0_1, .int .i64 a0_2]] w fun e w' => e = .returned (.int .i64 r) ∧ Below w.heap.size w w' := by
  have hu39 := Try.underlying39
  have HB := Aside0.mk (Below.refl w.heap.size w)
  have H : (if a0_0 = 1 then (armoireref12_CheckResult.j0 k false a0_0 a0_1 a0_2) else (armoireref12_CheckResult.j0 k (a0_0 != 2) a0_0 a0_1 a0_2)) = some r := h
  clear h
  have HC2 := Aside0.mk H
  clear H
  go_enter Try.func30, Try.ntmps30
  go_upto_region 1 with (first | ((with_reducible refine gate_dst (N := 1) rfl ?_); refine box_event ?hg (N := 1) ?hd (cs := #[.int .i64 a0_0, .string a0_1, .int .i64 a0_2]) (t := 39) ?hr ?_; (case hd => rfl); (case hg => rfl); (case hr => first | (go_simp; done) | (go_simp; rfl)); intro gb276 hg w3 hbox hb; have n0_ := Aside0.mk (below_step (by repeat (first | (with_reducible first | exact HB.out | apply below_alloc | apply pw_below_drewN | apply below_drew1) | exact HB.out)) hb); have n1_ := Aside0.mk (hbox); have n2_ := Aside0.mk ((by rw [hg]; exact (below_size (by repeat (first | (with_reducible first | exact HB.out | apply below_alloc | apply pw_below_drewN | apply below_drew1) | exact HB.out))) : w.heap.size ≤ gb276)); have n3_ := Aside0.mk ((by rw [hg]; exact (below_size (by repeat (first | (with_reducible first | exact HB.out | apply below_alloc | apply pw_below_drewN | apply below_drew1) | exact HB.out))) : w.heap.size ≤ gb276)); clear HB; have HB := n0_; have BK276 := n1_; have GW276 := n2_; have GE276 := n3_; clear n0_ n1_ n2_ n3_; clear hb hbox hg))
  (try simp only [Act.put, List.setIfInBounds_toArray, List.set_cons_zero, List.set_cons_succ])
  go_cut [10] (fun v10 wc => ∃ (kq : Nat) (x10_1 : Bool), v10 = .bool x10_1 ∧ Aside0 (armoireref12_CheckResult.j0 kq x10_1 a0_0 a0_1 a0_2 = some r) ∧ Aside0 (kq ≤ k) ∧ Aside0 (wc.heap[gb276]? = some (.cells #[.int .i64 a0_0, .string a0_1, .int .i64 a0_2] 39 (0, 0))) ∧ Aside0 (Below w.heap.size w wc))
  case first =>
    have H := HC2.out
    clear HC2
    by_cases c4 : a0_0 = 1
    rotate_left
    · rw [if_neg c4] at H
      have c4b0 : (a0_0 == 1) = false := beq_eq_false_iff_ne.mpr c4
      have c4b1 : (a0_0 != 1) = true := bne_iff_ne.mpr c4
      (first | rw [c4b0] | (simp only [i64_w, i32_w]; rw [c4b0]) | skip)
      have H' := Aside0.mk H
      clear H
      have hcz6_0 : w3.cell? ⟨gb276, 0, none⟩ = some (.int .i64 a0_0) := (blk_cell BK276.out 0).trans rfl
      have hcz6_1 : w3.cell? ⟨gb276, 1, none⟩ = some (.string a0_1) := (blk_cell BK276.out 1).trans rfl
      have hcz6_2 : w3.cell? ⟨gb276, 2, none⟩ = some (.int .i64 a0_2) := (blk_cell BK276.out 2).trans rfl
      have hfz6_0 := blk_frozen BK276.out 0
      have hfz6_1 := blk_frozen BK276.out 1
      have hfz6_2 := blk_frozen BK276.out 2
      go_wp2
      go_meet
      case rel => exact ⟨_, ((a0_0 != 2)), (by first | rfl | (simp; done) | (simp [*]; done) | exact emp1_ _ | exact (emp1_ _).symm | exact emp2_ _ | exact (emp2_ _).symm), H', ⟨by first | omega | exact Nat.le_refl _⟩, ⟨by (with_reducible repeat (first | refine blk_drewN ?_ _ | refine blk_drew ?_ | refine blk_alloc ?_ _)); exact BK276.out⟩, ⟨by repeat (first | (with_reducible first | exact HB.out | apply below_alloc | apply pw_below_drewN | apply below_drew1 | refine below_set ?_ GE276.out) | exact HB.out)⟩⟩
    rw [if_pos c4] at H
    have c4b0 : (a0_0 == 1) = true := beq_iff_eq.mpr c4
    have c4b1 : (a0_0 != 1) = false := bne_eq_false_iff_eq.mpr c4
    clear c4
    (first | rw [c4b0] | (simp only [i64_w, i32_w]; rw [c4b0]) | skip)
    have H' := Aside0.mk H
    clear H
    have hcz5_0 : w3.cell? ⟨gb276, 0, none⟩ = some (.int .i64 a0_0) := (blk_cell BK276.out 0).trans rfl
    have hcz5_1 : w3.cell? ⟨gb276, 1, none⟩ = some (.string a0_1) := (blk_cell BK276.out 1).trans rfl
    have hcz5_2 : w3.cell? ⟨gb276, 2, none⟩ = some (.int .i64 a0_2) := (blk_cell BK276.out 2).trans rfl
    have hfz5_0 := blk_frozen BK276.out 0
    have hfz5_1 := blk_frozen BK276.out 1
    have hfz5_2 := blk_frozen BK276.out 2
    go_wp2
    go_meet
    case rel => exact ⟨_, (false), (by first | rfl | (simp; done) | (simp [*]; done) | exact emp1_ _ | exact (emp1_ _).symm | exact emp2_ _ | exact (emp2_ _).symm), H', ⟨by first | omega | exact Nat.le_refl _⟩, ⟨by (with_reducible repeat (first | refine blk_drewN ?_ _ | refine blk_drew ?_ | refine blk_alloc ?_ _)); exact BK276.out⟩, ⟨by repeat (first | (with_reducible first | exact HB.out | apply below_alloc | apply pw_below_drewN | apply below_drew1 | refine below_set ?_ GE276.out) | exact HB.out)⟩⟩
  clear HC2
  try clear p2
  try clear c3
  try clear c4
  try clear c4b0
  try clear c4b1
  try clear hcz5_0
  try clear hcz5_1
  try clear hcz5_2
  try clear hcz6_0
  try clear hcz6_1
  try clear hcz6_2
  try clear hfz5_0
  try clear hfz5_1
  try clear hfz5_2
  try clear hfz6_0
  try clear hfz6_1
  try clear hfz6_2
  obtain ⟨kq, x10_1, rfl, HA, HJ1, BK276, HB⟩ := hcut
  cases kq with
  | zero => exact absurd HA.out (by simp [armoireref12_CheckResult.j0])
  | succ kj1 =>
    have H := HA.out
    clear HA
    simp only [armoireref12_CheckResult.j0] at H
    by_cases c7 : x10_1 = true
    · subst c7
      have H1 : (some 6) = some r := by rw [if_pos rfl] at H; exact H
      clear H
      have H := H1
      clear H1
      obtain rfl := Option.some.inj H
      go_wp2
      go_ret
      exact ⟨by first | rfl | (simp [errW_none, errW_some] <;> rfl) | (simp [*, errW_none, errW_some] <;> rfl), by repeat (first | (with_reducible first | exact HB.out | apply below_alloc | apply pw_below_drewN | apply below_drew1 | refine below_set ?_ GE276.out) | exact HB.out)⟩
    replace c7 := Bool.eq_false_iff.mpr c7
    subst c7
    have H1 : (if (a0_1.size : Int) > 24 then (some 3) else (if a0_1.toList = ([] : List UInt8) then (some 0) else (if a0_2 = 0 then (some 0) else (some 2)))) = some r := by rw [if_neg (show ¬ (false = true) by decide)] at H; exact H
    clear H
    have H := H1
    clear H1
    by_cases c8 : (a0_1.size : Int) > 24
    · rw [if_pos c8] at H
      have c8b0 : decide (24 < (a0_1.size : Int)) = true := decide_eq_true c8
      have c8b1 : decide (24 < a0_1.size) = true := decide_eq_true (by omega)
      clear c8
      obtain rfl := Option.some.inj H
      have hcz9_0 : wc.cell? ⟨gb276, 0, none⟩ = some (.int .i64 a0_0) := (blk_cell BK276.out 0).trans rfl
      have hcz9_1 : wc.cell? ⟨gb276, 1, none⟩ = some (.string a0_1) := (blk_cell BK276.out 1).trans rfl
      have hcz9_2 : wc.cell? ⟨gb276, 2, none⟩ = some (.int .i64 a0_2) := (blk_cell BK276.out 2).trans rfl
      have hfz9_0 := blk_frozen BK276.out 0
      have hfz9_1 := blk_frozen BK276.out 1
      have hfz9_2 := blk_frozen BK276.out 2
      go_wp2
      go_ret
      exact ⟨by first | rfl | (simp [errW_none, errW_some] <;> rfl) | (simp [*, errW_none, errW_some] <;> rfl), by repeat (first | (with_reducible first | exact HB.out | apply below_alloc | apply pw_below_drewN | apply below_drew1 | refine below_set ?_ GE276.out) | exact HB.out)⟩
    rw [if_neg c8] at H
    have c8b0 : decide (24 < (a0_1.size : Int)) = false := decide_eq_false c8
    have c8b1 : decide (24 < a0_1.size) = false := decide_eq_false (by omega)
    clear c8
    by_cases c10 : a0_1.toList = ([] : List UInt8)
    · rw [if_pos c10] at H
      have c10b0 : (a0_1.toList == ([] : List UInt8)) = true := beq_iff_eq.mpr c10
      have c10b1 : (a0_1.toList != ([] : List UInt8)) = false := bne_eq_false_iff_eq.mpr c10
      clear c10
      obtain rfl := Option.some.inj H
      have hcz11_0 : wc.cell? ⟨gb276, 0, none⟩ = some (.int .i64 a0_0) := (blk_cell BK276.out 0).trans rfl
      have hcz11_1 : wc.cell? ⟨gb276, 1, none⟩ = some (.string a0_1) := (blk_cell BK276.out 1).trans rfl
      have hcz11_2 : wc.cell? ⟨gb276, 2, none⟩ = some (.int .i64 a0_2) := (blk_cell BK276.out 2).trans rfl
      have hfz11_0 := blk_frozen BK276.out 0
      have hfz11_1 := blk_frozen BK276.out 1
      have hfz11_2 := blk_frozen BK276.out 2
      go_wp2
      go_ret
      exact ⟨by first | rfl | (simp [errW_none, errW_some] <;> rfl) | (simp [*, errW_none, errW_some] <;> rfl), by repeat (first | (with_reducible first | exact HB.out | apply below_alloc | apply pw_below_drewN | apply below_drew1 | refine below_set ?_ GE276.out) | exact HB.out)⟩
    rw [if_neg c10] at H
    have c10b0 : (a0_1.toList == ([] : List UInt8)) = false := beq_eq_false_iff_ne.mpr c10
    have c10b1 : (a0_1.toList != ([] : List UInt8)) = true := bne_iff_ne.mpr c10
    by_cases c12 : a0_2 = 0
    rotate_left
    · rw [if_neg c12] at H
      have c12b0 : (a0_2 == 0) = false := beq_eq_false_iff_ne.mpr c12
      have c12b1 : (a0_2 != 0) = true := bne_iff_ne.mpr c12
      obtain rfl := Option.some.inj H
      have hcz14_0 : wc.cell? ⟨gb276, 0, none⟩ = some (.int .i64 a0_0) := (blk_cell BK276.out 0).trans rfl
      have hcz14_1 : wc.cell? ⟨gb276, 1, none⟩ = some (.string a0_1) := (blk_cell BK276.out 1).trans rfl
      have hcz14_2 : wc.cell? ⟨gb276, 2, none⟩ = some (.int .i64 a0_2) := (blk_cell BK276.out 2).trans rfl
      have hfz14_0 := blk_frozen BK276.out 0
      have hfz14_1 := blk_frozen BK276.out 1
      have hfz14_2 := blk_frozen BK276.out 2
      go_wp2
      go_ret
      exact ⟨by first | rfl | (simp [errW_none, errW_some] <;> rfl) | (simp [*, errW_none, errW_some] <;> rfl), by repeat (first | (with_reducible first | exact HB.out | apply below_alloc | apply pw_below_drewN | apply below_drew1 | refine below_set ?_ GE276.out) | exact HB.out)⟩
    rw [if_pos c12] at H
    have c12b0 : (a0_2 == 0) = true := beq_iff_eq.mpr c12
    have c12b1 : (a0_2 != 0) = false := bne_eq_false_iff_eq.mpr c12
    clear c12
    obtain rfl := Option.some.inj H
    have hcz13_0 : wc.cell? ⟨gb276, 0, none⟩ = some (.int .i64 a0_0) := (blk_cell BK276.out 0).trans rfl
    have hcz13_1 : wc.cell? ⟨gb276, 1, none⟩ = some (.string a0_1) := (blk_cell BK276.out 1).trans rfl
    have hcz13_2 : wc.cell? ⟨gb276, 2, none⟩ = some (.int .i64 a0_2) := (blk_cell BK276.out 2).trans rfl
    have hfz13_0 := blk_frozen BK276.out 0
    have hfz13_1 := blk_frozen BK276.out 1
    have hfz13_2 := blk_frozen BK276.out 2
    go_wp2
    go_ret
    exact ⟨by first | rfl | (simp [errW_none, errW_some] <;> rfl) | (simp [*, errW_none, errW_some] <;> rfl), by repeat (first | (with_reducible first | exact HB.out | apply below_alloc | apply pw_below_drewN | apply below_drew1 | refine below_set ?_ GE276.out) | exact HB.out)⟩
def method_Result_Put.f (a0_0 : Int) (a0_1 : ByteArray) (a0_2 : Int) (s1_0 : ByteArray) : Option (ByteArray) := (codec_Out_N.f s1_0 (([a0_0] : List Int))).bind fun t281 => ((codec_Out_S.f t281 (([a0_1] : List ByteArray))).bind fun t285 => ((codec_Out_I.f t285 (([a0_2] : List Int))).bind fun t289 => (some t289)))
def method_Result_Put.T1 : Bool × List (List Nat × List Nat) := (true, [([], []), ([], []), ([1], [1]), ([2], [2]), ([0, 3], [0, 3]), ([], []), ([5], [5]), ([6], [6]), ([4, 7, 4], [4, 7]), ([], []), ([9], [9]), ([10], [10]), ([8, 11, 8], [8, 11])])
def method_Result_Put.B1 : List Nat := [0, 0, 2, 6, 15, 0, 32, 96, 255, 0, 512, 1536, 4095]
theorem method_Result_Put.tab1 : rtab .any (opsOf Try.f31 1) = method_Result_Put.T1 := by kernel_rfl
theorem method_Result_Put.bits1 : waitsOk method_Result_Put.T1.2 method_Result_Put.B1 = true := by kernel_rfl
set_option maxHeartbeats 2000000 in
set_option maxRecDepth 100000 in
theorem method_Result_Put.calls (a0_0 : Int) (a0_1 : ByteArray) (a0_2 : Int) (g : Nat) (s1_0 : ByteArray) (r : ByteArray) (w0 w : World) (hI : IsS50 w0 w g s1_0) (hB : Below w0.heap.size w0 w) (h : method_Result_Put.f a0_0 a0_1 a0_2 s1_0 = some r) :
    Calls Try.prog 31 #[.agg #[.int .i64 a0_0, .string a0_1, .int .i64 a0_2], .pointer (some ⟨g, 0, none⟩)] w fun e w' => e = .returned (.tuple #[]) ∧ IsS50 w0 w' g r ∧ Below w0.heap.size w0 w' ∧ KeepT w w' [50, 5] := by
  have hu29 := Try.underlying29
  have HI1 := Aside0.mk hI
  have HK := Aside0.mk (KeepT.refl w [50, 5])
  have HL := Aside0.mk hB.size
  clear hI
  have HW0 := Aside0.mk hB.size
  have HB := Aside0.mk hB
  clear hB
  have H : ((codec_Out_N.f s1_0 (([a0_0] : List Int))).bind fun t281 => ((codec_Out_S.f t281 (([a0_1] : List ByteArray))).bind fun t285 => ((codec_Out_I.f t285 (([a0_2] : List Int))).bind fun t289 => (some t289)))) = some r := h
  clear h
  obtain ⟨y278, hy278⟩ : ∃ y_ : List Int, y_ = (([a0_0] : List Int)) := ⟨_, rfl⟩
  replace H : ((codec_Out_N.f s1_0 y278).bind fun t281 => ((codec_Out_S.f t281 (([a0_1] : List ByteArray))).bind fun t285 => ((codec_Out_I.f t285 (([a0_2] : List Int))).bind fun t289 => (some t289)))) = some r := by first | (rw [hy278]; with_reducible exact H) | (have H2_ := (Option.bind_some _ _).symm.trans H; rw [hy278]; with_reducible exact H2_) | (have H2_ := (Option.bind_some _ _).symm.trans H; with_reducible exact H2_) | with_reducible exact H | (rw [hy278]; exact H) | exact H
  have Ny278 := Aside0.mk hy278
  clear hy278
  replace H := Option.bind_eq_some_iff.mp H
  obtain ⟨t281, A30, H⟩ := H
  replace H : ((codec_Out_S.f t281 (([a0_1] : List ByteArray))).bind fun t285 => ((codec_Out_I.f t285 (([a0_2] : List Int))).bind fun t289 => (some t289))) = some r := H
  have A3 := Aside0.mk A30
  clear A30
  obtain ⟨y282, hy282⟩ : ∃ y_ : List ByteArray, y_ = (([a0_1] : List ByteArray)) := ⟨_, rfl⟩
  replace H : ((codec_Out_S.f t281 y282).bind fun t285 => ((codec_Out_I.f t285 (([a0_2] : List Int))).bind fun t289 => (some t289))) = some r := by first | (rw [hy282]; with_reducible exact H) | (have H2_ := (Option.bind_some _ _).symm.trans H; rw [hy282]; with_reducible exact H2_) | (have H2_ := (Option.bind_some _ _).symm.trans H; with_reducible exact H2_) | with_reducible exact H | (rw [hy282]; exact H) | exact H
  have Ny282 := Aside0.mk hy282
  clear hy282
  replace H := Option.bind_eq_some_iff.mp H
  obtain ⟨t285, A40, H⟩ := H
  replace H : ((codec_Out_I.f t285 (([a0_2] : List Int))).bind fun t289 => (some t289)) = some r := H
  have A4 := Aside0.mk A40
  clear A40
  obtain ⟨y286, hy286⟩ : ∃ y_ : List Int, y_ = (([a0_2] : List Int)) := ⟨_, rfl⟩
  replace H : ((codec_Out_I.f t285 y286).bind fun t289 => (some t289)) = some r := by first | (rw [hy286]; with_reducible exact H) | (have H2_ := (Option.bind_some _ _).symm.trans H; rw [hy286]; with_reducible exact H2_) | (have H2_ := (Option.bind_some _ _).symm.trans H; with_reducible exact H2_) | with_reducible exact H | (rw [hy286]; exact H) | exact H
  have Ny286 := Aside0.mk hy286
  clear hy286
  replace H := Option.bind_eq_some_iff.mp H
  obtain ⟨t289, A50, H⟩ := H
  replace H : (some t289) = some r := H
  have A5 := Aside0.mk A50
  clear A50
  obtain rfl := Option.some.inj H
  go_enter Try.func31, Try.ntmps31
  try go_wp2_with (first | ((with_reducible refine gate_dst (N := 2) rfl ?_); refine box_event ?hg (N := 2) ?hd (cs := #[.int .i64 a0_0, .string a0_1, .int .i64 a0_2]) (t := 29) ?hr ?_; (case hd => rfl); (case hg => rfl); (case hr => first | (go_simp; done) | (go_simp; rfl)); intro gb277 hg w6 hbox hb; have n0_ := Aside0.mk (IsS50.below (by repeat (first | (with_reducible first | exact HI1.out | apply IsS50.alloc | apply IsS50.drewN | apply IsS50.drew | apply IsS50.set_0) | exact HI1.out)) hb); have n1_ := Aside0.mk (KeepT.trans (by repeat (first | (with_reducible first | exact HK.out | fail | apply keepT_drewN | apply keepT_drew | apply keepT_alloc) | exact HK.out)) (KeepT.of_below hb)); have n2_ := Aside0.mk (below_step (by repeat (first | (with_reducible first | exact HB.out | apply below_alloc | apply pw_below_drewN | apply below_drew1 | refine below_set ?_ (IsS50.ge HI1.out)) | exact HB.out)) hb); have n3_ := Aside0.mk (hbox); have n4_ := Aside0.mk ((by rw [hg]; exact (KeepT.size (w := w) (ts := [50, 5]) (by repeat (first | (with_reducible first | exact HK.out | fail | apply keepT_drewN | apply keepT_drew | apply keepT_alloc) | exact HK.out))) : w.heap.size ≤ gb277)); have n5_ := Aside0.mk ((Nat.le_trans HW0.out (by rw [hg]; exact (KeepT.size (w := w) (ts := [50, 5]) (by repeat (first | (with_reducible first | exact HK.out | fail | apply keepT_drewN | apply keepT_drew | apply keepT_alloc) | exact HK.out))) : w.heap.size ≤ gb277) : w0.heap.size ≤ gb277)); have n6_ := Aside0.mk ((by rw [hg]; exact Nat.ne_of_lt (IsS50.lt (show IsS50 w0 _ g s1_0 from by repeat (first | (with_reducible first | exact HI1.out | apply IsS50.alloc | apply IsS50.drewN | apply IsS50.drew | apply IsS50.set_0) | exact HI1.out))) : g ≠ gb277)); have n7_ := Aside0.mk ((by rw [hg]; exact Nat.ne_of_gt (IsS50.lt (show IsS50 w0 _ g s1_0 from by repeat (first | (with_reducible first | exact HI1.out | apply IsS50.alloc | apply IsS50.drewN | apply IsS50.drew | apply IsS50.set_0) | exact HI1.out))) : gb277 ≠ g)); clear HI1; clear HK; clear HB; have HI1 := n0_; have HK := n1_; have HB := n2_; have BK277 := n3_; have GW277 := n4_; have GE277 := n5_; have NB1_277 := n6_; have NB277_1 := n7_; clear n0_ n1_ n2_ n3_ n4_ n5_ n6_ n7_; clear hb hbox hg))
  have n0_ := Aside0.mk (blk_drew BK277.out)
  have n1_ := Aside0.mk (IsS50.drew HI1.out)
  have n2_ := Aside0.mk (keepT_drew HK.out)
  have n3_ := Aside0.mk (below_drew1 HB.out)
  clear BK277
  clear HI1
  clear HK
  clear HB
  have BK277 := n0_
  have HI1 := n1_
  have HK := n2_
  have HB := n3_
  clear n0_ n1_ n2_ n3_
  refine start_ (n := 13) (S := fun w' => True) (ds := []) #[false,false,false,false,false,false,false,false,false,false,false,false,false] (by kernel_rfl) rfl rfl trivial (fun hHeld => ?_); refine with_tabW method_Result_Put.tab1 method_Result_Put.bits1 (fun HT_ HW_ => ?_)
  generalize w6.drew = w7 at BK277 HI1 HK HB hHeld ⊢
  refine pure_ (i := 0) (N := some 4) (v := ?_) (a' := ?_) (bA 13 1) rfl rfl (any_of HT_.out (by kernel_rfl)) (fun _ _ _ h => h) (Or.inl ⟨by rfl, ?_⟩) ?_ ?_
  rotate_left; (intro w'; go_simp; with_reducible rfl); rotate_left; (simp only [Act.put, List.setIfInBounds_toArray, List.set_cons_zero, List.set_cons_succ, i64_w, i32_w]; rfl)
  refine pure_ (i := 1) (N := some 5) (v := ?_) (a' := ?_) (bA 13 3) rfl rfl (any_of HT_.out (by kernel_rfl)) (fun _ _ _ h => h) (Or.inl ⟨by rfl, ?_⟩) ?_ ?_
  rotate_left; (intro w'; go_simp; with_reducible rfl); rotate_left; (simp only [Act.put, List.setIfInBounds_toArray, List.set_cons_zero, List.set_cons_succ, i64_w, i32_w]; rfl)
  refine pure_ (i := 5) (N := some 9) (v := ?_) (a' := ?_) (bA 13 35) rfl rfl (any_of HT_.out (by kernel_rfl)) (fun _ _ _ h => h) (Or.inl ⟨by rfl, ?_⟩) ?_ ?_
  rotate_left; (intro w'; go_simp; with_reducible rfl); rotate_left; (simp only [Act.put, List.setIfInBounds_toArray, List.set_cons_zero, List.set_cons_succ, i64_w, i32_w]; rfl)
  refine pure_ (i := 9) (N := some 13) (v := ?_) (a' := ?_) (bA 13 547) rfl rfl (any_of HT_.out (by kernel_rfl)) (fun _ _ _ h => h) (Or.inl ⟨by rfl, ?_⟩) ?_ ?_
  rotate_left; (intro w'; go_simp; with_reducible rfl); rotate_left; (simp only [Act.put, List.setIfInBounds_toArray, List.set_cons_zero, List.set_cons_succ, i64_w, i32_w]; rfl)
  refine inv_at [2, 3, 4, 6, 7, 8, 10, 11, 12] (fun a0_ b a w' => ∃ (v279 : Value) (v283 : Value) (v287 : Value), a = putSel a0_ b [(2, 6, .int .i64 a0_0), (3, 7, v279), (4, 8, .pointer (some ⟨g, 0, none⟩)), (6, 10, .string a0_1), (7, 11, v283), (8, 12, .pointer (some ⟨g, 0, none⟩)), (10, 14, .int .i64 a0_2), (11, 15, v287), (12, 16, .pointer (some ⟨g, 0, none⟩))] ∧ (w'.heap[gb277]? = some (.cells #[.int .i64 a0_0, .string a0_1, .int .i64 a0_2] 29 (0, 0))) ∧ (b 4 = false → IsS50 w0 w' g s1_0) ∧ (KeepT w w' [50, 5]) ∧ (Below w0.heap.size w0 w') ∧ (b 3 = true → Kd.R (Kd.int .i64) 3 w' w.heap.size (fun _ => True) v279 y278) ∧ (b 4 = true → b 8 = false → IsS50 w0 w' g t281) ∧ (b 7 = true → Kd.R Kd.string 9 w' w.heap.size (fun _ => True) v283 y282) ∧ (b 8 = true → b 12 = false → IsS50 w0 w' g t285) ∧ (b 11 = true → Kd.R (Kd.int .i64) 2 w' w.heap.size (fun _ => True) v287 y286) ∧ (b 12 = true → IsS50 w0 w' g t289)) HT_.out HW_.out (by kernel_rfl) (by kernel_rfl) ?_ ?_ ?_
  · exact ⟨.bool false, .bool false, .bool false, by simp only [putSel, Bool.false_eq_true, if_false], BK277.out, fun _ => HI1.out, HK.out, HB.out, fun h_ => absurd h_ (by decide), fun h_ => absurd h_ (by decide), fun h_ => absurd h_ (by decide), fun h_ => absurd h_ (by decide), fun h_ => absurd h_ (by decide), fun h_ => absurd h_ (by decide)⟩
  · skip
    clear BK277 HB HI1 HK
    refine steps_cons ?_ ?_
    · rintro b a w' ⟨v279, v283, v287, ha, Q_BK277, Q_HI1, Q_HK, Q_HB, Q_HO280, Q_HI1_e4, Q_HO284, Q_HI1_e8, Q_HO288, Q_HI1_e12⟩ hb_ hon hoff
      refine ⟨_, rfl, fun K hK => ?_⟩
      have e5 : a.tmps[5]? = some (.pointer (some ⟨gb277, 0, none⟩)) := by rw [ha]; exact (putSel_off rfl).trans rfl
      replace ha := Aside0.mk ha
      have BK277 := Aside0.mk Q_BK277
      have HI1 := Aside0.mk (Q_HI1 (hoff 4 (by kernel_rfl)))
      have HK := Aside0.mk Q_HK
      have HB := Aside0.mk Q_HB
      have hc0_ : w'.cell? ⟨gb277, 0, none⟩ = some (.int .i64 a0_0) := (blk_cell BK277.out 0).trans rfl
      have hc1_ : w'.cell? ⟨gb277, 1, none⟩ = some (.string a0_1) := (blk_cell BK277.out 1).trans rfl
      have hc2_ : w'.cell? ⟨gb277, 2, none⟩ = some (.int .i64 a0_2) := (blk_cell BK277.out 2).trans rfl
      refine value_ (w1 := w') (v := .int .i64 a0_0) (by rfl) rfl ?_ ?_
      · go_simp
        (try simp only [i64_w])
        try rfl
      refine hK.out _ _ ⟨v279, v283, v287, (by rw [ha.out]; exact putSel_upk 0 hb_ rfl rfl rfl), Q_BK277, Q_HI1, Q_HK, Q_HB, fun h0_ => absurd ((hoff 3 (by kernel_rfl)).symm.trans h0_) (by decide), fun h0_ _ => absurd ((hoff 4 (by kernel_rfl)).symm.trans h0_) (by decide), Q_HO284, fun h0_ _ => absurd ((hoff 8 (by kernel_rfl)).symm.trans h0_) (by decide), Q_HO288, fun h0_ => absurd ((hoff 12 (by kernel_rfl)).symm.trans h0_) (by decide)⟩
    refine steps_cons ?_ ?_
    · rintro b a w' ⟨v279, v283, v287, ha, Q_BK277, Q_HI1, Q_HK, Q_HB, Q_HO280, Q_HI1_e4, Q_HO284, Q_HI1_e8, Q_HO288, Q_HI1_e12⟩ hb_ hon hoff
      refine ⟨_, rfl, fun K hK => ?_⟩
      have e6 : a.tmps[6]? = some (.int .i64 a0_0) := by rw [ha]; exact putSel_on (e := (2, 6, .int .i64 a0_0)) 0 rfl rfl (hon 2 (by kernel_rfl)) rfl
      replace ha := Aside0.mk ha
      have BK277 := Aside0.mk Q_BK277
      have HI1 := Aside0.mk (Q_HI1 (hoff 4 (by kernel_rfl)))
      have HK := Aside0.mk Q_HK
      have HB := Aside0.mk Q_HB
      refine Kd.R_lit_step (Kd.int .i64) _ 3 ?hg (N := 7) ?hd (xs := ([a0_0] : List Int)) (inner := [.int .i64 a0_0]) (ok := fun _ => True) (okp := fun _ => True) ?hr ?hp (fun _ hk => hk) trivial (Below.refl _ _) (Nat.le_refl _) (by simp) ?_; (case hd => rfl); (case hg => rfl); (case hr => first | (go_simp; done) | (go_simp; rfl)); (case hp => exact (Reps.one (show Kd.M (Kd.int .i64) _ _ _ a0_0 [.int .i64 a0_0] from rfl) (Reps.none _ _)))
      intro v279 w8 ho9 hb hg_ hnew_
      clear hg_ hnew_
      (first | rw [← Ny278.out] at ho9 | (simp only [Int.reduceToNat] at ho9; rw [← Ny278.out] at ho9))
      have n0_ := Aside0.mk (Kd.R_lower ho9 (KeepT.size (w := w) (ts := [50, 5]) (by repeat (first | (with_reducible first | exact HK.out | fail | apply keepT_drewN | apply keepT_drew | apply keepT_alloc | refine keepT_far ?_ GW277.out _) | exact HK.out))))
      have n1_ := Aside0.mk (IsS50.below (by repeat (first | (with_reducible first | exact HI1.out | apply IsS50.alloc | apply IsS50.drewN | apply IsS50.drew | apply IsS50.set_0 | refine IsS50.farT (p := ⟨gb277, _, none⟩) (t2 := 29) ?_ ?_ (by decide) (by decide) _ | exact OutT.mk BK277.out | refine OutT.set ?_ _ _ _) | exact HI1.out)) hb)
      have n2_ := Aside0.mk (blk_below (g := gb277) (o := .cells #[.int .i64 a0_0, .string a0_1, .int .i64 a0_2] 29 (0, 0)) (by (with_reducible repeat (first | refine blk_drewN ?_ _ | refine blk_drew ?_ | refine blk_alloc ?_ _)); exact BK277.out) hb)
      have n3_ := Aside0.mk (KeepT.trans (by repeat (first | (with_reducible first | exact HK.out | fail | apply keepT_drewN | apply keepT_drew | apply keepT_alloc | refine keepT_far ?_ GW277.out _) | exact HK.out)) (KeepT.of_below hb))
      have n4_ := Aside0.mk (below_step (by repeat (first | (with_reducible first | exact HB.out | apply below_alloc | apply pw_below_drewN | apply below_drew1 | refine below_set ?_ (IsS50.ge HI1.out) | refine below_set ?_ GE277.out) | exact HB.out)) hb)
      have z_HO284 := fun (h0_ : b 7 = true) => (show Kd.R Kd.string 9 w8 w.heap.size (fun _ => True) v283 y282 from by first | exact (Kd.R_below (by (with_reducible repeat (first | apply Kd.R_alloc | apply Kd.R_drewN | apply Kd.R_drew)); exact (Q_HO284 h0_)) hb) | exact Kd.R_mono (Kd.R_below (by (with_reducible repeat (first | apply Kd.R_alloc | apply Kd.R_drewN | apply Kd.R_drew)); exact (Q_HO284 h0_)) hb) (fun _ h_ => by first | trivial | exact h_ | exact h_.1))
      have z_HO288 := fun (h0_ : b 11 = true) => (show Kd.R (Kd.int .i64) 2 w8 w.heap.size (fun _ => True) v287 y286 from by first | exact (Kd.R_below (by (with_reducible repeat (first | apply Kd.R_alloc | apply Kd.R_drewN | apply Kd.R_drew)); exact (Q_HO288 h0_)) hb) | exact Kd.R_mono (Kd.R_below (by (with_reducible repeat (first | apply Kd.R_alloc | apply Kd.R_drewN | apply Kd.R_drew)); exact (Q_HO288 h0_)) hb) (fun _ h_ => by first | trivial | exact h_ | exact h_.1))
      clear HI1
      clear BK277
      clear HK
      clear HB
      have HO280 := n0_
      have HI1 := n1_
      have BK277 := n2_
      have HK := n3_
      have HB := n4_
      clear n0_ n1_ n2_ n3_ n4_
      clear hb ho9
      refine hK.out _ _ ⟨v279, v283, v287, (by rw [ha.out]; exact putSel_upk 1 hb_ rfl rfl rfl), (by (with_reducible repeat (first | refine blk_drewN ?_ _ | refine blk_drew ?_ | refine blk_alloc ?_ _)); exact BK277.out), fun _ => (by repeat (first | (with_reducible first | exact HI1.out | apply IsS50.alloc | apply IsS50.drewN | apply IsS50.drew | apply IsS50.set_0 | refine IsS50.farT (p := ⟨gb277, _, none⟩) (t2 := 29) ?_ ?_ (by decide) (by decide) _ | exact OutT.mk BK277.out | refine OutT.set ?_ _ _ _) | exact HI1.out)), (by repeat (first | (with_reducible first | exact HK.out | fail | apply keepT_drewN | apply keepT_drew | apply keepT_alloc | refine keepT_far ?_ GW277.out _) | exact HK.out)), (by repeat (first | (with_reducible first | exact HB.out | apply below_alloc | apply pw_below_drewN | apply below_drew1 | refine below_set ?_ (IsS50.ge HI1.out) | refine below_set ?_ GE277.out) | exact HB.out)), fun _ => (by (with_reducible repeat (first | apply Kd.R_alloc | apply Kd.R_drewN | apply Kd.R_drew)); exact HO280.out), fun h0_ _ => absurd ((hoff 4 (by kernel_rfl)).symm.trans h0_) (by decide), z_HO284, fun h0_ _ => absurd ((hoff 8 (by kernel_rfl)).symm.trans h0_) (by decide), z_HO288, fun h0_ => absurd ((hoff 12 (by kernel_rfl)).symm.trans h0_) (by decide)⟩
    refine steps_cons ?_ ?_
    · rintro b a w' ⟨v279, v283, v287, ha, Q_BK277, Q_HI1, Q_HK, Q_HB, Q_HO280, Q_HI1_e4, Q_HO284, Q_HI1_e8, Q_HO288, Q_HI1_e12⟩ hb_ hon hoff
      refine ⟨_, rfl, fun K hK => ?_⟩
      have e4 : a.tmps[4]? = some (.pointer (some ⟨g, 0, none⟩)) := by rw [ha]; exact (putSel_off rfl).trans rfl
      have e7 : a.tmps[7]? = some (v279) := by rw [ha]; exact putSel_on (e := (3, 7, v279)) 1 rfl rfl (hon 3 (by kernel_rfl)) rfl
      replace ha := Aside0.mk ha
      have BK277 := Aside0.mk Q_BK277
      have HI1 := Aside0.mk (Q_HI1 hb_)
      have HK := Aside0.mk Q_HK
      have HB := Aside0.mk Q_HB
      have HO280 := Aside0.mk (Q_HO280 (hon 3 (by kernel_rfl)))
      obtain ⟨Ao11, co11, eo11⟩ := Kd.R_slice HO280.out
      (first | subst eo11 | (injection eo11 with f1_ f2_ f3_; have f4_ := f1_.symm; have f5_ := f3_.symm; clear f1_ f2_ f3_; subst f4_; subst f5_))
      refine goes_ Try.func42 (by kernel_rfl) rfl #[.pointer (some ⟨g, 0, none⟩), .slice Ao11 y278.length co11] (by rfl) rfl rfl (by (try simp only [List.map_toArray, List.map_cons, List.map_nil]); first | done | rfl | (simp only [List.length_drop, List.length_take]; rfl) | (simp only [Act.eval, Array.getD_eq_getD_getElem?, Option.getD_some, *]; done) | (simp only [Array.mk.injEq, List.cons.injEq, Value.int.injEq, true_and, and_true]; first | omega | (simp [IntKind.wrap, IntKind.bits, IntKind.signed]; omega))) ?_
      with_reducible refine (codec_Out_N.calls g s1_0 _ _ y278 t281 w0 _ ?side1 ?side2 ?side3 ?side4 ?side5 A3.out).mono ?_
      (case side1 => repeat (first | (with_reducible first | exact HI1.out | apply IsS50.alloc | apply IsS50.drewN | apply IsS50.drew | apply IsS50.set_0 | refine IsS50.farT (p := ⟨gb277, _, none⟩) (t2 := 29) ?_ ?_ (by decide) (by decide) _ | exact OutT.mk BK277.out | refine OutT.set ?_ _ _ _) | exact HI1.out))
      (case side2 => repeat (first | (with_reducible first | exact HB.out | apply below_alloc | apply pw_below_drewN | apply below_drew1 | refine below_set ?_ (IsS50.ge HI1.out) | refine below_set ?_ GE277.out) | exact HB.out))
      (case side3 => repeat (first | exact (Kd.R_reads' HO280.out).2.2 | (with_reducible refine Kd.C_alloc ?_ _) | (with_reducible refine Kd.C_drewN ?_ _) | (with_reducible refine Kd.C_drew ?_)))
      (case side4 => exact (Kd.R_reads' HO280.out).2.1)
      (case side5 => exact fun W_ hk_ => (Kd.R_reads' (KeepT.R (by (with_reducible repeat (first | apply Kd.R_alloc | apply Kd.R_drewN | apply Kd.R_drew)); exact HO280.out) hk_ (by decide))).2.2)
      rintro e w12 ⟨rfl, hi, hb, hk⟩
      refine ⟨_, rfl, ?_⟩
      have n0_ := Aside0.mk (KeepT.oblk (g := gb277) (o := .cells #[.int .i64 a0_0, .string a0_1, .int .i64 a0_2] 29 (0, 0)) (by (with_reducible repeat (first | refine blk_drewN ?_ _ | refine blk_drew ?_ | refine blk_alloc ?_ _)); exact BK277.out) hk (by intro _ _ _ h_; cases h_; decide))
      have n1_ := Aside0.mk (KeepT.R (by (with_reducible repeat (first | apply Kd.R_alloc | apply Kd.R_drewN | apply Kd.R_drew)); exact HO280.out) hk (by decide))
      have n2_ := Aside0.mk (KeepT.trans (by repeat (first | (with_reducible first | exact HK.out | fail | apply keepT_drewN | apply keepT_drew | apply keepT_alloc | refine keepT_far ?_ GW277.out _) | exact HK.out)) hk)
      have n3_ := Aside0.mk (hb)
      have n4_ := Aside0.mk (hi)
      have z_HO284 := fun (h0_ : b 7 = true) => (show Kd.R Kd.string 9 w12 w.heap.size (fun _ => True) v283 y282 from by first | exact (KeepT.R (by (with_reducible repeat (first | apply Kd.R_alloc | apply Kd.R_drewN | apply Kd.R_drew)); exact (Q_HO284 h0_)) hk (by decide)) | exact Kd.R_mono (KeepT.R (by (with_reducible repeat (first | apply Kd.R_alloc | apply Kd.R_drewN | apply Kd.R_drew)); exact (Q_HO284 h0_)) hk (by decide)) (fun _ h_ => by first | trivial | exact h_ | exact h_.1))
      have z_HO288 := fun (h0_ : b 11 = true) => (show Kd.R (Kd.int .i64) 2 w12 w.heap.size (fun _ => True) v287 y286 from by first | exact (KeepT.R (by (with_reducible repeat (first | apply Kd.R_alloc | apply Kd.R_drewN | apply Kd.R_drew)); exact (Q_HO288 h0_)) hk (by decide)) | exact Kd.R_mono (KeepT.R (by (with_reducible repeat (first | apply Kd.R_alloc | apply Kd.R_drewN | apply Kd.R_drew)); exact (Q_HO288 h0_)) hk (by decide)) (fun _ h_ => by first | trivial | exact h_ | exact h_.1))
      clear BK277
      clear HO280
      clear HK
      clear HB
      clear HI1
      have BK277 := n0_
      have HO280 := n1_
      have HK := n2_
      have HB := n3_
      have HI1 := n4_
      clear n0_ n1_ n2_ n3_ n4_
      (try clear hb)
      (try clear hb2)
      (try clear hk)
      (try clear hi)
      refine hK.out _ _ ⟨.slice Ao11 y278.length co11, v283, v287, (by rw [ha.out]; exact putSel_upk 2 hb_ rfl rfl rfl), (by (with_reducible repeat (first | refine blk_drewN ?_ _ | refine blk_drew ?_ | refine blk_alloc ?_ _)); exact BK277.out), fun h0_ => absurd ((up_self b 4).symm.trans h0_) (by decide), (by repeat (first | (with_reducible first | exact HK.out | fail | apply keepT_drewN | apply keepT_drew | apply keepT_alloc | refine keepT_far ?_ GW277.out _) | exact HK.out)), (by repeat (first | (with_reducible first | exact HB.out | apply below_alloc | apply pw_below_drewN | apply below_drew1 | refine below_set ?_ (IsS50.ge HI1.out) | refine below_set ?_ GE277.out) | exact HB.out)), fun _ => (by (with_reducible repeat (first | apply Kd.R_alloc | apply Kd.R_drewN | apply Kd.R_drew)); exact HO280.out), fun _ _ => (by repeat (first | (with_reducible first | exact HI1.out | apply IsS50.alloc | apply IsS50.drewN | apply IsS50.drew | apply IsS50.set_0 | refine IsS50.farT (p := ⟨gb277, _, none⟩) (t2 := 29) ?_ ?_ (by decide) (by decide) _ | exact OutT.mk BK277.out | refine OutT.set ?_ _ _ _) | exact HI1.out)), z_HO284, fun h0_ _ => absurd ((hoff 8 (by kernel_rfl)).symm.trans h0_) (by decide), z_HO288, fun h0_ => absurd ((hoff 12 (by kernel_rfl)).symm.trans h0_) (by decide)⟩
    refine steps_cons ?_ ?_
    · rintro b a w' ⟨v279, v283, v287, ha, Q_BK277, Q_HI1, Q_HK, Q_HB, Q_HO280, Q_HI1_e4, Q_HO284, Q_HI1_e8, Q_HO288, Q_HI1_e12⟩ hb_ hon hoff
      refine ⟨_, rfl, fun K hK => ?_⟩
      have e9 : a.tmps[9]? = some (.pointer (some ⟨gb277, 1, none⟩)) := by rw [ha]; exact (putSel_off rfl).trans rfl
      replace ha := Aside0.mk ha
      have BK277 := Aside0.mk Q_BK277
      have HK := Aside0.mk Q_HK
      have HB := Aside0.mk Q_HB
      have hc0_ : w'.cell? ⟨gb277, 0, none⟩ = some (.int .i64 a0_0) := (blk_cell BK277.out 0).trans rfl
      have hc1_ : w'.cell? ⟨gb277, 1, none⟩ = some (.string a0_1) := (blk_cell BK277.out 1).trans rfl
      have hc2_ : w'.cell? ⟨gb277, 2, none⟩ = some (.int .i64 a0_2) := (blk_cell BK277.out 2).trans rfl
      refine value_ (w1 := w') (v := .string a0_1) (by rfl) rfl ?_ ?_
      · go_simp
        (try simp only [i64_w])
        try rfl
      refine hK.out _ _ ⟨v279, v283, v287, (by rw [ha.out]; exact putSel_upk 3 hb_ rfl rfl rfl), Q_BK277, Q_HI1, Q_HK, Q_HB, Q_HO280, Q_HI1_e4, fun h0_ => absurd ((hoff 7 (by kernel_rfl)).symm.trans h0_) (by decide), fun h0_ _ => absurd ((hoff 8 (by kernel_rfl)).symm.trans h0_) (by decide), Q_HO288, fun h0_ => absurd ((hoff 12 (by kernel_rfl)).symm.trans h0_) (by decide)⟩
    refine steps_cons ?_ ?_
    · rintro b a w' ⟨v279, v283, v287, ha, Q_BK277, Q_HI1, Q_HK, Q_HB, Q_HO280, Q_HI1_e4, Q_HO284, Q_HI1_e8, Q_HO288, Q_HI1_e12⟩ hb_ hon hoff
      refine ⟨_, rfl, fun K hK => ?_⟩
      have e10 : a.tmps[10]? = some (.string a0_1) := by rw [ha]; exact putSel_on (e := (6, 10, .string a0_1)) 3 rfl rfl (hon 6 (by kernel_rfl)) rfl
      replace ha := Aside0.mk ha
      have BK277 := Aside0.mk Q_BK277
      have HK := Aside0.mk Q_HK
      have HB := Aside0.mk Q_HB
      refine Kd.R_lit_step Kd.string _ 9 ?hg (N := 11) ?hd (xs := ([a0_1] : List ByteArray)) (inner := [.string a0_1]) (ok := fun _ => True) (okp := fun _ => True) ?hr ?hp (fun _ hk => hk) trivial (Below.refl _ _) (Nat.le_refl _) (by simp) ?_; (case hd => rfl); (case hg => rfl); (case hr => first | (go_simp; done) | (go_simp; rfl)); (case hp => exact (Reps.one (show Kd.M Kd.string _ _ _ a0_1 [.string a0_1] from rfl) (Reps.none _ _)))
      intro v283 w8 ho9 hb hg_ hnew_
      clear hg_ hnew_
      (first | rw [← Ny282.out] at ho9 | (simp only [Int.reduceToNat] at ho9; rw [← Ny282.out] at ho9))
      have n0_ := Aside0.mk (Kd.R_lower ho9 (KeepT.size (w := w) (ts := [50, 5]) (by repeat (first | (with_reducible first | exact HK.out | fail | apply keepT_drewN | apply keepT_drew | apply keepT_alloc | refine keepT_far ?_ GW277.out _) | exact HK.out))))
      have n2_ := Aside0.mk (blk_below (g := gb277) (o := .cells #[.int .i64 a0_0, .string a0_1, .int .i64 a0_2] 29 (0, 0)) (by (with_reducible repeat (first | refine blk_drewN ?_ _ | refine blk_drew ?_ | refine blk_alloc ?_ _)); exact BK277.out) hb)
      have n3_ := Aside0.mk (KeepT.trans (by repeat (first | (with_reducible first | exact HK.out | fail | apply keepT_drewN | apply keepT_drew | apply keepT_alloc | refine keepT_far ?_ GW277.out _) | exact HK.out)) (KeepT.of_below hb))
      have n4_ := Aside0.mk (below_step (by repeat (first | (with_reducible first | exact HB.out | apply below_alloc | apply pw_below_drewN | apply below_drew1 | refine below_set ?_ GE277.out) | exact HB.out)) hb)
      have z_HI1 := fun (h0_ : b 4 = false) => (show IsS50 w0 w8 g s1_0 from by first | exact (IsS50.below (by repeat (first | (with_reducible first | exact (Q_HI1 h0_) | apply IsS50.alloc | apply IsS50.drewN | apply IsS50.drew | apply IsS50.set_0 | refine IsS50.farT (p := ⟨gb277, _, none⟩) (t2 := 29) ?_ ?_ (by decide) (by decide) _ | exact OutT.mk BK277.out | refine OutT.set ?_ _ _ _) | exact (Q_HI1 h0_))) hb))
      have z_HO280 := fun (h0_ : b 3 = true) => (show Kd.R (Kd.int .i64) 3 w8 w.heap.size (fun _ => True) v279 y278 from by first | exact (Kd.R_below (by (with_reducible repeat (first | apply Kd.R_alloc | apply Kd.R_drewN | apply Kd.R_drew)); exact (Q_HO280 h0_)) hb) | exact Kd.R_mono (Kd.R_below (by (with_reducible repeat (first | apply Kd.R_alloc | apply Kd.R_drewN | apply Kd.R_drew)); exact (Q_HO280 h0_)) hb) (fun _ h_ => by first | trivial | exact h_ | exact h_.1))
      have z_HI1_e4 := fun (h0_ : b 4 = true) (h1_ : b 8 = false) => (show IsS50 w0 w8 g t281 from by first | exact (IsS50.below (by repeat (first | (with_reducible first | exact (Q_HI1_e4 h0_ h1_) | apply IsS50.alloc | apply IsS50.drewN | apply IsS50.drew | apply IsS50.set_0 | refine IsS50.farT (p := ⟨gb277, _, none⟩) (t2 := 29) ?_ ?_ (by decide) (by decide) _ | exact OutT.mk BK277.out | refine OutT.set ?_ _ _ _) | exact (Q_HI1_e4 h0_ h1_))) hb))
      have z_HO288 := fun (h0_ : b 11 = true) => (show Kd.R (Kd.int .i64) 2 w8 w.heap.size (fun _ => True) v287 y286 from by first | exact (Kd.R_below (by (with_reducible repeat (first | apply Kd.R_alloc | apply Kd.R_drewN | apply Kd.R_drew)); exact (Q_HO288 h0_)) hb) | exact Kd.R_mono (Kd.R_below (by (with_reducible repeat (first | apply Kd.R_alloc | apply Kd.R_drewN | apply Kd.R_drew)); exact (Q_HO288 h0_)) hb) (fun _ h_ => by first | trivial | exact h_ | exact h_.1))
      clear BK277
      clear HK
      clear HB
      have HO284 := n0_
      have BK277 := n2_
      have HK := n3_
      have HB := n4_
      clear n0_ n2_ n3_ n4_
      clear hb ho9
      refine hK.out _ _ ⟨v279, v283, v287, (by rw [ha.out]; exact putSel_upk 4 hb_ rfl rfl rfl), (by (with_reducible repeat (first | refine blk_drewN ?_ _ | refine blk_drew ?_ | refine blk_alloc ?_ _)); exact BK277.out), z_HI1, (by repeat (first | (with_reducible first | exact HK.out | fail | apply keepT_drewN | apply keepT_drew | apply keepT_alloc | refine keepT_far ?_ GW277.out _) | exact HK.out)), (by repeat (first | (with_reducible first | exact HB.out | apply below_alloc | apply pw_below_drewN | apply below_drew1 | refine below_set ?_ GE277.out) | exact HB.out)), z_HO280, z_HI1_e4, fun _ => (by (with_reducible repeat (first | apply Kd.R_alloc | apply Kd.R_drewN | apply Kd.R_drew)); exact HO284.out), fun h0_ _ => absurd ((hoff 8 (by kernel_rfl)).symm.trans h0_) (by decide), z_HO288, fun h0_ => absurd ((hoff 12 (by kernel_rfl)).symm.trans h0_) (by decide)⟩
    refine steps_cons ?_ ?_
    · rintro b a w' ⟨v279, v283, v287, ha, Q_BK277, Q_HI1, Q_HK, Q_HB, Q_HO280, Q_HI1_e4, Q_HO284, Q_HI1_e8, Q_HO288, Q_HI1_e12⟩ hb_ hon hoff
      refine ⟨_, rfl, fun K hK => ?_⟩
      have e8 : a.tmps[8]? = some (.pointer (some ⟨g, 0, none⟩)) := by rw [ha]; exact putSel_on (e := (4, 8, .pointer (some ⟨g, 0, none⟩))) 2 rfl rfl (hon 4 (by kernel_rfl)) rfl
      have e11 : a.tmps[11]? = some (v283) := by rw [ha]; exact putSel_on (e := (7, 11, v283)) 4 rfl rfl (hon 7 (by kernel_rfl)) rfl
      replace ha := Aside0.mk ha
      have BK277 := Aside0.mk Q_BK277
      have HK := Aside0.mk Q_HK
      have HB := Aside0.mk Q_HB
      have HO280 := Aside0.mk (Q_HO280 (hon 3 (by kernel_rfl)))
      have HI1 := Aside0.mk (Q_HI1_e4 (hon 4 (by kernel_rfl)) hb_)
      have HO284 := Aside0.mk (Q_HO284 (hon 7 (by kernel_rfl)))
      obtain ⟨Ao15, co15, eo15⟩ := Kd.R_slice HO284.out
      (first | subst eo15 | (injection eo15 with f1_ f2_ f3_; have f4_ := f1_.symm; have f5_ := f3_.symm; clear f1_ f2_ f3_; subst f4_; subst f5_))
      refine goes_ Try.func43 (by kernel_rfl) rfl #[.pointer (some ⟨g, 0, none⟩), .slice Ao15 y282.length co15] (by rfl) rfl rfl (by (try simp only [List.map_toArray, List.map_cons, List.map_nil]); first | done | rfl | (simp only [List.length_drop, List.length_take]; rfl) | (simp only [Act.eval, Array.getD_eq_getD_getElem?, Option.getD_some, *]; done) | (simp only [Array.mk.injEq, List.cons.injEq, Value.int.injEq, true_and, and_true]; first | omega | (simp [IntKind.wrap, IntKind.bits, IntKind.signed]; omega))) ?_
      with_reducible refine (codec_Out_S.calls g t281 _ _ y282 t285 w0 _ ?side1 ?side2 ?side3 ?side4 ?side5 A4.out).mono ?_
      (case side1 => repeat (first | (with_reducible first | exact HI1.out | apply IsS50.alloc | apply IsS50.drewN | apply IsS50.drew | apply IsS50.set_0 | refine IsS50.farT (p := ⟨gb277, _, none⟩) (t2 := 29) ?_ ?_ (by decide) (by decide) _ | exact OutT.mk BK277.out | refine OutT.set ?_ _ _ _) | exact HI1.out))
      (case side2 => repeat (first | (with_reducible first | exact HB.out | apply below_alloc | apply pw_below_drewN | apply below_drew1 | refine below_set ?_ (IsS50.ge HI1.out) | refine below_set ?_ GE277.out) | exact HB.out))
      (case side3 => repeat (first | exact (Kd.R_reads' HO284.out).2.2 | (with_reducible refine Kd.C_alloc ?_ _) | (with_reducible refine Kd.C_drewN ?_ _) | (with_reducible refine Kd.C_drew ?_)))
      (case side4 => exact (Kd.R_reads' HO284.out).2.1)
      (case side5 => exact fun W_ hk_ => (Kd.R_reads' (KeepT.R (by (with_reducible repeat (first | apply Kd.R_alloc | apply Kd.R_drewN | apply Kd.R_drew)); exact HO284.out) hk_ (by decide))).2.2)
      rintro e w16 ⟨rfl, hi, hb, hk⟩
      refine ⟨_, rfl, ?_⟩
      have n0_ := Aside0.mk (KeepT.oblk (g := gb277) (o := .cells #[.int .i64 a0_0, .string a0_1, .int .i64 a0_2] 29 (0, 0)) (by (with_reducible repeat (first | refine blk_drewN ?_ _ | refine blk_drew ?_ | refine blk_alloc ?_ _)); exact BK277.out) hk (by intro _ _ _ h_; cases h_; decide))
      have n1_ := Aside0.mk (KeepT.R (by (with_reducible repeat (first | apply Kd.R_alloc | apply Kd.R_drewN | apply Kd.R_drew)); exact HO280.out) hk (by decide))
      have n2_ := Aside0.mk (KeepT.R (by (with_reducible repeat (first | apply Kd.R_alloc | apply Kd.R_drewN | apply Kd.R_drew)); exact HO284.out) hk (by decide))
      have n3_ := Aside0.mk (KeepT.trans (by repeat (first | (with_reducible first | exact HK.out | fail | apply keepT_drewN | apply keepT_drew | apply keepT_alloc | refine keepT_far ?_ GW277.out _) | exact HK.out)) hk)
      have n4_ := Aside0.mk (hb)
      have n5_ := Aside0.mk (hi)
      have z_HO288 := fun (h0_ : b 11 = true) => (show Kd.R (Kd.int .i64) 2 w16 w.heap.size (fun _ => True) v287 y286 from by first | exact (KeepT.R (by (with_reducible repeat (first | apply Kd.R_alloc | apply Kd.R_drewN | apply Kd.R_drew)); exact (Q_HO288 h0_)) hk (by decide)) | exact Kd.R_mono (KeepT.R (by (with_reducible repeat (first | apply Kd.R_alloc | apply Kd.R_drewN | apply Kd.R_drew)); exact (Q_HO288 h0_)) hk (by decide)) (fun _ h_ => by first | trivial | exact h_ | exact h_.1))
      clear BK277
      clear HO280
      clear HO284
      clear HK
      clear HB
      clear HI1
      have BK277 := n0_
      have HO280 := n1_
      have HO284 := n2_
      have HK := n3_
      have HB := n4_
      have HI1 := n5_
      clear n0_ n1_ n2_ n3_ n4_ n5_
      (try clear hb)
      (try clear hb2)
      (try clear hk)
      (try clear hi)
      refine hK.out _ _ ⟨v279, .slice Ao15 y282.length co15, v287, (by rw [ha.out]; exact putSel_upk 5 hb_ rfl rfl rfl), (by (with_reducible repeat (first | refine blk_drewN ?_ _ | refine blk_drew ?_ | refine blk_alloc ?_ _)); exact BK277.out), fun h0_ => absurd ((hon 4 (by kernel_rfl)).symm.trans h0_) (by decide), (by repeat (first | (with_reducible first | exact HK.out | fail | apply keepT_drewN | apply keepT_drew | apply keepT_alloc | refine keepT_far ?_ GW277.out _) | exact HK.out)), (by repeat (first | (with_reducible first | exact HB.out | apply below_alloc | apply pw_below_drewN | apply below_drew1 | refine below_set ?_ (IsS50.ge HI1.out) | refine below_set ?_ GE277.out) | exact HB.out)), fun _ => (by (with_reducible repeat (first | apply Kd.R_alloc | apply Kd.R_drewN | apply Kd.R_drew)); exact HO280.out), fun _ h1_ => absurd ((up_self b 8).symm.trans h1_) (by decide), fun _ => (by (with_reducible repeat (first | apply Kd.R_alloc | apply Kd.R_drewN | apply Kd.R_drew)); exact HO284.out), fun _ _ => (by repeat (first | (with_reducible first | exact HI1.out | apply IsS50.alloc | apply IsS50.drewN | apply IsS50.drew | apply IsS50.set_0 | refine IsS50.farT (p := ⟨gb277, _, none⟩) (t2 := 29) ?_ ?_ (by decide) (by decide) _ | exact OutT.mk BK277.out | refine OutT.set ?_ _ _ _) | exact HI1.out)), z_HO288, fun h0_ => absurd ((hoff 12 (by kernel_rfl)).symm.trans h0_) (by decide)⟩
    refine steps_cons ?_ ?_
    · rintro b a w' ⟨v279, v283, v287, ha, Q_BK277, Q_HI1, Q_HK, Q_HB, Q_HO280, Q_HI1_e4, Q_HO284, Q_HI1_e8, Q_HO288, Q_HI1_e12⟩ hb_ hon hoff
      refine ⟨_, rfl, fun K hK => ?_⟩
      have e13 : a.tmps[13]? = some (.pointer (some ⟨gb277, 2, none⟩)) := by rw [ha]; exact (putSel_off rfl).trans rfl
      replace ha := Aside0.mk ha
      have BK277 := Aside0.mk Q_BK277
      have HK := Aside0.mk Q_HK
      have HB := Aside0.mk Q_HB
      have hc0_ : w'.cell? ⟨gb277, 0, none⟩ = some (.int .i64 a0_0) := (blk_cell BK277.out 0).trans rfl
      have hc1_ : w'.cell? ⟨gb277, 1, none⟩ = some (.string a0_1) := (blk_cell BK277.out 1).trans rfl
      have hc2_ : w'.cell? ⟨gb277, 2, none⟩ = some (.int .i64 a0_2) := (blk_cell BK277.out 2).trans rfl
      refine value_ (w1 := w') (v := .int .i64 a0_2) (by rfl) rfl ?_ ?_
      · go_simp
        (try simp only [i64_w])
        try rfl
      refine hK.out _ _ ⟨v279, v283, v287, (by rw [ha.out]; exact putSel_upk 6 hb_ rfl rfl rfl), Q_BK277, Q_HI1, Q_HK, Q_HB, Q_HO280, Q_HI1_e4, Q_HO284, Q_HI1_e8, fun h0_ => absurd ((hoff 11 (by kernel_rfl)).symm.trans h0_) (by decide), fun h0_ => absurd ((hoff 12 (by kernel_rfl)).symm.trans h0_) (by decide)⟩
    refine steps_cons ?_ ?_
    · rintro b a w' ⟨v279, v283, v287, ha, Q_BK277, Q_HI1, Q_HK, Q_HB, Q_HO280, Q_HI1_e4, Q_HO284, Q_HI1_e8, Q_HO288, Q_HI1_e12⟩ hb_ hon hoff
      refine ⟨_, rfl, fun K hK => ?_⟩
      have e14 : a.tmps[14]? = some (.int .i64 a0_2) := by rw [ha]; exact putSel_on (e := (10, 14, .int .i64 a0_2)) 6 rfl rfl (hon 10 (by kernel_rfl)) rfl
      replace ha := Aside0.mk ha
      have BK277 := Aside0.mk Q_BK277
      have HK := Aside0.mk Q_HK
      have HB := Aside0.mk Q_HB
      refine Kd.R_lit_step (Kd.int .i64) _ 2 ?hg (N := 15) ?hd (xs := ([a0_2] : List Int)) (inner := [.int .i64 a0_2]) (ok := fun _ => True) (okp := fun _ => True) ?hr ?hp (fun _ hk => hk) trivial (Below.refl _ _) (Nat.le_refl _) (by simp) ?_; (case hd => rfl); (case hg => rfl); (case hr => first | (go_simp; done) | (go_simp; rfl)); (case hp => exact (Reps.one (show Kd.M (Kd.int .i64) _ _ _ a0_2 [.int .i64 a0_2] from rfl) (Reps.none _ _)))
      intro v287 w8 ho9 hb hg_ hnew_
      clear hg_ hnew_
      (first | rw [← Ny286.out] at ho9 | (simp only [Int.reduceToNat] at ho9; rw [← Ny286.out] at ho9))
      have n0_ := Aside0.mk (Kd.R_lower ho9 (KeepT.size (w := w) (ts := [50, 5]) (by repeat (first | (with_reducible first | exact HK.out | fail | apply keepT_drewN | apply keepT_drew | apply keepT_alloc | refine keepT_far ?_ GW277.out _) | exact HK.out))))
      have n2_ := Aside0.mk (blk_below (g := gb277) (o := .cells #[.int .i64 a0_0, .string a0_1, .int .i64 a0_2] 29 (0, 0)) (by (with_reducible repeat (first | refine blk_drewN ?_ _ | refine blk_drew ?_ | refine blk_alloc ?_ _)); exact BK277.out) hb)
      have n3_ := Aside0.mk (KeepT.trans (by repeat (first | (with_reducible first | exact HK.out | fail | apply keepT_drewN | apply keepT_drew | apply keepT_alloc | refine keepT_far ?_ GW277.out _) | exact HK.out)) (KeepT.of_below hb))
      have n4_ := Aside0.mk (below_step (by repeat (first | (with_reducible first | exact HB.out | apply below_alloc | apply pw_below_drewN | apply below_drew1 | refine below_set ?_ GE277.out) | exact HB.out)) hb)
      have z_HI1 := fun (h0_ : b 4 = false) => (show IsS50 w0 w8 g s1_0 from by first | exact (IsS50.below (by repeat (first | (with_reducible first | exact (Q_HI1 h0_) | apply IsS50.alloc | apply IsS50.drewN | apply IsS50.drew | apply IsS50.set_0 | refine IsS50.farT (p := ⟨gb277, _, none⟩) (t2 := 29) ?_ ?_ (by decide) (by decide) _ | exact OutT.mk BK277.out | refine OutT.set ?_ _ _ _) | exact (Q_HI1 h0_))) hb))
      have z_HO280 := fun (h0_ : b 3 = true) => (show Kd.R (Kd.int .i64) 3 w8 w.heap.size (fun _ => True) v279 y278 from by first | exact (Kd.R_below (by (with_reducible repeat (first | apply Kd.R_alloc | apply Kd.R_drewN | apply Kd.R_drew)); exact (Q_HO280 h0_)) hb) | exact Kd.R_mono (Kd.R_below (by (with_reducible repeat (first | apply Kd.R_alloc | apply Kd.R_drewN | apply Kd.R_drew)); exact (Q_HO280 h0_)) hb) (fun _ h_ => by first | trivial | exact h_ | exact h_.1))
      have z_HI1_e4 := fun (h0_ : b 4 = true) (h1_ : b 8 = false) => (show IsS50 w0 w8 g t281 from by first | exact (IsS50.below (by repeat (first | (with_reducible first | exact (Q_HI1_e4 h0_ h1_) | apply IsS50.alloc | apply IsS50.drewN | apply IsS50.drew | apply IsS50.set_0 | refine IsS50.farT (p := ⟨gb277, _, none⟩) (t2 := 29) ?_ ?_ (by decide) (by decide) _ | exact OutT.mk BK277.out | refine OutT.set ?_ _ _ _) | exact (Q_HI1_e4 h0_ h1_))) hb))
      have z_HO284 := fun (h0_ : b 7 = true) => (show Kd.R Kd.string 9 w8 w.heap.size (fun _ => True) v283 y282 from by first | exact (Kd.R_below (by (with_reducible repeat (first | apply Kd.R_alloc | apply Kd.R_drewN | apply Kd.R_drew)); exact (Q_HO284 h0_)) hb) | exact Kd.R_mono (Kd.R_below (by (with_reducible repeat (first | apply Kd.R_alloc | apply Kd.R_drewN | apply Kd.R_drew)); exact (Q_HO284 h0_)) hb) (fun _ h_ => by first | trivial | exact h_ | exact h_.1))
      have z_HI1_e8 := fun (h0_ : b 8 = true) (h1_ : b 12 = false) => (show IsS50 w0 w8 g t285 from by first | exact (IsS50.below (by repeat (first | (with_reducible first | exact (Q_HI1_e8 h0_ h1_) | apply IsS50.alloc | apply IsS50.drewN | apply IsS50.drew | apply IsS50.set_0 | refine IsS50.farT (p := ⟨gb277, _, none⟩) (t2 := 29) ?_ ?_ (by decide) (by decide) _ | exact OutT.mk BK277.out | refine OutT.set ?_ _ _ _) | exact (Q_HI1_e8 h0_ h1_))) hb))
      clear BK277
      clear HK
      clear HB
      have HO288 := n0_
      have BK277 := n2_
      have HK := n3_
      have HB := n4_
      clear n0_ n2_ n3_ n4_
      clear hb ho9
      refine hK.out _ _ ⟨v279, v283, v287, (by rw [ha.out]; exact putSel_upk 7 hb_ rfl rfl rfl), (by (with_reducible repeat (first | refine blk_drewN ?_ _ | refine blk_drew ?_ | refine blk_alloc ?_ _)); exact BK277.out), z_HI1, (by repeat (first | (with_reducible first | exact HK.out | fail | apply keepT_drewN | apply keepT_drew | apply keepT_alloc | refine keepT_far ?_ GW277.out _) | exact HK.out)), (by repeat (first | (with_reducible first | exact HB.out | apply below_alloc | apply pw_below_drewN | apply below_drew1 | refine below_set ?_ GE277.out) | exact HB.out)), z_HO280, z_HI1_e4, z_HO284, z_HI1_e8, fun _ => (by (with_reducible repeat (first | apply Kd.R_alloc | apply Kd.R_drewN | apply Kd.R_drew)); exact HO288.out), fun h0_ => absurd ((hoff 12 (by kernel_rfl)).symm.trans h0_) (by decide)⟩
    refine steps_cons ?_ ?_
    · rintro b a w' ⟨v279, v283, v287, ha, Q_BK277, Q_HI1, Q_HK, Q_HB, Q_HO280, Q_HI1_e4, Q_HO284, Q_HI1_e8, Q_HO288, Q_HI1_e12⟩ hb_ hon hoff
      refine ⟨_, rfl, fun K hK => ?_⟩
      have e12 : a.tmps[12]? = some (.pointer (some ⟨g, 0, none⟩)) := by rw [ha]; exact putSel_on (e := (8, 12, .pointer (some ⟨g, 0, none⟩))) 5 rfl rfl (hon 8 (by kernel_rfl)) rfl
      have e15 : a.tmps[15]? = some (v287) := by rw [ha]; exact putSel_on (e := (11, 15, v287)) 7 rfl rfl (hon 11 (by kernel_rfl)) rfl
      replace ha := Aside0.mk ha
      have BK277 := Aside0.mk Q_BK277
      have HK := Aside0.mk Q_HK
      have HB := Aside0.mk Q_HB
      have HO280 := Aside0.mk (Q_HO280 (hon 3 (by kernel_rfl)))
      have HO284 := Aside0.mk (Q_HO284 (hon 7 (by kernel_rfl)))
      have HI1 := Aside0.mk (Q_HI1_e8 (hon 8 (by kernel_rfl)) hb_)
      have HO288 := Aside0.mk (Q_HO288 (hon 11 (by kernel_rfl)))
      obtain ⟨Ao19, co19, eo19⟩ := Kd.R_slice HO288.out
      (first | subst eo19 | (injection eo19 with f1_ f2_ f3_; have f4_ := f1_.symm; have f5_ := f3_.symm; clear f1_ f2_ f3_; subst f4_; subst f5_))
      refine goes_ Try.func44 (by kernel_rfl) rfl #[.pointer (some ⟨g, 0, none⟩), .slice Ao19 y286.length co19] (by rfl) rfl rfl (by (try simp only [List.map_toArray, List.map_cons, List.map_nil]); first | done | rfl | (simp only [List.length_drop, List.length_take]; rfl) | (simp only [Act.eval, Array.getD_eq_getD_getElem?, Option.getD_some, *]; done) | (simp only [Array.mk.injEq, List.cons.injEq, Value.int.injEq, true_and, and_true]; first | omega | (simp [IntKind.wrap, IntKind.bits, IntKind.signed]; omega))) ?_
      with_reducible refine (codec_Out_I.calls g t285 _ _ y286 t289 w0 _ ?side1 ?side2 ?side3 ?side4 ?side5 A5.out).mono ?_
      (case side1 => repeat (first | (with_reducible first | exact HI1.out | apply IsS50.alloc | apply IsS50.drewN | apply IsS50.drew | apply IsS50.set_0 | refine IsS50.farT (p := ⟨gb277, _, none⟩) (t2 := 29) ?_ ?_ (by decide) (by decide) _ | exact OutT.mk BK277.out | refine OutT.set ?_ _ _ _) | exact HI1.out))
      (case side2 => repeat (first | (with_reducible first | exact HB.out | apply below_alloc | apply pw_below_drewN | apply below_drew1 | refine below_set ?_ (IsS50.ge HI1.out) | refine below_set ?_ GE277.out) | exact HB.out))
      (case side3 => repeat (first | exact (Kd.R_reads' HO288.out).2.2 | (with_reducible refine Kd.C_alloc ?_ _) | (with_reducible refine Kd.C_drewN ?_ _) | (with_reducible refine Kd.C_drew ?_)))
      (case side4 => exact (Kd.R_reads' HO288.out).2.1)
      (case side5 => exact fun W_ hk_ => (Kd.R_reads' (KeepT.R (by (with_reducible repeat (first | apply Kd.R_alloc | apply Kd.R_drewN | apply Kd.R_drew)); exact HO288.out) hk_ (by decide))).2.2)
      rintro e w20 ⟨rfl, hi, hb, hk⟩
      refine ⟨_, rfl, ?_⟩
      have n0_ := Aside0.mk (KeepT.oblk (g := gb277) (o := .cells #[.int .i64 a0_0, .string a0_1, .int .i64 a0_2] 29 (0, 0)) (by (with_reducible repeat (first | refine blk_drewN ?_ _ | refine blk_drew ?_ | refine blk_alloc ?_ _)); exact BK277.out) hk (by intro _ _ _ h_; cases h_; decide))
      have n1_ := Aside0.mk (KeepT.R (by (with_reducible repeat (first | apply Kd.R_alloc | apply Kd.R_drewN | apply Kd.R_drew)); exact HO280.out) hk (by decide))
      have n2_ := Aside0.mk (KeepT.R (by (with_reducible repeat (first | apply Kd.R_alloc | apply Kd.R_drewN | apply Kd.R_drew)); exact HO284.out) hk (by decide))
      have n3_ := Aside0.mk (KeepT.R (by (with_reducible repeat (first | apply Kd.R_alloc | apply Kd.R_drewN | apply Kd.R_drew)); exact HO288.out) hk (by decide))
      have n4_ := Aside0.mk (KeepT.trans (by repeat (first | (with_reducible first | exact HK.out | fail | apply keepT_drewN | apply keepT_drew | apply keepT_alloc | refine keepT_far ?_ GW277.out _) | exact HK.out)) hk)
      have n5_ := Aside0.mk (hb)
      have n6_ := Aside0.mk (hi)
      clear BK277
      clear HO280
      clear HO284
      clear HO288
      clear HK
      clear HB
      clear HI1
      have BK277 := n0_
      have HO280 := n1_
      have HO284 := n2_
      have HO288 := n3_
      have HK := n4_
      have HB := n5_
      have HI1 := n6_
      clear n0_ n1_ n2_ n3_ n4_ n5_ n6_
      (try clear hb)
      (try clear hb2)
      (try clear hk)
      (try clear hi)
      refine hK.out _ _ ⟨v279, v283, .slice Ao19 y286.length co19, (by rw [ha.out]; exact putSel_upk 8 hb_ rfl rfl rfl), (by (with_reducible repeat (first | refine blk_drewN ?_ _ | refine blk_drew ?_ | refine blk_alloc ?_ _)); exact BK277.out), fun h0_ => absurd ((hon 4 (by kernel_rfl)).symm.trans h0_) (by decide), (by repeat (first | (with_reducible first | exact HK.out | fail | apply keepT_drewN | apply keepT_drew | apply keepT_alloc | refine keepT_far ?_ GW277.out _) | exact HK.out)), (by repeat (first | (with_reducible first | exact HB.out | apply below_alloc | apply pw_below_drewN | apply below_drew1 | refine below_set ?_ (IsS50.ge HI1.out) | refine below_set ?_ GE277.out) | exact HB.out)), fun _ => (by (with_reducible repeat (first | apply Kd.R_alloc | apply Kd.R_drewN | apply Kd.R_drew)); exact HO280.out), fun _ h1_ => absurd ((hon 8 (by kernel_rfl)).symm.trans h1_) (by decide), fun _ => (by (with_reducible repeat (first | apply Kd.R_alloc | apply Kd.R_drewN | apply Kd.R_drew)); exact HO284.out), fun _ h1_ => absurd ((up_self b 12).symm.trans h1_) (by decide), fun _ => (by (with_reducible repeat (first | apply Kd.R_alloc | apply Kd.R_drewN | apply Kd.R_drew)); exact HO288.out), fun _ => (by repeat (first | (with_reducible first | exact HI1.out | apply IsS50.alloc | apply IsS50.drewN | apply IsS50.drew | apply IsS50.set_0 | refine IsS50.farT (p := ⟨gb277, _, none⟩) (t2 := 29) ?_ ?_ (by decide) (by decide) _ | exact OutT.mk BK277.out | refine OutT.set ?_ _ _ _) | exact HI1.out))⟩
    exact steps_nil
  rintro b a w20 hall ⟨v279, v283, v287, ha, Q_BK277, Q_HI1, Q_HK, Q_HB, Q_HO280, Q_HI1_e4, Q_HO284, Q_HI1_e8, Q_HO288, Q_HI1_e12⟩
  clear BK277 HB HI1 HK
  have hb2_ := hall 2 (by kernel_rfl)
  have hb3_ := hall 3 (by kernel_rfl)
  have hb4_ := hall 4 (by kernel_rfl)
  have hb6_ := hall 6 (by kernel_rfl)
  have hb7_ := hall 7 (by kernel_rfl)
  have hb8_ := hall 8 (by kernel_rfl)
  have hb10_ := hall 10 (by kernel_rfl)
  have hb11_ := hall 11 (by kernel_rfl)
  have hb12_ := hall 12 (by kernel_rfl)
  subst ha
  simp only [putSel, hb2_, hb3_, hb4_, hb6_, hb7_, hb8_, hb10_, hb11_, hb12_, if_true, Act.put, List.setIfInBounds_toArray, List.set_cons_zero, List.set_cons_succ]
  have BK277 := Aside0.mk Q_BK277
  clear Q_BK277
  clear Q_HI1
  have HK := Aside0.mk Q_HK
  clear Q_HK
  have HB := Aside0.mk Q_HB
  clear Q_HB
  have HO280 := Aside0.mk (Q_HO280 hb3_)
  clear Q_HO280
  clear Q_HI1_e4
  have HO284 := Aside0.mk (Q_HO284 hb7_)
  clear Q_HO284
  clear Q_HI1_e8
  have HO288 := Aside0.mk (Q_HO288 hb11_)
  clear Q_HO288
  have HI1 := Aside0.mk (Q_HI1_e12 hb12_)
  clear Q_HI1_e12
  clear hall hb2_ hb3_ hb4_ hb6_ hb7_ hb8_ hb10_ hb11_ hb12_
  try go_wp2
  first | go_end0 | ((try simp only [Exit.inBlock, Exit.then]); refine bodyPost_ret (results_none rfl _ _ _) rfl ?_)
  exact ⟨by first | rfl | (simp [errW_none, errW_some] <;> rfl) | (simp [*, errW_none, errW_some] <;> rfl), by repeat (first | (with_reducible first | exact HI1.out | apply IsS50.alloc | apply IsS50.drewN | apply IsS50.drew | apply IsS50.set_0 | refine IsS50.farT (p := ⟨gb277, _, none⟩) (t2 := 29) ?_ ?_ (by decide) (by decide) _ | exact OutT.mk BK277.out | refine OutT.set ?_ _ _ _) | exact HI1.out), by repeat (first | (with_reducible first | exact HB.out | apply below_alloc | apply pw_below_drewN | apply below_drew1 | refine below_set ?_ (IsS50.ge HI1.out) | refine below_set ?_ GE277.out) | exact HB.out), by repeat (first | (with_reducible first | exact HK.out | fail | apply keepT_drewN | apply keepT_drew | apply keepT_alloc | refine keepT_far ?_ GW277.out _) | exact HK.out)⟩
end Go.Proofs.Ytkoojbkkkpljoaa.PA

