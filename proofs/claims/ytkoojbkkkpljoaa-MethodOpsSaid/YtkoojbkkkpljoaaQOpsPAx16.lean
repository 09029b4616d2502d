import Derived.Test.YtkoojbkkkpljoaaQOpsPAx0
import Derived.Test.YtkoojbkkkpljoaaQOpsPAx15
namespace Go.Proofs.Ytkoojbkkkpljoaa.PA
open Go.Proofs.Ytkoojbkkkpljoaa.PL
open Go.RowKit Go.Proofs.YtkoojbkkkpljoaaW.PrintWords Go.Proofs.YtkoojbkkkpljoaaW.PrintLast Go.Proofs.YtkoojbkkkpljoaaW.PrintMore
attribute [local go_sem] max2_int min2_int max_two min_two max_three min_three max_four min_four
set_option linter.unusedVariables false
set_option linter.unusedSimpArgs false
def method_Growth.j0 : Nat → Bool → Int → ByteArray → ByteArray → Int → Option (Int)
  | 0, _, _, _, _, _ => none
  | k + 1, x10, x354000, x354001, x354002, x354003 => if x10 = true then (some 1) else (if x354000 = 9 then (some (-1)) else (if x354000 = 12 then (some (-1)) else (if x354000 = 15 then (some (-1)) else (if x354000 = 17 then (some (-1)) else (some 0)))))
def method_Growth.f (k : Nat) (a0_0 : Int) (a0_1 : ByteArray) (a0_2 : ByteArray) (a0_3 : Int) (a1_0 : Int) (a1_1 : ByteArray) (a1_2 : Int) : Option (Int) := (method_Changes.f k a0_0 a0_1 a0_2 a0_3 a1_0 a1_1 a1_2).bind fun t355 => (if t355 = true then (if a0_0 = 8 then (method_Growth.j0 k true a0_0 a0_1 a0_2 a0_3) else (if a0_0 = 11 then (method_Growth.j0 k true a0_0 a0_1 a0_2 a0_3) else (if a0_0 = 14 then (method_Growth.j0 k true a0_0 a0_1 a0_2 a0_3) else (method_Growth.j0 k (a0_0 == 16) a0_0 a0_1 a0_2 a0_3)))) else (some 0))
set_option maxHeartbeats 2000000 in
set_option maxRecDepth 100000 in
theorem method_Growth.calls (k : Nat) (a0_0 : Int) (a0_1 : ByteArray) (a0_2 : ByteArray) (a0_3 : Int) (a1_0 : Int) (a1_1 : ByteArray) (a1_2 : Int) (r : Int) (w : World) (h : method_Growth.f k a0_0 a0_1 a0_2 a0_3 a1_0 a1_1 a1_2 = some r) :
    Calls Try.prog 16 #[.agg #[.int .i64 a0_0, .string a0_1, .string a0_2, .int .i64 a0_3], .agg #[.int .i64 a1_0, .string a1_1, .int .i64 a1_2]] w fun e w' => e = .returned (.int .i64 r) ∧ Below w.heap.size w w' := by
  have hu27 := Try.underlying27
  have hu29 := Try.underlying29
  have HB := Aside0.mk (Below.refl w.heap.size w)
  have H : ((method_Changes.f k a0_0 a0_1 a0_2 a0_3 a1_0 a1_1 a1_2).bind fun t355 => (if t355 = true then (if a0_0 = 8 then (method_Growth.j0 k true a0_0 a0_1 a0_2 a0_3) else (if a0_0 = 11 then (method_Growth.j0 k true a0_0 a0_1 a0_2 a0_3) else (if a0_0 = 14 then (method_Growth.j0 k true a0_0 a0_1 a0_2 a0_3) else (method_Growth.j0 k (a0_0 == 16) a0_0 a0_1 a0_2 a0_3)))) else (some 0))) = some r := h
  clear h
  replace H := Option.bind_eq_some_iff.mp H
  obtain ⟨t355, A30, H⟩ := H
  replace H : (if t355 = true then (if a0_0 = 8 then (method_Growth.j0 k true a0_0 a0_1 a0_2 a0_3) else (if a0_0 = 11 then (method_Growth.j0 k true a0_0 a0_1 a0_2 a0_3) else (if a0_0 = 14 then (method_Growth.j0 k true a0_0 a0_1 a0_2 a0_3) else (method_Growth.j0 k (a0_0 == 16) a0_0 a0_1 a0_2 a0_3)))) else (some 0)) = some r := H
  have A3 := Aside0.mk A30
  clear A30
  by_cases c4 : t355 = true
  rotate_left
  · replace c4 := Bool.eq_false_iff.mpr c4
    subst c4
    have H1 : (some 0) = some r := by rw [if_neg (show ¬ (false = true) by decide)] at H; exact H
    clear H
    have H := H1
    clear H1
    obtain rfl := Option.some.inj H
    go_enter Try.func16, Try.ntmps16
    go_wp2_with (first | ((with_reducible refine gds (N := 2) rfl ?_); refine bev ?hg (N := 2) ?hd (cs := #[.int .i64 a0_0, .string a0_1, .string a0_2, .int .i64 a0_3]) (t := 27) ?hr ?_; (case hd => rfl); (case hg => rfl); (case hr => first | (go_simp; done) | (go_simp; rfl)); intro gb353 hg w38 hbox hb; have n0_ := Aside0.mk (bsp (by repeat (first | (with_reducible first | exact HB.out | apply bal | apply bdn | apply bd1) | exact HB.out)) hb); have n1_ := Aside0.mk (hbox); have n2_ := Aside0.mk ((by rw [hg]; exact (bsz (by repeat (first | (with_reducible first | exact HB.out | apply bal | apply bdn | apply bd1) | exact HB.out))) : w.heap.size ≤ gb353)); have n3_ := Aside0.mk ((by rw [hg]; exact (bsz (by repeat (first | (with_reducible first | exact HB.out | apply bal | apply bdn | apply bd1) | exact HB.out))) : w.heap.size ≤ gb353)); clear HB; have HB := n0_; have BK353 := n1_; have GW353 := n2_; have GE353 := n3_; clear n0_ n1_ n2_ n3_; clear hb hbox hg) | ((with_reducible refine gds (N := 3) rfl ?_); refine bev ?hg (N := 3) ?hd (cs := #[.int .i64 a1_0, .string a1_1, .int .i64 a1_2]) (t := 29) ?hr ?_; (case hd => rfl); (case hg => rfl); (case hr => first | (go_simp; done) | (go_simp; rfl)); intro gb354 hg w39 hbox hb; have n0_ := Aside0.mk (kbl (g := gb353) (o := .cells #[.int .i64 a0_0, .string a0_1, .string a0_2, .int .i64 a0_3] 27 (0, 0)) (by (with_reducible repeat (first | refine kdn ?_ _ | refine kdw ?_ | refine kal ?_ _)); exact BK353.out) hb); have n1_ := Aside0.mk (bsp (by repeat (first | (with_reducible first | exact HB.out | apply bal | apply bdn | apply bd1 | refine bst ?_ GE353.out) | exact HB.out)) hb); have n2_ := Aside0.mk (hbox); have n3_ := Aside0.mk ((by rw [hg]; exact (bsz (by repeat (first | (with_reducible first | exact HB.out | apply bal | apply bdn | apply bd1 | refine bst ?_ GE353.out) | exact HB.out))) : w.heap.size ≤ gb354)); have n4_ := Aside0.mk ((by rw [hg]; exact (bsz (by repeat (first | (with_reducible first | exact HB.out | apply bal | apply bdn | apply bd1 | refine bst ?_ GE353.out) | exact HB.out))) : w.heap.size ≤ gb354)); have n5_ := Aside0.mk ((by rw [hg]; exact Nat.ne_of_lt (blk_lt (g := gb353) (o := .cells #[.int .i64 a0_0, .string a0_1, .string a0_2, .int .i64 a0_3] 27 (0, 0)) (by (with_reducible repeat (first | refine kdn ?_ _ | refine kdw ?_ | refine kal ?_ _)); exact BK353.out)) : gb353 ≠ gb354)); have n6_ := Aside0.mk ((by rw [hg]; exact Nat.ne_of_gt (blk_lt (g := gb353) (o := .cells #[.int .i64 a0_0, .string a0_1, .string a0_2, .int .i64 a0_3] 27 (0, 0)) (by (with_reducible repeat (first | refine kdn ?_ _ | refine kdw ?_ | refine kal ?_ _)); exact BK353.out)) : gb354 ≠ gb353)); clear BK353; clear HB; have BK353 := n0_; have HB := n1_; have BK354 := n2_; have GW354 := n3_; have GE354 := n4_; have NB353_354 := n5_; have NB354_353 := n6_; clear n0_ n1_ n2_ n3_ n4_ n5_ n6_; clear hb hbox hg; have hnb40 := NB353_354.out; have hnc40 := NB354_353.out; have hcz41_0 : w39.cell? ⟨gb353, 0, none⟩ = some (.int .i64 a0_0) := (kcl BK353.out 0).trans rfl; have hcz41_1 : w39.cell? ⟨gb353, 1, none⟩ = some (.string a0_1) := (kcl BK353.out 1).trans rfl; have hcz41_2 : w39.cell? ⟨gb353, 2, none⟩ = some (.string a0_2) := (kcl BK353.out 2).trans rfl; have hcz41_3 : w39.cell? ⟨gb353, 3, none⟩ = some (.int .i64 a0_3) := (kcl BK353.out 3).trans rfl; have hfz41_0 := kfr BK353.out 0; have hfz41_1 := kfr BK353.out 1; have hfz41_2 := kfr BK353.out 2; have hfz41_3 := kfr BK353.out 3; have hcz42_0 : w39.cell? ⟨gb354, 0, none⟩ = some (.int .i64 a1_0) := (kcl BK354.out 0).trans rfl; have hcz42_1 : w39.cell? ⟨gb354, 1, none⟩ = some (.string a1_1) := (kcl BK354.out 1).trans rfl; have hcz42_2 : w39.cell? ⟨gb354, 2, none⟩ = some (.int .i64 a1_2) := (kcl BK354.out 2).trans rfl; have hfz42_0 := kfr BK354.out 0; have hfz42_1 := kfr BK354.out 1; have hfz42_2 := kfr BK354.out 2) | ((with_reducible refine gcl (f := 13) rfl ?_); refine gl_ (some 8) rfl rfl Try.func13 (by kernel_rfl) rfl #[.agg #[.int .i64 a0_0, .string a0_1, .string a0_2, .int .i64 a0_3], .agg #[.int .i64 a1_0, .string a1_1, .int .i64 a1_2]] rfl (by (try simp only [List.map_toArray, List.map_cons, List.map_nil]); first | done | rfl | (simp only [List.length_drop, List.length_take]; rfl)) ?_; (with_reducible refine (method_Changes.calls k a0_0 a0_1 a0_2 a0_3 a1_0 a1_1 a1_2 false _ A3.out).mono ?_); rintro e w43 ⟨rfl, hb⟩; refine ⟨_, rfl, ?_⟩; have n0_ := Aside0.mk (kbl (g := gb353) (o := .cells #[.int .i64 a0_0, .string a0_1, .string a0_2, .int .i64 a0_3] 27 (0, 0)) (by (with_reducible repeat (first | refine kdn ?_ _ | refine kdw ?_ | refine kal ?_ _)); exact BK353.out) hb); have n1_ := Aside0.mk (kbl (g := gb354) (o := .cells #[.int .i64 a1_0, .string a1_1, .int .i64 a1_2] 29 (0, 0)) (by (with_reducible repeat (first | refine kdn ?_ _ | refine kdw ?_ | refine kal ?_ _)); exact BK354.out) hb); have n2_ := Aside0.mk (bsp (by repeat (first | (with_reducible first | exact HB.out | apply bal | apply bdn | apply bd1 | refine bst ?_ GE353.out | refine bst ?_ GE354.out) | exact HB.out)) hb); clear BK353; clear BK354; clear HB; have BK353 := n0_; have BK354 := n1_; have HB := n2_; clear n0_ n1_ n2_; (try clear hb); (try clear hb2); (try clear hk); (try clear hi)))
    go_ret
    exact ⟨by first | rfl | (simp [errW_none, errW_some] <;> rfl) | (simp [*, errW_none, errW_some] <;> rfl), by repeat (first | (with_reducible first | exact HB.out | apply bal | apply bdn | apply bd1 | refine bst ?_ GE353.out | refine bst ?_ GE354.out) | exact HB.out)⟩
  subst c4
  have H1 : (if a0_0 = 8 then (method_Growth.j0 k true a0_0 a0_1 a0_2 a0_3) else (if a0_0 = 11 then (method_Growth.j0 k true a0_0 a0_1 a0_2 a0_3) else (if a0_0 = 14 then (method_Growth.j0 k true a0_0 a0_1 a0_2 a0_3) else (method_Growth.j0 k (a0_0 == 16) a0_0 a0_1 a0_2 a0_3)))) = some r := by rw [if_pos rfl] at H; exact H
  clear H
  have H := H1
  clear H1
  have HC5 := Aside0.mk H
  clear H
  go_enter Try.func16, Try.ntmps16
  go_upto_region 3 with (first | ((with_reducible refine gds (N := 2) rfl ?_); refine bev ?hg (N := 2) ?hd (cs := #[.int .i64 a0_0, .string a0_1, .string a0_2, .int .i64 a0_3]) (t := 27) ?hr ?_; (case hd => rfl); (case hg => rfl); (case hr => first | (go_simp; done) | (go_simp; rfl)); intro gb353 hg w6 hbox hb; have n0_ := Aside0.mk (bsp (by repeat (first | (with_reducible first | exact HB.out | apply bal | apply bdn | apply bd1) | exact HB.out)) hb); have n1_ := Aside0.mk (hbox); have n2_ := Aside0.mk ((by rw [hg]; exact (bsz (by repeat (first | (with_reducible first | exact HB.out | apply bal | apply bdn | apply bd1) | exact HB.out))) : w.heap.size ≤ gb353)); have n3_ := Aside0.mk ((by rw [hg]; exact (bsz (by repeat (first | (with_reducible first | exact HB.out | apply bal | apply bdn | apply bd1) | exact HB.out))) : w.heap.size ≤ gb353)); clear HB; have HB := n0_; have BK353 := n1_; have GW353 := n2_; have GE353 := n3_; clear n0_ n1_ n2_ n3_; clear hb hbox hg) | ((with_reducible refine gds (N := 3) rfl ?_); refine bev ?hg (N := 3) ?hd (cs := #[.int .i64 a1_0, .string a1_1, .int .i64 a1_2]) (t := 29) ?hr ?_; (case hd => rfl); (case hg => rfl); (case hr => first | (go_simp; done) | (go_simp; rfl)); intro gb354 hg w7 hbox hb; have n0_ := Aside0.mk (kbl (g := gb353) (o := .cells #[.int .i64 a0_0, .string a0_1, .string a0_2, .int .i64 a0_3] 27 (0, 0)) (by (with_reducible repeat (first | refine kdn ?_ _ | refine kdw ?_ | refine kal ?_ _)); exact BK353.out) hb); have n1_ := Aside0.mk (bsp (by repeat (first | (with_reducible first | exact HB.out | apply bal | apply bdn | apply bd1 | refine bst ?_ GE353.out) | exact HB.out)) hb); have n2_ := Aside0.mk (hbox); have n3_ := Aside0.mk ((by rw [hg]; exact (bsz (by repeat (first | (with_reducible first | exact HB.out | apply bal | apply bdn | apply bd1 | refine bst ?_ GE353.out) | exact HB.out))) : w.heap.size ≤ gb354)); have n4_ := Aside0.mk ((by rw [hg]; exact (bsz (by repeat (first | (with_reducible first | exact HB.out | apply bal | apply bdn | apply bd1 | refine bst ?_ GE353.out) | exact HB.out))) : w.heap.size ≤ gb354)); have n5_ := Aside0.mk ((by rw [hg]; exact Nat.ne_of_lt (blk_lt (g := gb353) (o := .cells #[.int .i64 a0_0, .string a0_1, .string a0_2, .int .i64 a0_3] 27 (0, 0)) (by (with_reducible repeat (first | refine kdn ?_ _ | refine kdw ?_ | refine kal ?_ _)); exact BK353.out)) : gb353 ≠ gb354)); have n6_ := Aside0.mk ((by rw [hg]; exact Nat.ne_of_gt (blk_lt (g := gb353) (o := .cells #[.int .i64 a0_0, .string a0_1, .string a0_2, .int .i64 a0_3] 27 (0, 0)) (by (with_reducible repeat (first | refine kdn ?_ _ | refine kdw ?_ | refine kal ?_ _)); exact BK353.out)) : gb354 ≠ gb353)); clear BK353; clear HB; have BK353 := n0_; have HB := n1_; have BK354 := n2_; have GW354 := n3_; have GE354 := n4_; have NB353_354 := n5_; have NB354_353 := n6_; clear n0_ n1_ n2_ n3_ n4_ n5_ n6_; clear hb hbox hg; have hnb8 := NB353_354.out; have hnc8 := NB354_353.out; have hcz9_0 : w7.cell? ⟨gb353, 0, none⟩ = some (.int .i64 a0_0) := (kcl BK353.out 0).trans rfl; have hcz9_1 : w7.cell? ⟨gb353, 1, none⟩ = some (.string a0_1) := (kcl BK353.out 1).trans rfl; have hcz9_2 : w7.cell? ⟨gb353, 2, none⟩ = some (.string a0_2) := (kcl BK353.out 2).trans rfl; have hcz9_3 : w7.cell? ⟨gb353, 3, none⟩ = some (.int .i64 a0_3) := (kcl BK353.out 3).trans rfl; have hfz9_0 := kfr BK353.out 0; have hfz9_1 := kfr BK353.out 1; have hfz9_2 := kfr BK353.out 2; have hfz9_3 := kfr BK353.out 3; have hcz10_0 : w7.cell? ⟨gb354, 0, none⟩ = some (.int .i64 a1_0) := (kcl BK354.out 0).trans rfl; have hcz10_1 : w7.cell? ⟨gb354, 1, none⟩ = some (.string a1_1) := (kcl BK354.out 1).trans rfl; have hcz10_2 : w7.cell? ⟨gb354, 2, none⟩ = some (.int .i64 a1_2) := (kcl BK354.out 2).trans rfl; have hfz10_0 := kfr BK354.out 0; have hfz10_1 := kfr BK354.out 1; have hfz10_2 := kfr BK354.out 2) | ((with_reducible refine gcl (f := 13) rfl ?_); refine gl_ (some 8) rfl rfl Try.func13 (by kernel_rfl) rfl #[.agg #[.int .i64 a0_0, .string a0_1, .string a0_2, .int .i64 a0_3], .agg #[.int .i64 a1_0, .string a1_1, .int .i64 a1_2]] rfl (by (try simp only [List.map_toArray, List.map_cons, List.map_nil]); first | done | rfl | (simp only [List.length_drop, List.length_take]; rfl)) ?_; (with_reducible refine (method_Changes.calls k a0_0 a0_1 a0_2 a0_3 a1_0 a1_1 a1_2 true _ A3.out).mono ?_); rintro e w11 ⟨rfl, hb⟩; refine ⟨_, rfl, ?_⟩; have n0_ := Aside0.mk (kbl (g := gb353) (o := .cells #[.int .i64 a0_0, .string a0_1, .string a0_2, .int .i64 a0_3] 27 (0, 0)) (by (with_reducible repeat (first | refine kdn ?_ _ | refine kdw ?_ | refine kal ?_ _)); exact BK353.out) hb); have n1_ := Aside0.mk (kbl (g := gb354) (o := .cells #[.int .i64 a1_0, .string a1_1, .int .i64 a1_2] 29 (0, 0)) (by (with_reducible repeat (first | refine kdn ?_ _ | refine kdw ?_ | refine kal ?_ _)); exact BK354.out) hb); have n2_ := Aside0.mk (bsp (by repeat (first | (with_reducible first | exact HB.out | apply bal | apply bdn | apply bd1 | refine bst ?_ GE353.out | refine bst ?_ GE354.out) | exact HB.out)) hb); clear BK353; clear BK354; clear HB; have BK353 := n0_; have BK354 := n1_; have HB := n2_; clear n0_ n1_ n2_; (try clear hb); (try clear hb2); (try clear hk); (try clear hi)))
  (try simp only [Act.put, List.setIfInBounds_toArray, List.set_cons_zero, List.set_cons_succ])
  go_cut [10] (fun v10 wc => ∃ (kq : Nat) (x10_4 : Bool), v10 = .bool x10_4 ∧ Aside0 (method_Growth.j0 kq x10_4 a0_0 a0_1 a0_2 a0_3 = some r) ∧ Aside0 (kq ≤ k) ∧ Aside0 (wc.heap[gb353]? = some (.cells #[.int .i64 a0_0, .string a0_1, .string a0_2, .int .i64 a0_3] 27 (0, 0))) ∧ Aside0 (wc.heap[gb354]? = some (.cells #[.int .i64 a1_0, .string a1_1, .int .i64 a1_2] 29 (0, 0))) ∧ Aside0 (Below w.heap.size w wc))
  case first =>
    have H := HC5.out
    clear HC5
    by_cases c12 : a0_0 = 8
    · rw [if_pos c12] at H
      have c12b0 : (a0_0 == 8) = true := beq_iff_eq.mpr c12
      have c12b1 : (a0_0 != 8) = false := bne_eq_false_iff_eq.mpr c12
      clear c12
      (first | rw [c12b0] | (simp only [i64_w, i32_w]; rw [c12b0]) | skip)
      have H' := Aside0.mk H
      clear H
      have hnb13 := NB353_354.out
      have hnc13 := NB354_353.out
      have hcz14_0 : w11.cell? ⟨gb353, 0, none⟩ = some (.int .i64 a0_0) := (kcl BK353.out 0).trans rfl
      have hcz14_1 : w11.cell? ⟨gb353, 1, none⟩ = some (.string a0_1) := (kcl BK353.out 1).trans rfl
      have hcz14_2 : w11.cell? ⟨gb353, 2, none⟩ = some (.string a0_2) := (kcl BK353.out 2).trans rfl
      have hcz14_3 : w11.cell? ⟨gb353, 3, none⟩ = some (.int .i64 a0_3) := (kcl BK353.out 3).trans rfl
      have hfz14_0 := kfr BK353.out 0
      have hfz14_1 := kfr BK353.out 1
      have hfz14_2 := kfr BK353.out 2
      have hfz14_3 := kfr BK353.out 3
      go_wp2
      go_meet
      case rel => exact ⟨_, (true), (by first | rfl | (simp; done) | (simp [*]; done) | exact emp1_ _ | exact (emp1_ _).symm | exact emp2_ _ | exact (emp2_ _).symm), H', ⟨by first | omega | exact Nat.le_refl _⟩, ⟨by (with_reducible repeat (first | refine kdn ?_ _ | refine kdw ?_ | refine kal ?_ _)); exact BK353.out⟩, ⟨by (with_reducible repeat (first | refine kdn ?_ _ | refine kdw ?_ | refine kal ?_ _)); exact BK354.out⟩, ⟨by repeat (first | (with_reducible first | exact HB.out | apply bal | apply bdn | apply bd1 | refine bst ?_ GE353.out | refine bst ?_ GE354.out) | exact HB.out)⟩⟩
    rw [if_neg c12] at H
    have c12b0 : (a0_0 == 8) = false := beq_eq_false_iff_ne.mpr c12
    have c12b1 : (a0_0 != 8) = true := bne_iff_ne.mpr c12
    (first | rw [c12b0] | (simp only [i64_w, i32_w]; rw [c12b0]) | skip)
    by_cases c15 : a0_0 = 11
    · rw [if_pos c15] at H
      have c15b0 : (a0_0 == 11) = true := beq_iff_eq.mpr c15
      have c15b1 : (a0_0 != 11) = false := bne_eq_false_iff_eq.mpr c15
      clear c15
      have H' := Aside0.mk H
      clear H
      have hnb16 := NB353_354.out
      have hnc16 := NB354_353.out
      have hcz17_0 : w11.cell? ⟨gb353, 0, none⟩ = some (.int .i64 a0_0) := (kcl BK353.out 0).trans rfl
      have hcz17_1 : w11.cell? ⟨gb353, 1, none⟩ = some (.string a0_1) := (kcl BK353.out 1).trans rfl
      have hcz17_2 : w11.cell? ⟨gb353, 2, none⟩ = some (.string a0_2) := (kcl BK353.out 2).trans rfl
      have hcz17_3 : w11.cell? ⟨gb353, 3, none⟩ = some (.int .i64 a0_3) := (kcl BK353.out 3).trans rfl
      have hfz17_0 := kfr BK353.out 0
      have hfz17_1 := kfr BK353.out 1
      have hfz17_2 := kfr BK353.out 2
      have hfz17_3 := kfr BK353.out 3
      go_wp2
      go_meet
      case rel => exact ⟨_, (true), (by first | rfl | (simp; done) | (simp [*]; done) | exact emp1_ _ | exact (emp1_ _).symm | exact emp2_ _ | exact (emp2_ _).symm), H', ⟨by first | omega | exact Nat.le_refl _⟩, ⟨by (with_reducible repeat (first | refine kdn ?_ _ | refine kdw ?_ | refine kal ?_ _)); exact BK353.out⟩, ⟨by (with_reducible repeat (first | refine kdn ?_ _ | refine kdw ?_ | refine kal ?_ _)); exact BK354.out⟩, ⟨by repeat (first | (with_reducible first | exact HB.out | apply bal | apply bdn | apply bd1 | refine bst ?_ GE353.out | refine bst ?_ GE354.out) | exact HB.out)⟩⟩
    rw [if_neg c15] at H
    have c15b0 : (a0_0 == 11) = false := beq_eq_false_iff_ne.mpr c15
    have c15b1 : (a0_0 != 11) = true := bne_iff_ne.mpr c15
    by_cases c18 : a0_0 = 14
    rotate_left
    · rw [if_neg c18] at H
      have c18b0 : (a0_0 == 14) = false := beq_eq_false_iff_ne.mpr c18
      have c18b1 : (a0_0 != 14) = true := bne_iff_ne.mpr c18
      have H' := Aside0.mk H
      clear H
      have hnb21 := NB353_354.out
      have hnc21 := NB354_353.out
      have hcz22_0 : w11.cell? ⟨gb353, 0, none⟩ = some (.int .i64 a0_0) := (kcl BK353.out 0).trans rfl
      have hcz22_1 : w11.cell? ⟨gb353, 1, none⟩ = some (.string a0_1) := (kcl BK353.out 1).trans rfl
      have hcz22_2 : w11.cell? ⟨gb353, 2, none⟩ = some (.string a0_2) := (kcl BK353.out 2).trans rfl
      have hcz22_3 : w11.cell? ⟨gb353, 3, none⟩ = some (.int .i64 a0_3) := (kcl BK353.out 3).trans rfl
      have hfz22_0 := kfr BK353.out 0
      have hfz22_1 := kfr BK353.out 1
      have hfz22_2 := kfr BK353.out 2
      have hfz22_3 := kfr BK353.out 3
      go_wp2
      go_meet
      case rel => exact ⟨_, ((a0_0 == 16)), (by first | rfl | (simp; done) | (simp [*]; done) | exact emp1_ _ | exact (emp1_ _).symm | exact emp2_ _ | exact (emp2_ _).symm), H', ⟨by first | omega | exact Nat.le_refl _⟩, ⟨by (with_reducible repeat (first | refine kdn ?_ _ | refine kdw ?_ | refine kal ?_ _)); exact BK353.out⟩, ⟨by (with_reducible repeat (first | refine kdn ?_ _ | refine kdw ?_ | refine kal ?_ _)); exact BK354.out⟩, ⟨by repeat (first | (with_reducible first | exact HB.out | apply bal | apply bdn | apply bd1 | refine bst ?_ GE353.out | refine bst ?_ GE354.out) | exact HB.out)⟩⟩
    rw [if_pos c18] at H
    have c18b0 : (a0_0 == 14) = true := beq_iff_eq.mpr c18
    have c18b1 : (a0_0 != 14) = false := bne_eq_false_iff_eq.mpr c18
    clear c18
    have H' := Aside0.mk H
    clear H
    have hnb19 := NB353_354.out
    have hnc19 := NB354_353.out
    have hcz20_0 : w11.cell? ⟨gb353, 0, none⟩ = some (.int .i64 a0_0) := (kcl BK353.out 0).trans rfl
    have hcz20_1 : w11.cell? ⟨gb353, 1, none⟩ = some (.string a0_1) := (kcl BK353.out 1).trans rfl
    have hcz20_2 : w11.cell? ⟨gb353, 2, none⟩ = some (.string a0_2) := (kcl BK353.out 2).trans rfl
    have hcz20_3 : w11.cell? ⟨gb353, 3, none⟩ = some (.int .i64 a0_3) := (kcl BK353.out 3).trans rfl
    have hfz20_0 := kfr BK353.out 0
    have hfz20_1 := kfr BK353.out 1
    have hfz20_2 := kfr BK353.out 2
    have hfz20_3 := kfr BK353.out 3
    go_wp2
    go_meet
    case rel => exact ⟨_, (true), (by first | rfl | (simp; done) | (simp [*]; done) | exact emp1_ _ | exact (emp1_ _).symm | exact emp2_ _ | exact (emp2_ _).symm), H', ⟨by first | omega | exact Nat.le_refl _⟩, ⟨by (with_reducible repeat (first | refine kdn ?_ _ | refine kdw ?_ | refine kal ?_ _)); exact BK353.out⟩, ⟨by (with_reducible repeat (first | refine kdn ?_ _ | refine kdw ?_ | refine kal ?_ _)); exact BK354.out⟩, ⟨by repeat (first | (with_reducible first | exact HB.out | apply bal | apply bdn | apply bd1 | refine bst ?_ GE353.out | refine bst ?_ GE354.out) | exact HB.out)⟩⟩
  clear HC5
  try clear c1
  try clear c2
  try clear p2
  try clear c4
  try clear c8
  try clear c12
  try clear c12b0
  try clear c12b1
  try clear c13
  try clear c15
  try clear c15b0
  try clear c15b1
  try clear c16
  try clear c18
  try clear c18b0
  try clear c18b1
  try clear c19
  try clear c21
  try clear hcz10_0
  try clear hcz10_1
  try clear hcz10_2
  try clear hcz14_0
  try clear hcz14_1
  try clear hcz14_2
  try clear hcz14_3
  try clear hcz17_0
  try clear hcz17_1
  try clear hcz17_2
  try clear hcz17_3
  try clear hcz20_0
  try clear hcz20_1
  try clear hcz20_2
  try clear hcz20_3
  try clear hcz22_0
  try clear hcz22_1
  try clear hcz22_2
  try clear hcz22_3
  try clear hcz9_0
  try clear hcz9_1
  try clear hcz9_2
  try clear hcz9_3
  try clear hfz10_0
  try clear hfz10_1
  try clear hfz10_2
  try clear hfz14_0
  try clear hfz14_1
  try clear hfz14_2
  try clear hfz14_3
  try clear hfz17_0
  try clear hfz17_1
  try clear hfz17_2
  try clear hfz17_3
  try clear hfz20_0
  try clear hfz20_1
  try clear hfz20_2
  try clear hfz20_3
  try clear hfz22_0
  try clear hfz22_1
  try clear hfz22_2
  try clear hfz22_3
  try clear hfz9_0
  try clear hfz9_1
  try clear hfz9_2
  try clear hfz9_3
  obtain ⟨kq, x10_4, rfl, HA, HJ4, BK353, BK354, HB⟩ := hcut
  cases kq with
  | zero => exact absurd HA.out (by simp [method_Growth.j0])
  | succ kj4 =>
    have H := HA.out
    clear HA
    simp only [method_Growth.j0] at H
    by_cases c23 : x10_4 = true
    · subst c23
      have H1 : (some 1) = some r := by rw [if_pos rfl] at H; exact H
      clear H
      have H := H1
      clear H1
      obtain rfl := Option.some.inj H
      go_wp2
      go_ret
      exact ⟨by first | rfl | (simp [errW_none, errW_some] <;> rfl) | (simp [*, errW_none, errW_some] <;> rfl), by repeat (first | (with_reducible first | exact HB.out | apply bal | apply bdn | apply bd1 | refine bst ?_ GE353.out | refine bst ?_ GE354.out) | exact HB.out)⟩
    replace c23 := Bool.eq_false_iff.mpr c23
    subst c23
    have H1 : (if a0_0 = 9 then (some (-1)) else (if a0_0 = 12 then (some (-1)) else (if a0_0 = 15 then (some (-1)) else (if a0_0 = 17 then (some (-1)) else (some 0))))) = some r := by rw [if_neg (show ¬ (false = true) by decide)] at H; exact H
    clear H
    have H := H1
    clear H1
    by_cases c24 : a0_0 = 9
    · rw [if_pos c24] at H
      have c24b0 : (a0_0 == 9) = true := beq_iff_eq.mpr c24
      have c24b1 : (a0_0 != 9) = false := bne_eq_false_iff_eq.mpr c24
      clear c24
      obtain rfl := Option.some.inj H
      have hnb25 := NB353_354.out
      have hnc25 := NB354_353.out
      have hcz26_0 : wc.cell? ⟨gb353, 0, none⟩ = some (.int .i64 a0_0) := (kcl BK353.out 0).trans rfl
      have hcz26_1 : wc.cell? ⟨gb353, 1, none⟩ = some (.string a0_1) := (kcl BK353.out 1).trans rfl
      have hcz26_2 : wc.cell? ⟨gb353, 2, none⟩ = some (.string a0_2) := (kcl BK353.out 2).trans rfl
      have hcz26_3 : wc.cell? ⟨gb353, 3, none⟩ = some (.int .i64 a0_3) := (kcl BK353.out 3).trans rfl
      have hfz26_0 := kfr BK353.out 0
      have hfz26_1 := kfr BK353.out 1
      have hfz26_2 := kfr BK353.out 2
      have hfz26_3 := kfr BK353.out 3
      go_wp2
      go_ret
      exact ⟨by first | rfl | (simp [errW_none, errW_some] <;> rfl) | (simp [*, errW_none, errW_some] <;> rfl), by repeat (first | (with_reducible first | exact HB.out | apply bal | apply bdn | apply bd1 | refine bst ?_ GE353.out | refine bst ?_ GE354.out) | exact HB.out)⟩
    rw [if_neg c24] at H
    have c24b0 : (a0_0 == 9) = false := beq_eq_false_iff_ne.mpr c24
    have c24b1 : (a0_0 != 9) = true := bne_iff_ne.mpr c24
    by_cases c27 : a0_0 = 12
    · rw [if_pos c27] at H
      have c27b0 : (a0_0 == 12) = true := beq_iff_eq.mpr c27
      have c27b1 : (a0_0 != 12) = false := bne_eq_false_iff_eq.mpr c27
      clear c27
      obtain rfl := Option.some.inj H
      have hnb28 := NB353_354.out
      have hnc28 := NB354_353.out
      have hcz29_0 : wc.cell? ⟨gb353, 0, none⟩ = some (.int .i64 a0_0) := (kcl BK353.out 0).trans rfl
      have hcz29_1 : wc.cell? ⟨gb353, 1, none⟩ = some (.string a0_1) := (kcl BK353.out 1).trans rfl
      have hcz29_2 : wc.cell? ⟨gb353, 2, none⟩ = some (.string a0_2) := (kcl BK353.out 2).trans rfl
      have hcz29_3 : wc.cell? ⟨gb353, 3, none⟩ = some (.int .i64 a0_3) := (kcl BK353.out 3).trans rfl
      have hfz29_0 := kfr BK353.out 0
      have hfz29_1 := kfr BK353.out 1
      have hfz29_2 := kfr BK353.out 2
      have hfz29_3 := kfr BK353.out 3
      go_wp2
      go_ret
      exact ⟨by first | rfl | (simp [errW_none, errW_some] <;> rfl) | (simp [*, errW_none, errW_some] <;> rfl), by repeat (first | (with_reducible first | exact HB.out | apply bal | apply bdn | apply bd1 | refine bst ?_ GE353.out | refine bst ?_ GE354.out) | exact HB.out)⟩
    rw [if_neg c27] at H
    have c27b0 : (a0_0 == 12) = false := beq_eq_false_iff_ne.mpr c27
    have c27b1 : (a0_0 != 12) = true := bne_iff_ne.mpr c27
    by_cases c30 : a0_0 = 15
    · rw [if_pos c30] at H
      have c30b0 : (a0_0 == 15) = true := beq_iff_eq.mpr c30
      have c30b1 : (a0_0 != 15) = false := bne_eq_false_iff_eq.mpr c30
      clear c30
      obtain rfl := Option.some.inj H
      have hnb31 := NB353_354.out
      have hnc31 := NB354_353.out
      have hcz32_0 : wc.cell? ⟨gb353, 0, none⟩ = some (.int .i64 a0_0) := (kcl BK353.out 0).trans rfl
      have hcz32_1 : wc.cell? ⟨gb353, 1, none⟩ = some (.string a0_1) := (kcl BK353.out 1).trans rfl
      have hcz32_2 : wc.cell? ⟨gb353, 2, none⟩ = some (.string a0_2) := (kcl BK353.out 2).trans rfl
      have hcz32_3 : wc.cell? ⟨gb353, 3, none⟩ = some (.int .i64 a0_3) := (kcl BK353.out 3).trans rfl
      have hfz32_0 := kfr BK353.out 0
      have hfz32_1 := kfr BK353.out 1
      have hfz32_2 := kfr BK353.out 2
      have hfz32_3 := kfr BK353.out 3
      go_wp2
      go_ret
      exact ⟨by first | rfl | (simp [errW_none, errW_some] <;> rfl) | (simp [*, errW_none, errW_some] <;> rfl), by repeat (first | (with_reducible first | exact HB.out | apply bal | apply bdn | apply bd1 | refine bst ?_ GE353.out | refine bst ?_ GE354.out) | exact HB.out)⟩
    rw [if_neg c30] at H
    have c30b0 : (a0_0 == 15) = false := beq_eq_false_iff_ne.mpr c30
    have c30b1 : (a0_0 != 15) = true := bne_iff_ne.mpr c30
    by_cases c33 : a0_0 = 17
    rotate_left
    · rw [if_neg c33] at H
      have c33b0 : (a0_0 == 17) = false := beq_eq_false_iff_ne.mpr c33
      have c33b1 : (a0_0 != 17) = true := bne_iff_ne.mpr c33
      obtain rfl := Option.some.inj H
      have hnb36 := NB353_354.out
      have hnc36 := NB354_353.out
      have hcz37_0 : wc.cell? ⟨gb353, 0, none⟩ = some (.int .i64 a0_0) := (kcl BK353.out 0).trans rfl
      have hcz37_1 : wc.cell? ⟨gb353, 1, none⟩ = some (.string a0_1) := (kcl BK353.out 1).trans rfl
      have hcz37_2 : wc.cell? ⟨gb353, 2, none⟩ = some (.string a0_2) := (kcl BK353.out 2).trans rfl
      have hcz37_3 : wc.cell? ⟨gb353, 3, none⟩ = some (.int .i64 a0_3) := (kcl BK353.out 3).trans rfl
      have hfz37_0 := kfr BK353.out 0
      have hfz37_1 := kfr BK353.out 1
      have hfz37_2 := kfr BK353.out 2
      have hfz37_3 := kfr BK353.out 3
      go_wp2
      go_ret
      exact ⟨by first | rfl | (simp [errW_none, errW_some] <;> rfl) | (simp [*, errW_none, errW_some] <;> rfl), by repeat (first | (with_reducible first | exact HB.out | apply bal | apply bdn | apply bd1 | refine bst ?_ GE353.out | refine bst ?_ GE354.out) | exact HB.out)⟩
    rw [if_pos c33] at H
    have c33b0 : (a0_0 == 17) = true := beq_iff_eq.mpr c33
    have c33b1 : (a0_0 != 17) = false := bne_eq_false_iff_eq.mpr c33
    clear c33
    obtain rfl := Option.some.inj H
    have hnb34 := NB353_354.out
    have hnc34 := NB354_353.out
    have hcz35_0 : wc.cell? ⟨gb353, 0, none⟩ = some (.int .i64 a0_0) := (kcl BK353.out 0).trans rfl
    have hcz35_1 : wc.cell? ⟨gb353, 1, none⟩ = some (.string a0_1) := (kcl BK353.out 1).trans rfl
    have hcz35_2 : wc.cell? ⟨gb353, 2, none⟩ = some (.string a0_2) := (kcl BK353.out 2).trans rfl
    have hcz35_3 : wc.cell? ⟨gb353, 3, none⟩ = some (.int .i64 a0_3) := (kcl BK353.out 3).trans rfl
    have hfz35_0 := kfr BK353.out 0
    have hfz35_1 := kfr BK353.out 1
    have hfz35_2 := kfr BK353.out 2
    have hfz35_3 := kfr BK353.out 3
    go_wp2
    go_ret
    exact ⟨by first | rfl | (simp [errW_none, errW_some] <;> rfl) | (simp [*, errW_none, errW_some] <;> rfl), by repeat (first | (with_reducible first | exact HB.out | apply bal | apply bdn | apply bd1 | refine bst ?_ GE353.out | refine bst ?_ GE354.out) | exact HB.out)⟩
def armoireref12_Growth.j0 : Nat → Int → Bool → Option (Int)
  | 0, _, _ => none
  | k + 1, x10, x11 => if x11 = true then (some 1) else (if x10 = 9 then (some (-1)) else (if x10 = 12 then (some (-1)) else (if x10 = 15 then (some (-1)) else (if x10 = 17 then (some (-1)) else (some 0)))))
def armoireref12_Growth.f (k : Nat) (a0_0 : Int) (a0_1 : ByteArray) (a0_2 : ByteArray) (a0_3 : Int) (a1_0 : Int) (a1_1 : ByteArray) (a1_2 : Int) : Option (Int) := (armoireref12_Changes.f k a0_0 a0_1 a0_2 a0_3 a1_0 a1_1 a1_2).bind fun t358 => (if t358 = true then (if a0_0 = 8 then (armoireref12_Growth.j0 k a0_0 (a0_0 == 8)) else (if a0_0 = 11 then (armoireref12_Growth.j0 k a0_0 (a0_0 == 11)) else (if a0_0 = 14 then (armoireref12_Growth.j0 k a0_0 (a0_0 == 14)) else (armoireref12_Growth.j0 k a0_0 (a0_0 == 16))))) else (some 0))
set_option maxHeartbeats 2000000 in
set_option maxRecDepth 100000 in
theorem armoireref12_Growth.calls (k : Nat) (a0_0 : Int) (a0_1 : ByteArray) (a0_2 : ByteArray) (a0_3 : Int) (a1_0 : Int) (a1_1 : ByteArray) (a1_2 : Int) (r : Int) (w : World) (h : armoireref12_Growth.f k a0_0 a0_1 a0_2 a0_3 a1_0 a1_1 a1_2 = some r) :
    Calls Try.prog 17 #[.agg #[.int .i64 a0_0, .string a0_1, .string a0_2, .int .i64 a0_3], .agg #[.int .i64 a1_0, .string a1_1, .int .i64 a1_2]] w fun e w' => e = .returned (.int .i64 r) ∧ Below w.heap.size w w' := by
  have hu37 := Try.underlying37
  have hu39 := Try.underlying39
  have HB := Aside0.mk (Below.refl w.heap.size w)
  have H : ((armoireref12_Changes.f k a0_0 a0_1 a0_2 a0_3 a1_0 a1_1 a1_2).bind fun t358 => (if t358 = true then (if a0_0 = 8 then (armoireref12_Growth.j0 k a0_0 (a0_0 == 8)) else (if a0_0 = 11 then (armoireref12_Growth.j0 k a0_0 (a0_0 == 11)) else (if a0_0 = 14 then (armoireref12_Growth.j0 k a0_0 (a0_0 == 14)) else (armoireref12_Growth.j0 k a0_0 (a0_0 == 16))))) else (some 0))) = some r := h
  clear h
  replace H := Option.bind_eq_some_iff.mp H
  obtain ⟨t358, A30, H⟩ := H
  replace H : (if t358 = true then (if a0_0 = 8 then (armoireref12_Growth.j0 k a0_0 (a0_0 == 8)) else (if a0_0 = 11 then (armoireref12_Growth.j0 k a0_0 (a0_0 == 11)) else (if a0_0 = 14 then (armoireref12_Growth.j0 k a0_0 (a0_0 == 14)) else (armoireref12_Growth.j0 k a0_0 (a0_0 == 16))))) else (some 0)) = some r := H
  have A3 := Aside0.mk A30
  clear A30
  by_cases c4 : t358 = true
  rotate_left
  · replace c4 := Bool.eq_false_iff.mpr c4
    subst c4
    have H1 : (some 0) = some r := by rw [if_neg (show ¬ (false = true) by decide)] at H; exact H
    clear H
    have H := H1
    clear H1
    obtain rfl := Option.some.inj H
    go_enter Try.func17, Try.ntmps17
    go_wp2_with (first | ((with_reducible refine gds (N := 2) rfl ?_); refine bev ?hg (N := 2) ?hd (cs := #[.int .i64 a0_0, .string a0_1, .string a0_2, .int .i64 a0_3]) (t := 37) ?hr ?_; (case hd => rfl); (case hg => rfl); (case hr => first | (go_simp; done) | (go_simp; rfl)); intro gb356 hg w21 hbox hb; have n0_ := Aside0.mk (bsp (by repeat (first | (with_reducible first | exact HB.out | apply bal | apply bdn | apply bd1) | exact HB.out)) hb); have n1_ := Aside0.mk (hbox); have n2_ := Aside0.mk ((by rw [hg]; exact (bsz (by repeat (first | (with_reducible first | exact HB.out | apply bal | apply bdn | apply bd1) | exact HB.out))) : w.heap.size ≤ gb356)); have n3_ := Aside0.mk ((by rw [hg]; exact (bsz (by repeat (first | (with_reducible first | exact HB.out | apply bal | apply bdn | apply bd1) | exact HB.out))) : w.heap.size ≤ gb356)); clear HB; have HB := n0_; have BK356 := n1_; have GW356 := n2_; have GE356 := n3_; clear n0_ n1_ n2_ n3_; clear hb hbox hg) | ((with_reducible refine gds (N := 3) rfl ?_); refine bev ?hg (N := 3) ?hd (cs := #[.int .i64 a1_0, .string a1_1, .int .i64 a1_2]) (t := 39) ?hr ?_; (case hd => rfl); (case hg => rfl); (case hr => first | (go_simp; done) | (go_simp; rfl)); intro gb357 hg w22 hbox hb; have n0_ := Aside0.mk (kbl (g := gb356) (o := .cells #[.int .i64 a0_0, .string a0_1, .string a0_2, .int .i64 a0_3] 37 (0, 0)) (by (with_reducible repeat (first | refine kdn ?_ _ | refine kdw ?_ | refine kal ?_ _)); exact BK356.out) hb); have n1_ := Aside0.mk (bsp (by repeat (first | (with_reducible first | exact HB.out | apply bal | apply bdn | apply bd1 | refine bst ?_ GE356.out) | exact HB.out)) hb); have n2_ := Aside0.mk (hbox); have n3_ := Aside0.mk ((by rw [hg]; exact (bsz (by repeat (first | (with_reducible first | exact HB.out | apply bal | apply bdn | apply bd1 | refine bst ?_ GE356.out) | exact HB.out))) : w.heap.size ≤ gb357)); have n4_ := Aside0.mk ((by rw [hg]; exact (bsz (by repeat (first | (with_reducible first | exact HB.out | apply bal | apply bdn | apply bd1 | refine bst ?_ GE356.out) | exact HB.out))) : w.heap.size ≤ gb357)); have n5_ := Aside0.mk ((by rw [hg]; exact Nat.ne_of_lt (blk_lt (g := gb356) (o := .cells #[.int .i64 a0_0, .string a0_1, .string a0_2, .int .i64 a0_3] 37 (0, 0)) (by (with_reducible repeat (first | refine kdn ?_ _ | refine kdw ?_ | refine kal ?_ _)); exact BK356.out)) : gb356 ≠ gb357)); have n6_ := Aside0.mk ((by rw [hg]; exact Nat.ne_of_gt (blk_lt (g := gb356) (o := .cells #[.int .i64 a0_0, .string a0_1, .string a0_2, .int .i64 a0_3] 37 (0, 0)) (by (with_reducible repeat (first | refine kdn ?_ _ | refine kdw ?_ | refine kal ?_ _)); exact BK356.out)) : gb357 ≠ gb356)); clear BK356; clear HB; have BK356 := n0_; have HB := n1_; have BK357 := n2_; have GW357 := n3_; have GE357 := n4_; have NB356_357 := n5_; have NB357_356 := n6_; clear n0_ n1_ n2_ n3_ n4_ n5_ n6_; clear hb hbox hg; have hnb23 := NB356_357.out; have hnc23 := NB357_356.out; have hcz24_0 : w22.cell? ⟨gb356, 0, none⟩ = some (.int .i64 a0_0) := (kcl BK356.out 0).trans rfl; have hcz24_1 : w22.cell? ⟨gb356, 1, none⟩ = some (.string a0_1) := (kcl BK356.out 1).trans rfl; have hcz24_2 : w22.cell? ⟨gb356, 2, none⟩ = some (.string a0_2) := (kcl BK356.out 2).trans rfl; have hcz24_3 : w22.cell? ⟨gb356, 3, none⟩ = some (.int .i64 a0_3) := (kcl BK356.out 3).trans rfl; have hfz24_0 := kfr BK356.out 0; have hfz24_1 := kfr BK356.out 1; have hfz24_2 := kfr BK356.out 2; have hfz24_3 := kfr BK356.out 3; have hcz25_0 : w22.cell? ⟨gb357, 0, none⟩ = some (.int .i64 a1_0) := (kcl BK357.out 0).trans rfl; have hcz25_1 : w22.cell? ⟨gb357, 1, none⟩ = some (.string a1_1) := (kcl BK357.out 1).trans rfl; have hcz25_2 : w22.cell? ⟨gb357, 2, none⟩ = some (.int .i64 a1_2) := (kcl BK357.out 2).trans rfl; have hfz25_0 := kfr BK357.out 0; have hfz25_1 := kfr BK357.out 1; have hfz25_2 := kfr BK357.out 2) | ((with_reducible refine gcl (f := 14) rfl ?_); refine gl_ (some 7) rfl rfl Try.func14 (by kernel_rfl) rfl #[.agg #[.int .i64 a0_0, .string a0_1, .string a0_2, .int .i64 a0_3], .agg #[.int .i64 a1_0, .string a1_1, .int .i64 a1_2]] rfl (by (try simp only [List.map_toArray, List.map_cons, List.map_nil]); first | done | rfl | (simp only [List.length_drop, List.length_take]; rfl)) ?_; (with_reducible refine (armoireref12_Changes.calls k a0_0 a0_1 a0_2 a0_3 a1_0 a1_1 a1_2 false _ A3.out).mono ?_); rintro e w26 ⟨rfl, hb⟩; refine ⟨_, rfl, ?_⟩; have n0_ := Aside0.mk (kbl (g := gb356) (o := .cells #[.int .i64 a0_0, .string a0_1, .string a0_2, .int .i64 a0_3] 37 (0, 0)) (by (with_reducible repeat (first | refine kdn ?_ _ | refine kdw ?_ | refine kal ?_ _)); exact BK356.out) hb); have n1_ := Aside0.mk (kbl (g := gb357) (o := .cells #[.int .i64 a1_0, .string a1_1, .int .i64 a1_2] 39 (0, 0)) (by (with_reducible repeat (first | refine kdn ?_ _ | refine kdw ?_ | refine kal ?_ _)); exact BK357.out) hb); have n2_ := Aside0.mk (bsp (by repeat (first | (with_reducible first | exact HB.out | apply bal | apply bdn | apply bd1 | refine bst ?_ GE356.out | refine bst ?_ GE357.out) | exact HB.out)) hb); clear BK356; clear BK357; clear HB; have BK356 := n0_; have BK357 := n1_; have HB := n2_; clear n0_ n1_ n2_; (try clear hb); (try clear hb2); (try clear hk); (try clear hi)))
    go_ret
    exact ⟨by first | rfl | (simp [errW_none, errW_some] <;> rfl) | (simp [*, errW_none, errW_some] <;> rfl), by repeat (first | (with_reducible first | exact HB.out | apply bal | apply bdn | apply bd1 | refine bst ?_ GE356.out | refine bst ?_ GE357.out) | exact HB.out)⟩
  subst c4
  have H1 : (if a0_0 = 8 then (armoireref12_Growth.j0 k a0_0 (a0_0 == 8)) else (if a0_0 = 11 then (armoireref12_Growth.j0 k a0_0 (a0_0 == 11)) else (if a0_0 = 14 then (armoireref12_Growth.j0 k a0_0 (a0_0 == 14)) else (armoireref12_Growth.j0 k a0_0 (a0_0 == 16))))) = some r := by rw [if_pos rfl] at H; exact H
  clear H
  have H := H1
  clear H1
  have HC5 := Aside0.mk H
  clear H
  go_enter Try.func17, Try.ntmps17
  go_upto_if 11 with (first | ((with_reducible refine gds (N := 2) rfl ?_); refine bev ?hg (N := 2) ?hd (cs := #[.int .i64 a0_0, .string a0_1, .string a0_2, .int .i64 a0_3]) (t := 37) ?hr ?_; (case hd => rfl); (case hg => rfl); (case hr => first | (go_simp; done) | (go_simp; rfl)); intro gb356 hg w6 hbox hb; have n0_ := Aside0.mk (bsp (by repeat (first | (with_reducible first | exact HB.out | apply bal | apply bdn | apply bd1) | exact HB.out)) hb); have n1_ := Aside0.mk (hbox); have n2_ := Aside0.mk ((by rw [hg]; exact (bsz (by repeat (first | (with_reducible first | exact HB.out | apply bal | apply bdn | apply bd1) | exact HB.out))) : w.heap.size ≤ gb356)); have n3_ := Aside0.mk ((by rw [hg]; exact (bsz (by repeat (first | (with_reducible first | exact HB.out | apply bal | apply bdn | apply bd1) | exact HB.out))) : w.heap.size ≤ gb356)); clear HB; have HB := n0_; have BK356 := n1_; have GW356 := n2_; have GE356 := n3_; clear n0_ n1_ n2_ n3_; clear hb hbox hg) | ((with_reducible refine gds (N := 3) rfl ?_); refine bev ?hg (N := 3) ?hd (cs := #[.int .i64 a1_0, .string a1_1, .int .i64 a1_2]) (t := 39) ?hr ?_; (case hd => rfl); (case hg => rfl); (case hr => first | (go_simp; done) | (go_simp; rfl)); intro gb357 hg w7 hbox hb; have n0_ := Aside0.mk (kbl (g := gb356) (o := .cells #[.int .i64 a0_0, .string a0_1, .string a0_2, .int .i64 a0_3] 37 (0, 0)) (by (with_reducible repeat (first | refine kdn ?_ _ | refine kdw ?_ | refine kal ?_ _)); exact BK356.out) hb); have n1_ := Aside0.mk (bsp (by repeat (first | (with_reducible first | exact HB.out | apply bal | apply bdn | apply bd1 | refine bst ?_ GE356.out) | exact HB.out)) hb); have n2_ := Aside0.mk (hbox); have n3_ := Aside0.mk ((by rw [hg]; exact (bsz (by repeat (first | (with_reducible first | exact HB.out | apply bal | apply bdn | apply bd1 | refine bst ?_ GE356.out) | exact HB.out))) : w.heap.size ≤ gb357)); have n4_ := Aside0.mk ((by rw [hg]; exact (bsz (by repeat (first | (with_reducible first | exact HB.out | apply bal | apply bdn | apply bd1 | refine bst ?_ GE356.out) | exact HB.out))) : w.heap.size ≤ gb357)); have n5_ := Aside0.mk ((by rw [hg]; exact Nat.ne_of_lt (blk_lt (g := gb356) (o := .cells #[.int .i64 a0_0, .string a0_1, .string a0_2, .int .i64 a0_3] 37 (0, 0)) (by (with_reducible repeat (first | refine kdn ?_ _ | refine kdw ?_ | refine kal ?_ _)); exact BK356.out)) : gb356 ≠ gb357)); have n6_ := Aside0.mk ((by rw [hg]; exact Nat.ne_of_gt (blk_lt (g := gb356) (o := .cells #[.int .i64 a0_0, .string a0_1, .string a0_2, .int .i64 a0_3] 37 (0, 0)) (by (with_reducible repeat (first | refine kdn ?_ _ | refine kdw ?_ | refine kal ?_ _)); exact BK356.out)) : gb357 ≠ gb356)); clear BK356; clear HB; have BK356 := n0_; have HB := n1_; have BK357 := n2_; have GW357 := n3_; have GE357 := n4_; have NB356_357 := n5_; have NB357_356 := n6_; clear n0_ n1_ n2_ n3_ n4_ n5_ n6_; clear hb hbox hg; have hnb8 := NB356_357.out; have hnc8 := NB357_356.out; have hcz9_0 : w7.cell? ⟨gb356, 0, none⟩ = some (.int .i64 a0_0) := (kcl BK356.out 0).trans rfl; have hcz9_1 : w7.cell? ⟨gb356, 1, none⟩ = some (.string a0_1) := (kcl BK356.out 1).trans rfl; have hcz9_2 : w7.cell? ⟨gb356, 2, none⟩ = some (.string a0_2) := (kcl BK356.out 2).trans rfl; have hcz9_3 : w7.cell? ⟨gb356, 3, none⟩ = some (.int .i64 a0_3) := (kcl BK356.out 3).trans rfl; have hfz9_0 := kfr BK356.out 0; have hfz9_1 := kfr BK356.out 1; have hfz9_2 := kfr BK356.out 2; have hfz9_3 := kfr BK356.out 3; have hcz10_0 : w7.cell? ⟨gb357, 0, none⟩ = some (.int .i64 a1_0) := (kcl BK357.out 0).trans rfl; have hcz10_1 : w7.cell? ⟨gb357, 1, none⟩ = some (.string a1_1) := (kcl BK357.out 1).trans rfl; have hcz10_2 : w7.cell? ⟨gb357, 2, none⟩ = some (.int .i64 a1_2) := (kcl BK357.out 2).trans rfl; have hfz10_0 := kfr BK357.out 0; have hfz10_1 := kfr BK357.out 1; have hfz10_2 := kfr BK357.out 2) | ((with_reducible refine gcl (f := 14) rfl ?_); refine gl_ (some 7) rfl rfl Try.func14 (by kernel_rfl) rfl #[.agg #[.int .i64 a0_0, .string a0_1, .string a0_2, .int .i64 a0_3], .agg #[.int .i64 a1_0, .string a1_1, .int .i64 a1_2]] rfl (by (try simp only [List.map_toArray, List.map_cons, List.map_nil]); first | done | rfl | (simp only [List.length_drop, List.length_take]; rfl)) ?_; (with_reducible refine (armoireref12_Changes.calls k a0_0 a0_1 a0_2 a0_3 a1_0 a1_1 a1_2 true _ A3.out).mono ?_); rintro e w11 ⟨rfl, hb⟩; refine ⟨_, rfl, ?_⟩; have n0_ := Aside0.mk (kbl (g := gb356) (o := .cells #[.int .i64 a0_0, .string a0_1, .string a0_2, .int .i64 a0_3] 37 (0, 0)) (by (with_reducible repeat (first | refine kdn ?_ _ | refine kdw ?_ | refine kal ?_ _)); exact BK356.out) hb); have n1_ := Aside0.mk (kbl (g := gb357) (o := .cells #[.int .i64 a1_0, .string a1_1, .int .i64 a1_2] 39 (0, 0)) (by (with_reducible repeat (first | refine kdn ?_ _ | refine kdw ?_ | refine kal ?_ _)); exact BK357.out) hb); have n2_ := Aside0.mk (bsp (by repeat (first | (with_reducible first | exact HB.out | apply bal | apply bdn | apply bd1 | refine bst ?_ GE356.out | refine bst ?_ GE357.out) | exact HB.out)) hb); clear BK356; clear BK357; clear HB; have BK356 := n0_; have BK357 := n1_; have HB := n2_; clear n0_ n1_ n2_; (try clear hb); (try clear hb2); (try clear hk); (try clear hi); have hcz12_0 : w11.cell? ⟨gb356, 0, none⟩ = some (.int .i64 a0_0) := (kcl BK356.out 0).trans rfl; have hcz12_1 : w11.cell? ⟨gb356, 1, none⟩ = some (.string a0_1) := (kcl BK356.out 1).trans rfl; have hcz12_2 : w11.cell? ⟨gb356, 2, none⟩ = some (.string a0_2) := (kcl BK356.out 2).trans rfl; have hcz12_3 : w11.cell? ⟨gb356, 3, none⟩ = some (.int .i64 a0_3) := (kcl BK356.out 3).trans rfl; have hfz12_0 := kfr BK356.out 0; have hfz12_1 := kfr BK356.out 1; have hfz12_2 := kfr BK356.out 2; have hfz12_3 := kfr BK356.out 3))
  (try simp only [Act.put, List.setIfInBounds_toArray, List.set_cons_zero, List.set_cons_succ])
  go_cut [11] (fun v11 wc => ∃ (kq : Nat) (x11_4 : Bool), v11 = .bool x11_4 ∧ Aside0 (armoireref12_Growth.j0 kq a0_0 x11_4 = some r) ∧ Aside0 (kq ≤ k) ∧ Aside0 (wc.heap[gb356]? = some (.cells #[.int .i64 a0_0, .string a0_1, .string a0_2, .int .i64 a0_3] 37 (0, 0))) ∧ Aside0 (wc.heap[gb357]? = some (.cells #[.int .i64 a1_0, .string a1_1, .int .i64 a1_2] 39 (0, 0))) ∧ Aside0 (Below w.heap.size w wc))
  case first =>
    have H := HC5.out
    clear HC5
    by_cases c13 : a0_0 = 8
    · rw [if_pos c13] at H
      have c13b0 : (a0_0 == 8) = true := beq_iff_eq.mpr c13
      have c13b1 : (a0_0 != 8) = false := bne_eq_false_iff_eq.mpr c13
      clear c13
      (first | rw [c13b0] | (simp only [i64_w, i32_w]; rw [c13b0]) | skip)
      have H' := Aside0.mk H
      clear H
      go_wp2
      go_meet
      case rel => exact ⟨_, ((a0_0 == 8)), (by first | rfl | (simp; done) | (simp [*]; done) | exact emp1_ _ | exact (emp1_ _).symm | exact emp2_ _ | exact (emp2_ _).symm), H', ⟨by first | omega | exact Nat.le_refl _⟩, ⟨by (with_reducible repeat (first | refine kdn ?_ _ | refine kdw ?_ | refine kal ?_ _)); exact BK356.out⟩, ⟨by (with_reducible repeat (first | refine kdn ?_ _ | refine kdw ?_ | refine kal ?_ _)); exact BK357.out⟩, ⟨by repeat (first | (with_reducible first | exact HB.out | apply bal | apply bdn | apply bd1 | refine bst ?_ GE356.out | refine bst ?_ GE357.out) | exact HB.out)⟩⟩
    rw [if_neg c13] at H
    have c13b0 : (a0_0 == 8) = false := beq_eq_false_iff_ne.mpr c13
    have c13b1 : (a0_0 != 8) = true := bne_iff_ne.mpr c13
    (first | rw [c13b0] | (simp only [i64_w, i32_w]; rw [c13b0]) | skip)
    by_cases c14 : a0_0 = 11
    · rw [if_pos c14] at H
      have c14b0 : (a0_0 == 11) = true := beq_iff_eq.mpr c14
      have c14b1 : (a0_0 != 11) = false := bne_eq_false_iff_eq.mpr c14
      clear c14
      have H' := Aside0.mk H
      clear H
      go_wp2
      go_meet
      case rel => exact ⟨_, ((a0_0 == 11)), (by first | rfl | (simp; done) | (simp [*]; done) | exact emp1_ _ | exact (emp1_ _).symm | exact emp2_ _ | exact (emp2_ _).symm), H', ⟨by first | omega | exact Nat.le_refl _⟩, ⟨by (with_reducible repeat (first | refine kdn ?_ _ | refine kdw ?_ | refine kal ?_ _)); exact BK356.out⟩, ⟨by (with_reducible repeat (first | refine kdn ?_ _ | refine kdw ?_ | refine kal ?_ _)); exact BK357.out⟩, ⟨by repeat (first | (with_reducible first | exact HB.out | apply bal | apply bdn | apply bd1 | refine bst ?_ GE356.out | refine bst ?_ GE357.out) | exact HB.out)⟩⟩
    rw [if_neg c14] at H
    have c14b0 : (a0_0 == 11) = false := beq_eq_false_iff_ne.mpr c14
    have c14b1 : (a0_0 != 11) = true := bne_iff_ne.mpr c14
    by_cases c15 : a0_0 = 14
    rotate_left
    · rw [if_neg c15] at H
      have c15b0 : (a0_0 == 14) = false := beq_eq_false_iff_ne.mpr c15
      have c15b1 : (a0_0 != 14) = true := bne_iff_ne.mpr c15
      have H' := Aside0.mk H
      clear H
      go_wp2
      go_meet
      case rel => exact ⟨_, ((a0_0 == 16)), (by first | rfl | (simp; done) | (simp [*]; done) | exact emp1_ _ | exact (emp1_ _).symm | exact emp2_ _ | exact (emp2_ _).symm), H', ⟨by first | omega | exact Nat.le_refl _⟩, ⟨by (with_reducible repeat (first | refine kdn ?_ _ | refine kdw ?_ | refine kal ?_ _)); exact BK356.out⟩, ⟨by (with_reducible repeat (first | refine kdn ?_ _ | refine kdw ?_ | refine kal ?_ _)); exact BK357.out⟩, ⟨by repeat (first | (with_reducible first | exact HB.out | apply bal | apply bdn | apply bd1 | refine bst ?_ GE356.out | refine bst ?_ GE357.out) | exact HB.out)⟩⟩
    rw [if_pos c15] at H
    have c15b0 : (a0_0 == 14) = true := beq_iff_eq.mpr c15
    have c15b1 : (a0_0 != 14) = false := bne_eq_false_iff_eq.mpr c15
    clear c15
    have H' := Aside0.mk H
    clear H
    go_wp2
    go_meet
    case rel => exact ⟨_, ((a0_0 == 14)), (by first | rfl | (simp; done) | (simp [*]; done) | exact emp1_ _ | exact (emp1_ _).symm | exact emp2_ _ | exact (emp2_ _).symm), H', ⟨by first | omega | exact Nat.le_refl _⟩, ⟨by (with_reducible repeat (first | refine kdn ?_ _ | refine kdw ?_ | refine kal ?_ _)); exact BK356.out⟩, ⟨by (with_reducible repeat (first | refine kdn ?_ _ | refine kdw ?_ | refine kal ?_ _)); exact BK357.out⟩, ⟨by repeat (first | (with_reducible first | exact HB.out | apply bal | apply bdn | apply bd1 | refine bst ?_ GE356.out | refine bst ?_ GE357.out) | exact HB.out)⟩⟩
  clear HC5
  try clear c1
  try clear p2
  try clear c4
  try clear c8
  try clear c13
  try clear c13b0
  try clear c13b1
  try clear c14
  try clear c14b0
  try clear c14b1
  try clear c15
  try clear c15b0
  try clear c15b1
  try clear hcz10_0
  try clear hcz10_1
  try clear hcz10_2
  try clear hcz12_0
  try clear hcz12_1
  try clear hcz12_2
  try clear hcz12_3
  try clear hcz9_0
  try clear hcz9_1
  try clear hcz9_2
  try clear hcz9_3
  try clear hfz10_0
  try clear hfz10_1
  try clear hfz10_2
  try clear hfz12_0
  try clear hfz12_1
  try clear hfz12_2
  try clear hfz12_3
  try clear hfz9_0
  try clear hfz9_1
  try clear hfz9_2
  try clear hfz9_3
  obtain ⟨kq, x11_4, rfl, HA, HJ4, BK356, BK357, HB⟩ := hcut
  cases kq with
  | zero => exact absurd HA.out (by simp [armoireref12_Growth.j0])
  | succ kj4 =>
    have H := HA.out
    clear HA
    simp only [armoireref12_Growth.j0] at H
    by_cases c16 : x11_4 = true
    · subst c16
      have H1 : (some 1) = some r := by rw [if_pos rfl] at H; exact H
      clear H
      have H := H1
      clear H1
      obtain rfl := Option.some.inj H
      go_wp2
      go_ret
      exact ⟨by first | rfl | (simp [errW_none, errW_some] <;> rfl) | (simp [*, errW_none, errW_some] <;> rfl), by repeat (first | (with_reducible first | exact HB.out | apply bal | apply bdn | apply bd1 | refine bst ?_ GE356.out | refine bst ?_ GE357.out) | exact HB.out)⟩
    replace c16 := Bool.eq_false_iff.mpr c16
    subst c16
    have H1 : (if a0_0 = 9 then (some (-1)) else (if a0_0 = 12 then (some (-1)) else (if a0_0 = 15 then (some (-1)) else (if a0_0 = 17 then (some (-1)) else (some 0))))) = some r := by rw [if_neg (show ¬ (false = true) by decide)] at H; exact H
    clear H
    have H := H1
    clear H1
    by_cases c17 : a0_0 = 9
    · rw [if_pos c17] at H
      have c17b0 : (a0_0 == 9) = true := beq_iff_eq.mpr c17
      have c17b1 : (a0_0 != 9) = false := bne_eq_false_iff_eq.mpr c17
      clear c17
      obtain rfl := Option.some.inj H
      go_wp2
      go_ret
      exact ⟨by first | rfl | (simp [errW_none, errW_some] <;> rfl) | (simp [*, errW_none, errW_some] <;> rfl), by repeat (first | (with_reducible first | exact HB.out | apply bal | apply bdn | apply bd1 | refine bst ?_ GE356.out | refine bst ?_ GE357.out) | exact HB.out)⟩
    rw [if_neg c17] at H
    have c17b0 : (a0_0 == 9) = false := beq_eq_false_iff_ne.mpr c17
    have c17b1 : (a0_0 != 9) = true := bne_iff_ne.mpr c17
    by_cases c18 : a0_0 = 12
    · rw [if_pos c18] at H
      have c18b0 : (a0_0 == 12) = true := beq_iff_eq.mpr c18
      have c18b1 : (a0_0 != 12) = false := bne_eq_false_iff_eq.mpr c18
      clear c18
      obtain rfl := Option.some.inj H
      go_wp2
      go_ret
      exact ⟨by first | rfl | (simp [errW_none, errW_some] <;> rfl) | (simp [*, errW_none, errW_some] <;> rfl), by repeat (first | (with_reducible first | exact HB.out | apply bal | apply bdn | apply bd1 | refine bst ?_ GE356.out | refine bst ?_ GE357.out) | exact HB.out)⟩
    rw [if_neg c18] at H
    have c18b0 : (a0_0 == 12) = false := beq_eq_false_iff_ne.mpr c18
    have c18b1 : (a0_0 != 12) = true := bne_iff_ne.mpr c18
    by_cases c19 : a0_0 = 15
    · rw [if_pos c19] at H
      have c19b0 : (a0_0 == 15) = true := beq_iff_eq.mpr c19
      have c19b1 : (a0_0 != 15) = false := bne_eq_false_iff_eq.mpr c19
      clear c19
      obtain rfl := Option.some.inj H
      go_wp2
      go_ret
      exact ⟨by first | rfl | (simp [errW_none, errW_some] <;> rfl) | (simp [*, errW_none, errW_some] <;> rfl), by repeat (first | (with_reducible first | exact HB.out | apply bal | apply bdn | apply bd1 | refine bst ?_ GE356.out | refine bst ?_ GE357.out) | exact HB.out)⟩
    rw [if_neg c19] at H
    have c19b0 : (a0_0 == 15) = false := beq_eq_false_iff_ne.mpr c19
    have c19b1 : (a0_0 != 15) = true := bne_iff_ne.mpr c19
    by_cases c20 : a0_0 = 17
    rotate_left
    · rw [if_neg c20] at H
      have c20b0 : (a0_0 == 17) = false := beq_eq_false_iff_ne.mpr c20
      have c20b1 : (a0_0 != 17) = true := bne_iff_ne.mpr c20
      obtain rfl := Option.some.inj H
      go_wp2
      go_ret
      exact ⟨by first | rfl | (simp [errW_none, errW_some] <;> rfl) | (simp [*, errW_none, errW_some] <;> rfl), by repeat (first | (with_reducible first | exact HB.out | apply bal | apply bdn | apply bd1 | refine bst ?_ GE356.out | refine bst ?_ GE357.out) | exact HB.out)⟩
    rw [if_pos c20] at H
    have c20b0 : (a0_0 == 17) = true := beq_iff_eq.mpr c20
    have c20b1 : (a0_0 != 17) = false := bne_eq_false_iff_eq.mpr c20
    clear c20
    obtain rfl := Option.some.inj H
    go_wp2
    go_ret
    exact ⟨by first | rfl | (simp [errW_none, errW_some] <;> rfl) | (simp [*, errW_none, errW_some] <;> rfl), by repeat (first | (with_reducible first | exact HB.out | apply bal | apply bdn | apply bd1 | refine bst ?_ GE356.out | refine bst ?_ GE357.out) | exact HB.out)⟩
end Go.Proofs.Ytkoojbkkkpljoaa.PA

