import Derived.Test.YtkoojbkkkpljoaaQReaPAx0
namespace Go.Proofs.Ytkoojbkkkpljoaa.PA
open Go.Proofs.Ytkoojbkkkpljoaa.PL
open Go.RowKit Go.Proofs.YtkoojbkkkpljoaaW.PrintWords Go.Proofs.YtkoojbkkkpljoaaW.PrintLast Go.Proofs.YtkoojbkkkpljoaaW.PrintMore
attribute [local go_sem] max2_int min2_int max_two min_two max_three min_three max_four min_four
set_option linter.unusedVariables false
set_option linter.unusedSimpArgs false
def armoireref02_Fail.f (a0_0 : ByteArray) (a0_1 : Int) (a1 : Int) : Option (ByteArray × Int) := if a0_1 = 0 then (if a1 = 0 then (some (a0_0, a0_1)) else (some ((⟨#[]⟩ : ByteArray), a1))) else (some (a0_0, a0_1))
set_option maxHeartbeats 2000000 in
set_option maxRecDepth 100000 in
theorem armoireref02_Fail.calls (a0_0 : ByteArray) (a0_1 : Int) (a1 : Int) (r1 : ByteArray) (r2 : Int) (w : World) (h : armoireref02_Fail.f a0_0 a0_1 a1 = some (r1, r2)) :
    Calls Try.prog 55 #[.agg #[.string a0_0, .int .i64 a0_1], .int .i64 a1] w fun e w' => e = .returned (.agg #[.string r1, .int .i64 r2]) ∧ Below w.heap.size w w' := by
  have hu63 := Try.underlying63
  have HB := Aside0.mk (Below.refl w.heap.size w)
  have H : (if a0_1 = 0 then (if a1 = 0 then (some (a0_0, a0_1)) else (some ((⟨#[]⟩ : ByteArray), a1))) else (some (a0_0, a0_1))) = some (r1, r2) := h
  clear h
  by_cases c3 : a0_1 = 0
  rotate_left
  · rw [if_neg c3] at H
    have c3b0 : (a0_1 == 0) = false := beq_eq_false_iff_ne.mpr c3
    have c3b1 : (a0_1 != 0) = true := bne_iff_ne.mpr c3
    simp only [Option.some.injEq, Prod.mk.injEq] at H
    obtain ⟨rfl, rfl⟩ := H
    go_enter Try.func55, Try.ntmps55
    go_wp2_with (first | ((with_reducible refine gds (N := 2) rfl ?_); refine bev ?hg (N := 2) ?hd (cs := #[.string a0_0, .int .i64 a0_1]) (t := 63) ?hr ?_; (case hd => rfl); (case hg => rfl); (case hr => first | (go_simp; done) | (go_simp; rfl)); intro gb386 hg w15 hbox hb; have n0_ := Aside0.mk (bsp (by repeat (first | (with_reducible first | exact HB.out | apply bal | apply bdn | apply bd1) | exact HB.out)) hb); have n1_ := Aside0.mk (hbox); have n2_ := Aside0.mk ((by rw [hg]; exact (bsz (by repeat (first | (with_reducible first | exact HB.out | apply bal | apply bdn | apply bd1) | exact HB.out))) : w.heap.size ≤ gb386)); have n3_ := Aside0.mk ((by rw [hg]; exact (bsz (by repeat (first | (with_reducible first | exact HB.out | apply bal | apply bdn | apply bd1) | exact HB.out))) : w.heap.size ≤ gb386)); clear HB; have HB := n0_; have BK386 := n1_; have GW386 := n2_; have GE386 := n3_; clear n0_ n1_ n2_ n3_; clear hb hbox hg) | ((with_reducible refine gds (N := 4) rfl ?_); refine bev ?hg (N := 4) ?hd (cs := #[.string (⟨#[]⟩ : ByteArray), .int .i64 0]) (t := 63) ?hr ?_; (case hd => rfl); (case hg => rfl); (case hr => first | (go_simp; done) | (go_simp; rfl)); intro gb387 hg w16 hbox hb; have n0_ := Aside0.mk (kbl (g := gb386) (o := .cells #[.string a0_0, .int .i64 a0_1] 63 (0, 0)) (by (with_reducible repeat (first | refine kdn ?_ _ | refine kdw ?_ | refine kal ?_ _)); exact BK386.out) hb); have n1_ := Aside0.mk (bsp (by repeat (first | (with_reducible first | exact HB.out | apply bal | apply bdn | apply bd1 | refine bst ?_ GE386.out) | exact HB.out)) hb); have n2_ := Aside0.mk (hbox); have n3_ := Aside0.mk ((by rw [hg]; exact (bsz (by repeat (first | (with_reducible first | exact HB.out | apply bal | apply bdn | apply bd1 | refine bst ?_ GE386.out) | exact HB.out))) : w.heap.size ≤ gb387)); have n4_ := Aside0.mk ((by rw [hg]; exact (bsz (by repeat (first | (with_reducible first | exact HB.out | apply bal | apply bdn | apply bd1 | refine bst ?_ GE386.out) | exact HB.out))) : w.heap.size ≤ gb387)); have n5_ := Aside0.mk ((by rw [hg]; exact Nat.ne_of_lt (blk_lt (g := gb386) (o := .cells #[.string a0_0, .int .i64 a0_1] 63 (0, 0)) (by (with_reducible repeat (first | refine kdn ?_ _ | refine kdw ?_ | refine kal ?_ _)); exact BK386.out)) : gb386 ≠ gb387)); have n6_ := Aside0.mk ((by rw [hg]; exact Nat.ne_of_gt (blk_lt (g := gb386) (o := .cells #[.string a0_0, .int .i64 a0_1] 63 (0, 0)) (by (with_reducible repeat (first | refine kdn ?_ _ | refine kdw ?_ | refine kal ?_ _)); exact BK386.out)) : gb387 ≠ gb386)); clear BK386; clear HB; have BK386 := n0_; have HB := n1_; have BK387 := n2_; have GW387 := n3_; have GE387 := n4_; have NB386_387 := n5_; have NB387_386 := n6_; clear n0_ n1_ n2_ n3_ n4_ n5_ n6_; clear hb hbox hg; have hnb17 := NB386_387.out; have hnc17 := NB387_386.out; have hcz18_0 : w16.cell? ⟨gb386, 0, none⟩ = some (.string a0_0) := (kcl BK386.out 0).trans rfl; have hcz18_1 : w16.cell? ⟨gb386, 1, none⟩ = some (.int .i64 a0_1) := (kcl BK386.out 1).trans rfl; have hfz18_0 := kfr BK386.out 0; have hfz18_1 := kfr BK386.out 1; have hcz19_0 : w16.cell? ⟨gb387, 0, none⟩ = some (.string (⟨#[]⟩ : ByteArray)) := (kcl BK387.out 0).trans rfl; have hcz19_1 : w16.cell? ⟨gb387, 1, none⟩ = some (.int .i64 0) := (kcl BK387.out 1).trans rfl; have hfz19_0 := kfr BK387.out 0; have hfz19_1 := kfr BK387.out 1))
    refine bodyPost_ret (results_cell_row rfl _ _ gb387 63 #[.string a0_0, .int .i64 a0_1] (0, 0) _ rfl (by (with_reducible repeat (first | refine kdn ?_ _ | refine kdw ?_ | refine kal ?_ _)); refine kpt (cs := #[.string a0_0, .int .i64 0]) ?_ 1 _ rfl; (with_reducible repeat (first | refine kdn ?_ _ | refine kdw ?_ | refine kal ?_ _)); refine kpt (cs := #[.string (⟨#[]⟩ : ByteArray), .int .i64 0]) ?_ 0 _ rfl; (with_reducible repeat (first | refine kdn ?_ _ | refine kdw ?_ | refine kal ?_ _)); exact BK387.out) Try.underlying63 rfl (by kernel_rfl)) rfl ?_
    exact ⟨by first | rfl | (simp [errW_none, errW_some] <;> rfl) | (simp [*, errW_none, errW_some] <;> rfl), by repeat (first | (with_reducible first | exact HB.out | apply bal | apply bdn | apply bd1 | refine bst ?_ GE386.out | refine bst ?_ GE387.out) | exact HB.out)⟩
  rw [if_pos c3] at H
  have c3b0 : (a0_1 == 0) = true := beq_iff_eq.mpr c3
  have c3b1 : (a0_1 != 0) = false := bne_eq_false_iff_eq.mpr c3
  clear c3
  by_cases c4 : a1 = 0
  · rw [if_pos c4] at H
    have c4b0 : (a1 == 0) = true := beq_iff_eq.mpr c4
    have c4b1 : (a1 != 0) = false := bne_eq_false_iff_eq.mpr c4
    clear c4
    simp only [Option.some.injEq, Prod.mk.injEq] at H
    obtain ⟨rfl, rfl⟩ := H
    go_enter Try.func55, Try.ntmps55
    go_wp2_with (first | ((with_reducible refine gds (N := 2) rfl ?_); refine bev ?hg (N := 2) ?hd (cs := #[.string a0_0, .int .i64 a0_1]) (t := 63) ?hr ?_; (case hd => rfl); (case hg => rfl); (case hr => first | (go_simp; done) | (go_simp; rfl)); intro gb386 hg w5 hbox hb; have n0_ := Aside0.mk (bsp (by repeat (first | (with_reducible first | exact HB.out | apply bal | apply bdn | apply bd1) | exact HB.out)) hb); have n1_ := Aside0.mk (hbox); have n2_ := Aside0.mk ((by rw [hg]; exact (bsz (by repeat (first | (with_reducible first | exact HB.out | apply bal | apply bdn | apply bd1) | exact HB.out))) : w.heap.size ≤ gb386)); have n3_ := Aside0.mk ((by rw [hg]; exact (bsz (by repeat (first | (with_reducible first | exact HB.out | apply bal | apply bdn | apply bd1) | exact HB.out))) : w.heap.size ≤ gb386)); clear HB; have HB := n0_; have BK386 := n1_; have GW386 := n2_; have GE386 := n3_; clear n0_ n1_ n2_ n3_; clear hb hbox hg) | ((with_reducible refine gds (N := 4) rfl ?_); refine bev ?hg (N := 4) ?hd (cs := #[.string (⟨#[]⟩ : ByteArray), .int .i64 0]) (t := 63) ?hr ?_; (case hd => rfl); (case hg => rfl); (case hr => first | (go_simp; done) | (go_simp; rfl)); intro gb387 hg w6 hbox hb; have n0_ := Aside0.mk (kbl (g := gb386) (o := .cells #[.string a0_0, .int .i64 a0_1] 63 (0, 0)) (by (with_reducible repeat (first | refine kdn ?_ _ | refine kdw ?_ | refine kal ?_ _)); exact BK386.out) hb); have n1_ := Aside0.mk (bsp (by repeat (first | (with_reducible first | exact HB.out | apply bal | apply bdn | apply bd1 | refine bst ?_ GE386.out) | exact HB.out)) hb); have n2_ := Aside0.mk (hbox); have n3_ := Aside0.mk ((by rw [hg]; exact (bsz (by repeat (first | (with_reducible first | exact HB.out | apply bal | apply bdn | apply bd1 | refine bst ?_ GE386.out) | exact HB.out))) : w.heap.size ≤ gb387)); have n4_ := Aside0.mk ((by rw [hg]; exact (bsz (by repeat (first | (with_reducible first | exact HB.out | apply bal | apply bdn | apply bd1 | refine bst ?_ GE386.out) | exact HB.out))) : w.heap.size ≤ gb387)); have n5_ := Aside0.mk ((by rw [hg]; exact Nat.ne_of_lt (blk_lt (g := gb386) (o := .cells #[.string a0_0, .int .i64 a0_1] 63 (0, 0)) (by (with_reducible repeat (first | refine kdn ?_ _ | refine kdw ?_ | refine kal ?_ _)); exact BK386.out)) : gb386 ≠ gb387)); have n6_ := Aside0.mk ((by rw [hg]; exact Nat.ne_of_gt (blk_lt (g := gb386) (o := .cells #[.string a0_0, .int .i64 a0_1] 63 (0, 0)) (by (with_reducible repeat (first | refine kdn ?_ _ | refine kdw ?_ | refine kal ?_ _)); exact BK386.out)) : gb387 ≠ gb386)); clear BK386; clear HB; have BK386 := n0_; have HB := n1_; have BK387 := n2_; have GW387 := n3_; have GE387 := n4_; have NB386_387 := n5_; have NB387_386 := n6_; clear n0_ n1_ n2_ n3_ n4_ n5_ n6_; clear hb hbox hg; have hnb7 := NB386_387.out; have hnc7 := NB387_386.out; have hcz8_0 : w6.cell? ⟨gb386, 0, none⟩ = some (.string a0_0) := (kcl BK386.out 0).trans rfl; have hcz8_1 : w6.cell? ⟨gb386, 1, none⟩ = some (.int .i64 a0_1) := (kcl BK386.out 1).trans rfl; have hfz8_0 := kfr BK386.out 0; have hfz8_1 := kfr BK386.out 1; have hcz9_0 : w6.cell? ⟨gb387, 0, none⟩ = some (.string (⟨#[]⟩ : ByteArray)) := (kcl BK387.out 0).trans rfl; have hcz9_1 : w6.cell? ⟨gb387, 1, none⟩ = some (.int .i64 0) := (kcl BK387.out 1).trans rfl; have hfz9_0 := kfr BK387.out 0; have hfz9_1 := kfr BK387.out 1))
    refine bodyPost_ret (results_cell_row rfl _ _ gb387 63 #[.string a0_0, .int .i64 a0_1] (0, 0) _ rfl (by (with_reducible repeat (first | refine kdn ?_ _ | refine kdw ?_ | refine kal ?_ _)); refine kpt (cs := #[.string a0_0, .int .i64 0]) ?_ 1 _ rfl; (with_reducible repeat (first | refine kdn ?_ _ | refine kdw ?_ | refine kal ?_ _)); refine kpt (cs := #[.string (⟨#[]⟩ : ByteArray), .int .i64 0]) ?_ 0 _ rfl; (with_reducible repeat (first | refine kdn ?_ _ | refine kdw ?_ | refine kal ?_ _)); exact BK387.out) Try.underlying63 rfl (by kernel_rfl)) rfl ?_
    exact ⟨by first | rfl | (simp [errW_none, errW_some] <;> rfl) | (simp [*, errW_none, errW_some] <;> rfl), by repeat (first | (with_reducible first | exact HB.out | apply bal | apply bdn | apply bd1 | refine bst ?_ GE386.out | refine bst ?_ GE387.out) | exact HB.out)⟩
  rw [if_neg c4] at H
  have c4b0 : (a1 == 0) = false := beq_eq_false_iff_ne.mpr c4
  have c4b1 : (a1 != 0) = true := bne_iff_ne.mpr c4
  simp only [Option.some.injEq, Prod.mk.injEq] at H
  obtain ⟨rfl, rfl⟩ := H
  go_enter Try.func55, Try.ntmps55
  go_wp2_with (first | ((with_reducible refine gds (N := 2) rfl ?_); refine bev ?hg (N := 2) ?hd (cs := #[.string a0_0, .int .i64 a0_1]) (t := 63) ?hr ?_; (case hd => rfl); (case hg => rfl); (case hr => first | (go_simp; done) | (go_simp; rfl)); intro gb386 hg w10 hbox hb; have n0_ := Aside0.mk (bsp (by repeat (first | (with_reducible first | exact HB.out | apply bal | apply bdn | apply bd1) | exact HB.out)) hb); have n1_ := Aside0.mk (hbox); have n2_ := Aside0.mk ((by rw [hg]; exact (bsz (by repeat (first | (with_reducible first | exact HB.out | apply bal | apply bdn | apply bd1) | exact HB.out))) : w.heap.size ≤ gb386)); have n3_ := Aside0.mk ((by rw [hg]; exact (bsz (by repeat (first | (with_reducible first | exact HB.out | apply bal | apply bdn | apply bd1) | exact HB.out))) : w.heap.size ≤ gb386)); clear HB; have HB := n0_; have BK386 := n1_; have GW386 := n2_; have GE386 := n3_; clear n0_ n1_ n2_ n3_; clear hb hbox hg) | ((with_reducible refine gds (N := 4) rfl ?_); refine bev ?hg (N := 4) ?hd (cs := #[.string (⟨#[]⟩ : ByteArray), .int .i64 0]) (t := 63) ?hr ?_; (case hd => rfl); (case hg => rfl); (case hr => first | (go_simp; done) | (go_simp; rfl)); intro gb387 hg w11 hbox hb; have n0_ := Aside0.mk (kbl (g := gb386) (o := .cells #[.string a0_0, .int .i64 a0_1] 63 (0, 0)) (by (with_reducible repeat (first | refine kdn ?_ _ | refine kdw ?_ | refine kal ?_ _)); exact BK386.out) hb); have n1_ := Aside0.mk (bsp (by repeat (first | (with_reducible first | exact HB.out | apply bal | apply bdn | apply bd1 | refine bst ?_ GE386.out) | exact HB.out)) hb); have n2_ := Aside0.mk (hbox); have n3_ := Aside0.mk ((by rw [hg]; exact (bsz (by repeat (first | (with_reducible first | exact HB.out | apply bal | apply bdn | apply bd1 | refine bst ?_ GE386.out) | exact HB.out))) : w.heap.size ≤ gb387)); have n4_ := Aside0.mk ((by rw [hg]; exact (bsz (by repeat (first | (with_reducible first | exact HB.out | apply bal | apply bdn | apply bd1 | refine bst ?_ GE386.out) | exact HB.out))) : w.heap.size ≤ gb387)); have n5_ := Aside0.mk ((by rw [hg]; exact Nat.ne_of_lt (blk_lt (g := gb386) (o := .cells #[.string a0_0, .int .i64 a0_1] 63 (0, 0)) (by (with_reducible repeat (first | refine kdn ?_ _ | refine kdw ?_ | refine kal ?_ _)); exact BK386.out)) : gb386 ≠ gb387)); have n6_ := Aside0.mk ((by rw [hg]; exact Nat.ne_of_gt (blk_lt (g := gb386) (o := .cells #[.string a0_0, .int .i64 a0_1] 63 (0, 0)) (by (with_reducible repeat (first | refine kdn ?_ _ | refine kdw ?_ | refine kal ?_ _)); exact BK386.out)) : gb387 ≠ gb386)); clear BK386; clear HB; have BK386 := n0_; have HB := n1_; have BK387 := n2_; have GW387 := n3_; have GE387 := n4_; have NB386_387 := n5_; have NB387_386 := n6_; clear n0_ n1_ n2_ n3_ n4_ n5_ n6_; clear hb hbox hg; have hnb12 := NB386_387.out; have hnc12 := NB387_386.out; have hcz13_0 : w11.cell? ⟨gb386, 0, none⟩ = some (.string a0_0) := (kcl BK386.out 0).trans rfl; have hcz13_1 : w11.cell? ⟨gb386, 1, none⟩ = some (.int .i64 a0_1) := (kcl BK386.out 1).trans rfl; have hfz13_0 := kfr BK386.out 0; have hfz13_1 := kfr BK386.out 1; have hcz14_0 : w11.cell? ⟨gb387, 0, none⟩ = some (.string (⟨#[]⟩ : ByteArray)) := (kcl BK387.out 0).trans rfl; have hcz14_1 : w11.cell? ⟨gb387, 1, none⟩ = some (.int .i64 0) := (kcl BK387.out 1).trans rfl; have hfz14_0 := kfr BK387.out 0; have hfz14_1 := kfr BK387.out 1))
  refine bodyPost_ret (results_cell_row rfl _ _ gb387 63 #[.string (⟨#[]⟩ : ByteArray), .int .i64 a1] (0, 0) _ rfl (by (with_reducible repeat (first | refine kdn ?_ _ | refine kdw ?_ | refine kal ?_ _)); refine kpt (cs := #[.string (⟨#[]⟩ : ByteArray), .int .i64 0]) ?_ 1 _ rfl; (with_reducible repeat (first | refine kdn ?_ _ | refine kdw ?_ | refine kal ?_ _)); refine kpt (cs := #[.string (⟨#[]⟩ : ByteArray), .int .i64 0]) ?_ 0 _ rfl; (with_reducible repeat (first | refine kdn ?_ _ | refine kdw ?_ | refine kal ?_ _)); exact BK387.out) Try.underlying63 rfl (by kernel_rfl)) rfl ?_
  exact ⟨by first | rfl | (simp [errW_none, errW_some] <;> rfl) | (simp [*, errW_none, errW_some] <;> rfl), by repeat (first | (with_reducible first | exact HB.out | apply bal | apply bdn | apply bd1 | refine bst ?_ GE386.out | refine bst ?_ GE387.out) | exact HB.out)⟩
def armoireref02_take.f (a0_0 : ByteArray) (a0_1 : Int) (a1 : Int) : Option (ByteArray × Int × ByteArray) := if a0_1 = 0 then (if a1 > (a0_0.size : Int) then (some ((⟨#[]⟩ : ByteArray), 1, (⟨#[]⟩ : ByteArray))) else (if 0 ≤ a1 then (if a1 ≤ (a0_0.size : Int) then (some (a0_0.extract (a1 : Int).toNat a0_0.size, 0, a0_0.extract 0 (a1 : Int).toNat)) else (none)) else (none))) else (some (a0_0, a0_1, (⟨#[]⟩ : ByteArray)))
def armoireref02_take.T5 : Bool × List (List Nat × List Nat) := (true, [([], []), ([0], [0]), ([], []), ([1, 2], [1, 2]), ([3], [3]), ([], []), ([5], [5]), ([], []), ([6, 7], [6, 7]), ([4, 0, 1, 2, 3, 4], [4]), ([8, 9, 0, 1, 2, 3, 4, 5, 6, 7, 8, 9], [8])])
def armoireref02_take.B5 : List Nat := [0, 1, 0, 7, 15, 0, 32, 0, 224, 31, 1023]
theorem armoireref02_take.tab5 : rtab .any (opsOf Try.f61 5) = armoireref02_take.T5 := by kernel_rfl
theorem armoireref02_take.bits5 : waitsOk armoireref02_take.T5.2 armoireref02_take.B5 = true := by kernel_rfl
set_option maxHeartbeats 2000000 in
set_option maxRecDepth 100000 in
theorem armoireref02_take.calls (a0_0 : ByteArray) (a0_1 : Int) (a1 : Int) (r1 : ByteArray) (r2 : Int) (r3 : ByteArray) (w : World) (h : armoireref02_take.f a0_0 a0_1 a1 = some (r1, r2, r3)) :
    Calls Try.prog 61 #[.agg #[.string a0_0, .int .i64 a0_1], .int .i64 a1] w fun e w' => e = .returned (.tuple #[.agg #[.string r1, .int .i64 r2], .string r3]) ∧ Below w.heap.size w w' := by
  have hu63 := Try.underlying63
  have HB := Aside0.mk (Below.refl w.heap.size w)
  have H : (if a0_1 = 0 then (if a1 > (a0_0.size : Int) then (some ((⟨#[]⟩ : ByteArray), 1, (⟨#[]⟩ : ByteArray))) else (if 0 ≤ a1 then (if a1 ≤ (a0_0.size : Int) then (some (a0_0.extract (a1 : Int).toNat a0_0.size, 0, a0_0.extract 0 (a1 : Int).toNat)) else (none)) else (none))) else (some (a0_0, a0_1, (⟨#[]⟩ : ByteArray)))) = some (r1, r2, r3) := h
  clear h
  by_cases c3 : a0_1 = 0
  rotate_left
  · rw [if_neg c3] at H
    have c3b0 : (a0_1 == 0) = false := beq_eq_false_iff_ne.mpr c3
    have c3b1 : (a0_1 != 0) = true := bne_iff_ne.mpr c3
    simp only [Option.some.injEq, Prod.mk.injEq] at H
    obtain ⟨rfl, rfl, rfl⟩ := H
    go_enter Try.func61, Try.ntmps61
    go_wp2_with (first | ((with_reducible refine gds (N := 2) rfl ?_); refine bev ?hg (N := 2) ?hd (cs := #[.string a0_0, .int .i64 a0_1]) (t := 63) ?hr ?_; (case hd => rfl); (case hg => rfl); (case hr => first | (go_simp; done) | (go_simp; rfl)); intro gb388 hg w21 hbox hb; have n0_ := Aside0.mk (bsp (by repeat (first | (with_reducible first | exact HB.out | apply bal | apply bdn | apply bd1) | exact HB.out)) hb); have n1_ := Aside0.mk (hbox); have n2_ := Aside0.mk ((by rw [hg]; exact (bsz (by repeat (first | (with_reducible first | exact HB.out | apply bal | apply bdn | apply bd1) | exact HB.out))) : w.heap.size ≤ gb388)); have n3_ := Aside0.mk ((by rw [hg]; exact (bsz (by repeat (first | (with_reducible first | exact HB.out | apply bal | apply bdn | apply bd1) | exact HB.out))) : w.heap.size ≤ gb388)); clear HB; have HB := n0_; have BK388 := n1_; have GW388 := n2_; have GE388 := n3_; clear n0_ n1_ n2_ n3_; clear hb hbox hg) | ((with_reducible refine gds (N := 4) rfl ?_); refine bev ?hg (N := 4) ?hd (cs := #[.string (⟨#[]⟩ : ByteArray), .int .i64 0]) (t := 63) ?hr ?_; (case hd => rfl); (case hg => rfl); (case hr => first | (go_simp; done) | (go_simp; rfl)); intro gb389 hg w22 hbox hb; have n0_ := Aside0.mk (kbl (g := gb388) (o := .cells #[.string a0_0, .int .i64 a0_1] 63 (0, 0)) (by (with_reducible repeat (first | refine kdn ?_ _ | refine kdw ?_ | refine kal ?_ _)); exact BK388.out) hb); have n1_ := Aside0.mk (bsp (by repeat (first | (with_reducible first | exact HB.out | apply bal | apply bdn | apply bd1 | refine bst ?_ GE388.out) | exact HB.out)) hb); have n2_ := Aside0.mk (hbox); have n3_ := Aside0.mk ((by rw [hg]; exact (bsz (by repeat (first | (with_reducible first | exact HB.out | apply bal | apply bdn | apply bd1 | refine bst ?_ GE388.out) | exact HB.out))) : w.heap.size ≤ gb389)); have n4_ := Aside0.mk ((by rw [hg]; exact (bsz (by repeat (first | (with_reducible first | exact HB.out | apply bal | apply bdn | apply bd1 | refine bst ?_ GE388.out) | exact HB.out))) : w.heap.size ≤ gb389)); have n5_ := Aside0.mk ((by rw [hg]; exact Nat.ne_of_lt (blk_lt (g := gb388) (o := .cells #[.string a0_0, .int .i64 a0_1] 63 (0, 0)) (by (with_reducible repeat (first | refine kdn ?_ _ | refine kdw ?_ | refine kal ?_ _)); exact BK388.out)) : gb388 ≠ gb389)); have n6_ := Aside0.mk ((by rw [hg]; exact Nat.ne_of_gt (blk_lt (g := gb388) (o := .cells #[.string a0_0, .int .i64 a0_1] 63 (0, 0)) (by (with_reducible repeat (first | refine kdn ?_ _ | refine kdw ?_ | refine kal ?_ _)); exact BK388.out)) : gb389 ≠ gb388)); clear BK388; clear HB; have BK388 := n0_; have HB := n1_; have BK389 := n2_; have GW389 := n3_; have GE389 := n4_; have NB388_389 := n5_; have NB389_388 := n6_; clear n0_ n1_ n2_ n3_ n4_ n5_ n6_; clear hb hbox hg; have hnb23 := NB388_389.out; have hnc23 := NB389_388.out; have hcz24_0 : w22.cell? ⟨gb388, 0, none⟩ = some (.string a0_0) := (kcl BK388.out 0).trans rfl; have hcz24_1 : w22.cell? ⟨gb388, 1, none⟩ = some (.int .i64 a0_1) := (kcl BK388.out 1).trans rfl; have hfz24_0 := kfr BK388.out 0; have hfz24_1 := kfr BK388.out 1; have hcz25_0 : w22.cell? ⟨gb389, 0, none⟩ = some (.string (⟨#[]⟩ : ByteArray)) := (kcl BK389.out 0).trans rfl; have hcz25_1 : w22.cell? ⟨gb389, 1, none⟩ = some (.int .i64 0) := (kcl BK389.out 1).trans rfl; have hfz25_0 := kfr BK389.out 0; have hfz25_1 := kfr BK389.out 1))
    refine bodyPost_ret (results_ct rfl _ _ gb389 63 #[.string a0_0, .int .i64 a0_1] (0, 0) _ rfl (by (with_reducible repeat (first | refine kdn ?_ _ | refine kdw ?_ | refine kal ?_ _)); refine kpt (cs := #[.string a0_0, .int .i64 0]) ?_ 1 _ rfl; (with_reducible repeat (first | refine kdn ?_ _ | refine kdw ?_ | refine kal ?_ _)); refine kpt (cs := #[.string (⟨#[]⟩ : ByteArray), .int .i64 0]) ?_ 0 _ rfl; (with_reducible repeat (first | refine kdn ?_ _ | refine kdw ?_ | refine kal ?_ _)); exact BK389.out) Try.underlying63 rfl (by kernel_rfl)) rfl ?_
    exact ⟨by first | rfl | (simp [errW_none, errW_some] <;> rfl) | (simp [*, errW_none, errW_some] <;> rfl), by repeat (first | (with_reducible first | exact HB.out | apply bal | apply bdn | apply bd1 | refine bst ?_ GE388.out | refine bst ?_ GE389.out) | exact HB.out)⟩
  rw [if_pos c3] at H
  have c3b0 : (a0_1 == 0) = true := beq_iff_eq.mpr c3
  have c3b1 : (a0_1 != 0) = false := bne_eq_false_iff_eq.mpr c3
  clear c3
  by_cases c4 : a1 > (a0_0.size : Int)
  · rw [if_pos c4] at H
    have c4b0 : decide ((a0_0.size : Int) < a1) = true := decide_eq_true c4
    clear c4
    simp only [Option.some.injEq, Prod.mk.injEq] at H
    obtain ⟨rfl, rfl, rfl⟩ := H
    go_enter Try.func61, Try.ntmps61
    go_wp2_with (first | ((with_reducible refine gds (N := 2) rfl ?_); refine bev ?hg (N := 2) ?hd (cs := #[.string a0_0, .int .i64 a0_1]) (t := 63) ?hr ?_; (case hd => rfl); (case hg => rfl); (case hr => first | (go_simp; done) | (go_simp; rfl)); intro gb388 hg w5 hbox hb; have n0_ := Aside0.mk (bsp (by repeat (first | (with_reducible first | exact HB.out | apply bal | apply bdn | apply bd1) | exact HB.out)) hb); have n1_ := Aside0.mk (hbox); have n2_ := Aside0.mk ((by rw [hg]; exact (bsz (by repeat (first | (with_reducible first | exact HB.out | apply bal | apply bdn | apply bd1) | exact HB.out))) : w.heap.size ≤ gb388)); have n3_ := Aside0.mk ((by rw [hg]; exact (bsz (by repeat (first | (with_reducible first | exact HB.out | apply bal | apply bdn | apply bd1) | exact HB.out))) : w.heap.size ≤ gb388)); clear HB; have HB := n0_; have BK388 := n1_; have GW388 := n2_; have GE388 := n3_; clear n0_ n1_ n2_ n3_; clear hb hbox hg) | ((with_reducible refine gds (N := 4) rfl ?_); refine bev ?hg (N := 4) ?hd (cs := #[.string (⟨#[]⟩ : ByteArray), .int .i64 0]) (t := 63) ?hr ?_; (case hd => rfl); (case hg => rfl); (case hr => first | (go_simp; done) | (go_simp; rfl)); intro gb389 hg w6 hbox hb; have n0_ := Aside0.mk (kbl (g := gb388) (o := .cells #[.string a0_0, .int .i64 a0_1] 63 (0, 0)) (by (with_reducible repeat (first | refine kdn ?_ _ | refine kdw ?_ | refine kal ?_ _)); exact BK388.out) hb); have n1_ := Aside0.mk (bsp (by repeat (first | (with_reducible first | exact HB.out | apply bal | apply bdn | apply bd1 | refine bst ?_ GE388.out) | exact HB.out)) hb); have n2_ := Aside0.mk (hbox); have n3_ := Aside0.mk ((by rw [hg]; exact (bsz (by repeat (first | (with_reducible first | exact HB.out | apply bal | apply bdn | apply bd1 | refine bst ?_ GE388.out) | exact HB.out))) : w.heap.size ≤ gb389)); have n4_ := Aside0.mk ((by rw [hg]; exact (bsz (by repeat (first | (with_reducible first | exact HB.out | apply bal | apply bdn | apply bd1 | refine bst ?_ GE388.out) | exact HB.out))) : w.heap.size ≤ gb389)); have n5_ := Aside0.mk ((by rw [hg]; exact Nat.ne_of_lt (blk_lt (g := gb388) (o := .cells #[.string a0_0, .int .i64 a0_1] 63 (0, 0)) (by (with_reducible repeat (first | refine kdn ?_ _ | refine kdw ?_ | refine kal ?_ _)); exact BK388.out)) : gb388 ≠ gb389)); have n6_ := Aside0.mk ((by rw [hg]; exact Nat.ne_of_gt (blk_lt (g := gb388) (o := .cells #[.string a0_0, .int .i64 a0_1] 63 (0, 0)) (by (with_reducible repeat (first | refine kdn ?_ _ | refine kdw ?_ | refine kal ?_ _)); exact BK388.out)) : gb389 ≠ gb388)); clear BK388; clear HB; have BK388 := n0_; have HB := n1_; have BK389 := n2_; have GW389 := n3_; have GE389 := n4_; have NB388_389 := n5_; have NB389_388 := n6_; clear n0_ n1_ n2_ n3_ n4_ n5_ n6_; clear hb hbox hg; have hnb7 := NB388_389.out; have hnc7 := NB389_388.out; have hcz8_0 : w6.cell? ⟨gb388, 0, none⟩ = some (.string a0_0) := (kcl BK388.out 0).trans rfl; have hcz8_1 : w6.cell? ⟨gb388, 1, none⟩ = some (.int .i64 a0_1) := (kcl BK388.out 1).trans rfl; have hfz8_0 := kfr BK388.out 0; have hfz8_1 := kfr BK388.out 1; have hcz9_0 : w6.cell? ⟨gb389, 0, none⟩ = some (.string (⟨#[]⟩ : ByteArray)) := (kcl BK389.out 0).trans rfl; have hcz9_1 : w6.cell? ⟨gb389, 1, none⟩ = some (.int .i64 0) := (kcl BK389.out 1).trans rfl; have hfz9_0 := kfr BK389.out 0; have hfz9_1 := kfr BK389.out 1))
    refine bodyPost_ret (results_ct rfl _ _ gb389 63 #[.string (⟨#[]⟩ : ByteArray), .int .i64 1] (0, 0) _ rfl (by (with_reducible repeat (first | refine kdn ?_ _ | refine kdw ?_ | refine kal ?_ _)); refine kpt (cs := #[.string (⟨#[]⟩ : ByteArray), .int .i64 0]) ?_ 1 _ rfl; (with_reducible repeat (first | refine kdn ?_ _ | refine kdw ?_ | refine kal ?_ _)); refine kpt (cs := #[.string (⟨#[]⟩ : ByteArray), .int .i64 0]) ?_ 0 _ rfl; (with_reducible repeat (first | refine kdn ?_ _ | refine kdw ?_ | refine kal ?_ _)); exact BK389.out) Try.underlying63 rfl (by kernel_rfl)) rfl ?_
    exact ⟨by first | rfl | (simp [errW_none, errW_some] <;> rfl) | (simp [*, errW_none, errW_some] <;> rfl), by repeat (first | (with_reducible first | exact HB.out | apply bal | apply bdn | apply bd1 | refine bst ?_ GE388.out | refine bst ?_ GE389.out) | exact HB.out)⟩
  rw [if_neg c4] at H
  have c4b0 : decide ((a0_0.size : Int) < a1) = false := decide_eq_false c4
  clear c4
  by_cases c10 : 0 ≤ a1
  rotate_left
  · rw [if_neg c10] at H
    exact absurd H (by simp)
  rw [if_pos c10] at H
  have c10b0 := eq_true c10
  have c10b1 : decide (0 ≤ a1) = true := decide_eq_true c10
  clear c10
  by_cases c11 : a1 ≤ (a0_0.size : Int)
  rotate_left
  · rw [if_neg c11] at H
    exact absurd H (by simp)
  rw [if_pos c11] at H
  have c11b0 := eq_true c11
  have c11b1 : decide (a1 ≤ (a0_0.size : Int)) = true := decide_eq_true c11
  clear c11
  have c12b0 := eq_true (of_decide_eq_true (by first | (with_reducible assumption) | assumption) : 0 ≤ a1)
  have c13b0 := eq_true (of_decide_eq_true (by first | (with_reducible assumption) | assumption) : a1 ≤ (a0_0.size : Int))
  simp only [Option.some.injEq, Prod.mk.injEq] at H
  obtain ⟨rfl, rfl, rfl⟩ := H
  go_enter Try.func61, Try.ntmps61
  try go_wp2_with (first | ((with_reducible refine gds (N := 2) rfl ?_); refine bev ?hg (N := 2) ?hd (cs := #[.string a0_0, .int .i64 a0_1]) (t := 63) ?hr ?_; (case hd => rfl); (case hg => rfl); (case hr => first | (go_simp; done) | (go_simp; rfl)); intro gb388 hg w14 hbox hb; have n0_ := Aside0.mk (bsp (by repeat (first | (with_reducible first | exact HB.out | apply bal | apply bdn | apply bd1) | exact HB.out)) hb); have n1_ := Aside0.mk (hbox); have n2_ := Aside0.mk ((by rw [hg]; exact (bsz (by repeat (first | (with_reducible first | exact HB.out | apply bal | apply bdn | apply bd1) | exact HB.out))) : w.heap.size ≤ gb388)); have n3_ := Aside0.mk ((by rw [hg]; exact (bsz (by repeat (first | (with_reducible first | exact HB.out | apply bal | apply bdn | apply bd1) | exact HB.out))) : w.heap.size ≤ gb388)); clear HB; have HB := n0_; have BK388 := n1_; have GW388 := n2_; have GE388 := n3_; clear n0_ n1_ n2_ n3_; clear hb hbox hg) | ((with_reducible refine gds (N := 4) rfl ?_); refine bev ?hg (N := 4) ?hd (cs := #[.string (⟨#[]⟩ : ByteArray), .int .i64 0]) (t := 63) ?hr ?_; (case hd => rfl); (case hg => rfl); (case hr => first | (go_simp; done) | (go_simp; rfl)); intro gb389 hg w15 hbox hb; have n0_ := Aside0.mk (kbl (g := gb388) (o := .cells #[.string a0_0, .int .i64 a0_1] 63 (0, 0)) (by (with_reducible repeat (first | refine kdn ?_ _ | refine kdw ?_ | refine kal ?_ _)); exact BK388.out) hb); have n1_ := Aside0.mk (bsp (by repeat (first | (with_reducible first | exact HB.out | apply bal | apply bdn | apply bd1 | refine bst ?_ GE388.out) | exact HB.out)) hb); have n2_ := Aside0.mk (hbox); have n3_ := Aside0.mk ((by rw [hg]; exact (bsz (by repeat (first | (with_reducible first | exact HB.out | apply bal | apply bdn | apply bd1 | refine bst ?_ GE388.out) | exact HB.out))) : w.heap.size ≤ gb389)); have n4_ := Aside0.mk ((by rw [hg]; exact (bsz (by repeat (first | (with_reducible first | exact HB.out | apply bal | apply bdn | apply bd1 | refine bst ?_ GE388.out) | exact HB.out))) : w.heap.size ≤ gb389)); have n5_ := Aside0.mk ((by rw [hg]; exact Nat.ne_of_lt (blk_lt (g := gb388) (o := .cells #[.string a0_0, .int .i64 a0_1] 63 (0, 0)) (by (with_reducible repeat (first | refine kdn ?_ _ | refine kdw ?_ | refine kal ?_ _)); exact BK388.out)) : gb388 ≠ gb389)); have n6_ := Aside0.mk ((by rw [hg]; exact Nat.ne_of_gt (blk_lt (g := gb388) (o := .cells #[.string a0_0, .int .i64 a0_1] 63 (0, 0)) (by (with_reducible repeat (first | refine kdn ?_ _ | refine kdw ?_ | refine kal ?_ _)); exact BK388.out)) : gb389 ≠ gb388)); clear BK388; clear HB; have BK388 := n0_; have HB := n1_; have BK389 := n2_; have GW389 := n3_; have GE389 := n4_; have NB388_389 := n5_; have NB389_388 := n6_; clear n0_ n1_ n2_ n3_ n4_ n5_ n6_; clear hb hbox hg; have hnb16 := NB388_389.out; have hnc16 := NB389_388.out; have hcz17_0 : w15.cell? ⟨gb388, 0, none⟩ = some (.string a0_0) := (kcl BK388.out 0).trans rfl; have hcz17_1 : w15.cell? ⟨gb388, 1, none⟩ = some (.int .i64 a0_1) := (kcl BK388.out 1).trans rfl; have hfz17_0 := kfr BK388.out 0; have hfz17_1 := kfr BK388.out 1))
  have n0_ := Aside0.mk (kdw BK388.out)
  have n1_ := Aside0.mk (kdw BK389.out)
  have n2_ := Aside0.mk (bd1 HB.out)
  clear BK388
  clear BK389
  clear HB
  have BK388 := n0_
  have BK389 := n1_
  have HB := n2_
  clear n0_ n1_ n2_
  refine start_ (n := 11) (S := fun w' => w'.cell? ⟨gb388, 0, none⟩ = some (.string a0_0) ∧ w'.cell? ⟨gb388, 1, none⟩ = some (.int .i64 a0_1)) (ds := []) #[false,false,false,false,false,false,false,false,false,false,false] (by kernel_rfl) rfl rfl ⟨(kcl BK388.out 0).trans rfl, (kcl BK388.out 1).trans rfl⟩ (fun hHeld => ?_); refine with_tabW armoireref02_take.tab5 armoireref02_take.bits5 (fun HT_ HW_ => ?_)
  generalize w15.drew = w18 at BK388 BK389 HB hHeld ⊢
  refine pure_ (i := 0) (N := some 16) (v := ?_) (a' := ?_) (bA 11 1) rfl rfl (any_of HT_.out (by kernel_rfl)) (fun _ _ _ h => h) (Or.inl ⟨by rfl, ?_⟩) ?_ ?_
  rotate_left; (intro w'; go_simp; with_reducible rfl); rotate_left; (simp only [Act.put, List.setIfInBounds_toArray, List.set_cons_zero, List.set_cons_succ, i64_w, i32_w]; rfl)
  refine pure_ (i := 2) (N := some 18) (v := ?_) (a' := ?_) (bA 11 5) rfl rfl (any_of HT_.out (by kernel_rfl)) (fun _ _ _ h => h) (Or.inl ⟨by rfl, ?_⟩) ?_ ?_
  rotate_left; (intro w'; go_simp; with_reducible rfl); rotate_left; (simp only [Act.put, List.setIfInBounds_toArray, List.set_cons_zero, List.set_cons_succ, i64_w, i32_w]; rfl)
  refine pure_ (i := 5) (N := some 21) (v := ?_) (a' := ?_) (bA 11 37) rfl rfl (any_of HT_.out (by kernel_rfl)) (fun _ _ _ h => h) (Or.inl ⟨by rfl, ?_⟩) ?_ ?_
  rotate_left; (intro w'; go_simp; with_reducible rfl); rotate_left; (simp only [Act.put, List.setIfInBounds_toArray, List.set_cons_zero, List.set_cons_succ, i64_w, i32_w]; rfl)
  refine pure_ (i := 7) (N := some 23) (v := ?_) (a' := ?_) (bA 11 165) rfl rfl (any_of HT_.out (by kernel_rfl)) (fun _ _ _ h => h) (Or.inl ⟨by rfl, ?_⟩) ?_ ?_
  rotate_left; (intro w'; go_simp; with_reducible rfl); rotate_left; (simp only [Act.put, List.setIfInBounds_toArray, List.set_cons_zero, List.set_cons_succ, i64_w, i32_w]; rfl)
  refine take_ (i := 1) (N := some 17) (v := ?_) (a' := ?_) #[true,true,true,false,false,true,false,true,false,false,false] rfl rfl (tkw HT_.out HW_.out (by kernel_rfl)) (fun _ _ _ h => h) (Or.inl ⟨by rfl, ?_⟩) hHeld ?_ ?_
  rotate_left
  · rintro w' ⟨s0, s1⟩
    go_simp
    with_reducible rfl
  rotate_left; (simp only [Act.put, List.setIfInBounds_toArray, List.set_cons_zero, List.set_cons_succ, i64_w, i32_w]; rfl)
  refine pure_ (i := 3) (N := some 19) (v := ?_) (a' := ?_) (bA 11 175) rfl rfl (any_of HT_.out (by kernel_rfl)) (fun _ _ _ h => h) (Or.inl ⟨by rfl, ?_⟩) ?_ ?_
  rotate_left; (intro w'; go_simp; with_reducible rfl); rotate_left; (simp only [Act.put, List.setIfInBounds_toArray, List.set_cons_zero, List.set_cons_succ, i64_w, i32_w]; rfl)
  refine pure_ (i := 4) (N := some 20) (v := ?_) (a' := ?_) (bA 11 191) rfl rfl (any_of HT_.out (by kernel_rfl)) (fun _ _ _ h => h) (Or.inl ⟨by rfl, ?_⟩) ?_ ?_
  rotate_left; (intro w'; go_simp; with_reducible rfl); rotate_left; (simp only [Act.put, List.setIfInBounds_toArray, List.set_cons_zero, List.set_cons_succ, i64_w, i32_w]; rfl)
  refine take_ (i := 6) (N := some 22) (v := ?_) (a' := ?_) #[true,true,true,true,true,true,true,true,false,false,false] rfl rfl (tkw HT_.out HW_.out (by kernel_rfl)) (fun _ _ _ h => h) (Or.inl ⟨by rfl, ?_⟩) hHeld ?_ ?_
  rotate_left
  · rintro w' ⟨s0, s1⟩
    go_simp
    with_reducible rfl
  rotate_left; (simp only [Act.put, List.setIfInBounds_toArray, List.set_cons_zero, List.set_cons_succ, i64_w, i32_w]; rfl)
  refine pure_ (i := 8) (N := some 24) (v := ?_) (a' := ?_) (bA 11 511) rfl rfl (any_of HT_.out (by kernel_rfl)) (fun _ _ _ h => h) (Or.inl ⟨by rfl, ?_⟩) ?_ ?_
  rotate_left; (intro w'; go_simp; with_reducible rfl); rotate_left; (simp only [Act.put, List.setIfInBounds_toArray, List.set_cons_zero, List.set_cons_succ, i64_w, i32_w]; rfl)
  refine one_ (i := 9) (N := none) #[true,true,true,true,true,true,true,true,true,true,false] rfl rfl (one_of HT_.out (by kernel_rfl)) (by decide) (fun K hK => ?_)
  have hs19 : w18.cell? ⟨gb389, 0, none⟩ = some (.string (⟨#[]⟩ : ByteArray)) := (kcl BK389.out 0).trans rfl
  have hfs19 := kfr BK389.out 0
  have hns19_0 := NB388_389.out
  have hms19_0 := NB389_388.out
  have hs20 : w18.cell? ⟨gb389, 1, none⟩ = some (.int .i64 0) := (kcl BK389.out 1).trans rfl
  have hfs20 := kfr BK389.out 1
  have hns20_0 := NB388_389.out
  have hms20_0 := NB389_388.out
  refine skip_ (w1 := ?_) (by rfl) rfl ?_ ?_
  rotate_left
  · go_simp
    rfl
  refine hK.out _ _ ⟨((cell_far (p := ⟨gb389, _, none⟩) NB388_389.out _).trans (((cell_far (p := ⟨gb389, _, none⟩) NB388_389.out _).trans (hHeld.1)))), ((cell_far (p := ⟨gb389, _, none⟩) NB388_389.out _).trans (((cell_far (p := ⟨gb389, _, none⟩) NB388_389.out _).trans (hHeld.2))))⟩ (fun hHeld => ?_)
  clear hK K
  refine pure_ (i := 10) (N := some 5) (v := ?_) (a' := ?_) (bA 11 2047) rfl rfl (any_of HT_.out (by kernel_rfl)) (fun _ _ _ h => h) (Or.inl ⟨by rfl, ?_⟩) ?_ ?_
  rotate_left; (intro w'; go_simp; with_reducible rfl); rotate_left; (simp only [Act.put, List.setIfInBounds_toArray, List.set_cons_zero, List.set_cons_succ, i64_w, i32_w]; rfl)
  refine done_ (done_of HT_.out (by kernel_rfl)) ?_
  try go_wp2
  refine bodyPost_ret (results_ct rfl _ _ gb389 63 #[.string (a0_0.extract (a1 : Int).toNat a0_0.size), .int .i64 0] (0, 0) _ rfl (by (with_reducible repeat (first | refine kdn ?_ _ | refine kdw ?_ | refine kal ?_ _)); refine kpt (cs := #[.string (a0_0.extract (a1 : Int).toNat a0_0.size), .int .i64 0]) ?_ 1 _ rfl; (with_reducible repeat (first | refine kdn ?_ _ | refine kdw ?_ | refine kal ?_ _)); refine kpt (cs := #[.string (⟨#[]⟩ : ByteArray), .int .i64 0]) ?_ 0 _ rfl; (with_reducible repeat (first | refine kdn ?_ _ | refine kdw ?_ | refine kal ?_ _)); exact BK389.out) Try.underlying63 rfl (by kernel_rfl)) rfl ?_
  exact ⟨by first | rfl | (simp [errW_none, errW_some] <;> rfl) | (simp [*, errW_none, errW_some] <;> rfl), by repeat (first | (with_reducible first | exact HB.out | apply bal | apply bdn | apply bd1 | refine bst ?_ GE388.out | refine bst ?_ GE389.out) | exact HB.out)⟩
mutual
def armoireref02_TakeU.j0 : Nat → ByteArray → Bool → ByteArray → Int → Option (ByteArray × Int × Int)
  | 0, _, _, _, _ => none
  | k + 1, x5, x41, x391000, x391001 => if x41 = true then (some ((⟨#[]⟩ : ByteArray), 2, 0)) else (armoireref02_TakeU.l0 k x5 0 0 x391000 x391001)
def armoireref02_TakeU.l0 : Nat → ByteArray → Int → Int → ByteArray → Int → Option (ByteArray × Int × Int)
  | 0, _, _, _, _, _ => none
  | k + 1, x5, x6, x7, x391000, x391001 => if x7 < (x5.size : Int) then (if 0 ≤ x7 then (armoireref02_TakeU.l0 k x5 (IntKind.u64.wrap ((IntKind.u64.wrap (x6 * 256)) + (IntKind.u64.wrap (bt x5 x7)))) (wrap64 (x7 + 1)) x391000 x391001) else (none)) else (some (x391000, x391001, x6))
end
def armoireref02_TakeU.f (k : Nat) (a0_0 : ByteArray) (a0_1 : Int) : Option (ByteArray × Int × Int) := (armoireref02_take.f a0_0 a0_1 1).bind fun bt392 => (if bt392.2.1 = 0 then (if 0 < (bt392.2.2.size : Int) then (if (bt bt392.2.2 0) > 8 then (some ((⟨#[]⟩ : ByteArray), 2, 0)) else ((armoireref02_take.f bt392.1 bt392.2.1 (wrap64 (bt bt392.2.2 0))).bind fun bt395 => (if bt395.2.1 = 0 then (if (bt395.2.2.size : Int) > 0 then (if 0 < (bt395.2.2.size : Int) then (armoireref02_TakeU.j0 k bt395.2.2 ((bt bt395.2.2 0) == 0) bt395.1 bt395.2.1) else (none)) else (armoireref02_TakeU.j0 k bt395.2.2 false bt395.1 bt395.2.1)) else (armoireref02_TakeU.j0 k bt395.2.2 false bt395.1 bt395.2.1)))) else (none)) else (some (bt392.1, bt392.2.1, 0)))
def armoireref02_TakeU.T6 : Bool × List (List Nat × List Nat) := (true, [([], []), ([], []), ([1], [1]), ([2], [2]), ([0, 3], [0, 3]), ([4], [4]), ([5], [5]), ([5], [5]), ([6, 4, 0, 1, 2, 3, 4, 5, 6], [6]), ([7, 8, 0, 1, 2, 3, 4, 5, 6, 7, 8], [7])])
def armoireref02_TakeU.B6 : List Nat := [0, 0, 2, 6, 15, 31, 63, 63, 127, 511]
theorem armoireref02_TakeU.tab6 : rtab .any (opsOf Try.f60 6) = armoireref02_TakeU.T6 := by kernel_rfl
theorem armoireref02_TakeU.bits6 : waitsOk armoireref02_TakeU.T6.2 armoireref02_TakeU.B6 = true := by kernel_rfl
set_option maxHeartbeats 2000000 in
set_option maxRecDepth 100000 in
theorem armoireref02_TakeU.calls (k : Nat) (a0_0 : ByteArray) (a0_1 : Int) (r1 : ByteArray) (r2 : Int) (r3 : Int) (w : World) (h : armoireref02_TakeU.f k a0_0 a0_1 = some (r1, r2, r3)) :
    Calls Try.prog 60 #[.agg #[.string a0_0, .int .i64 a0_1]] w fun e w' => e = .returned (.tuple #[.agg #[.string r1, .int .i64 r2], .int .u64 r3]) ∧ Below w.heap.size w w' := by
  have hu63 := Try.underlying63
  have HB := Aside0.mk (Below.refl w.heap.size w)
  have H : ((armoireref02_take.f a0_0 a0_1 1).bind fun bt392 => (if bt392.2.1 = 0 then (if 0 < (bt392.2.2.size : Int) then (if (bt bt392.2.2 0) > 8 then (some ((⟨#[]⟩ : ByteArray), 2, 0)) else ((armoireref02_take.f bt392.1 bt392.2.1 (wrap64 (bt bt392.2.2 0))).bind fun bt395 => (if bt395.2.1 = 0 then (if (bt395.2.2.size : Int) > 0 then (if 0 < (bt395.2.2.size : Int) then (armoireref02_TakeU.j0 k bt395.2.2 ((bt bt395.2.2 0) == 0) bt395.1 bt395.2.1) else (none)) else (armoireref02_TakeU.j0 k bt395.2.2 false bt395.1 bt395.2.1)) else (armoireref02_TakeU.j0 k bt395.2.2 false bt395.1 bt395.2.1)))) else (none)) else (some (bt392.1, bt392.2.1, 0)))) = some (r1, r2, r3) := h
  clear h
  replace H := Option.bind_eq_some_iff.mp H
  obtain ⟨⟨t392, t393, t394⟩, A20, H⟩ := H
  replace H : (if t393 = 0 then (if 0 < (t394.size : Int) then (if (bt t394 0) > 8 then (some ((⟨#[]⟩ : ByteArray), 2, 0)) else ((armoireref02_take.f t392 t393 (wrap64 (bt t394 0))).bind fun bt395 => (if bt395.2.1 = 0 then (if (bt395.2.2.size : Int) > 0 then (if 0 < (bt395.2.2.size : Int) then (armoireref02_TakeU.j0 k bt395.2.2 ((bt bt395.2.2 0) == 0) bt395.1 bt395.2.1) else (none)) else (armoireref02_TakeU.j0 k bt395.2.2 false bt395.1 bt395.2.1)) else (armoireref02_TakeU.j0 k bt395.2.2 false bt395.1 bt395.2.1)))) else (none)) else (some (t392, t393, 0))) = some (r1, r2, r3) := H
  have A2 := Aside0.mk A20
  clear A20
  by_cases c3 : t393 = 0
  rotate_left
  · rw [if_neg c3] at H
    have c3b0 : (t393 == 0) = false := beq_eq_false_iff_ne.mpr c3
    have c3b1 : (t393 != 0) = true := bne_iff_ne.mpr c3
    simp only [Option.some.injEq, Prod.mk.injEq] at H
    obtain ⟨rfl, rfl, rfl⟩ := H
    go_enter Try.func60, Try.ntmps60
    go_wp2_with (first | ((with_reducible refine gds (N := 1) rfl ?_); (try (refine gate_guard (by rfl) ?_; dsimp only)); refine bev ?hg (N := 1) ?hd (cs := #[.string a0_0, .int .i64 a0_1]) (t := 63) ?hr ?_; (case hd => rfl); (case hg => rfl); (case hr => first | (go_simp; done) | (go_simp; rfl)); intro gb390 hg w47 hbox hb; have n0_ := Aside0.mk (bsp (by repeat (first | (with_reducible first | exact HB.out | apply bal | apply bdn | apply bd1) | exact HB.out)) hb); have n1_ := Aside0.mk (hbox); have n2_ := Aside0.mk ((by rw [hg]; exact (bsz (by repeat (first | (with_reducible first | exact HB.out | apply bal | apply bdn | apply bd1) | exact HB.out))) : w.heap.size ≤ gb390)); have n3_ := Aside0.mk ((by rw [hg]; exact (bsz (by repeat (first | (with_reducible first | exact HB.out | apply bal | apply bdn | apply bd1) | exact HB.out))) : w.heap.size ≤ gb390)); clear HB; have HB := n0_; have BK390 := n1_; have GW390 := n2_; have GE390 := n3_; clear n0_ n1_ n2_ n3_; clear hb hbox hg) | ((with_reducible refine gds (N := 2) rfl ?_); (try (refine gate_guard (by rfl) ?_; dsimp only)); refine bev ?hg (N := 2) ?hd (cs := #[.string (⟨#[]⟩ : ByteArray), .int .i64 0]) (t := 63) ?hr ?_; (case hd => rfl); (case hg => rfl); (case hr => first | (go_simp; done) | (go_simp; rfl)); intro gb391 hg w48 hbox hb; have n0_ := Aside0.mk (kbl (g := gb390) (o := .cells #[.string a0_0, .int .i64 a0_1] 63 (0, 0)) (by (with_reducible repeat (first | refine kdn ?_ _ | refine kdw ?_ | refine kal ?_ _)); exact BK390.out) hb); have n1_ := Aside0.mk (bsp (by repeat (first | (with_reducible first | exact HB.out | apply bal | apply bdn | apply bd1 | refine bst ?_ GE390.out) | exact HB.out)) hb); have n2_ := Aside0.mk (hbox); have n3_ := Aside0.mk ((by rw [hg]; exact (bsz (by repeat (first | (with_reducible first | exact HB.out | apply bal | apply bdn | apply bd1 | refine bst ?_ GE390.out) | exact HB.out))) : w.heap.size ≤ gb391)); have n4_ := Aside0.mk ((by rw [hg]; exact (bsz (by repeat (first | (with_reducible first | exact HB.out | apply bal | apply bdn | apply bd1 | refine bst ?_ GE390.out) | exact HB.out))) : w.heap.size ≤ gb391)); have n5_ := Aside0.mk ((by rw [hg]; exact Nat.ne_of_lt (blk_lt (g := gb390) (o := .cells #[.string a0_0, .int .i64 a0_1] 63 (0, 0)) (by (with_reducible repeat (first | refine kdn ?_ _ | refine kdw ?_ | refine kal ?_ _)); exact BK390.out)) : gb390 ≠ gb391)); have n6_ := Aside0.mk ((by rw [hg]; exact Nat.ne_of_gt (blk_lt (g := gb390) (o := .cells #[.string a0_0, .int .i64 a0_1] 63 (0, 0)) (by (with_reducible repeat (first | refine kdn ?_ _ | refine kdw ?_ | refine kal ?_ _)); exact BK390.out)) : gb391 ≠ gb390)); clear BK390; clear HB; have BK390 := n0_; have HB := n1_; have BK391 := n2_; have GW391 := n3_; have GE391 := n4_; have NB390_391 := n5_; have NB391_390 := n6_; clear n0_ n1_ n2_ n3_ n4_ n5_ n6_; clear hb hbox hg; have hnb49 := NB390_391.out; have hnc49 := NB391_390.out; have hcz50_0 : w48.cell? ⟨gb390, 0, none⟩ = some (.string a0_0) := (kcl BK390.out 0).trans rfl; have hcz50_1 : w48.cell? ⟨gb390, 1, none⟩ = some (.int .i64 a0_1) := (kcl BK390.out 1).trans rfl; have hfz50_0 := kfr BK390.out 0; have hfz50_1 := kfr BK390.out 1) | ((with_reducible refine gcl (f := 61) rfl ?_); refine gl_ (some 10) rfl rfl Try.func61 (by kernel_rfl) rfl #[.agg #[.string a0_0, .int .i64 a0_1], .int .i64 1] rfl (by (try simp only [List.map_toArray, List.map_cons, List.map_nil]); first | done | rfl | (simp only [List.length_drop, List.length_take]; rfl)) ?_; (with_reducible refine (armoireref02_take.calls a0_0 a0_1 1 t392 t393 t394 _ A2.out).mono ?_); rintro e w51 ⟨rfl, hb⟩; refine ⟨_, rfl, ?_⟩; have n0_ := Aside0.mk (kbl (g := gb390) (o := .cells #[.string a0_0, .int .i64 a0_1] 63 (0, 0)) (by (with_reducible repeat (first | refine kdn ?_ _ | refine kdw ?_ | refine kal ?_ _)); exact BK390.out) hb); have n1_ := Aside0.mk (kbl (g := gb391) (o := .cells #[.string (⟨#[]⟩ : ByteArray), .int .i64 0] 63 (0, 0)) (by (with_reducible repeat (first | refine kdn ?_ _ | refine kdw ?_ | refine kal ?_ _)); exact BK391.out) hb); have n2_ := Aside0.mk (bsp (by repeat (first | (with_reducible first | exact HB.out | apply bal | apply bdn | apply bd1 | refine bst ?_ GE390.out | refine bst ?_ GE391.out) | exact HB.out)) hb); clear BK390; clear BK391; clear HB; have BK390 := n0_; have BK391 := n1_; have HB := n2_; clear n0_ n1_ n2_; (try clear hb); (try clear hb2); (try clear hk); (try clear hi); have hcz52_0 : w51.cell? ⟨gb390, 0, none⟩ = some (.string a0_0) := (kcl BK390.out 0).trans rfl; have hcz52_1 : w51.cell? ⟨gb390, 1, none⟩ = some (.int .i64 a0_1) := (kcl BK390.out 1).trans rfl; have hfz52_0 := kfr BK390.out 0; have hfz52_1 := kfr BK390.out 1; have hcz53_0 : w51.cell? ⟨gb391, 0, none⟩ = some (.string (⟨#[]⟩ : ByteArray)) := (kcl BK391.out 0).trans rfl; have hcz53_1 : w51.cell? ⟨gb391, 1, none⟩ = some (.int .i64 0) := (kcl BK391.out 1).trans rfl; have hfz53_0 := kfr BK391.out 0; have hfz53_1 := kfr BK391.out 1))
    refine bodyPost_ret (results_ct rfl _ _ gb391 63 #[.string t392, .int .i64 t393] (0, 0) _ rfl (by (with_reducible repeat (first | refine kdn ?_ _ | refine kdw ?_ | refine kal ?_ _)); refine kpt (cs := #[.string t392, .int .i64 0]) ?_ 1 _ rfl; (with_reducible repeat (first | refine kdn ?_ _ | refine kdw ?_ | refine kal ?_ _)); refine kpt (cs := #[.string (⟨#[]⟩ : ByteArray), .int .i64 0]) ?_ 0 _ rfl; (with_reducible repeat (first | refine kdn ?_ _ | refine kdw ?_ | refine kal ?_ _)); refine blk_far ?_ NB391_390.out _; (with_reducible repeat (first | refine kdn ?_ _ | refine kdw ?_ | refine kal ?_ _)); refine blk_far ?_ NB391_390.out _; (with_reducible repeat (first | refine kdn ?_ _ | refine kdw ?_ | refine kal ?_ _)); exact BK391.out) Try.underlying63 rfl (by kernel_rfl)) rfl ?_
    exact ⟨by first | rfl | (simp [errW_none, errW_some] <;> rfl) | (simp [*, errW_none, errW_some] <;> rfl), by repeat (first | (with_reducible first | exact HB.out | apply bal | apply bdn | apply bd1 | refine bst ?_ GE390.out | refine bst ?_ GE391.out) | exact HB.out)⟩
  rw [if_pos c3] at H
  have c3b0 : (t393 == 0) = true := beq_iff_eq.mpr c3
  have c3b1 : (t393 != 0) = false := bne_eq_false_iff_eq.mpr c3
  clear c3
  by_cases c4 : 0 < (t394.size : Int)
  rotate_left
  · rw [if_neg c4] at H
    exact absurd H (by simp)
  rw [if_pos c4] at H
  have c4b0 : decide (0 < (t394.size : Int)) = true := decide_eq_true c4
  have c4b1 : decide (0 < t394.size) = true := decide_eq_true (by omega)
  clear c4
  by_cases c6 : (bt t394 0) > 8
  · rw [if_pos c6] at H
    have c6b0 : decide (8 < (bt t394 0)) = true := decide_eq_true c6
    clear c6
    simp only [Option.some.injEq, Prod.mk.injEq] at H
    obtain ⟨rfl, rfl, rfl⟩ := H
    go_enter Try.func60, Try.ntmps60
    go_wp2_with (first | ((with_reducible refine gds (N := 1) rfl ?_); (try (refine gate_guard (by rfl) ?_; dsimp only)); refine bev ?hg (N := 1) ?hd (cs := #[.string a0_0, .int .i64 a0_1]) (t := 63) ?hr ?_; (case hd => rfl); (case hg => rfl); (case hr => first | (go_simp; done) | (go_simp; rfl)); intro gb390 hg w7 hbox hb; have n0_ := Aside0.mk (bsp (by repeat (first | (with_reducible first | exact HB.out | apply bal | apply bdn | apply bd1) | exact HB.out)) hb); have n1_ := Aside0.mk (hbox); have n2_ := Aside0.mk ((by rw [hg]; exact (bsz (by repeat (first | (with_reducible first | exact HB.out | apply bal | apply bdn | apply bd1) | exact HB.out))) : w.heap.size ≤ gb390)); have n3_ := Aside0.mk ((by rw [hg]; exact (bsz (by repeat (first | (with_reducible first | exact HB.out | apply bal | apply bdn | apply bd1) | exact HB.out))) : w.heap.size ≤ gb390)); clear HB; have HB := n0_; have BK390 := n1_; have GW390 := n2_; have GE390 := n3_; clear n0_ n1_ n2_ n3_; clear hb hbox hg) | ((with_reducible refine gds (N := 2) rfl ?_); (try (refine gate_guard (by rfl) ?_; dsimp only)); refine bev ?hg (N := 2) ?hd (cs := #[.string (⟨#[]⟩ : ByteArray), .int .i64 0]) (t := 63) ?hr ?_; (case hd => rfl); (case hg => rfl); (case hr => first | (go_simp; done) | (go_simp; rfl)); intro gb391 hg w8 hbox hb; have n0_ := Aside0.mk (kbl (g := gb390) (o := .cells #[.string a0_0, .int .i64 a0_1] 63 (0, 0)) (by (with_reducible repeat (first | refine kdn ?_ _ | refine kdw ?_ | refine kal ?_ _)); exact BK390.out) hb); have n1_ := Aside0.mk (bsp (by repeat (first | (with_reducible first | exact HB.out | apply bal | apply bdn | apply bd1 | refine bst ?_ GE390.out) | exact HB.out)) hb); have n2_ := Aside0.mk (hbox); have n3_ := Aside0.mk ((by rw [hg]; exact (bsz (by repeat (first | (with_reducible first | exact HB.out | apply bal | apply bdn | apply bd1 | refine bst ?_ GE390.out) | exact HB.out))) : w.heap.size ≤ gb391)); have n4_ := Aside0.mk ((by rw [hg]; exact (bsz (by repeat (first | (with_reducible first | exact HB.out | apply bal | apply bdn | apply bd1 | refine bst ?_ GE390.out) | exact HB.out))) : w.heap.size ≤ gb391)); have n5_ := Aside0.mk ((by rw [hg]; exact Nat.ne_of_lt (blk_lt (g := gb390) (o := .cells #[.string a0_0, .int .i64 a0_1] 63 (0, 0)) (by (with_reducible repeat (first | refine kdn ?_ _ | refine kdw ?_ | refine kal ?_ _)); exact BK390.out)) : gb390 ≠ gb391)); have n6_ := Aside0.mk ((by rw [hg]; exact Nat.ne_of_gt (blk_lt (g := gb390) (o := .cells #[.string a0_0, .int .i64 a0_1] 63 (0, 0)) (by (with_reducible repeat (first | refine kdn ?_ _ | refine kdw ?_ | refine kal ?_ _)); exact BK390.out)) : gb391 ≠ gb390)); clear BK390; clear HB; have BK390 := n0_; have HB := n1_; have BK391 := n2_; have GW391 := n3_; have GE391 := n4_; have NB390_391 := n5_; have NB391_390 := n6_; clear n0_ n1_ n2_ n3_ n4_ n5_ n6_; clear hb hbox hg; have hnb9 := NB390_391.out; have hnc9 := NB391_390.out; have hcz10_0 : w8.cell? ⟨gb390, 0, none⟩ = some (.string a0_0) := (kcl BK390.out 0).trans rfl; have hcz10_1 : w8.cell? ⟨gb390, 1, none⟩ = some (.int .i64 a0_1) := (kcl BK390.out 1).trans rfl; have hfz10_0 := kfr BK390.out 0; have hfz10_1 := kfr BK390.out 1) | ((with_reducible refine gcl (f := 61) rfl ?_); refine gl_ (some 10) rfl rfl Try.func61 (by kernel_rfl) rfl #[.agg #[.string a0_0, .int .i64 a0_1], .int .i64 1] rfl (by (try simp only [List.map_toArray, List.map_cons, List.map_nil]); first | done | rfl | (simp only [List.length_drop, List.length_take]; rfl)) ?_; (with_reducible refine (armoireref02_take.calls a0_0 a0_1 1 t392 t393 t394 _ A2.out).mono ?_); rintro e w11 ⟨rfl, hb⟩; refine ⟨_, rfl, ?_⟩; have n0_ := Aside0.mk (kbl (g := gb390) (o := .cells #[.string a0_0, .int .i64 a0_1] 63 (0, 0)) (by (with_reducible repeat (first | refine kdn ?_ _ | refine kdw ?_ | refine kal ?_ _)); exact BK390.out) hb); have n1_ := Aside0.mk (kbl (g := gb391) (o := .cells #[.string (⟨#[]⟩ : ByteArray), .int .i64 0] 63 (0, 0)) (by (with_reducible repeat (first | refine kdn ?_ _ | refine kdw ?_ | refine kal ?_ _)); exact BK391.out) hb); have n2_ := Aside0.mk (bsp (by repeat (first | (with_reducible first | exact HB.out | apply bal | apply bdn | apply bd1 | refine bst ?_ GE390.out | refine bst ?_ GE391.out) | exact HB.out)) hb); clear BK390; clear BK391; clear HB; have BK390 := n0_; have BK391 := n1_; have HB := n2_; clear n0_ n1_ n2_; (try clear hb); (try clear hb2); (try clear hk); (try clear hi); have hcz12_0 : w11.cell? ⟨gb390, 0, none⟩ = some (.string a0_0) := (kcl BK390.out 0).trans rfl; have hcz12_1 : w11.cell? ⟨gb390, 1, none⟩ = some (.int .i64 a0_1) := (kcl BK390.out 1).trans rfl; have hfz12_0 := kfr BK390.out 0; have hfz12_1 := kfr BK390.out 1; have p5 : 0 ≤ (0 : Int) := (by omega); have q5 : 0 < t394.size := (by have : (0 : Int) < (t394.size : Int) := of_decide_eq_true (by first | (with_reducible assumption) | assumption); omega); have hx5 : ∀ h : 0 < t394.size, ((t394[0]'h).toNat : Int) = bt t394 0 := bt_at t394 0; clear p5; have qi5 : (0 < (t394.size : Int)) = True := eq_true (of_decide_eq_true (by first | (with_reducible assumption) | assumption)); replace q5 := eq_true q5; have hcz13_0 : w11.cell? ⟨gb391, 0, none⟩ = some (.string (⟨#[]⟩ : ByteArray)) := (kcl BK391.out 0).trans rfl; have hcz13_1 : w11.cell? ⟨gb391, 1, none⟩ = some (.int .i64 0) := (kcl BK391.out 1).trans rfl; have hfz13_0 := kfr BK391.out 0; have hfz13_1 := kfr BK391.out 1))
    refine bodyPost_ret (results_ct rfl _ _ gb391 63 #[.string (⟨#[]⟩ : ByteArray), .int .i64 2] (0, 0) _ rfl (by (with_reducible repeat (first | refine kdn ?_ _ | refine kdw ?_ | refine kal ?_ _)); refine kpt (cs := #[.string (⟨#[]⟩ : ByteArray), .int .i64 0]) ?_ 1 _ rfl; (with_reducible repeat (first | refine kdn ?_ _ | refine kdw ?_ | refine kal ?_ _)); refine kpt (cs := #[.string (⟨#[]⟩ : ByteArray), .int .i64 0]) ?_ 0 _ rfl; (with_reducible repeat (first | refine kdn ?_ _ | refine kdw ?_ | refine kal ?_ _)); refine blk_far ?_ NB391_390.out _; (with_reducible repeat (first | refine kdn ?_ _ | refine kdw ?_ | refine kal ?_ _)); refine blk_far ?_ NB391_390.out _; (with_reducible repeat (first | refine kdn ?_ _ | refine kdw ?_ | refine kal ?_ _)); exact BK391.out) Try.underlying63 rfl (by kernel_rfl)) rfl ?_
    exact ⟨by first | rfl | (simp [errW_none, errW_some] <;> rfl) | (simp [*, errW_none, errW_some] <;> rfl), by repeat (first | (with_reducible first | exact HB.out | apply bal | apply bdn | apply bd1 | refine bst ?_ GE390.out | refine bst ?_ GE391.out) | exact HB.out)⟩
  rw [if_neg c6] at H
  have c6b0 : decide (8 < (bt t394 0)) = false := decide_eq_false c6
  clear c6
  replace H := Option.bind_eq_some_iff.mp H
  obtain ⟨⟨t395, t396, t397⟩, A150, H⟩ := H
  replace H : (if t396 = 0 then (if (t397.size : Int) > 0 then (if 0 < (t397.size : Int) then (armoireref02_TakeU.j0 k t397 ((bt t397 0) == 0) t395 t396) else (none)) else (armoireref02_TakeU.j0 k t397 false t395 t396)) else (armoireref02_TakeU.j0 k t397 false t395 t396)) = some (r1, r2, r3) := H
  have A15 := Aside0.mk A150
  clear A150
  have HC16 := Aside0.mk H
  clear H
  go_enter Try.func60, Try.ntmps60
  try go_wp2_with (first | ((with_reducible refine gds (N := 1) rfl ?_); (try (refine gate_guard (by rfl) ?_; dsimp only)); refine bev ?hg (N := 1) ?hd (cs := #[.string a0_0, .int .i64 a0_1]) (t := 63) ?hr ?_; (case hd => rfl); (case hg => rfl); (case hr => first | (go_simp; done) | (go_simp; rfl)); intro gb390 hg w17 hbox hb; have n0_ := Aside0.mk (bsp (by repeat (first | (with_reducible first | exact HB.out | apply bal | apply bdn | apply bd1) | exact HB.out)) hb); have n1_ := Aside0.mk (hbox); have n2_ := Aside0.mk ((by rw [hg]; exact (bsz (by repeat (first | (with_reducible first | exact HB.out | apply bal | apply bdn | apply bd1) | exact HB.out))) : w.heap.size ≤ gb390)); have n3_ := Aside0.mk ((by rw [hg]; exact (bsz (by repeat (first | (with_reducible first | exact HB.out | apply bal | apply bdn | apply bd1) | exact HB.out))) : w.heap.size ≤ gb390)); clear HB; have HB := n0_; have BK390 := n1_; have GW390 := n2_; have GE390 := n3_; clear n0_ n1_ n2_ n3_; clear hb hbox hg) | ((with_reducible refine gds (N := 2) rfl ?_); (try (refine gate_guard (by rfl) ?_; dsimp only)); refine bev ?hg (N := 2) ?hd (cs := #[.string (⟨#[]⟩ : ByteArray), .int .i64 0]) (t := 63) ?hr ?_; (case hd => rfl); (case hg => rfl); (case hr => first | (go_simp; done) | (go_simp; rfl)); intro gb391 hg w18 hbox hb; have n0_ := Aside0.mk (kbl (g := gb390) (o := .cells #[.string a0_0, .int .i64 a0_1] 63 (0, 0)) (by (with_reducible repeat (first | refine kdn ?_ _ | refine kdw ?_ | refine kal ?_ _)); exact BK390.out) hb); have n1_ := Aside0.mk (bsp (by repeat (first | (with_reducible first | exact HB.out | apply bal | apply bdn | apply bd1 | refine bst ?_ GE390.out) | exact HB.out)) hb); have n2_ := Aside0.mk (hbox); have n3_ := Aside0.mk ((by rw [hg]; exact (bsz (by repeat (first | (with_reducible first | exact HB.out | apply bal | apply bdn | apply bd1 | refine bst ?_ GE390.out) | exact HB.out))) : w.heap.size ≤ gb391)); have n4_ := Aside0.mk ((by rw [hg]; exact (bsz (by repeat (first | (with_reducible first | exact HB.out | apply bal | apply bdn | apply bd1 | refine bst ?_ GE390.out) | exact HB.out))) : w.heap.size ≤ gb391)); have n5_ := Aside0.mk ((by rw [hg]; exact Nat.ne_of_lt (blk_lt (g := gb390) (o := .cells #[.string a0_0, .int .i64 a0_1] 63 (0, 0)) (by (with_reducible repeat (first | refine kdn ?_ _ | refine kdw ?_ | refine kal ?_ _)); exact BK390.out)) : gb390 ≠ gb391)); have n6_ := Aside0.mk ((by rw [hg]; exact Nat.ne_of_gt (blk_lt (g := gb390) (o := .cells #[.string a0_0, .int .i64 a0_1] 63 (0, 0)) (by (with_reducible repeat (first | refine kdn ?_ _ | refine kdw ?_ | refine kal ?_ _)); exact BK390.out)) : gb391 ≠ gb390)); clear BK390; clear HB; have BK390 := n0_; have HB := n1_; have BK391 := n2_; have GW391 := n3_; have GE391 := n4_; have NB390_391 := n5_; have NB391_390 := n6_; clear n0_ n1_ n2_ n3_ n4_ n5_ n6_; clear hb hbox hg; have hnb19 := NB390_391.out; have hnc19 := NB391_390.out; have hcz20_0 : w18.cell? ⟨gb390, 0, none⟩ = some (.string a0_0) := (kcl BK390.out 0).trans rfl; have hcz20_1 : w18.cell? ⟨gb390, 1, none⟩ = some (.int .i64 a0_1) := (kcl BK390.out 1).trans rfl; have hfz20_0 := kfr BK390.out 0; have hfz20_1 := kfr BK390.out 1) | ((with_reducible refine gcl (f := 61) rfl ?_); refine gl_ (some 10) rfl rfl Try.func61 (by kernel_rfl) rfl #[.agg #[.string a0_0, .int .i64 a0_1], .int .i64 1] rfl (by (try simp only [List.map_toArray, List.map_cons, List.map_nil]); first | done | rfl | (simp only [List.length_drop, List.length_take]; rfl)) ?_; (with_reducible refine (armoireref02_take.calls a0_0 a0_1 1 t392 t393 t394 _ A2.out).mono ?_); rintro e w21 ⟨rfl, hb⟩; refine ⟨_, rfl, ?_⟩; have n0_ := Aside0.mk (kbl (g := gb390) (o := .cells #[.string a0_0, .int .i64 a0_1] 63 (0, 0)) (by (with_reducible repeat (first | refine kdn ?_ _ | refine kdw ?_ | refine kal ?_ _)); exact BK390.out) hb); have n1_ := Aside0.mk (kbl (g := gb391) (o := .cells #[.string (⟨#[]⟩ : ByteArray), .int .i64 0] 63 (0, 0)) (by (with_reducible repeat (first | refine kdn ?_ _ | refine kdw ?_ | refine kal ?_ _)); exact BK391.out) hb); have n2_ := Aside0.mk (bsp (by repeat (first | (with_reducible first | exact HB.out | apply bal | apply bdn | apply bd1 | refine bst ?_ GE390.out | refine bst ?_ GE391.out) | exact HB.out)) hb); clear BK390; clear BK391; clear HB; have BK390 := n0_; have BK391 := n1_; have HB := n2_; clear n0_ n1_ n2_; (try clear hb); (try clear hb2); (try clear hk); (try clear hi); have hcz22_0 : w21.cell? ⟨gb390, 0, none⟩ = some (.string a0_0) := (kcl BK390.out 0).trans rfl; have hcz22_1 : w21.cell? ⟨gb390, 1, none⟩ = some (.int .i64 a0_1) := (kcl BK390.out 1).trans rfl; have hfz22_0 := kfr BK390.out 0; have hfz22_1 := kfr BK390.out 1; have p5 : 0 ≤ (0 : Int) := (by omega); have q5 : 0 < t394.size := (by have : (0 : Int) < (t394.size : Int) := of_decide_eq_true (by first | (with_reducible assumption) | assumption); omega); have hx5 : ∀ h : 0 < t394.size, ((t394[0]'h).toNat : Int) = bt t394 0 := bt_at t394 0; clear p5; have qi5 : (0 < (t394.size : Int)) = True := eq_true (of_decide_eq_true (by first | (with_reducible assumption) | assumption)); replace q5 := eq_true q5))
  have n0_ : Aside0 (((w21.setCell ⟨gb390, 0, none⟩ (.string t392)).setCell ⟨gb390, 1, none⟩ (.int .i64 t393)).heap[gb390]? = some (.cells #[.string t392, .int .i64 t393] 63 (0, 0))) := ⟨by (with_reducible repeat (first | refine kdn ?_ _ | refine kdw ?_ | refine kal ?_ _)); refine kpt (cs := #[.string t392, .int .i64 a0_1]) ?_ 1 _ rfl; (with_reducible repeat (first | refine kdn ?_ _ | refine kdw ?_ | refine kal ?_ _)); refine kpt (cs := #[.string a0_0, .int .i64 a0_1]) ?_ 0 _ rfl; (with_reducible repeat (first | refine kdn ?_ _ | refine kdw ?_ | refine kal ?_ _)); exact BK390.out⟩
  have n1_ : Aside0 (((w21.setCell ⟨gb390, 0, none⟩ (.string t392)).setCell ⟨gb390, 1, none⟩ (.int .i64 t393)).heap[gb391]? = some (.cells #[.string (⟨#[]⟩ : ByteArray), .int .i64 0] 63 (0, 0))) := ⟨by (with_reducible repeat (first | refine kdn ?_ _ | refine kdw ?_ | refine kal ?_ _)); refine blk_far ?_ NB391_390.out _; (with_reducible repeat (first | refine kdn ?_ _ | refine kdw ?_ | refine kal ?_ _)); refine blk_far ?_ NB391_390.out _; (with_reducible repeat (first | refine kdn ?_ _ | refine kdw ?_ | refine kal ?_ _)); exact BK391.out⟩
  have n2_ : Aside0 (Below w.heap.size w ((w21.setCell ⟨gb390, 0, none⟩ (.string t392)).setCell ⟨gb390, 1, none⟩ (.int .i64 t393))) := ⟨by repeat (first | (with_reducible first | exact HB.out | apply bal | apply bdn | apply bd1 | refine bst ?_ GE390.out | refine bst ?_ GE391.out) | exact HB.out)⟩
  (try clear BK390)
  (try clear BK391)
  (try clear HB)
  generalize ((w21.setCell ⟨gb390, 0, none⟩ (.string t392)).setCell ⟨gb390, 1, none⟩ (.int .i64 t393)) = w23 at n0_ n1_ n2_ ⊢
  have BK390 := n0_
  have BK391 := n1_
  have HB := n2_
  clear n0_ n1_ n2_
  have n0_ := Aside0.mk (kdw BK390.out)
  have n1_ := Aside0.mk (kdw BK391.out)
  have n2_ := Aside0.mk (bd1 HB.out)
  clear BK390
  clear BK391
  clear HB
  have BK390 := n0_
  have BK391 := n1_
  have HB := n2_
  clear n0_ n1_ n2_
  have p14 : 0 ≤ (0 : Int) := (by omega)
  have q14 : 0 < t394.size := (by have : (0 : Int) < (t394.size : Int) := of_decide_eq_true (by first | (with_reducible assumption) | assumption); omega)
  have hx14 : ∀ h : 0 < t394.size, ((t394[0]'h).toNat : Int) = bt t394 0 := bt_at t394 0
  clear p14
  have qi14 : (0 < (t394.size : Int)) = True := eq_true (of_decide_eq_true (by first | (with_reducible assumption) | assumption))
  replace q14 := eq_true q14
  refine start_ (n := 10) (S := fun w' => w'.cell? ⟨gb390, 0, none⟩ = some (.string t392) ∧ w'.cell? ⟨gb390, 1, none⟩ = some (.int .i64 t393)) (ds := [8]) #[false,false,false,false,false,false,false,false,false,false] (by kernel_rfl) rfl rfl ⟨(kcl BK390.out 0).trans rfl, (kcl BK390.out 1).trans rfl⟩ (fun hHeld => ?_); refine with_tabW armoireref02_TakeU.tab6 armoireref02_TakeU.bits6 (fun HT_ HW_ => ?_)
  generalize w23.drew = w24 at BK390 BK391 HB hHeld ⊢
  refine pure_ (i := 1) (N := some 23) (v := ?_) (a' := ?_) (bA 10 2) rfl rfl (any_of HT_.out (by kernel_rfl)) (fun _ _ _ h => h) (Or.inl ⟨by rfl, ?_⟩) ?_ ?_
  rotate_left; (intro w'; go_simp; with_reducible rfl); rotate_left; (simp only [Act.put, List.setIfInBounds_toArray, List.set_cons_zero, List.set_cons_succ, i64_w, i32_w]; rfl)
  refine take_ (i := 0) (N := some 22) (v := ?_) (a' := ?_) #[true,true,false,false,false,false,false,false,false,false] rfl rfl (tkw HT_.out HW_.out (by kernel_rfl)) (fun _ _ _ h => h) (Or.inl ⟨by rfl, ?_⟩) hHeld ?_ ?_
  rotate_left
  · rintro w' ⟨s0, s1⟩
    go_simp
    with_reducible rfl
  rotate_left; (simp only [Act.put, List.setIfInBounds_toArray, List.set_cons_zero, List.set_cons_succ, i64_w, i32_w]; rfl)
  refine take_ (i := 2) (N := some 24) (v := ?_) (a' := ?_) #[true,true,true,false,false,false,false,false,false,false] rfl rfl (tkw HT_.out HW_.out (by kernel_rfl)) (fun _ _ _ h => h) (Or.inl ⟨by rfl, ?_⟩) hHeld ?_ ?_
  rotate_left
  · rintro w' ⟨s0, s1⟩
    go_simp
    with_reducible rfl
  rotate_left; (simp only [Act.put, List.setIfInBounds_toArray, List.set_cons_zero, List.set_cons_succ, i64_w, i32_w]; rfl)
  refine pure_ (i := 3) (N := some 25) (v := ?_) (a' := ?_) (bA 10 15) rfl rfl (any_of HT_.out (by kernel_rfl)) (fun _ _ _ h => h) (Or.inl ⟨by rfl, ?_⟩) ?_ ?_
  rotate_left; (intro w'; go_simp; with_reducible rfl); rotate_left; (simp only [Act.put, List.setIfInBounds_toArray, List.set_cons_zero, List.set_cons_succ, i64_w, i32_w]; rfl)
  refine one_ (i := 4) (N := some 26) #[true,true,true,true,true,false,false,false,false,false] rfl rfl (one_of HT_.out (by kernel_rfl)) (by decide) (fun K hK => ?_)
  refine goes_ Try.func61 (by kernel_rfl) rfl #[.agg #[.string t392, .int .i64 t393], .int .i64 (wrap64 (bt t394 0))] (by rfl) rfl rfl (by (try simp only [List.map_toArray, List.map_cons, List.map_nil]); first | done | rfl | (simp only [List.length_drop, List.length_take]; rfl) | (simp only [Act.eval, Array.getD_eq_getD_getElem?, Option.getD_some, *]; done) | (simp only [Array.mk.injEq, List.cons.injEq, Value.int.injEq, true_and, and_true]; first | omega | (simp [IntKind.wrap, IntKind.bits, IntKind.signed]; omega))) ?_
  with_reducible refine (armoireref02_take.calls t392 t393 (wrap64 (bt t394 0)) t395 t396 t397 _ A15.out).mono ?_
  rintro e w25 ⟨rfl, hb⟩
  refine ⟨_, rfl, ?_⟩
  have n0_ := Aside0.mk (kbl (g := gb390) (o := .cells #[.string t392, .int .i64 t393] 63 (0, 0)) (by (with_reducible repeat (first | refine kdn ?_ _ | refine kdw ?_ | refine kal ?_ _)); exact BK390.out) hb)
  have n1_ := Aside0.mk (kbl (g := gb391) (o := .cells #[.string (⟨#[]⟩ : ByteArray), .int .i64 0] 63 (0, 0)) (by (with_reducible repeat (first | refine kdn ?_ _ | refine kdw ?_ | refine kal ?_ _)); exact BK391.out) hb)
  have n2_ := Aside0.mk (bsp (by repeat (first | (with_reducible first | exact HB.out | apply bal | apply bdn | apply bd1 | refine bst ?_ GE390.out | refine bst ?_ GE391.out) | exact HB.out)) hb)
  clear BK390
  clear BK391
  clear HB
  have BK390 := n0_
  have BK391 := n1_
  have HB := n2_
  clear n0_ n1_ n2_
  (try clear hb)
  (try clear hb2)
  (try clear hk)
  (try clear hi)
  refine hK.out _ _ ⟨(kcl BK390.out 0).trans rfl, (kcl BK390.out 1).trans rfl⟩ (fun hHeld => ?_)
  clear hK K
  refine norm_ (a' := ?_) ?_ ?_
  rotate_left
  · show Act.put _ (some 26) _ = _
    simp only [Act.put, List.setIfInBounds_toArray, List.set_cons_zero, List.set_cons_succ, i64_w, i32_w]
    rfl
  refine pure_ (i := 5) (N := some 21) (v := ?_) (a' := ?_) (bA 10 63) rfl rfl (any_of HT_.out (by kernel_rfl)) (fun _ _ _ h => h) (Or.inl ⟨by rfl, ?_⟩) ?_ ?_
  rotate_left; (intro w'; go_simp; with_reducible rfl); rotate_left; (simp only [Act.put, List.setIfInBounds_toArray, List.set_cons_zero, List.set_cons_succ, i64_w, i32_w]; rfl)
  refine pure_ (i := 6) (N := some 27) (v := ?_) (a' := ?_) (bA 10 127) rfl rfl (any_of HT_.out (by kernel_rfl)) (fun _ _ _ h => h) (Or.inl ⟨by rfl, ?_⟩) ?_ ?_
  rotate_left; (intro w'; go_simp; with_reducible rfl); rotate_left; (simp only [Act.put, List.setIfInBounds_toArray, List.set_cons_zero, List.set_cons_succ, i64_w, i32_w]; rfl)
  refine pure_ (i := 7) (N := some 28) (v := ?_) (a' := ?_) (bA 10 255) rfl rfl (any_of HT_.out (by kernel_rfl)) (fun _ _ _ h => h) (Or.inl ⟨by rfl, ?_⟩) ?_ ?_
  rotate_left; (intro w'; go_simp; with_reducible rfl); rotate_left; (simp only [Act.put, List.setIfInBounds_toArray, List.set_cons_zero, List.set_cons_succ, i64_w, i32_w]; rfl)
  refine last_ (i := 8) (N := none) #[true,true,true,true,true,true,true,true,true,false] rfl rfl (one_of HT_.out (by kernel_rfl)) (by decide) (fun K hK => ?_)
  have hs26 : w25.cell? ⟨gb390, 0, none⟩ = some (.string t392) := (kcl BK390.out 0).trans rfl
  have hfs26 := kfr BK390.out 0
  have hns26_1 := NB391_390.out
  have hms26_1 := NB390_391.out
  have hs27 : w25.cell? ⟨gb390, 1, none⟩ = some (.int .i64 t393) := (kcl BK390.out 1).trans rfl
  have hfs27 := kfr BK390.out 1
  have hns27_1 := NB391_390.out
  have hms27_1 := NB390_391.out
  refine skip_ (w1 := ?_) (by rfl) rfl ?_ ?_
  rotate_left
  · go_simp
    rfl
  refine hK.out _ _ ?_
  clear hK K
  refine pure_ (i := 9) (N := some 5) (v := ?_) (a' := ?_) (bA 10 1023) rfl rfl (any_of HT_.out (by kernel_rfl)) (fun _ _ _ h => h) (Or.inl ⟨by rfl, ?_⟩) ?_ ?_
  rotate_left; (intro w'; go_simp; with_reducible rfl); rotate_left; (simp only [Act.put, List.setIfInBounds_toArray, List.set_cons_zero, List.set_cons_succ, i64_w, i32_w]; rfl)
  refine done_ (done_of HT_.out (by kernel_rfl)) ?_
  go_upto_region 7 with (fail)
  go_cut [41] (fun v41 wc => ∃ (kq : Nat) (x41_15 : Bool), v41 = .bool x41_15 ∧ Aside0 (armoireref02_TakeU.j0 kq t397 x41_15 t395 t396 = some (r1, r2, r3)) ∧ Aside0 (kq ≤ k) ∧ Aside0 (wc.heap[gb390]? = some (.cells #[.string t395, .int .i64 t396] 63 (0, 0))) ∧ Aside0 (wc.heap[gb391]? = some (.cells #[.string (⟨#[]⟩ : ByteArray), .int .i64 0] 63 (0, 0))) ∧ Aside0 (Below w.heap.size w wc))
  case first =>
    have H := HC16.out
    clear HC16
    by_cases c28 : t396 = 0
    rotate_left
    · rw [if_neg c28] at H
      have c28b0 : (t396 == 0) = false := beq_eq_false_iff_ne.mpr c28
      have c28b1 : (t396 != 0) = true := bne_iff_ne.mpr c28
      (first | rw [c28b0] | (simp only [i64_w, i32_w]; rw [c28b0]) | skip)
      have H' := Aside0.mk H
      clear H
      have hnb36 := NB390_391.out
      have hnc36 := NB391_390.out
      have hcz37_0 : w25.cell? ⟨gb390, 0, none⟩ = some (.string t392) := (kcl BK390.out 0).trans rfl
      have hcz37_1 : w25.cell? ⟨gb390, 1, none⟩ = some (.int .i64 t393) := (kcl BK390.out 1).trans rfl
      have hfz37_0 := kfr BK390.out 0
      have hfz37_1 := kfr BK390.out 1
      go_wp2
      go_meet
      case rel => exact ⟨_, (false), (by first | rfl | (simp; done) | (simp [*]; done) | exact emp1_ _ | exact (emp1_ _).symm | exact emp2_ _ | exact (emp2_ _).symm), H', ⟨by first | omega | exact Nat.le_refl _⟩, ⟨by (with_reducible repeat (first | refine kdn ?_ _ | refine kdw ?_ | refine kal ?_ _)); refine kpt (cs := #[.string t395, .int .i64 t393]) ?_ 1 _ rfl; (with_reducible repeat (first | refine kdn ?_ _ | refine kdw ?_ | refine kal ?_ _)); refine kpt (cs := #[.string t392, .int .i64 t393]) ?_ 0 _ rfl; (with_reducible repeat (first | refine kdn ?_ _ | refine kdw ?_ | refine kal ?_ _)); exact BK390.out⟩, ⟨by (with_reducible repeat (first | refine kdn ?_ _ | refine kdw ?_ | refine kal ?_ _)); refine blk_far ?_ NB391_390.out _; (with_reducible repeat (first | refine kdn ?_ _ | refine kdw ?_ | refine kal ?_ _)); refine blk_far ?_ NB391_390.out _; (with_reducible repeat (first | refine kdn ?_ _ | refine kdw ?_ | refine kal ?_ _)); exact BK391.out⟩, ⟨by repeat (first | (with_reducible first | exact HB.out | apply bal | apply bdn | apply bd1 | refine bst ?_ GE390.out | refine bst ?_ GE391.out) | exact HB.out)⟩⟩
    rw [if_pos c28] at H
    have c28b0 : (t396 == 0) = true := beq_iff_eq.mpr c28
    have c28b1 : (t396 != 0) = false := bne_eq_false_iff_eq.mpr c28
    clear c28
    (first | rw [c28b0] | (simp only [i64_w, i32_w]; rw [c28b0]) | skip)
    by_cases c29 : (t397.size : Int) > 0
    rotate_left
    · rw [if_neg c29] at H
      have c29b0 : decide (0 < (t397.size : Int)) = false := decide_eq_false c29
      have c29b1 : decide (0 < t397.size) = false := decide_eq_false (by omega)
      clear c29
      have H' := Aside0.mk H
      clear H
      have hnb34 := NB390_391.out
      have hnc34 := NB391_390.out
      have hcz35_0 : w25.cell? ⟨gb390, 0, none⟩ = some (.string t392) := (kcl BK390.out 0).trans rfl
      have hcz35_1 : w25.cell? ⟨gb390, 1, none⟩ = some (.int .i64 t393) := (kcl BK390.out 1).trans rfl
      have hfz35_0 := kfr BK390.out 0
      have hfz35_1 := kfr BK390.out 1
      go_wp2
      go_meet
      case rel => exact ⟨_, (false), (by first | rfl | (simp; done) | (simp [*]; done) | exact emp1_ _ | exact (emp1_ _).symm | exact emp2_ _ | exact (emp2_ _).symm), H', ⟨by first | omega | exact Nat.le_refl _⟩, ⟨by (with_reducible repeat (first | refine kdn ?_ _ | refine kdw ?_ | refine kal ?_ _)); refine kpt (cs := #[.string t395, .int .i64 t393]) ?_ 1 _ rfl; (with_reducible repeat (first | refine kdn ?_ _ | refine kdw ?_ | refine kal ?_ _)); refine kpt (cs := #[.string t392, .int .i64 t393]) ?_ 0 _ rfl; (with_reducible repeat (first | refine kdn ?_ _ | refine kdw ?_ | refine kal ?_ _)); exact BK390.out⟩, ⟨by (with_reducible repeat (first | refine kdn ?_ _ | refine kdw ?_ | refine kal ?_ _)); refine blk_far ?_ NB391_390.out _; (with_reducible repeat (first | refine kdn ?_ _ | refine kdw ?_ | refine kal ?_ _)); refine blk_far ?_ NB391_390.out _; (with_reducible repeat (first | refine kdn ?_ _ | refine kdw ?_ | refine kal ?_ _)); exact BK391.out⟩, ⟨by repeat (first | (with_reducible first | exact HB.out | apply bal | apply bdn | apply bd1 | refine bst ?_ GE390.out | refine bst ?_ GE391.out) | exact HB.out)⟩⟩
    rw [if_pos c29] at H
    have c29b0 : decide (0 < (t397.size : Int)) = true := decide_eq_true c29
    have c29b1 : decide (0 < t397.size) = true := decide_eq_true (by omega)
    clear c29
    by_cases c30 : 0 < (t397.size : Int)
    rotate_left
    · rw [if_neg c30] at H
      exact absurd H (by simp)
    rw [if_pos c30] at H
    have c30b0 : decide (0 < (t397.size : Int)) = true := decide_eq_true c30
    have c30b1 : decide (0 < t397.size) = true := decide_eq_true (by omega)
    clear c30
    have H' := Aside0.mk H
    clear H
    have hnb32 := NB390_391.out
    have hnc32 := NB391_390.out
    have hcz33_0 : w25.cell? ⟨gb390, 0, none⟩ = some (.string t392) := (kcl BK390.out 0).trans rfl
    have hcz33_1 : w25.cell? ⟨gb390, 1, none⟩ = some (.int .i64 t393) := (kcl BK390.out 1).trans rfl
    have hfz33_0 := kfr BK390.out 0
    have hfz33_1 := kfr BK390.out 1
    have p31 : 0 ≤ (0 : Int) := (by omega)
    have q31 : 0 < t397.size := (by have : (0 : Int) < (t397.size : Int) := of_decide_eq_true (by first | (with_reducible assumption) | assumption); omega)
    have hx31 : ∀ h : 0 < t397.size, ((t397[0]'h).toNat : Int) = bt t397 0 := bt_at t397 0
    clear p31
    have qi31 : (0 < (t397.size : Int)) = True := eq_true (of_decide_eq_true (by first | (with_reducible assumption) | assumption))
    replace q31 := eq_true q31
    go_wp2
    go_meet
    case rel => exact ⟨_, (((bt t397 0) == 0)), (by first | rfl | (simp; done) | (simp [*]; done) | exact emp1_ _ | exact (emp1_ _).symm | exact emp2_ _ | exact (emp2_ _).symm), H', ⟨by first | omega | exact Nat.le_refl _⟩, ⟨by (with_reducible repeat (first | refine kdn ?_ _ | refine kdw ?_ | refine kal ?_ _)); refine kpt (cs := #[.string t395, .int .i64 t393]) ?_ 1 _ rfl; (with_reducible repeat (first | refine kdn ?_ _ | refine kdw ?_ | refine kal ?_ _)); refine kpt (cs := #[.string t392, .int .i64 t393]) ?_ 0 _ rfl; (with_reducible repeat (first | refine kdn ?_ _ | refine kdw ?_ | refine kal ?_ _)); exact BK390.out⟩, ⟨by (with_reducible repeat (first | refine kdn ?_ _ | refine kdw ?_ | refine kal ?_ _)); refine blk_far ?_ NB391_390.out _; (with_reducible repeat (first | refine kdn ?_ _ | refine kdw ?_ | refine kal ?_ _)); refine blk_far ?_ NB391_390.out _; (with_reducible repeat (first | refine kdn ?_ _ | refine kdw ?_ | refine kal ?_ _)); exact BK391.out⟩, ⟨by repeat (first | (with_reducible first | exact HB.out | apply bal | apply bdn | apply bd1 | refine bst ?_ GE390.out | refine bst ?_ GE391.out) | exact HB.out)⟩⟩
  clear HC16
  try clear c1
  try clear p1
  try clear q1
  try clear hx1
  try clear qi1
  try clear c2
  try clear p2
  try clear c3
  try clear c3b0
  try clear c3b1
  try clear p3
  try clear q3
  try clear hx3
  try clear qi3
  try clear c4
  try clear c4b0
  try clear c4b1
  try clear p5
  try clear q5
  try clear hx5
  try clear qi5
  try clear c6
  try clear c6b0
  try clear p6
  try clear c9
  try clear p14
  try clear q14
  try clear hx14
  try clear qi14
  try clear c19
  try clear c28
  try clear c28b0
  try clear c28b1
  try clear c29
  try clear c29b0
  try clear c29b1
  try clear c30
  try clear c30b0
  try clear c30b1
  try clear p31
  try clear q31
  try clear hx31
  try clear qi31
  try clear c32
  try clear c34
  try clear c36
  try clear hcz10_0
  try clear hcz10_1
  try clear hcz12_0
  try clear hcz12_1
  try clear hcz13_0
  try clear hcz13_1
  try clear hcz20_0
  try clear hcz20_1
  try clear hcz22_0
  try clear hcz22_1
  try clear hcz33_0
  try clear hcz33_1
  try clear hcz35_0
  try clear hcz35_1
  try clear hcz37_0
  try clear hcz37_1
  try clear hfz10_0
  try clear hfz10_1
  try clear hfz12_0
  try clear hfz12_1
  try clear hfz13_0
  try clear hfz13_1
  try clear hfz20_0
  try clear hfz20_1
  try clear hfz22_0
  try clear hfz22_1
  try clear hfz33_0
  try clear hfz33_1
  try clear hfz35_0
  try clear hfz35_1
  try clear hfz37_0
  try clear hfz37_1
  try clear p14
  try clear p31
  try clear p5
  try clear q14
  try clear q31
  try clear q5
  obtain ⟨kq, x41_15, rfl, HA, HJ15, BK390, BK391, HB⟩ := hcut
  cases kq with
  | zero => exact absurd HA.out (by simp [armoireref02_TakeU.j0])
  | succ kj15 =>
    have H := HA.out
    clear HA
    simp only [armoireref02_TakeU.j0] at H
    by_cases c38 : x41_15 = true
    · subst c38
      have H1 : (some ((⟨#[]⟩ : ByteArray), 2, 0)) = some (r1, r2, r3) := by rw [if_pos rfl] at H; exact H
      clear H
      have H := H1
      clear H1
      simp only [Option.some.injEq, Prod.mk.injEq] at H
      obtain ⟨rfl, rfl, rfl⟩ := H
      have hnb39 := NB391_390.out
      have hnc39 := NB390_391.out
      have hcz40_0 : wc.cell? ⟨gb391, 0, none⟩ = some (.string (⟨#[]⟩ : ByteArray)) := (kcl BK391.out 0).trans rfl
      have hcz40_1 : wc.cell? ⟨gb391, 1, none⟩ = some (.int .i64 0) := (kcl BK391.out 1).trans rfl
      have hfz40_0 := kfr BK391.out 0
      have hfz40_1 := kfr BK391.out 1
      go_wp2
      refine bodyPost_ret (results_ct rfl _ _ gb391 63 #[.string (⟨#[]⟩ : ByteArray), .int .i64 2] (0, 0) _ rfl (by (with_reducible repeat (first | refine kdn ?_ _ | refine kdw ?_ | refine kal ?_ _)); refine kpt (cs := #[.string (⟨#[]⟩ : ByteArray), .int .i64 0]) ?_ 1 _ rfl; (with_reducible repeat (first | refine kdn ?_ _ | refine kdw ?_ | refine kal ?_ _)); refine kpt (cs := #[.string (⟨#[]⟩ : ByteArray), .int .i64 0]) ?_ 0 _ rfl; (with_reducible repeat (first | refine kdn ?_ _ | refine kdw ?_ | refine kal ?_ _)); exact BK391.out) Try.underlying63 rfl (by kernel_rfl)) rfl ?_
      exact ⟨by first | rfl | (simp [errW_none, errW_some] <;> rfl) | (simp [*, errW_none, errW_some] <;> rfl), by repeat (first | (with_reducible first | exact HB.out | apply bal | apply bdn | apply bd1 | refine bst ?_ GE390.out | refine bst ?_ GE391.out) | exact HB.out)⟩
    replace c38 := Bool.eq_false_iff.mpr c38
    subst c38
    have H1 : (armoireref02_TakeU.l0 kj15 t397 0 0 t395 t396) = some (r1, r2, r3) := by rw [if_neg (show ¬ (false = true) by decide)] at H; exact H
    clear H
    have H := H1
    clear H1
    have H' := Aside0.mk H
    clear H
    go_wp2
    go_loopg [6, 7] kj15 (fun kq v6 v7 w' => ∃ (x6_2 : Int) (x7_2 : Int), v6 = .int .u64 x6_2 ∧ v7 = .int .i64 x7_2 ∧ Aside0 (armoireref02_TakeU.l0 kq t397 x6_2 x7_2 t395 t396 = some (r1, r2, r3)) ∧ Aside0 (kq ≤ kj15) ∧ Aside0 (w'.heap[gb390]? = some (.cells #[.string t395, .int .i64 t396] 63 (0, 0))) ∧ Aside0 (w'.heap[gb391]? = some (.cells #[.string (⟨#[]⟩ : ByteArray), .int .i64 0] 63 (0, 0))) ∧ Aside0 (Below w.heap.size w w'))
    case atStart => exact ⟨(0), (0), (by first | rfl | (simp; done) | (simp [*]; done) | exact emp1_ _ | exact (emp1_ _).symm | exact emp2_ _ | exact (emp2_ _).symm), (by first | rfl | (simp; done) | (simp [*]; done) | exact emp1_ _ | exact (emp1_ _).symm | exact emp2_ _ | exact (emp2_ _).symm), H', ⟨Nat.le_refl _⟩, ⟨by (with_reducible repeat (first | refine kdn ?_ _ | refine kdw ?_ | refine kal ?_ _)); exact BK390.out⟩, ⟨by (with_reducible repeat (first | refine kdn ?_ _ | refine kdw ?_ | refine kal ?_ _)); exact BK391.out⟩, ⟨by repeat (first | (with_reducible first | exact HB.out | apply bal | apply bdn | apply bd1 | refine bst ?_ GE390.out | refine bst ?_ GE391.out) | exact HB.out)⟩⟩
    clear H'
    try clear c1
    try clear p1
    try clear q1
    try clear hx1
    try clear qi1
    try clear c2
    try clear p2
    try clear c3
    try clear c3b0
    try clear c3b1
    try clear p3
    try clear q3
    try clear hx3
    try clear qi3
    try clear c4
    try clear c4b0
    try clear c4b1
    try clear p5
    try clear q5
    try clear hx5
    try clear qi5
    try clear c6
    try clear c6b0
    try clear p6
    try clear c9
    try clear p14
    try clear q14
    try clear hx14
    try clear qi14
    try clear c19
    try clear c28
    try clear c28b0
    try clear c28b1
    try clear c29
    try clear c29b0
    try clear c29b1
    try clear c30
    try clear c30b0
    try clear c30b1
    try clear p31
    try clear q31
    try clear hx31
    try clear qi31
    try clear c32
    try clear c34
    try clear c36
    try clear c38
    try clear c39
    try clear hcz10_0
    try clear hcz10_1
    try clear hcz12_0
    try clear hcz12_1
    try clear hcz13_0
    try clear hcz13_1
    try clear hcz20_0
    try clear hcz20_1
    try clear hcz22_0
    try clear hcz22_1
    try clear hcz33_0
    try clear hcz33_1
    try clear hcz35_0
    try clear hcz35_1
    try clear hcz37_0
    try clear hcz37_1
    try clear hcz40_0
    try clear hcz40_1
    try clear hfz10_0
    try clear hfz10_1
    try clear hfz12_0
    try clear hfz12_1
    try clear hfz13_0
    try clear hfz13_1
    try clear hfz20_0
    try clear hfz20_1
    try clear hfz22_0
    try clear hfz22_1
    try clear hfz33_0
    try clear hfz33_1
    try clear hfz35_0
    try clear hfz35_1
    try clear hfz37_0
    try clear hfz37_1
    try clear hfz40_0
    try clear hfz40_1
    try clear p1
    try clear p14
    try clear p2
    try clear p3
    try clear p31
    try clear p5
    try clear p6
    try clear q1
    try clear q14
    try clear q3
    try clear q31
    try clear q5
    obtain ⟨x6_2, x7_2, rfl, rfl, HA, HK2, BK390, BK391, HB⟩ := hrel
    cases gk with
    | zero => exact absurd HA.out (by simp [armoireref02_TakeU.l0])
    | succ k2 =>
      have H := HA.out
      clear HA
      simp only [armoireref02_TakeU.l0] at H
      by_cases c41 : x7_2 < (t397.size : Int)
      · rw [if_pos c41] at H
        have c41b0 : decide (x7_2 < (t397.size : Int)) = true := decide_eq_true c41
        clear c41
        by_cases c42 : 0 ≤ x7_2
        rotate_left
        · rw [if_neg c42] at H
          exact absurd H (by simp)
        rw [if_pos c42] at H
        have c42b0 : decide (0 ≤ x7_2) = true := decide_eq_true c42
        clear c42
        have H' := Aside0.mk H
        clear H
        have p43 : 0 ≤ (x7_2 : Int) := of_decide_eq_true (by first | (with_reducible assumption) | assumption)
        have q43 : x7_2 < (t397.size : Int) := of_decide_eq_true (by first | (with_reducible assumption) | assumption)
        have hx43 := bt_at t397 x7_2
        replace p43 := eq_true p43
        replace q43 := eq_true q43
        go_wp2
        go_roundg k2
        case measure => have := HJ15.out; have := HK2.out; omega
        case rel => exact ⟨(IntKind.u64.wrap ((IntKind.u64.wrap (x6_2 * 256)) + (IntKind.u64.wrap (bt t397 x7_2)))), (wrap64 (x7_2 + 1)), (by first | rfl | (simp; done) | (simp [*]; done) | exact emp1_ _ | exact (emp1_ _).symm | exact emp2_ _ | exact (emp2_ _).symm), (by first | rfl | (simp; done) | (simp [*]; done) | exact emp1_ _ | exact (emp1_ _).symm | exact emp2_ _ | exact (emp2_ _).symm), H', ⟨by have := HJ15.out; have := HK2.out; omega⟩, ⟨by (with_reducible repeat (first | refine kdn ?_ _ | refine kdw ?_ | refine kal ?_ _)); exact BK390.out⟩, ⟨by (with_reducible repeat (first | refine kdn ?_ _ | refine kdw ?_ | refine kal ?_ _)); exact BK391.out⟩, ⟨by repeat (first | (with_reducible first | exact HB.out | apply bal | apply bdn | apply bd1 | refine bst ?_ GE390.out | refine bst ?_ GE391.out) | exact HB.out)⟩⟩
      rw [if_neg c41] at H
      have c41b0 : decide (x7_2 < (t397.size : Int)) = false := decide_eq_false c41
      clear c41
      simp only [Option.some.injEq, Prod.mk.injEq] at H
      obtain ⟨rfl, rfl, rfl⟩ := H
      have hnb44 := NB390_391.out
      have hnc44 := NB391_390.out
      have hcz45_0 : wr.cell? ⟨gb390, 0, none⟩ = some (.string t395) := (kcl BK390.out 0).trans rfl
      have hcz45_1 : wr.cell? ⟨gb390, 1, none⟩ = some (.int .i64 t396) := (kcl BK390.out 1).trans rfl
      have hfz45_0 := kfr BK390.out 0
      have hfz45_1 := kfr BK390.out 1
      have hcz46_0 : wr.cell? ⟨gb391, 0, none⟩ = some (.string (⟨#[]⟩ : ByteArray)) := (kcl BK391.out 0).trans rfl
      have hcz46_1 : wr.cell? ⟨gb391, 1, none⟩ = some (.int .i64 0) := (kcl BK391.out 1).trans rfl
      have hfz46_0 := kfr BK391.out 0
      have hfz46_1 := kfr BK391.out 1
      go_wp2
      refine bodyPost_ret (results_ct rfl _ _ gb391 63 #[.string t395, .int .i64 t396] (0, 0) _ rfl (by (with_reducible repeat (first | refine kdn ?_ _ | refine kdw ?_ | refine kal ?_ _)); refine kpt (cs := #[.string t395, .int .i64 0]) ?_ 1 _ rfl; (with_reducible repeat (first | refine kdn ?_ _ | refine kdw ?_ | refine kal ?_ _)); refine kpt (cs := #[.string (⟨#[]⟩ : ByteArray), .int .i64 0]) ?_ 0 _ rfl; (with_reducible repeat (first | refine kdn ?_ _ | refine kdw ?_ | refine kal ?_ _)); exact BK391.out) Try.underlying63 rfl (by kernel_rfl)) rfl ?_
      exact ⟨by first | rfl | (simp [errW_none, errW_some] <;> rfl) | (simp [*, errW_none, errW_some] <;> rfl), by repeat (first | (with_reducible first | exact HB.out | apply bal | apply bdn | apply bd1 | refine bst ?_ GE390.out | refine bst ?_ GE391.out) | exact HB.out)⟩
def armoireref02_TakeN.f (k : Nat) (a0_0 : ByteArray) (a0_1 : Int) (a1 : Int) : Option (ByteArray × Int × Int) := (armoireref02_TakeU.f k a0_0 a0_1).bind fun bt400 => (if bt400.2.2 > (IntKind.u64.wrap (mx a1 0)) then ((armoireref02_Fail.f bt400.1 bt400.2.1 3).bind fun bt403 => (some (bt403.1, bt403.2, 0))) else (some (bt400.1, bt400.2.1, wrap64 (bt400.2.2))))
set_option maxHeartbeats 2000000 in
set_option maxRecDepth 100000 in
theorem armoireref02_TakeN.calls (k : Nat) (a0_0 : ByteArray) (a0_1 : Int) (a1 : Int) (r1 : ByteArray) (r2 : Int) (r3 : Int) (w : World) (h : armoireref02_TakeN.f k a0_0 a0_1 a1 = some (r1, r2, r3)) :
    Calls Try.prog 52 #[.agg #[.string a0_0, .int .i64 a0_1], .int .i64 a1] w fun e w' => e = .returned (.tuple #[.agg #[.string r1, .int .i64 r2], .int .i64 r3]) ∧ Below w.heap.size w w' := by
  have hu63 := Try.underlying63
  have HB := Aside0.mk (Below.refl w.heap.size w)
  have H : ((armoireref02_TakeU.f k a0_0 a0_1).bind fun bt400 => (if bt400.2.2 > (IntKind.u64.wrap (mx a1 0)) then ((armoireref02_Fail.f bt400.1 bt400.2.1 3).bind fun bt403 => (some (bt403.1, bt403.2, 0))) else (some (bt400.1, bt400.2.1, wrap64 (bt400.2.2))))) = some (r1, r2, r3) := h
  clear h
  replace H := Option.bind_eq_some_iff.mp H
  obtain ⟨⟨t400, t401, t402⟩, A30, H⟩ := H
  replace H : (if t402 > (IntKind.u64.wrap (mx a1 0)) then ((armoireref02_Fail.f t400 t401 3).bind fun bt403 => (some (bt403.1, bt403.2, 0))) else (some (t400, t401, wrap64 (t402)))) = some (r1, r2, r3) := H
  have A3 := Aside0.mk A30
  clear A30
  obtain ⟨ji4, hji4⟩ : ∃ j_ : Int, (mx a1 0) = j_ := ⟨_, rfl⟩
  replace H : (if t402 > (IntKind.u64.wrap (ji4)) then ((armoireref02_Fail.f t400 t401 3).bind fun bt403 => (some (bt403.1, bt403.2, 0))) else (some (t400, t401, wrap64 (t402)))) = some (r1, r2, r3) := by first | (rw [hji4] at H; exact H) | (simp only [hji4] at H ⊢; exact H)
  (try rw [hji4] at A3)
  (try (have hji4l : 0 ≤ ji4 := by (rw [← hji4]; unfold mx; (repeat' split) <;> omega)))
  (try (have hji4m : 0 ≤ ji4 := by omega))
  have hji4_ : (if a1 < 0 then 0 else a1) = ji4 := hji4
  by_cases c5 : t402 > (IntKind.u64.wrap (ji4))
  rotate_left
  · rw [if_neg c5] at H
    have c5b0 : decide ((IntKind.u64.wrap (ji4)) < t402) = false := decide_eq_false c5
    clear c5
    simp only [Option.some.injEq, Prod.mk.injEq] at H
    obtain ⟨rfl, rfl, rfl⟩ := H
    go_enter Try.func52, Try.ntmps52
    go_wp2_with (first | ((with_reducible refine gds (N := 2) rfl ?_); refine bev ?hg (N := 2) ?hd (cs := #[.string a0_0, .int .i64 a0_1]) (t := 63) ?hr ?_; (case hd => rfl); (case hg => rfl); (case hr => first | (go_simp; done) | (go_simp; rfl)); intro gb398 hg w15 hbox hb; have n0_ := Aside0.mk (bsp (by repeat (first | (with_reducible first | exact HB.out | apply bal | apply bdn | apply bd1) | exact HB.out)) hb); have n1_ := Aside0.mk (hbox); have n2_ := Aside0.mk ((by rw [hg]; exact (bsz (by repeat (first | (with_reducible first | exact HB.out | apply bal | apply bdn | apply bd1) | exact HB.out))) : w.heap.size ≤ gb398)); have n3_ := Aside0.mk ((by rw [hg]; exact (bsz (by repeat (first | (with_reducible first | exact HB.out | apply bal | apply bdn | apply bd1) | exact HB.out))) : w.heap.size ≤ gb398)); clear HB; have HB := n0_; have BK398 := n1_; have GW398 := n2_; have GE398 := n3_; clear n0_ n1_ n2_ n3_; clear hb hbox hg) | ((with_reducible refine gds (N := 4) rfl ?_); refine bev ?hg (N := 4) ?hd (cs := #[.string (⟨#[]⟩ : ByteArray), .int .i64 0]) (t := 63) ?hr ?_; (case hd => rfl); (case hg => rfl); (case hr => first | (go_simp; done) | (go_simp; rfl)); intro gb399 hg w16 hbox hb; have n0_ := Aside0.mk (kbl (g := gb398) (o := .cells #[.string a0_0, .int .i64 a0_1] 63 (0, 0)) (by (with_reducible repeat (first | refine kdn ?_ _ | refine kdw ?_ | refine kal ?_ _)); exact BK398.out) hb); have n1_ := Aside0.mk (bsp (by repeat (first | (with_reducible first | exact HB.out | apply bal | apply bdn | apply bd1 | refine bst ?_ GE398.out) | exact HB.out)) hb); have n2_ := Aside0.mk (hbox); have n3_ := Aside0.mk ((by rw [hg]; exact (bsz (by repeat (first | (with_reducible first | exact HB.out | apply bal | apply bdn | apply bd1 | refine bst ?_ GE398.out) | exact HB.out))) : w.heap.size ≤ gb399)); have n4_ := Aside0.mk ((by rw [hg]; exact (bsz (by repeat (first | (with_reducible first | exact HB.out | apply bal | apply bdn | apply bd1 | refine bst ?_ GE398.out) | exact HB.out))) : w.heap.size ≤ gb399)); have n5_ := Aside0.mk ((by rw [hg]; exact Nat.ne_of_lt (blk_lt (g := gb398) (o := .cells #[.string a0_0, .int .i64 a0_1] 63 (0, 0)) (by (with_reducible repeat (first | refine kdn ?_ _ | refine kdw ?_ | refine kal ?_ _)); exact BK398.out)) : gb398 ≠ gb399)); have n6_ := Aside0.mk ((by rw [hg]; exact Nat.ne_of_gt (blk_lt (g := gb398) (o := .cells #[.string a0_0, .int .i64 a0_1] 63 (0, 0)) (by (with_reducible repeat (first | refine kdn ?_ _ | refine kdw ?_ | refine kal ?_ _)); exact BK398.out)) : gb399 ≠ gb398)); clear BK398; clear HB; have BK398 := n0_; have HB := n1_; have BK399 := n2_; have GW399 := n3_; have GE399 := n4_; have NB398_399 := n5_; have NB399_398 := n6_; clear n0_ n1_ n2_ n3_ n4_ n5_ n6_; clear hb hbox hg; have hnb17 := NB398_399.out; have hnc17 := NB399_398.out; have hcz18_0 : w16.cell? ⟨gb398, 0, none⟩ = some (.string a0_0) := (kcl BK398.out 0).trans rfl; have hcz18_1 : w16.cell? ⟨gb398, 1, none⟩ = some (.int .i64 a0_1) := (kcl BK398.out 1).trans rfl; have hfz18_0 := kfr BK398.out 0; have hfz18_1 := kfr BK398.out 1) | ((with_reducible refine gcl (f := 60) rfl ?_); refine gl_ (some 9) rfl rfl Try.func60 (by kernel_rfl) rfl #[.agg #[.string a0_0, .int .i64 a0_1]] rfl (by (try simp only [List.map_toArray, List.map_cons, List.map_nil]); first | done | rfl | (simp only [List.length_drop, List.length_take]; rfl)) ?_; (with_reducible refine (armoireref02_TakeU.calls k a0_0 a0_1 t400 t401 t402 _ A3.out).mono ?_); rintro e w19 ⟨rfl, hb⟩; refine ⟨_, rfl, ?_⟩; have n0_ := Aside0.mk (kbl (g := gb398) (o := .cells #[.string a0_0, .int .i64 a0_1] 63 (0, 0)) (by (with_reducible repeat (first | refine kdn ?_ _ | refine kdw ?_ | refine kal ?_ _)); exact BK398.out) hb); have n1_ := Aside0.mk (kbl (g := gb399) (o := .cells #[.string (⟨#[]⟩ : ByteArray), .int .i64 0] 63 (0, 0)) (by (with_reducible repeat (first | refine kdn ?_ _ | refine kdw ?_ | refine kal ?_ _)); exact BK399.out) hb); have n2_ := Aside0.mk (bsp (by repeat (first | (with_reducible first | exact HB.out | apply bal | apply bdn | apply bd1 | refine bst ?_ GE398.out | refine bst ?_ GE399.out) | exact HB.out)) hb); clear BK398; clear BK399; clear HB; have BK398 := n0_; have BK399 := n1_; have HB := n2_; clear n0_ n1_ n2_; (try clear hb); (try clear hb2); (try clear hk); (try clear hi); have hcz20_0 : w19.cell? ⟨gb398, 0, none⟩ = some (.string a0_0) := (kcl BK398.out 0).trans rfl; have hcz20_1 : w19.cell? ⟨gb398, 1, none⟩ = some (.int .i64 a0_1) := (kcl BK398.out 1).trans rfl; have hfz20_0 := kfr BK398.out 0; have hfz20_1 := kfr BK398.out 1; have hcz21_0 : w19.cell? ⟨gb399, 0, none⟩ = some (.string (⟨#[]⟩ : ByteArray)) := (kcl BK399.out 0).trans rfl; have hcz21_1 : w19.cell? ⟨gb399, 1, none⟩ = some (.int .i64 0) := (kcl BK399.out 1).trans rfl; have hfz21_0 := kfr BK399.out 0; have hfz21_1 := kfr BK399.out 1))
    refine bodyPost_ret (results_ct rfl _ _ gb399 63 #[.string t400, .int .i64 t401] (0, 0) _ rfl (by (with_reducible repeat (first | refine kdn ?_ _ | refine kdw ?_ | refine kal ?_ _)); refine kpt (cs := #[.string t400, .int .i64 0]) ?_ 1 _ rfl; (with_reducible repeat (first | refine kdn ?_ _ | refine kdw ?_ | refine kal ?_ _)); refine kpt (cs := #[.string (⟨#[]⟩ : ByteArray), .int .i64 0]) ?_ 0 _ rfl; (with_reducible repeat (first | refine kdn ?_ _ | refine kdw ?_ | refine kal ?_ _)); refine blk_far ?_ NB399_398.out _; (with_reducible repeat (first | refine kdn ?_ _ | refine kdw ?_ | refine kal ?_ _)); refine blk_far ?_ NB399_398.out _; (with_reducible repeat (first | refine kdn ?_ _ | refine kdw ?_ | refine kal ?_ _)); exact BK399.out) Try.underlying63 rfl (by kernel_rfl)) rfl ?_
    exact ⟨by first | rfl | (simp [errW_none, errW_some] <;> rfl) | (simp only [← hji4]; first | rfl | (simp [errW_none, errW_some] <;> rfl)) | (simp [*, errW_none, errW_some] <;> rfl), by repeat (first | (with_reducible first | exact HB.out | apply bal | apply bdn | apply bd1 | refine bst ?_ GE398.out | refine bst ?_ GE399.out) | exact HB.out)⟩
  rw [if_pos c5] at H
  have c5b0 : decide ((IntKind.u64.wrap (ji4)) < t402) = true := decide_eq_true c5
  clear c5
  replace H := Option.bind_eq_some_iff.mp H
  obtain ⟨⟨t403, t404⟩, A60, H⟩ := H
  replace H : (some (t403, t404, 0)) = some (r1, r2, r3) := H
  have A6 := Aside0.mk A60
  clear A60
  simp only [Option.some.injEq, Prod.mk.injEq] at H
  obtain ⟨rfl, rfl, rfl⟩ := H
  go_enter Try.func52, Try.ntmps52
  go_wp2_with (first | ((with_reducible refine gds (N := 2) rfl ?_); refine bev ?hg (N := 2) ?hd (cs := #[.string a0_0, .int .i64 a0_1]) (t := 63) ?hr ?_; (case hd => rfl); (case hg => rfl); (case hr => first | (go_simp; done) | (go_simp; rfl)); intro gb398 hg w7 hbox hb; have n0_ := Aside0.mk (bsp (by repeat (first | (with_reducible first | exact HB.out | apply bal | apply bdn | apply bd1) | exact HB.out)) hb); have n1_ := Aside0.mk (hbox); have n2_ := Aside0.mk ((by rw [hg]; exact (bsz (by repeat (first | (with_reducible first | exact HB.out | apply bal | apply bdn | apply bd1) | exact HB.out))) : w.heap.size ≤ gb398)); have n3_ := Aside0.mk ((by rw [hg]; exact (bsz (by repeat (first | (with_reducible first | exact HB.out | apply bal | apply bdn | apply bd1) | exact HB.out))) : w.heap.size ≤ gb398)); clear HB; have HB := n0_; have BK398 := n1_; have GW398 := n2_; have GE398 := n3_; clear n0_ n1_ n2_ n3_; clear hb hbox hg) | ((with_reducible refine gds (N := 4) rfl ?_); refine bev ?hg (N := 4) ?hd (cs := #[.string (⟨#[]⟩ : ByteArray), .int .i64 0]) (t := 63) ?hr ?_; (case hd => rfl); (case hg => rfl); (case hr => first | (go_simp; done) | (go_simp; rfl)); intro gb399 hg w8 hbox hb; have n0_ := Aside0.mk (kbl (g := gb398) (o := .cells #[.string a0_0, .int .i64 a0_1] 63 (0, 0)) (by (with_reducible repeat (first | refine kdn ?_ _ | refine kdw ?_ | refine kal ?_ _)); exact BK398.out) hb); have n1_ := Aside0.mk (bsp (by repeat (first | (with_reducible first | exact HB.out | apply bal | apply bdn | apply bd1 | refine bst ?_ GE398.out) | exact HB.out)) hb); have n2_ := Aside0.mk (hbox); have n3_ := Aside0.mk ((by rw [hg]; exact (bsz (by repeat (first | (with_reducible first | exact HB.out | apply bal | apply bdn | apply bd1 | refine bst ?_ GE398.out) | exact HB.out))) : w.heap.size ≤ gb399)); have n4_ := Aside0.mk ((by rw [hg]; exact (bsz (by repeat (first | (with_reducible first | exact HB.out | apply bal | apply bdn | apply bd1 | refine bst ?_ GE398.out) | exact HB.out))) : w.heap.size ≤ gb399)); have n5_ := Aside0.mk ((by rw [hg]; exact Nat.ne_of_lt (blk_lt (g := gb398) (o := .cells #[.string a0_0, .int .i64 a0_1] 63 (0, 0)) (by (with_reducible repeat (first | refine kdn ?_ _ | refine kdw ?_ | refine kal ?_ _)); exact BK398.out)) : gb398 ≠ gb399)); have n6_ := Aside0.mk ((by rw [hg]; exact Nat.ne_of_gt (blk_lt (g := gb398) (o := .cells #[.string a0_0, .int .i64 a0_1] 63 (0, 0)) (by (with_reducible repeat (first | refine kdn ?_ _ | refine kdw ?_ | refine kal ?_ _)); exact BK398.out)) : gb399 ≠ gb398)); clear BK398; clear HB; have BK398 := n0_; have HB := n1_; have BK399 := n2_; have GW399 := n3_; have GE399 := n4_; have NB398_399 := n5_; have NB399_398 := n6_; clear n0_ n1_ n2_ n3_ n4_ n5_ n6_; clear hb hbox hg; have hnb9 := NB398_399.out; have hnc9 := NB399_398.out; have hcz10_0 : w8.cell? ⟨gb398, 0, none⟩ = some (.string a0_0) := (kcl BK398.out 0).trans rfl; have hcz10_1 : w8.cell? ⟨gb398, 1, none⟩ = some (.int .i64 a0_1) := (kcl BK398.out 1).trans rfl; have hfz10_0 := kfr BK398.out 0; have hfz10_1 := kfr BK398.out 1) | ((with_reducible refine gcl (f := 60) rfl ?_); refine gl_ (some 9) rfl rfl Try.func60 (by kernel_rfl) rfl #[.agg #[.string a0_0, .int .i64 a0_1]] rfl (by (try simp only [List.map_toArray, List.map_cons, List.map_nil]); first | done | rfl | (simp only [List.length_drop, List.length_take]; rfl)) ?_; (with_reducible refine (armoireref02_TakeU.calls k a0_0 a0_1 t400 t401 t402 _ A3.out).mono ?_); rintro e w11 ⟨rfl, hb⟩; refine ⟨_, rfl, ?_⟩; have n0_ := Aside0.mk (kbl (g := gb398) (o := .cells #[.string a0_0, .int .i64 a0_1] 63 (0, 0)) (by (with_reducible repeat (first | refine kdn ?_ _ | refine kdw ?_ | refine kal ?_ _)); exact BK398.out) hb); have n1_ := Aside0.mk (kbl (g := gb399) (o := .cells #[.string (⟨#[]⟩ : ByteArray), .int .i64 0] 63 (0, 0)) (by (with_reducible repeat (first | refine kdn ?_ _ | refine kdw ?_ | refine kal ?_ _)); exact BK399.out) hb); have n2_ := Aside0.mk (bsp (by repeat (first | (with_reducible first | exact HB.out | apply bal | apply bdn | apply bd1 | refine bst ?_ GE398.out | refine bst ?_ GE399.out) | exact HB.out)) hb); clear BK398; clear BK399; clear HB; have BK398 := n0_; have BK399 := n1_; have HB := n2_; clear n0_ n1_ n2_; (try clear hb); (try clear hb2); (try clear hk); (try clear hi); have hcz12_0 : w11.cell? ⟨gb398, 0, none⟩ = some (.string a0_0) := (kcl BK398.out 0).trans rfl; have hcz12_1 : w11.cell? ⟨gb398, 1, none⟩ = some (.int .i64 a0_1) := (kcl BK398.out 1).trans rfl; have hfz12_0 := kfr BK398.out 0; have hfz12_1 := kfr BK398.out 1) | ((with_reducible refine gcl (f := 55) rfl ?_); refine gl_ (some 18) rfl rfl Try.func55 (by kernel_rfl) rfl #[.agg #[.string t400, .int .i64 t401], .int .i64 3] rfl (by (try simp only [List.map_toArray, List.map_cons, List.map_nil]); first | done | rfl | (simp only [List.length_drop, List.length_take]; rfl)) ?_; (with_reducible refine (armoireref02_Fail.calls t400 t401 3 t403 t404 _ A6.out).mono ?_); rintro e w13 ⟨rfl, hb⟩; refine ⟨_, rfl, ?_⟩; have n0_ := Aside0.mk (kbl (g := gb398) (o := .cells #[.string t400, .int .i64 t401] 63 (0, 0)) (by (with_reducible repeat (first | refine kdn ?_ _ | refine kdw ?_ | refine kal ?_ _)); refine kpt (cs := #[.string t400, .int .i64 a0_1]) ?_ 1 _ rfl; (with_reducible repeat (first | refine kdn ?_ _ | refine kdw ?_ | refine kal ?_ _)); refine kpt (cs := #[.string a0_0, .int .i64 a0_1]) ?_ 0 _ rfl; (with_reducible repeat (first | refine kdn ?_ _ | refine kdw ?_ | refine kal ?_ _)); exact BK398.out) hb); have n1_ := Aside0.mk (kbl (g := gb399) (o := .cells #[.string (⟨#[]⟩ : ByteArray), .int .i64 0] 63 (0, 0)) (by (with_reducible repeat (first | refine kdn ?_ _ | refine kdw ?_ | refine kal ?_ _)); refine blk_far ?_ NB399_398.out _; (with_reducible repeat (first | refine kdn ?_ _ | refine kdw ?_ | refine kal ?_ _)); refine blk_far ?_ NB399_398.out _; (with_reducible repeat (first | refine kdn ?_ _ | refine kdw ?_ | refine kal ?_ _)); exact BK399.out) hb); have n2_ := Aside0.mk (bsp (by repeat (first | (with_reducible first | exact HB.out | apply bal | apply bdn | apply bd1 | refine bst ?_ GE398.out | refine bst ?_ GE399.out) | exact HB.out)) hb); clear BK398; clear BK399; clear HB; have BK398 := n0_; have BK399 := n1_; have HB := n2_; clear n0_ n1_ n2_; (try clear hb); (try clear hb2); (try clear hk); (try clear hi); have hcz14_0 : w13.cell? ⟨gb399, 0, none⟩ = some (.string (⟨#[]⟩ : ByteArray)) := (kcl BK399.out 0).trans rfl; have hcz14_1 : w13.cell? ⟨gb399, 1, none⟩ = some (.int .i64 0) := (kcl BK399.out 1).trans rfl; have hfz14_0 := kfr BK399.out 0; have hfz14_1 := kfr BK399.out 1))
  refine bodyPost_ret (results_ct rfl _ _ gb399 63 #[.string t403, .int .i64 t404] (0, 0) _ rfl (by (with_reducible repeat (first | refine kdn ?_ _ | refine kdw ?_ | refine kal ?_ _)); refine kpt (cs := #[.string t403, .int .i64 0]) ?_ 1 _ rfl; (with_reducible repeat (first | refine kdn ?_ _ | refine kdw ?_ | refine kal ?_ _)); refine kpt (cs := #[.string (⟨#[]⟩ : ByteArray), .int .i64 0]) ?_ 0 _ rfl; (with_reducible repeat (first | refine kdn ?_ _ | refine kdw ?_ | refine kal ?_ _)); exact BK399.out) Try.underlying63 rfl (by kernel_rfl)) rfl ?_
  exact ⟨by first | rfl | (simp [errW_none, errW_some] <;> rfl) | (simp only [← hji4]; first | rfl | (simp [errW_none, errW_some] <;> rfl)) | (simp [*, errW_none, errW_some] <;> rfl), by repeat (first | (with_reducible first | exact HB.out | apply bal | apply bdn | apply bd1 | refine bst ?_ GE398.out | refine bst ?_ GE399.out) | exact HB.out)⟩
def armoireref02_TakeS.f (k : Nat) (a0_0 : ByteArray) (a0_1 : Int) (a1 : Int) : Option (ByteArray × Int × ByteArray) := (armoireref02_TakeN.f k a0_0 a0_1 a1).bind fun bt407 => ((armoireref02_take.f bt407.1 bt407.2.1 bt407.2.2).bind fun bt410 => (some (bt410.1, bt410.2.1, bt410.2.2)))
set_option maxHeartbeats 2000000 in
set_option maxRecDepth 100000 in
theorem armoireref02_TakeS.calls (k : Nat) (a0_0 : ByteArray) (a0_1 : Int) (a1 : Int) (r1 : ByteArray) (r2 : Int) (r3 : ByteArray) (w : World) (h : armoireref02_TakeS.f k a0_0 a0_1 a1 = some (r1, r2, r3)) :
    Calls Try.prog 53 #[.agg #[.string a0_0, .int .i64 a0_1], .int .i64 a1] w fun e w' => e = .returned (.tuple #[.agg #[.string r1, .int .i64 r2], .string r3]) ∧ Below w.heap.size w w' := by
  have hu63 := Try.underlying63
  have HB := Aside0.mk (Below.refl w.heap.size w)
  have H : ((armoireref02_TakeN.f k a0_0 a0_1 a1).bind fun bt407 => ((armoireref02_take.f bt407.1 bt407.2.1 bt407.2.2).bind fun bt410 => (some (bt410.1, bt410.2.1, bt410.2.2)))) = some (r1, r2, r3) := h
  clear h
  replace H := Option.bind_eq_some_iff.mp H
  obtain ⟨⟨t407, t408, t409⟩, A30, H⟩ := H
  replace H : ((armoireref02_take.f t407 t408 t409).bind fun bt410 => (some (bt410.1, bt410.2.1, bt410.2.2))) = some (r1, r2, r3) := H
  have A3 := Aside0.mk A30
  clear A30
  replace H := Option.bind_eq_some_iff.mp H
  obtain ⟨⟨t410, t411, t412⟩, A40, H⟩ := H
  replace H : (some (t410, t411, t412)) = some (r1, r2, r3) := H
  have A4 := Aside0.mk A40
  clear A40
  simp only [Option.some.injEq, Prod.mk.injEq] at H
  obtain ⟨rfl, rfl, rfl⟩ := H
  go_enter Try.func53, Try.ntmps53
  go_wp2_with (first | ((with_reducible refine gds (N := 2) rfl ?_); refine bev ?hg (N := 2) ?hd (cs := #[.string a0_0, .int .i64 a0_1]) (t := 63) ?hr ?_; (case hd => rfl); (case hg => rfl); (case hr => first | (go_simp; done) | (go_simp; rfl)); intro gb405 hg w5 hbox hb; have n0_ := Aside0.mk (bsp (by repeat (first | (with_reducible first | exact HB.out | apply bal | apply bdn | apply bd1) | exact HB.out)) hb); have n1_ := Aside0.mk (hbox); have n2_ := Aside0.mk ((by rw [hg]; exact (bsz (by repeat (first | (with_reducible first | exact HB.out | apply bal | apply bdn | apply bd1) | exact HB.out))) : w.heap.size ≤ gb405)); have n3_ := Aside0.mk ((by rw [hg]; exact (bsz (by repeat (first | (with_reducible first | exact HB.out | apply bal | apply bdn | apply bd1) | exact HB.out))) : w.heap.size ≤ gb405)); clear HB; have HB := n0_; have BK405 := n1_; have GW405 := n2_; have GE405 := n3_; clear n0_ n1_ n2_ n3_; clear hb hbox hg) | ((with_reducible refine gds (N := 4) rfl ?_); refine bev ?hg (N := 4) ?hd (cs := #[.string (⟨#[]⟩ : ByteArray), .int .i64 0]) (t := 63) ?hr ?_; (case hd => rfl); (case hg => rfl); (case hr => first | (go_simp; done) | (go_simp; rfl)); intro gb406 hg w6 hbox hb; have n0_ := Aside0.mk (kbl (g := gb405) (o := .cells #[.string a0_0, .int .i64 a0_1] 63 (0, 0)) (by (with_reducible repeat (first | refine kdn ?_ _ | refine kdw ?_ | refine kal ?_ _)); exact BK405.out) hb); have n1_ := Aside0.mk (bsp (by repeat (first | (with_reducible first | exact HB.out | apply bal | apply bdn | apply bd1 | refine bst ?_ GE405.out) | exact HB.out)) hb); have n2_ := Aside0.mk (hbox); have n3_ := Aside0.mk ((by rw [hg]; exact (bsz (by repeat (first | (with_reducible first | exact HB.out | apply bal | apply bdn | apply bd1 | refine bst ?_ GE405.out) | exact HB.out))) : w.heap.size ≤ gb406)); have n4_ := Aside0.mk ((by rw [hg]; exact (bsz (by repeat (first | (with_reducible first | exact HB.out | apply bal | apply bdn | apply bd1 | refine bst ?_ GE405.out) | exact HB.out))) : w.heap.size ≤ gb406)); have n5_ := Aside0.mk ((by rw [hg]; exact Nat.ne_of_lt (blk_lt (g := gb405) (o := .cells #[.string a0_0, .int .i64 a0_1] 63 (0, 0)) (by (with_reducible repeat (first | refine kdn ?_ _ | refine kdw ?_ | refine kal ?_ _)); exact BK405.out)) : gb405 ≠ gb406)); have n6_ := Aside0.mk ((by rw [hg]; exact Nat.ne_of_gt (blk_lt (g := gb405) (o := .cells #[.string a0_0, .int .i64 a0_1] 63 (0, 0)) (by (with_reducible repeat (first | refine kdn ?_ _ | refine kdw ?_ | refine kal ?_ _)); exact BK405.out)) : gb406 ≠ gb405)); clear BK405; clear HB; have BK405 := n0_; have HB := n1_; have BK406 := n2_; have GW406 := n3_; have GE406 := n4_; have NB405_406 := n5_; have NB406_405 := n6_; clear n0_ n1_ n2_ n3_ n4_ n5_ n6_; clear hb hbox hg; have hnb7 := NB405_406.out; have hnc7 := NB406_405.out; have hcz8_0 : w6.cell? ⟨gb405, 0, none⟩ = some (.string a0_0) := (kcl BK405.out 0).trans rfl; have hcz8_1 : w6.cell? ⟨gb405, 1, none⟩ = some (.int .i64 a0_1) := (kcl BK405.out 1).trans rfl; have hfz8_0 := kfr BK405.out 0; have hfz8_1 := kfr BK405.out 1) | ((with_reducible refine gcl (f := 52) rfl ?_); refine gl_ (some 10) rfl rfl Try.func52 (by kernel_rfl) rfl #[.agg #[.string a0_0, .int .i64 a0_1], .int .i64 a1] rfl (by (try simp only [List.map_toArray, List.map_cons, List.map_nil]); first | done | rfl | (simp only [List.length_drop, List.length_take]; rfl)) ?_; (with_reducible refine (armoireref02_TakeN.calls k a0_0 a0_1 a1 t407 t408 t409 _ A3.out).mono ?_); rintro e w9 ⟨rfl, hb⟩; refine ⟨_, rfl, ?_⟩; have n0_ := Aside0.mk (kbl (g := gb405) (o := .cells #[.string a0_0, .int .i64 a0_1] 63 (0, 0)) (by (with_reducible repeat (first | refine kdn ?_ _ | refine kdw ?_ | refine kal ?_ _)); exact BK405.out) hb); have n1_ := Aside0.mk (kbl (g := gb406) (o := .cells #[.string (⟨#[]⟩ : ByteArray), .int .i64 0] 63 (0, 0)) (by (with_reducible repeat (first | refine kdn ?_ _ | refine kdw ?_ | refine kal ?_ _)); exact BK406.out) hb); have n2_ := Aside0.mk (bsp (by repeat (first | (with_reducible first | exact HB.out | apply bal | apply bdn | apply bd1 | refine bst ?_ GE405.out | refine bst ?_ GE406.out) | exact HB.out)) hb); clear BK405; clear BK406; clear HB; have BK405 := n0_; have BK406 := n1_; have HB := n2_; clear n0_ n1_ n2_; (try clear hb); (try clear hb2); (try clear hk); (try clear hi); have hcz10_0 : w9.cell? ⟨gb405, 0, none⟩ = some (.string a0_0) := (kcl BK405.out 0).trans rfl; have hcz10_1 : w9.cell? ⟨gb405, 1, none⟩ = some (.int .i64 a0_1) := (kcl BK405.out 1).trans rfl; have hfz10_0 := kfr BK405.out 0; have hfz10_1 := kfr BK405.out 1) | ((with_reducible refine gcl (f := 61) rfl ?_); refine gl_ (some 15) rfl rfl Try.func61 (by kernel_rfl) rfl #[.agg #[.string t407, .int .i64 t408], .int .i64 t409] rfl (by (try simp only [List.map_toArray, List.map_cons, List.map_nil]); first | done | rfl | (simp only [List.length_drop, List.length_take]; rfl)) ?_; (with_reducible refine (armoireref02_take.calls t407 t408 t409 t410 t411 t412 _ A4.out).mono ?_); rintro e w11 ⟨rfl, hb⟩; refine ⟨_, rfl, ?_⟩; have n0_ := Aside0.mk (kbl (g := gb405) (o := .cells #[.string t407, .int .i64 t408] 63 (0, 0)) (by (with_reducible repeat (first | refine kdn ?_ _ | refine kdw ?_ | refine kal ?_ _)); refine kpt (cs := #[.string t407, .int .i64 a0_1]) ?_ 1 _ rfl; (with_reducible repeat (first | refine kdn ?_ _ | refine kdw ?_ | refine kal ?_ _)); refine kpt (cs := #[.string a0_0, .int .i64 a0_1]) ?_ 0 _ rfl; (with_reducible repeat (first | refine kdn ?_ _ | refine kdw ?_ | refine kal ?_ _)); exact BK405.out) hb); have n1_ := Aside0.mk (kbl (g := gb406) (o := .cells #[.string (⟨#[]⟩ : ByteArray), .int .i64 0] 63 (0, 0)) (by (with_reducible repeat (first | refine kdn ?_ _ | refine kdw ?_ | refine kal ?_ _)); refine blk_far ?_ NB406_405.out _; (with_reducible repeat (first | refine kdn ?_ _ | refine kdw ?_ | refine kal ?_ _)); refine blk_far ?_ NB406_405.out _; (with_reducible repeat (first | refine kdn ?_ _ | refine kdw ?_ | refine kal ?_ _)); exact BK406.out) hb); have n2_ := Aside0.mk (bsp (by repeat (first | (with_reducible first | exact HB.out | apply bal | apply bdn | apply bd1 | refine bst ?_ GE405.out | refine bst ?_ GE406.out) | exact HB.out)) hb); clear BK405; clear BK406; clear HB; have BK405 := n0_; have BK406 := n1_; have HB := n2_; clear n0_ n1_ n2_; (try clear hb); (try clear hb2); (try clear hk); (try clear hi); have hcz12_0 : w11.cell? ⟨gb406, 0, none⟩ = some (.string (⟨#[]⟩ : ByteArray)) := (kcl BK406.out 0).trans rfl; have hcz12_1 : w11.cell? ⟨gb406, 1, none⟩ = some (.int .i64 0) := (kcl BK406.out 1).trans rfl; have hfz12_0 := kfr BK406.out 0; have hfz12_1 := kfr BK406.out 1))
  refine bodyPost_ret (results_ct rfl _ _ gb406 63 #[.string t410, .int .i64 t411] (0, 0) _ rfl (by (with_reducible repeat (first | refine kdn ?_ _ | refine kdw ?_ | refine kal ?_ _)); refine kpt (cs := #[.string t410, .int .i64 0]) ?_ 1 _ rfl; (with_reducible repeat (first | refine kdn ?_ _ | refine kdw ?_ | refine kal ?_ _)); refine kpt (cs := #[.string (⟨#[]⟩ : ByteArray), .int .i64 0]) ?_ 0 _ rfl; (with_reducible repeat (first | refine kdn ?_ _ | refine kdw ?_ | refine kal ?_ _)); exact BK406.out) Try.underlying63 rfl (by kernel_rfl)) rfl ?_
  exact ⟨by first | rfl | (simp [errW_none, errW_some] <;> rfl) | (simp [*, errW_none, errW_some] <;> rfl), by repeat (first | (with_reducible first | exact HB.out | apply bal | apply bdn | apply bd1 | refine bst ?_ GE405.out | refine bst ?_ GE406.out) | exact HB.out)⟩
def armoireref02_TakeI.f (k : Nat) (a0_0 : ByteArray) (a0_1 : Int) : Option (ByteArray × Int × Int) := (armoireref02_TakeU.f k a0_0 a0_1).bind fun bt415 => (if (Int.tmod bt415.2.2 2) = 1 then (some (bt415.1, bt415.2.1, wrap64 ((wrap64 (-(wrap64 (IntKind.u64.wrap (Int.tdiv bt415.2.2 2))))) - 1))) else (some (bt415.1, bt415.2.1, wrap64 (IntKind.u64.wrap (Int.tdiv bt415.2.2 2)))))
set_option maxHeartbeats 2000000 in
set_option maxRecDepth 100000 in
theorem armoireref02_TakeI.calls (k : Nat) (a0_0 : ByteArray) (a0_1 : Int) (r1 : ByteArray) (r2 : Int) (r3 : Int) (w : World) (h : armoireref02_TakeI.f k a0_0 a0_1 = some (r1, r2, r3)) :
    Calls Try.prog 54 #[.agg #[.string a0_0, .int .i64 a0_1]] w fun e w' => e = .returned (.tuple #[.agg #[.string r1, .int .i64 r2], .int .i64 r3]) ∧ Below w.heap.size w w' := by
  have hu63 := Try.underlying63
  have HB := Aside0.mk (Below.refl w.heap.size w)
  have H : ((armoireref02_TakeU.f k a0_0 a0_1).bind fun bt415 => (if (Int.tmod bt415.2.2 2) = 1 then (some (bt415.1, bt415.2.1, wrap64 ((wrap64 (-(wrap64 (IntKind.u64.wrap (Int.tdiv bt415.2.2 2))))) - 1))) else (some (bt415.1, bt415.2.1, wrap64 (IntKind.u64.wrap (Int.tdiv bt415.2.2 2)))))) = some (r1, r2, r3) := h
  clear h
  replace H := Option.bind_eq_some_iff.mp H
  obtain ⟨⟨t415, t416, t417⟩, A20, H⟩ := H
  replace H : (if (Int.tmod t417 2) = 1 then (some (t415, t416, wrap64 ((wrap64 (-(wrap64 (IntKind.u64.wrap (Int.tdiv t417 2))))) - 1))) else (some (t415, t416, wrap64 (IntKind.u64.wrap (Int.tdiv t417 2))))) = some (r1, r2, r3) := H
  have A2 := Aside0.mk A20
  clear A20
  by_cases c3 : (Int.tmod t417 2) = 1
  · rw [if_pos c3] at H
    have c3b0 : ((Int.tmod t417 2) == 1) = true := beq_iff_eq.mpr c3
    have c3b1 : ((Int.tmod t417 2) != 1) = false := bne_eq_false_iff_eq.mpr c3
    clear c3
    simp only [Option.some.injEq, Prod.mk.injEq] at H
    obtain ⟨rfl, rfl, rfl⟩ := H
    go_enter Try.func54, Try.ntmps54
    go_wp2_with (first | ((with_reducible refine gds (N := 1) rfl ?_); refine bev ?hg (N := 1) ?hd (cs := #[.string a0_0, .int .i64 a0_1]) (t := 63) ?hr ?_; (case hd => rfl); (case hg => rfl); (case hr => first | (go_simp; done) | (go_simp; rfl)); intro gb413 hg w4 hbox hb; have n0_ := Aside0.mk (bsp (by repeat (first | (with_reducible first | exact HB.out | apply bal | apply bdn | apply bd1) | exact HB.out)) hb); have n1_ := Aside0.mk (hbox); have n2_ := Aside0.mk ((by rw [hg]; exact (bsz (by repeat (first | (with_reducible first | exact HB.out | apply bal | apply bdn | apply bd1) | exact HB.out))) : w.heap.size ≤ gb413)); have n3_ := Aside0.mk ((by rw [hg]; exact (bsz (by repeat (first | (with_reducible first | exact HB.out | apply bal | apply bdn | apply bd1) | exact HB.out))) : w.heap.size ≤ gb413)); clear HB; have HB := n0_; have BK413 := n1_; have GW413 := n2_; have GE413 := n3_; clear n0_ n1_ n2_ n3_; clear hb hbox hg) | ((with_reducible refine gds (N := 2) rfl ?_); refine bev ?hg (N := 2) ?hd (cs := #[.string (⟨#[]⟩ : ByteArray), .int .i64 0]) (t := 63) ?hr ?_; (case hd => rfl); (case hg => rfl); (case hr => first | (go_simp; done) | (go_simp; rfl)); intro gb414 hg w5 hbox hb; have n0_ := Aside0.mk (kbl (g := gb413) (o := .cells #[.string a0_0, .int .i64 a0_1] 63 (0, 0)) (by (with_reducible repeat (first | refine kdn ?_ _ | refine kdw ?_ | refine kal ?_ _)); exact BK413.out) hb); have n1_ := Aside0.mk (bsp (by repeat (first | (with_reducible first | exact HB.out | apply bal | apply bdn | apply bd1 | refine bst ?_ GE413.out) | exact HB.out)) hb); have n2_ := Aside0.mk (hbox); have n3_ := Aside0.mk ((by rw [hg]; exact (bsz (by repeat (first | (with_reducible first | exact HB.out | apply bal | apply bdn | apply bd1 | refine bst ?_ GE413.out) | exact HB.out))) : w.heap.size ≤ gb414)); have n4_ := Aside0.mk ((by rw [hg]; exact (bsz (by repeat (first | (with_reducible first | exact HB.out | apply bal | apply bdn | apply bd1 | refine bst ?_ GE413.out) | exact HB.out))) : w.heap.size ≤ gb414)); have n5_ := Aside0.mk ((by rw [hg]; exact Nat.ne_of_lt (blk_lt (g := gb413) (o := .cells #[.string a0_0, .int .i64 a0_1] 63 (0, 0)) (by (with_reducible repeat (first | refine kdn ?_ _ | refine kdw ?_ | refine kal ?_ _)); exact BK413.out)) : gb413 ≠ gb414)); have n6_ := Aside0.mk ((by rw [hg]; exact Nat.ne_of_gt (blk_lt (g := gb413) (o := .cells #[.string a0_0, .int .i64 a0_1] 63 (0, 0)) (by (with_reducible repeat (first | refine kdn ?_ _ | refine kdw ?_ | refine kal ?_ _)); exact BK413.out)) : gb414 ≠ gb413)); clear BK413; clear HB; have BK413 := n0_; have HB := n1_; have BK414 := n2_; have GW414 := n3_; have GE414 := n4_; have NB413_414 := n5_; have NB414_413 := n6_; clear n0_ n1_ n2_ n3_ n4_ n5_ n6_; clear hb hbox hg; have hnb6 := NB413_414.out; have hnc6 := NB414_413.out; have hcz7_0 : w5.cell? ⟨gb413, 0, none⟩ = some (.string a0_0) := (kcl BK413.out 0).trans rfl; have hcz7_1 : w5.cell? ⟨gb413, 1, none⟩ = some (.int .i64 a0_1) := (kcl BK413.out 1).trans rfl; have hfz7_0 := kfr BK413.out 0; have hfz7_1 := kfr BK413.out 1) | ((with_reducible refine gcl (f := 60) rfl ?_); refine gl_ (some 7) rfl rfl Try.func60 (by kernel_rfl) rfl #[.agg #[.string a0_0, .int .i64 a0_1]] rfl (by (try simp only [List.map_toArray, List.map_cons, List.map_nil]); first | done | rfl | (simp only [List.length_drop, List.length_take]; rfl)) ?_; (with_reducible refine (armoireref02_TakeU.calls k a0_0 a0_1 t415 t416 t417 _ A2.out).mono ?_); rintro e w8 ⟨rfl, hb⟩; refine ⟨_, rfl, ?_⟩; have n0_ := Aside0.mk (kbl (g := gb413) (o := .cells #[.string a0_0, .int .i64 a0_1] 63 (0, 0)) (by (with_reducible repeat (first | refine kdn ?_ _ | refine kdw ?_ | refine kal ?_ _)); exact BK413.out) hb); have n1_ := Aside0.mk (kbl (g := gb414) (o := .cells #[.string (⟨#[]⟩ : ByteArray), .int .i64 0] 63 (0, 0)) (by (with_reducible repeat (first | refine kdn ?_ _ | refine kdw ?_ | refine kal ?_ _)); exact BK414.out) hb); have n2_ := Aside0.mk (bsp (by repeat (first | (with_reducible first | exact HB.out | apply bal | apply bdn | apply bd1 | refine bst ?_ GE413.out | refine bst ?_ GE414.out) | exact HB.out)) hb); clear BK413; clear BK414; clear HB; have BK413 := n0_; have BK414 := n1_; have HB := n2_; clear n0_ n1_ n2_; (try clear hb); (try clear hb2); (try clear hk); (try clear hi); have hcz9_0 : w8.cell? ⟨gb413, 0, none⟩ = some (.string a0_0) := (kcl BK413.out 0).trans rfl; have hcz9_1 : w8.cell? ⟨gb413, 1, none⟩ = some (.int .i64 a0_1) := (kcl BK413.out 1).trans rfl; have hfz9_0 := kfr BK413.out 0; have hfz9_1 := kfr BK413.out 1; have hcz10_0 : w8.cell? ⟨gb414, 0, none⟩ = some (.string (⟨#[]⟩ : ByteArray)) := (kcl BK414.out 0).trans rfl; have hcz10_1 : w8.cell? ⟨gb414, 1, none⟩ = some (.int .i64 0) := (kcl BK414.out 1).trans rfl; have hfz10_0 := kfr BK414.out 0; have hfz10_1 := kfr BK414.out 1))
    refine bodyPost_ret (results_ct rfl _ _ gb414 63 #[.string t415, .int .i64 t416] (0, 0) _ rfl (by (with_reducible repeat (first | refine kdn ?_ _ | refine kdw ?_ | refine kal ?_ _)); refine kpt (cs := #[.string t415, .int .i64 0]) ?_ 1 _ rfl; (with_reducible repeat (first | refine kdn ?_ _ | refine kdw ?_ | refine kal ?_ _)); refine kpt (cs := #[.string (⟨#[]⟩ : ByteArray), .int .i64 0]) ?_ 0 _ rfl; (with_reducible repeat (first | refine kdn ?_ _ | refine kdw ?_ | refine kal ?_ _)); refine blk_far ?_ NB414_413.out _; (with_reducible repeat (first | refine kdn ?_ _ | refine kdw ?_ | refine kal ?_ _)); refine blk_far ?_ NB414_413.out _; (with_reducible repeat (first | refine kdn ?_ _ | refine kdw ?_ | refine kal ?_ _)); exact BK414.out) Try.underlying63 rfl (by kernel_rfl)) rfl ?_
    exact ⟨by first | rfl | (simp [errW_none, errW_some] <;> rfl) | (simp [*, errW_none, errW_some] <;> rfl), by repeat (first | (with_reducible first | exact HB.out | apply bal | apply bdn | apply bd1 | refine bst ?_ GE413.out | refine bst ?_ GE414.out) | exact HB.out)⟩
  rw [if_neg c3] at H
  have c3b0 : ((Int.tmod t417 2) == 1) = false := beq_eq_false_iff_ne.mpr c3
  have c3b1 : ((Int.tmod t417 2) != 1) = true := bne_iff_ne.mpr c3
  simp only [Option.some.injEq, Prod.mk.injEq] at H
  obtain ⟨rfl, rfl, rfl⟩ := H
  go_enter Try.func54, Try.ntmps54
  go_wp2_with (first | ((with_reducible refine gds (N := 1) rfl ?_); refine bev ?hg (N := 1) ?hd (cs := #[.string a0_0, .int .i64 a0_1]) (t := 63) ?hr ?_; (case hd => rfl); (case hg => rfl); (case hr => first | (go_simp; done) | (go_simp; rfl)); intro gb413 hg w11 hbox hb; have n0_ := Aside0.mk (bsp (by repeat (first | (with_reducible first | exact HB.out | apply bal | apply bdn | apply bd1) | exact HB.out)) hb); have n1_ := Aside0.mk (hbox); have n2_ := Aside0.mk ((by rw [hg]; exact (bsz (by repeat (first | (with_reducible first | exact HB.out | apply bal | apply bdn | apply bd1) | exact HB.out))) : w.heap.size ≤ gb413)); have n3_ := Aside0.mk ((by rw [hg]; exact (bsz (by repeat (first | (with_reducible first | exact HB.out | apply bal | apply bdn | apply bd1) | exact HB.out))) : w.heap.size ≤ gb413)); clear HB; have HB := n0_; have BK413 := n1_; have GW413 := n2_; have GE413 := n3_; clear n0_ n1_ n2_ n3_; clear hb hbox hg) | ((with_reducible refine gds (N := 2) rfl ?_); refine bev ?hg (N := 2) ?hd (cs := #[.string (⟨#[]⟩ : ByteArray), .int .i64 0]) (t := 63) ?hr ?_; (case hd => rfl); (case hg => rfl); (case hr => first | (go_simp; done) | (go_simp; rfl)); intro gb414 hg w12 hbox hb; have n0_ := Aside0.mk (kbl (g := gb413) (o := .cells #[.string a0_0, .int .i64 a0_1] 63 (0, 0)) (by (with_reducible repeat (first | refine kdn ?_ _ | refine kdw ?_ | refine kal ?_ _)); exact BK413.out) hb); have n1_ := Aside0.mk (bsp (by repeat (first | (with_reducible first | exact HB.out | apply bal | apply bdn | apply bd1 | refine bst ?_ GE413.out) | exact HB.out)) hb); have n2_ := Aside0.mk (hbox); have n3_ := Aside0.mk ((by rw [hg]; exact (bsz (by repeat (first | (with_reducible first | exact HB.out | apply bal | apply bdn | apply bd1 | refine bst ?_ GE413.out) | exact HB.out))) : w.heap.size ≤ gb414)); have n4_ := Aside0.mk ((by rw [hg]; exact (bsz (by repeat (first | (with_reducible first | exact HB.out | apply bal | apply bdn | apply bd1 | refine bst ?_ GE413.out) | exact HB.out))) : w.heap.size ≤ gb414)); have n5_ := Aside0.mk ((by rw [hg]; exact Nat.ne_of_lt (blk_lt (g := gb413) (o := .cells #[.string a0_0, .int .i64 a0_1] 63 (0, 0)) (by (with_reducible repeat (first | refine kdn ?_ _ | refine kdw ?_ | refine kal ?_ _)); exact BK413.out)) : gb413 ≠ gb414)); have n6_ := Aside0.mk ((by rw [hg]; exact Nat.ne_of_gt (blk_lt (g := gb413) (o := .cells #[.string a0_0, .int .i64 a0_1] 63 (0, 0)) (by (with_reducible repeat (first | refine kdn ?_ _ | refine kdw ?_ | refine kal ?_ _)); exact BK413.out)) : gb414 ≠ gb413)); clear BK413; clear HB; have BK413 := n0_; have HB := n1_; have BK414 := n2_; have GW414 := n3_; have GE414 := n4_; have NB413_414 := n5_; have NB414_413 := n6_; clear n0_ n1_ n2_ n3_ n4_ n5_ n6_; clear hb hbox hg; have hnb13 := NB413_414.out; have hnc13 := NB414_413.out; have hcz14_0 : w12.cell? ⟨gb413, 0, none⟩ = some (.string a0_0) := (kcl BK413.out 0).trans rfl; have hcz14_1 : w12.cell? ⟨gb413, 1, none⟩ = some (.int .i64 a0_1) := (kcl BK413.out 1).trans rfl; have hfz14_0 := kfr BK413.out 0; have hfz14_1 := kfr BK413.out 1) | ((with_reducible refine gcl (f := 60) rfl ?_); refine gl_ (some 7) rfl rfl Try.func60 (by kernel_rfl) rfl #[.agg #[.string a0_0, .int .i64 a0_1]] rfl (by (try simp only [List.map_toArray, List.map_cons, List.map_nil]); first | done | rfl | (simp only [List.length_drop, List.length_take]; rfl)) ?_; (with_reducible refine (armoireref02_TakeU.calls k a0_0 a0_1 t415 t416 t417 _ A2.out).mono ?_); rintro e w15 ⟨rfl, hb⟩; refine ⟨_, rfl, ?_⟩; have n0_ := Aside0.mk (kbl (g := gb413) (o := .cells #[.string a0_0, .int .i64 a0_1] 63 (0, 0)) (by (with_reducible repeat (first | refine kdn ?_ _ | refine kdw ?_ | refine kal ?_ _)); exact BK413.out) hb); have n1_ := Aside0.mk (kbl (g := gb414) (o := .cells #[.string (⟨#[]⟩ : ByteArray), .int .i64 0] 63 (0, 0)) (by (with_reducible repeat (first | refine kdn ?_ _ | refine kdw ?_ | refine kal ?_ _)); exact BK414.out) hb); have n2_ := Aside0.mk (bsp (by repeat (first | (with_reducible first | exact HB.out | apply bal | apply bdn | apply bd1 | refine bst ?_ GE413.out | refine bst ?_ GE414.out) | exact HB.out)) hb); clear BK413; clear BK414; clear HB; have BK413 := n0_; have BK414 := n1_; have HB := n2_; clear n0_ n1_ n2_; (try clear hb); (try clear hb2); (try clear hk); (try clear hi); have hcz16_0 : w15.cell? ⟨gb413, 0, none⟩ = some (.string a0_0) := (kcl BK413.out 0).trans rfl; have hcz16_1 : w15.cell? ⟨gb413, 1, none⟩ = some (.int .i64 a0_1) := (kcl BK413.out 1).trans rfl; have hfz16_0 := kfr BK413.out 0; have hfz16_1 := kfr BK413.out 1; have hcz17_0 : w15.cell? ⟨gb414, 0, none⟩ = some (.string (⟨#[]⟩ : ByteArray)) := (kcl BK414.out 0).trans rfl; have hcz17_1 : w15.cell? ⟨gb414, 1, none⟩ = some (.int .i64 0) := (kcl BK414.out 1).trans rfl; have hfz17_0 := kfr BK414.out 0; have hfz17_1 := kfr BK414.out 1))
  refine bodyPost_ret (results_ct rfl _ _ gb414 63 #[.string t415, .int .i64 t416] (0, 0) _ rfl (by (with_reducible repeat (first | refine kdn ?_ _ | refine kdw ?_ | refine kal ?_ _)); refine kpt (cs := #[.string t415, .int .i64 0]) ?_ 1 _ rfl; (with_reducible repeat (first | refine kdn ?_ _ | refine kdw ?_ | refine kal ?_ _)); refine kpt (cs := #[.string (⟨#[]⟩ : ByteArray), .int .i64 0]) ?_ 0 _ rfl; (with_reducible repeat (first | refine kdn ?_ _ | refine kdw ?_ | refine kal ?_ _)); refine blk_far ?_ NB414_413.out _; (with_reducible repeat (first | refine kdn ?_ _ | refine kdw ?_ | refine kal ?_ _)); refine blk_far ?_ NB414_413.out _; (with_reducible repeat (first | refine kdn ?_ _ | refine kdw ?_ | refine kal ?_ _)); exact BK414.out) Try.underlying63 rfl (by kernel_rfl)) rfl ?_
  exact ⟨by first | rfl | (simp [errW_none, errW_some] <;> rfl) | (simp [*, errW_none, errW_some] <;> rfl), by repeat (first | (with_reducible first | exact HB.out | apply bal | apply bdn | apply bd1 | refine bst ?_ GE413.out | refine bst ?_ GE414.out) | exact HB.out)⟩
end Go.Proofs.Ytkoojbkkkpljoaa.PA

