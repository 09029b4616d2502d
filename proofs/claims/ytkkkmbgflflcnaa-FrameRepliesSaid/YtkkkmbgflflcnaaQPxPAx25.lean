import Derived.Test.YtkkkmbgflflcnaaQPxPAx1
import Derived.Test.YtkkkmbgflflcnaaQPxPAx15
import Derived.Test.YtkkkmbgflflcnaaQPxPAx21
import Derived.Test.YtkkkmbgflflcnaaQPxPAx22
import Derived.Test.YtkkkmbgflflcnaaQPxPAx23
import Derived.Test.YtkkkmbgflflcnaaQPxPAx24
namespace Go.Proofs.Ytkkkmbgflflcnaa.PA
open Go.Proofs.Ytkkkmbgflflcnaa.PL
open Go.RowKit Go.Proofs.YtkkkmbgflflcnaaW.PrintWords Go.Proofs.YtkkkmbgflflcnaaW.PrintLast Go.Proofs.YtkkkmbgflflcnaaW.PrintMore
attribute [local go_sem] max2_int min2_int max_two min_two max_three min_three max_four min_four
set_option linter.unusedVariables false
set_option linter.unusedSimpArgs false
attribute [local go_sem high] eqA53
mutual
def armoirelaw24_FrameReplies.j0 : Nat → Bool → Int → Int → Int → ByteArray → Int → Int → Int → Int → ByteArray → Int → Option (Bool)
  | 0, _, _, _, _, _, _, _, _, _, _, _ => none
  | k + 1, x31, x459000, x459001, x459002, x459003, x459004, x460000, x460001, x460002, x460003, x460004 => if x31 = true then (some false) else ((frame_Reply_Check.f k x459000 x459001 x459002 x459003 x459004).bind fun t463 => (if t463 = 0 then ((frame_Reply_Text.f k x459000 x459001 x459002 x459003 x459004).bind fun t464 => ((frame_ParseReply.f k t464).bind fun bt465 => ((frame_Reply_Text.f k x459000 x459001 x459002 x459003 x459004).bind fun t472 => ((armoireref24_TextReply.f k x460000 x460001 x460002 x460003 x460004).bind fun t473 => (if t472.toList = t473.toList then (if (bt465.1 == x459000 && (bt465.2.1 == x459001 && ((bt465.2.2.1 == x459002 && (bt465.2.2.2.1.toList == x459003.toList && (bt465.2.2.2.2.1 == x459004)))))) = true then (armoirelaw24_FrameReplies.j1 k (bt465.2.2.2.2.2 == 0)) else (armoirelaw24_FrameReplies.j1 k false)) else (armoirelaw24_FrameReplies.j1 k false)))))) else (some true)))
def armoirelaw24_FrameReplies.j1 : Nat → Bool → Option (Bool)
  | 0, _ => none
  | k + 1, x6 => some x6
end
def armoirelaw24_FrameReplies.f (k : Nat) (a0 : Int) (a1 : Int) (a2_0 : Int) (a2_1 : ByteArray) (a2_2 : Int) : Option (Bool) := (armoirelaw01_Cut.f a2_1 28).bind fun t457 => ((armoirelaw24_awake.f k).bind fun t460 => (if t460 = true then ((frame_Reply_Check.f k a0 a1 a2_0 t457 a2_2).bind fun t461 => ((armoireref24_CheckReply.f k a0 a1 a2_0 t457 a2_2).bind fun t462 => (armoirelaw24_FrameReplies.j0 k (t461 != t462) a0 a1 a2_0 t457 a2_2 a0 a1 a2_0 t457 a2_2))) else (armoirelaw24_FrameReplies.j0 k true a0 a1 a2_0 t457 a2_2 a0 a1 a2_0 t457 a2_2)))
def armoirelaw24_FrameReplies.T4 : Bool × List (List Nat × List Nat) := (true, [([], []), ([0], [0]), ([1, 0], [1]), ([2], [2]), ([3, 2, 2], [2, 3]), ([2], [2]), ([5, 4, 2], [2, 5]), ([4, 6, 2], [2, 4, 6]), ([2, 7], [2, 7])])
def armoirelaw24_FrameReplies.B4 : List Nat := [0, 1, 3, 7, 15, 7, 63, 127, 255]
theorem armoirelaw24_FrameReplies.tab4 : rtab .any (opsOf Try.f6 4) = armoirelaw24_FrameReplies.T4 := by kernel_rfl
theorem armoirelaw24_FrameReplies.bits4 : waitsOk armoirelaw24_FrameReplies.T4.2 armoirelaw24_FrameReplies.B4 = true := by kernel_rfl
def armoirelaw24_FrameReplies.T9 : Bool × List (List Nat × List Nat) := (true, [([], []), ([0], [0]), ([], []), ([2, 1], [2]), ([1, 3], [1, 3]), ([4, 3], [4]), ([5], [5]), ([5], [5]), ([6, 7, 5], [5, 6, 7]), ([5, 8], [5, 8]), ([9, 5], [9]), ([10], [10]), ([11, 10], [10, 11]), ([10, 12], [10, 12]), ([13, 10, 0, 1, 2, 3, 4, 5, 6, 7, 8, 9, 10, 11, 12, 13], [13])])
def armoirelaw24_FrameReplies.B9 : List Nat := [0, 1, 0, 7, 15, 31, 63, 63, 255, 511, 1023, 2047, 4095, 8191, 16383]
theorem armoirelaw24_FrameReplies.tab9 : rtab .any (opsOf Try.f6 9) = armoirelaw24_FrameReplies.T9 := by kernel_rfl
theorem armoirelaw24_FrameReplies.bits9 : waitsOk armoirelaw24_FrameReplies.T9.2 armoirelaw24_FrameReplies.B9 = true := by kernel_rfl
set_option maxHeartbeats 2000000 in
set_option maxRecDepth 100000 in
theorem armoirelaw24_FrameReplies.calls (k : Nat) (a0 : Int) (a1 : Int) (a2_0 : Int) (a2_1 : ByteArray) (a2_2 : Int) (r : Bool) (w : World) (h : armoirelaw24_FrameReplies.f k a0 a1 a2_0 a2_1 a2_2 = some r) :
    Calls Try.prog 6 #[.int .i64 a0, .int .i64 a1, .agg #[.int .i64 a2_0, .string a2_1, .int .i64 a2_2]] w fun e w' => e = .returned (.bool r) ∧ Below w.heap.size w w' := by
  have hu51 := Try.underlying51
  have hu53 := Try.underlying53
  have hu58 := Try.underlying58
  have HB := Aside0.mk (Below.refl w.heap.size w)
  have H : ((armoirelaw01_Cut.f a2_1 28).bind fun t457 => ((armoirelaw24_awake.f k).bind fun t460 => (if t460 = true then ((frame_Reply_Check.f k a0 a1 a2_0 t457 a2_2).bind fun t461 => ((armoireref24_CheckReply.f k a0 a1 a2_0 t457 a2_2).bind fun t462 => (armoirelaw24_FrameReplies.j0 k (t461 != t462) a0 a1 a2_0 t457 a2_2 a0 a1 a2_0 t457 a2_2))) else (armoirelaw24_FrameReplies.j0 k true a0 a1 a2_0 t457 a2_2 a0 a1 a2_0 t457 a2_2)))) = some r := h
  clear h
  replace H := Option.bind_eq_some_iff.mp H
  obtain ⟨t457, A40, H⟩ := H
  replace H : ((armoirelaw24_awake.f k).bind fun t460 => (if t460 = true then ((frame_Reply_Check.f k a0 a1 a2_0 t457 a2_2).bind fun t461 => ((armoireref24_CheckReply.f k a0 a1 a2_0 t457 a2_2).bind fun t462 => (armoirelaw24_FrameReplies.j0 k (t461 != t462) a0 a1 a2_0 t457 a2_2 a0 a1 a2_0 t457 a2_2))) else (armoirelaw24_FrameReplies.j0 k true a0 a1 a2_0 t457 a2_2 a0 a1 a2_0 t457 a2_2))) = some r := H
  have A4 := Aside0.mk A40
  clear A40
  have HC5 := Aside0.mk H
  clear H
  go_enter Try.func6, Try.ntmps6
  go_upto_region 4 with (first | ((with_reducible refine gds (N := 5) rfl ?_); refine bev ?hg (N := 5) ?hd (cs := #[.int .i64 a2_0, .string a2_1, .int .i64 a2_2]) (t := 51) ?hr ?_; (case hd => rfl); (case hg => rfl); (case hr => first | (go_simp; done) | (go_simp; rfl)); intro gb456 hg w6 hbox hb; have n0_ := Aside0.mk (bsp (by repeat (first | (with_reducible first | exact HB.out | apply bal | apply bdn | apply bd1) | exact HB.out)) hb); have n1_ := Aside0.mk (hbox); have n2_ := Aside0.mk ((by rw [hg]; exact (bsz (by repeat (first | (with_reducible first | exact HB.out | apply bal | apply bdn | apply bd1) | exact HB.out))) : w.heap.size ≤ gb456)); have n3_ := Aside0.mk ((by rw [hg]; exact (bsz (by repeat (first | (with_reducible first | exact HB.out | apply bal | apply bdn | apply bd1) | exact HB.out))) : w.heap.size ≤ gb456)); clear HB; have HB := n0_; have BK456 := n1_; have GW456 := n2_; have GE456 := n3_; clear n0_ n1_ n2_ n3_; clear hb hbox hg; have hcz7_0 : w6.cell? ⟨gb456, 0, none⟩ = some (.int .i64 a2_0) := (kcl BK456.out 0).trans rfl; have hcz7_1 : w6.cell? ⟨gb456, 1, none⟩ = some (.string a2_1) := (kcl BK456.out 1).trans rfl; have hcz7_2 : w6.cell? ⟨gb456, 2, none⟩ = some (.int .i64 a2_2) := (kcl BK456.out 2).trans rfl; have hfz7_0 := kfr BK456.out 0; have hfz7_1 := kfr BK456.out 1; have hfz7_2 := kfr BK456.out 2) | ((with_reducible refine gcl (f := 7) rfl ?_); refine gl_ (some 13) rfl rfl Try.func7 (by kernel_rfl) rfl #[.string a2_1, .int .i64 28] rfl (by (try simp only [List.map_toArray, List.map_cons, List.map_nil]); first | done | rfl | (simp only [List.length_drop, List.length_take]; rfl)) ?_; (with_reducible refine (armoirelaw01_Cut.calls a2_1 28 t457 _ A4.out).mono ?_); rintro e w' ⟨rfl, ⟨nd, rfl⟩⟩; refine ⟨_, rfl, ?_⟩; (try (rw [dns w6]; generalize hq_ : World.drewN w6 _ = w6; have n0_ : Aside0 (w6.heap[gb456]? = some (.cells #[.int .i64 a2_0, .string a2_1, .int .i64 a2_2] 51 (0, 0))) := ⟨by rw [← hq_]; exact (by (with_reducible repeat (first | refine kdn ?_ _ | refine kdw ?_ | refine kal ?_ _)); exact BK456.out)⟩; have n1_ : Aside0 (Below w.heap.size w w6) := ⟨by rw [← hq_]; exact (by repeat (first | (with_reducible first | exact HB.out | apply bal | apply bdn | apply bd1 | refine bst ?_ GE456.out) | exact HB.out))⟩; clear BK456 HB hq_; have BK456 := n0_; have HB := n1_; clear n0_ n1_)); have hcz8_0 : w6.cell? ⟨gb456, 0, none⟩ = some (.int .i64 a2_0) := (kcl BK456.out 0).trans rfl; have hcz8_1 : w6.cell? ⟨gb456, 1, none⟩ = some (.string a2_1) := (kcl BK456.out 1).trans rfl; have hcz8_2 : w6.cell? ⟨gb456, 2, none⟩ = some (.int .i64 a2_2) := (kcl BK456.out 2).trans rfl; have hfz8_0 := kfr BK456.out 0; have hfz8_1 := kfr BK456.out 1; have hfz8_2 := kfr BK456.out 2) | ((with_reducible refine gds (N := 7) rfl ?_); refine bev ?hg (N := 7) ?hd (cs := #[.int .i64 0, .int .i64 0, .int .i64 0, .string (⟨#[]⟩ : ByteArray), .int .i64 0]) (t := 53) ?hr ?_; (case hd => rfl); (case hg => rfl); (case hr => first | (go_simp; done) | (go_simp; rfl)); intro gb458 hg w9 hbox hb; have n0_ := Aside0.mk (kbl (g := gb456) (o := .cells #[.int .i64 a2_0, .string t457, .int .i64 a2_2] 51 (0, 0)) (by (with_reducible repeat (first | refine kdn ?_ _ | refine kdw ?_ | refine kal ?_ _)); refine kpt (cs := #[.int .i64 a2_0, .string a2_1, .int .i64 a2_2]) ?_ 1 _ rfl; (with_reducible repeat (first | refine kdn ?_ _ | refine kdw ?_ | refine kal ?_ _)); exact BK456.out) hb); have n1_ := Aside0.mk (bsp (by repeat (first | (with_reducible first | exact HB.out | apply bal | apply bdn | apply bd1 | refine bst ?_ GE456.out) | exact HB.out)) hb); have n2_ := Aside0.mk (hbox); have n3_ := Aside0.mk ((by rw [hg]; exact (bsz (by repeat (first | (with_reducible first | exact HB.out | apply bal | apply bdn | apply bd1 | refine bst ?_ GE456.out) | exact HB.out))) : w.heap.size ≤ gb458)); have n4_ := Aside0.mk ((by rw [hg]; exact (bsz (by repeat (first | (with_reducible first | exact HB.out | apply bal | apply bdn | apply bd1 | refine bst ?_ GE456.out) | exact HB.out))) : w.heap.size ≤ gb458)); have n5_ := Aside0.mk ((by rw [hg]; exact Nat.ne_of_lt (blk_lt (g := gb456) (o := .cells #[.int .i64 a2_0, .string t457, .int .i64 a2_2] 51 (0, 0)) (by (with_reducible repeat (first | refine kdn ?_ _ | refine kdw ?_ | refine kal ?_ _)); refine kpt (cs := #[.int .i64 a2_0, .string a2_1, .int .i64 a2_2]) ?_ 1 _ rfl; (with_reducible repeat (first | refine kdn ?_ _ | refine kdw ?_ | refine kal ?_ _)); exact BK456.out)) : gb456 ≠ gb458)); have n6_ := Aside0.mk ((by rw [hg]; exact Nat.ne_of_gt (blk_lt (g := gb456) (o := .cells #[.int .i64 a2_0, .string t457, .int .i64 a2_2] 51 (0, 0)) (by (with_reducible repeat (first | refine kdn ?_ _ | refine kdw ?_ | refine kal ?_ _)); refine kpt (cs := #[.int .i64 a2_0, .string a2_1, .int .i64 a2_2]) ?_ 1 _ rfl; (with_reducible repeat (first | refine kdn ?_ _ | refine kdw ?_ | refine kal ?_ _)); exact BK456.out)) : gb458 ≠ gb456)); clear BK456; clear HB; have BK456 := n0_; have HB := n1_; have BK458 := n2_; have GW458 := n3_; have GE458 := n4_; have NB456_458 := n5_; have NB458_456 := n6_; clear n0_ n1_ n2_ n3_ n4_ n5_ n6_; clear hb hbox hg; have hnb10 := NB458_456.out; have hnc10 := NB456_458.out; have hcz11_0 : w9.cell? ⟨gb458, 0, none⟩ = some (.int .i64 0) := (kcl BK458.out 0).trans rfl; have hcz11_1 : w9.cell? ⟨gb458, 1, none⟩ = some (.int .i64 0) := (kcl BK458.out 1).trans rfl; have hcz11_2 : w9.cell? ⟨gb458, 2, none⟩ = some (.int .i64 0) := (kcl BK458.out 2).trans rfl; have hcz11_3 : w9.cell? ⟨gb458, 3, none⟩ = some (.string (⟨#[]⟩ : ByteArray)) := (kcl BK458.out 3).trans rfl; have hcz11_4 : w9.cell? ⟨gb458, 4, none⟩ = some (.int .i64 0) := (kcl BK458.out 4).trans rfl; have hfz11_0 := kfr BK458.out 0; have hfz11_1 := kfr BK458.out 1; have hfz11_2 := kfr BK458.out 2; have hfz11_3 := kfr BK458.out 3; have hfz11_4 := kfr BK458.out 4; have hcz12_0 : w9.cell? ⟨gb456, 0, none⟩ = some (.int .i64 a2_0) := (kcl BK456.out 0).trans rfl; have hcz12_1 : w9.cell? ⟨gb456, 1, none⟩ = some (.string t457) := (kcl BK456.out 1).trans rfl; have hcz12_2 : w9.cell? ⟨gb456, 2, none⟩ = some (.int .i64 a2_2) := (kcl BK456.out 2).trans rfl; have hfz12_0 := kfr BK456.out 0; have hfz12_1 := kfr BK456.out 1; have hfz12_2 := kfr BK456.out 2) | ((with_reducible refine gds (N := 8) rfl ?_); refine bev ?hg (N := 8) ?hd (cs := #[.int .i64 0, .int .i64 0, .int .i64 0, .string (⟨#[]⟩ : ByteArray), .int .i64 0]) (t := 58) ?hr ?_; (case hd => rfl); (case hg => rfl); (case hr => first | (go_simp; done) | (go_simp; rfl)); intro gb459 hg w13 hbox hb; have n0_ := Aside0.mk (kbl (g := gb456) (o := .cells #[.int .i64 a2_0, .string t457, .int .i64 a2_2] 51 (0, 0)) (by (with_reducible repeat (first | refine kdn ?_ _ | refine kdw ?_ | refine kal ?_ _)); refine blk_far ?_ NB456_458.out _; (with_reducible repeat (first | refine kdn ?_ _ | refine kdw ?_ | refine kal ?_ _)); refine blk_far ?_ NB456_458.out _; (with_reducible repeat (first | refine kdn ?_ _ | refine kdw ?_ | refine kal ?_ _)); refine blk_far ?_ NB456_458.out _; (with_reducible repeat (first | refine kdn ?_ _ | refine kdw ?_ | refine kal ?_ _)); refine blk_far ?_ NB456_458.out _; (with_reducible repeat (first | refine kdn ?_ _ | refine kdw ?_ | refine kal ?_ _)); refine blk_far ?_ NB456_458.out _; (with_reducible repeat (first | refine kdn ?_ _ | refine kdw ?_ | refine kal ?_ _)); exact BK456.out) hb); have n1_ := Aside0.mk (kbl (g := gb458) (o := .cells #[.int .i64 a0, .int .i64 a1, .int .i64 a2_0, .string t457, .int .i64 a2_2] 53 (0, 0)) (by (with_reducible repeat (first | refine kdn ?_ _ | refine kdw ?_ | refine kal ?_ _)); refine kpt (cs := #[.int .i64 a0, .int .i64 a1, .int .i64 a2_0, .string t457, .int .i64 0]) ?_ 4 _ rfl; (with_reducible repeat (first | refine kdn ?_ _ | refine kdw ?_ | refine kal ?_ _)); refine kpt (cs := #[.int .i64 a0, .int .i64 a1, .int .i64 a2_0, .string (⟨#[]⟩ : ByteArray), .int .i64 0]) ?_ 3 _ rfl; (with_reducible repeat (first | refine kdn ?_ _ | refine kdw ?_ | refine kal ?_ _)); refine kpt (cs := #[.int .i64 a0, .int .i64 a1, .int .i64 0, .string (⟨#[]⟩ : ByteArray), .int .i64 0]) ?_ 2 _ rfl; (with_reducible repeat (first | refine kdn ?_ _ | refine kdw ?_ | refine kal ?_ _)); refine kpt (cs := #[.int .i64 a0, .int .i64 0, .int .i64 0, .string (⟨#[]⟩ : ByteArray), .int .i64 0]) ?_ 1 _ rfl; (with_reducible repeat (first | refine kdn ?_ _ | refine kdw ?_ | refine kal ?_ _)); refine kpt (cs := #[.int .i64 0, .int .i64 0, .int .i64 0, .string (⟨#[]⟩ : ByteArray), .int .i64 0]) ?_ 0 _ rfl; (with_reducible repeat (first | refine kdn ?_ _ | refine kdw ?_ | refine kal ?_ _)); exact BK458.out) hb); have n2_ := Aside0.mk (bsp (by repeat (first | (with_reducible first | exact HB.out | apply bal | apply bdn | apply bd1 | refine bst ?_ GE456.out | refine bst ?_ GE458.out) | exact HB.out)) hb); have n3_ := Aside0.mk (hbox); have n4_ := Aside0.mk ((by rw [hg]; exact (bsz (by repeat (first | (with_reducible first | exact HB.out | apply bal | apply bdn | apply bd1 | refine bst ?_ GE456.out | refine bst ?_ GE458.out) | exact HB.out))) : w.heap.size ≤ gb459)); have n5_ := Aside0.mk ((by rw [hg]; exact (bsz (by repeat (first | (with_reducible first | exact HB.out | apply bal | apply bdn | apply bd1 | refine bst ?_ GE456.out | refine bst ?_ GE458.out) | exact HB.out))) : w.heap.size ≤ gb459)); have n6_ := Aside0.mk ((by rw [hg]; exact Nat.ne_of_lt (blk_lt (g := gb456) (o := .cells #[.int .i64 a2_0, .string t457, .int .i64 a2_2] 51 (0, 0)) (by (with_reducible repeat (first | refine kdn ?_ _ | refine kdw ?_ | refine kal ?_ _)); refine blk_far ?_ NB456_458.out _; (with_reducible repeat (first | refine kdn ?_ _ | refine kdw ?_ | refine kal ?_ _)); refine blk_far ?_ NB456_458.out _; (with_reducible repeat (first | refine kdn ?_ _ | refine kdw ?_ | refine kal ?_ _)); refine blk_far ?_ NB456_458.out _; (with_reducible repeat (first | refine kdn ?_ _ | refine kdw ?_ | refine kal ?_ _)); refine blk_far ?_ NB456_458.out _; (with_reducible repeat (first | refine kdn ?_ _ | refine kdw ?_ | refine kal ?_ _)); refine blk_far ?_ NB456_458.out _; (with_reducible repeat (first | refine kdn ?_ _ | refine kdw ?_ | refine kal ?_ _)); exact BK456.out)) : gb456 ≠ gb459)); have n7_ := Aside0.mk ((by rw [hg]; exact Nat.ne_of_gt (blk_lt (g := gb456) (o := .cells #[.int .i64 a2_0, .string t457, .int .i64 a2_2] 51 (0, 0)) (by (with_reducible repeat (first | refine kdn ?_ _ | refine kdw ?_ | refine kal ?_ _)); refine blk_far ?_ NB456_458.out _; (with_reducible repeat (first | refine kdn ?_ _ | refine kdw ?_ | refine kal ?_ _)); refine blk_far ?_ NB456_458.out _; (with_reducible repeat (first | refine kdn ?_ _ | refine kdw ?_ | refine kal ?_ _)); refine blk_far ?_ NB456_458.out _; (with_reducible repeat (first | refine kdn ?_ _ | refine kdw ?_ | refine kal ?_ _)); refine blk_far ?_ NB456_458.out _; (with_reducible repeat (first | refine kdn ?_ _ | refine kdw ?_ | refine kal ?_ _)); refine blk_far ?_ NB456_458.out _; (with_reducible repeat (first | refine kdn ?_ _ | refine kdw ?_ | refine kal ?_ _)); exact BK456.out)) : gb459 ≠ gb456)); have n8_ := Aside0.mk ((by rw [hg]; exact Nat.ne_of_lt (blk_lt (g := gb458) (o := .cells #[.int .i64 a0, .int .i64 a1, .int .i64 a2_0, .string t457, .int .i64 a2_2] 53 (0, 0)) (by (with_reducible repeat (first | refine kdn ?_ _ | refine kdw ?_ | refine kal ?_ _)); refine kpt (cs := #[.int .i64 a0, .int .i64 a1, .int .i64 a2_0, .string t457, .int .i64 0]) ?_ 4 _ rfl; (with_reducible repeat (first | refine kdn ?_ _ | refine kdw ?_ | refine kal ?_ _)); refine kpt (cs := #[.int .i64 a0, .int .i64 a1, .int .i64 a2_0, .string (⟨#[]⟩ : ByteArray), .int .i64 0]) ?_ 3 _ rfl; (with_reducible repeat (first | refine kdn ?_ _ | refine kdw ?_ | refine kal ?_ _)); refine kpt (cs := #[.int .i64 a0, .int .i64 a1, .int .i64 0, .string (⟨#[]⟩ : ByteArray), .int .i64 0]) ?_ 2 _ rfl; (with_reducible repeat (first | refine kdn ?_ _ | refine kdw ?_ | refine kal ?_ _)); refine kpt (cs := #[.int .i64 a0, .int .i64 0, .int .i64 0, .string (⟨#[]⟩ : ByteArray), .int .i64 0]) ?_ 1 _ rfl; (with_reducible repeat (first | refine kdn ?_ _ | refine kdw ?_ | refine kal ?_ _)); refine kpt (cs := #[.int .i64 0, .int .i64 0, .int .i64 0, .string (⟨#[]⟩ : ByteArray), .int .i64 0]) ?_ 0 _ rfl; (with_reducible repeat (first | refine kdn ?_ _ | refine kdw ?_ | refine kal ?_ _)); exact BK458.out)) : gb458 ≠ gb459)); have n9_ := Aside0.mk ((by rw [hg]; exact Nat.ne_of_gt (blk_lt (g := gb458) (o := .cells #[.int .i64 a0, .int .i64 a1, .int .i64 a2_0, .string t457, .int .i64 a2_2] 53 (0, 0)) (by (with_reducible repeat (first | refine kdn ?_ _ | refine kdw ?_ | refine kal ?_ _)); refine kpt (cs := #[.int .i64 a0, .int .i64 a1, .int .i64 a2_0, .string t457, .int .i64 0]) ?_ 4 _ rfl; (with_reducible repeat (first | refine kdn ?_ _ | refine kdw ?_ | refine kal ?_ _)); refine kpt (cs := #[.int .i64 a0, .int .i64 a1, .int .i64 a2_0, .string (⟨#[]⟩ : ByteArray), .int .i64 0]) ?_ 3 _ rfl; (with_reducible repeat (first | refine kdn ?_ _ | refine kdw ?_ | refine kal ?_ _)); refine kpt (cs := #[.int .i64 a0, .int .i64 a1, .int .i64 0, .string (⟨#[]⟩ : ByteArray), .int .i64 0]) ?_ 2 _ rfl; (with_reducible repeat (first | refine kdn ?_ _ | refine kdw ?_ | refine kal ?_ _)); refine kpt (cs := #[.int .i64 a0, .int .i64 0, .int .i64 0, .string (⟨#[]⟩ : ByteArray), .int .i64 0]) ?_ 1 _ rfl; (with_reducible repeat (first | refine kdn ?_ _ | refine kdw ?_ | refine kal ?_ _)); refine kpt (cs := #[.int .i64 0, .int .i64 0, .int .i64 0, .string (⟨#[]⟩ : ByteArray), .int .i64 0]) ?_ 0 _ rfl; (with_reducible repeat (first | refine kdn ?_ _ | refine kdw ?_ | refine kal ?_ _)); exact BK458.out)) : gb459 ≠ gb458)); clear BK456; clear BK458; clear HB; have BK456 := n0_; have BK458 := n1_; have HB := n2_; have BK459 := n3_; have GW459 := n4_; have GE459 := n5_; have NB456_459 := n6_; have NB459_456 := n7_; have NB458_459 := n8_; have NB459_458 := n9_; clear n0_ n1_ n2_ n3_ n4_ n5_ n6_ n7_ n8_ n9_; clear hb hbox hg; have hnb14 := NB459_456.out; have hnc14 := NB456_459.out; have hnb15 := NB459_458.out; have hnc15 := NB458_459.out; have hcz16_0 : w13.cell? ⟨gb459, 0, none⟩ = some (.int .i64 0) := (kcl BK459.out 0).trans rfl; have hcz16_1 : w13.cell? ⟨gb459, 1, none⟩ = some (.int .i64 0) := (kcl BK459.out 1).trans rfl; have hcz16_2 : w13.cell? ⟨gb459, 2, none⟩ = some (.int .i64 0) := (kcl BK459.out 2).trans rfl; have hcz16_3 : w13.cell? ⟨gb459, 3, none⟩ = some (.string (⟨#[]⟩ : ByteArray)) := (kcl BK459.out 3).trans rfl; have hcz16_4 : w13.cell? ⟨gb459, 4, none⟩ = some (.int .i64 0) := (kcl BK459.out 4).trans rfl; have hfz16_0 := kfr BK459.out 0; have hfz16_1 := kfr BK459.out 1; have hfz16_2 := kfr BK459.out 2; have hfz16_3 := kfr BK459.out 3; have hfz16_4 := kfr BK459.out 4))
  (try simp only [Act.put, List.setIfInBounds_toArray, List.set_cons_zero, List.set_cons_succ])
  go_cut [31] (fun v31 wc => ∃ (kq : Nat) (x31_4 : Bool), v31 = .bool x31_4 ∧ Aside0 (armoirelaw24_FrameReplies.j0 kq x31_4 a0 a1 a2_0 t457 a2_2 a0 a1 a2_0 t457 a2_2 = some r) ∧ Aside0 (kq ≤ k) ∧ Aside0 (wc.heap[gb456]? = some (.cells #[.int .i64 a2_0, .string t457, .int .i64 a2_2] 51 (0, 0))) ∧ Aside0 (wc.heap[gb458]? = some (.cells #[.int .i64 a0, .int .i64 a1, .int .i64 a2_0, .string t457, .int .i64 a2_2] 53 (0, 0))) ∧ Aside0 (wc.heap[gb459]? = some (.cells #[.int .i64 a0, .int .i64 a1, .int .i64 a2_0, .string t457, .int .i64 a2_2] 58 (0, 0))) ∧ Aside0 (Below w.heap.size w wc))
  case first =>
    have H := HC5.out
    clear HC5
    replace H := Option.bind_eq_some_iff.mp H
    obtain ⟨t460, A170, H⟩ := H
    replace H : (if t460 = true then ((frame_Reply_Check.f k a0 a1 a2_0 t457 a2_2).bind fun t461 => ((armoireref24_CheckReply.f k a0 a1 a2_0 t457 a2_2).bind fun t462 => (armoirelaw24_FrameReplies.j0 k (t461 != t462) a0 a1 a2_0 t457 a2_2 a0 a1 a2_0 t457 a2_2))) else (armoirelaw24_FrameReplies.j0 k true a0 a1 a2_0 t457 a2_2 a0 a1 a2_0 t457 a2_2)) = some r := H
    have A17 := Aside0.mk A170
    clear A170
    by_cases c18 : t460 = true
    rotate_left
    · replace c18 := Bool.eq_false_iff.mpr c18
      subst c18
      have H1 : (armoirelaw24_FrameReplies.j0 k true a0 a1 a2_0 t457 a2_2 a0 a1 a2_0 t457 a2_2) = some r := by rw [if_neg (show ¬ (false = true) by decide)] at H; exact H
      clear H
      have H := H1
      clear H1
      have H' := Aside0.mk H
      clear H
      try go_wp2
      have n0_ : Aside0 ((((((w13.setCell ⟨gb459, 0, none⟩ (.int .i64 a0)).setCell ⟨gb459, 1, none⟩ (.int .i64 a1)).setCell ⟨gb459, 2, none⟩ (.int .i64 a2_0)).setCell ⟨gb459, 3, none⟩ (.string t457)).setCell ⟨gb459, 4, none⟩ (.int .i64 a2_2)).heap[gb456]? = some (.cells #[.int .i64 a2_0, .string t457, .int .i64 a2_2] 51 (0, 0))) := ⟨by (with_reducible repeat (first | refine kdn ?_ _ | refine kdw ?_ | refine kal ?_ _)); refine blk_far ?_ NB456_459.out _; (with_reducible repeat (first | refine kdn ?_ _ | refine kdw ?_ | refine kal ?_ _)); refine blk_far ?_ NB456_459.out _; (with_reducible repeat (first | refine kdn ?_ _ | refine kdw ?_ | refine kal ?_ _)); refine blk_far ?_ NB456_459.out _; (with_reducible repeat (first | refine kdn ?_ _ | refine kdw ?_ | refine kal ?_ _)); refine blk_far ?_ NB456_459.out _; (with_reducible repeat (first | refine kdn ?_ _ | refine kdw ?_ | refine kal ?_ _)); refine blk_far ?_ NB456_459.out _; (with_reducible repeat (first | refine kdn ?_ _ | refine kdw ?_ | refine kal ?_ _)); exact BK456.out⟩
      have n1_ : Aside0 ((((((w13.setCell ⟨gb459, 0, none⟩ (.int .i64 a0)).setCell ⟨gb459, 1, none⟩ (.int .i64 a1)).setCell ⟨gb459, 2, none⟩ (.int .i64 a2_0)).setCell ⟨gb459, 3, none⟩ (.string t457)).setCell ⟨gb459, 4, none⟩ (.int .i64 a2_2)).heap[gb458]? = some (.cells #[.int .i64 a0, .int .i64 a1, .int .i64 a2_0, .string t457, .int .i64 a2_2] 53 (0, 0))) := ⟨by (with_reducible repeat (first | refine kdn ?_ _ | refine kdw ?_ | refine kal ?_ _)); refine blk_far ?_ NB458_459.out _; (with_reducible repeat (first | refine kdn ?_ _ | refine kdw ?_ | refine kal ?_ _)); refine blk_far ?_ NB458_459.out _; (with_reducible repeat (first | refine kdn ?_ _ | refine kdw ?_ | refine kal ?_ _)); refine blk_far ?_ NB458_459.out _; (with_reducible repeat (first | refine kdn ?_ _ | refine kdw ?_ | refine kal ?_ _)); refine blk_far ?_ NB458_459.out _; (with_reducible repeat (first | refine kdn ?_ _ | refine kdw ?_ | refine kal ?_ _)); refine blk_far ?_ NB458_459.out _; (with_reducible repeat (first | refine kdn ?_ _ | refine kdw ?_ | refine kal ?_ _)); exact BK458.out⟩
      have n2_ : Aside0 ((((((w13.setCell ⟨gb459, 0, none⟩ (.int .i64 a0)).setCell ⟨gb459, 1, none⟩ (.int .i64 a1)).setCell ⟨gb459, 2, none⟩ (.int .i64 a2_0)).setCell ⟨gb459, 3, none⟩ (.string t457)).setCell ⟨gb459, 4, none⟩ (.int .i64 a2_2)).heap[gb459]? = some (.cells #[.int .i64 a0, .int .i64 a1, .int .i64 a2_0, .string t457, .int .i64 a2_2] 58 (0, 0))) := ⟨by (with_reducible repeat (first | refine kdn ?_ _ | refine kdw ?_ | refine kal ?_ _)); refine kpt (cs := #[.int .i64 a0, .int .i64 a1, .int .i64 a2_0, .string t457, .int .i64 0]) ?_ 4 _ rfl; (with_reducible repeat (first | refine kdn ?_ _ | refine kdw ?_ | refine kal ?_ _)); refine kpt (cs := #[.int .i64 a0, .int .i64 a1, .int .i64 a2_0, .string (⟨#[]⟩ : ByteArray), .int .i64 0]) ?_ 3 _ rfl; (with_reducible repeat (first | refine kdn ?_ _ | refine kdw ?_ | refine kal ?_ _)); refine kpt (cs := #[.int .i64 a0, .int .i64 a1, .int .i64 0, .string (⟨#[]⟩ : ByteArray), .int .i64 0]) ?_ 2 _ rfl; (with_reducible repeat (first | refine kdn ?_ _ | refine kdw ?_ | refine kal ?_ _)); refine kpt (cs := #[.int .i64 a0, .int .i64 0, .int .i64 0, .string (⟨#[]⟩ : ByteArray), .int .i64 0]) ?_ 1 _ rfl; (with_reducible repeat (first | refine kdn ?_ _ | refine kdw ?_ | refine kal ?_ _)); refine kpt (cs := #[.int .i64 0, .int .i64 0, .int .i64 0, .string (⟨#[]⟩ : ByteArray), .int .i64 0]) ?_ 0 _ rfl; (with_reducible repeat (first | refine kdn ?_ _ | refine kdw ?_ | refine kal ?_ _)); exact BK459.out⟩
      have n3_ : Aside0 (Below w.heap.size w (((((w13.setCell ⟨gb459, 0, none⟩ (.int .i64 a0)).setCell ⟨gb459, 1, none⟩ (.int .i64 a1)).setCell ⟨gb459, 2, none⟩ (.int .i64 a2_0)).setCell ⟨gb459, 3, none⟩ (.string t457)).setCell ⟨gb459, 4, none⟩ (.int .i64 a2_2))) := ⟨by repeat (first | (with_reducible first | exact HB.out | apply bal | apply bdn | apply bd1 | refine bst ?_ GE456.out | refine bst ?_ GE458.out | refine bst ?_ GE459.out) | exact HB.out)⟩
      (try clear BK456)
      (try clear BK458)
      (try clear BK459)
      (try clear HB)
      generalize (((((w13.setCell ⟨gb459, 0, none⟩ (.int .i64 a0)).setCell ⟨gb459, 1, none⟩ (.int .i64 a1)).setCell ⟨gb459, 2, none⟩ (.int .i64 a2_0)).setCell ⟨gb459, 3, none⟩ (.string t457)).setCell ⟨gb459, 4, none⟩ (.int .i64 a2_2)) = w26 at n0_ n1_ n2_ n3_ ⊢
      have BK456 := n0_
      have BK458 := n1_
      have BK459 := n2_
      have HB := n3_
      clear n0_ n1_ n2_ n3_
      have n0_ := Aside0.mk (kdw BK456.out)
      have n1_ := Aside0.mk (kdw BK458.out)
      have n2_ := Aside0.mk (kdw BK459.out)
      have n3_ := Aside0.mk (bd1 HB.out)
      clear BK456
      clear BK458
      clear BK459
      clear HB
      have BK456 := n0_
      have BK458 := n1_
      have BK459 := n2_
      have HB := n3_
      clear n0_ n1_ n2_ n3_
      refine start_ (n := 9) (S := fun w' => True) (ds := []) #[false,false,false,false,false,false,false,false,false] (by kernel_rfl) rfl rfl trivial (fun hHeld => ?_); refine with_tabW armoirelaw24_FrameReplies.tab4 armoirelaw24_FrameReplies.bits4 (fun HT_ HW_ => ?_)
      generalize w26.drew = w27 at BK456 BK458 BK459 HB hHeld ⊢
      refine one_ (i := 0) (N := some 23) #[true,false,false,false,false,false,false,false,false] rfl rfl (one_of HT_.out (by kernel_rfl)) (by decide) (fun K hK => ?_)
      refine goes_ Try.func9 (by kernel_rfl) rfl #[] (by rfl) rfl rfl (by (try simp only [List.map_toArray, List.map_cons, List.map_nil]); first | done | rfl | (simp only [List.length_drop, List.length_take]; rfl) | (simp only [Act.eval, Array.getD_eq_getD_getElem?, Option.getD_some, *]; done) | (simp only [Array.mk.injEq, List.cons.injEq, Value.int.injEq, true_and, and_true]; first | omega | (simp [IntKind.wrap, IntKind.bits, IntKind.signed]; omega))) ?_
      with_reducible refine (armoirelaw24_awake.calls k  false _ A17.out).mono ?_
      rintro e w28 ⟨rfl, hb⟩
      refine ⟨_, rfl, ?_⟩
      have n0_ := Aside0.mk (kbl (g := gb456) (o := .cells #[.int .i64 a2_0, .string t457, .int .i64 a2_2] 51 (0, 0)) (by (with_reducible repeat (first | refine kdn ?_ _ | refine kdw ?_ | refine kal ?_ _)); exact BK456.out) hb)
      have n1_ := Aside0.mk (kbl (g := gb458) (o := .cells #[.int .i64 a0, .int .i64 a1, .int .i64 a2_0, .string t457, .int .i64 a2_2] 53 (0, 0)) (by (with_reducible repeat (first | refine kdn ?_ _ | refine kdw ?_ | refine kal ?_ _)); exact BK458.out) hb)
      have n2_ := Aside0.mk (kbl (g := gb459) (o := .cells #[.int .i64 a0, .int .i64 a1, .int .i64 a2_0, .string t457, .int .i64 a2_2] 58 (0, 0)) (by (with_reducible repeat (first | refine kdn ?_ _ | refine kdw ?_ | refine kal ?_ _)); exact BK459.out) hb)
      have n3_ := Aside0.mk (bsp (by repeat (first | (with_reducible first | exact HB.out | apply bal | apply bdn | apply bd1 | refine bst ?_ GE456.out | refine bst ?_ GE458.out | refine bst ?_ GE459.out) | exact HB.out)) hb)
      clear BK456
      clear BK458
      clear BK459
      clear HB
      have BK456 := n0_
      have BK458 := n1_
      have BK459 := n2_
      have HB := n3_
      clear n0_ n1_ n2_ n3_
      (try clear hb)
      (try clear hb2)
      (try clear hk)
      (try clear hi)
      refine hK.out _ _ trivial (fun hHeld => ?_)
      clear hK K
      refine norm_ (a' := ?_) ?_ ?_
      rotate_left
      · show Act.put _ (some 23) _ = _
        simp only [Act.put, List.setIfInBounds_toArray, List.set_cons_zero, List.set_cons_succ, i64_w, i32_w]
        rfl
      refine pure_ (i := 1) (N := some 24) (v := ?_) (a' := ?_) (bA 9 3) rfl rfl (any_of HT_.out (by kernel_rfl)) (fun _ _ _ h => h) (Or.inl ⟨by rfl, ?_⟩) ?_ ?_
      rotate_left; (intro w'; go_simp; with_reducible rfl); rotate_left; (simp only [Act.put, List.setIfInBounds_toArray, List.set_cons_zero, List.set_cons_succ, i64_w, i32_w]; rfl)
      refine pure_ (i := 2) (N := some 25) (v := ?_) (a' := ?_) (bA 9 7) rfl rfl (any_of HT_.out (by kernel_rfl)) (fun _ _ _ h => h) (Or.inl ⟨by rfl, ?_⟩) ?_ ?_
      rotate_left; (intro w'; go_simp; with_reducible rfl); rotate_left; (simp only [Act.put, List.setIfInBounds_toArray, List.set_cons_zero, List.set_cons_succ, i64_w, i32_w]; rfl)
      refine pure_ (i := 3) (N := some 26) (v := undef) (a' := ?_) (bA 9 15) rfl rfl (any_of HT_.out (by kernel_rfl)) (fun _ _ _ h => h) (Or.inr ⟨by rfl, rfl⟩) ?_ ?_
      rotate_left; (simp only [Act.put, List.setIfInBounds_toArray, List.set_cons_zero, List.set_cons_succ, i64_w, i32_w]; rfl)
      refine pure_ (i := 4) (N := some 27) (v := undef) (a' := ?_) (bA 9 31) rfl rfl (any_of HT_.out (by kernel_rfl)) (fun _ _ _ h => h) (Or.inr ⟨by rfl, rfl⟩) ?_ ?_
      rotate_left; (simp only [Act.put, List.setIfInBounds_toArray, List.set_cons_zero, List.set_cons_succ, i64_w, i32_w]; rfl)
      refine pure_ (i := 5) (N := some 28) (v := undef) (a' := ?_) (bA 9 63) rfl rfl (any_of HT_.out (by kernel_rfl)) (fun _ _ _ h => h) (Or.inr ⟨by rfl, rfl⟩) ?_ ?_
      rotate_left; (simp only [Act.put, List.setIfInBounds_toArray, List.set_cons_zero, List.set_cons_succ, i64_w, i32_w]; rfl)
      refine pure_ (i := 6) (N := some 29) (v := undef) (a' := ?_) (bA 9 127) rfl rfl (any_of HT_.out (by kernel_rfl)) (fun _ _ _ h => h) (Or.inr ⟨by rfl, rfl⟩) ?_ ?_
      rotate_left; (simp only [Act.put, List.setIfInBounds_toArray, List.set_cons_zero, List.set_cons_succ, i64_w, i32_w]; rfl)
      refine pure_ (i := 7) (N := some 30) (v := undef) (a' := ?_) (bA 9 255) rfl rfl (any_of HT_.out (by kernel_rfl)) (fun _ _ _ h => h) (Or.inr ⟨by rfl, rfl⟩) ?_ ?_
      rotate_left; (simp only [Act.put, List.setIfInBounds_toArray, List.set_cons_zero, List.set_cons_succ, i64_w, i32_w]; rfl)
      refine pure_ (i := 8) (N := some 31) (v := ?_) (a' := ?_) (bA 9 511) rfl rfl (any_of HT_.out (by kernel_rfl)) (fun _ _ _ h => h) (Or.inl ⟨by rfl, ?_⟩) ?_ ?_
      rotate_left; (intro w'; go_simp; with_reducible rfl); rotate_left; (simp only [Act.put, List.setIfInBounds_toArray, List.set_cons_zero, List.set_cons_succ, i64_w, i32_w]; rfl)
      refine done_ (done_of HT_.out (by kernel_rfl)) ?_
      try go_wp2
      go_meet
      case rel => exact ⟨_, (true), (by first | rfl | (simp; done) | (simp [*]; done) | exact emp1_ _ | exact (emp1_ _).symm | exact emp2_ _ | exact (emp2_ _).symm), H', ⟨by first | omega | exact Nat.le_refl _⟩, ⟨by (with_reducible repeat (first | refine kdn ?_ _ | refine kdw ?_ | refine kal ?_ _)); exact BK456.out⟩, ⟨by (with_reducible repeat (first | refine kdn ?_ _ | refine kdw ?_ | refine kal ?_ _)); exact BK458.out⟩, ⟨by (with_reducible repeat (first | refine kdn ?_ _ | refine kdw ?_ | refine kal ?_ _)); exact BK459.out⟩, ⟨by repeat (first | (with_reducible first | exact HB.out | apply bal | apply bdn | apply bd1 | refine bst ?_ GE456.out | refine bst ?_ GE458.out | refine bst ?_ GE459.out) | exact HB.out)⟩⟩
    subst c18
    have H1 : ((frame_Reply_Check.f k a0 a1 a2_0 t457 a2_2).bind fun t461 => ((armoireref24_CheckReply.f k a0 a1 a2_0 t457 a2_2).bind fun t462 => (armoirelaw24_FrameReplies.j0 k (t461 != t462) a0 a1 a2_0 t457 a2_2 a0 a1 a2_0 t457 a2_2))) = some r := by rw [if_pos rfl] at H; exact H
    clear H
    have H := H1
    clear H1
    replace H := Option.bind_eq_some_iff.mp H
    obtain ⟨t461, A190, H⟩ := H
    replace H : ((armoireref24_CheckReply.f k a0 a1 a2_0 t457 a2_2).bind fun t462 => (armoirelaw24_FrameReplies.j0 k (t461 != t462) a0 a1 a2_0 t457 a2_2 a0 a1 a2_0 t457 a2_2)) = some r := H
    have A19 := Aside0.mk A190
    clear A190
    replace H := Option.bind_eq_some_iff.mp H
    obtain ⟨t462, A200, H⟩ := H
    replace H : (armoirelaw24_FrameReplies.j0 k (t461 != t462) a0 a1 a2_0 t457 a2_2 a0 a1 a2_0 t457 a2_2) = some r := H
    have A20 := Aside0.mk A200
    clear A200
    have H' := Aside0.mk H
    clear H
    try go_wp2
    have n0_ : Aside0 ((((((w13.setCell ⟨gb459, 0, none⟩ (.int .i64 a0)).setCell ⟨gb459, 1, none⟩ (.int .i64 a1)).setCell ⟨gb459, 2, none⟩ (.int .i64 a2_0)).setCell ⟨gb459, 3, none⟩ (.string t457)).setCell ⟨gb459, 4, none⟩ (.int .i64 a2_2)).heap[gb456]? = some (.cells #[.int .i64 a2_0, .string t457, .int .i64 a2_2] 51 (0, 0))) := ⟨by (with_reducible repeat (first | refine kdn ?_ _ | refine kdw ?_ | refine kal ?_ _)); refine blk_far ?_ NB456_459.out _; (with_reducible repeat (first | refine kdn ?_ _ | refine kdw ?_ | refine kal ?_ _)); refine blk_far ?_ NB456_459.out _; (with_reducible repeat (first | refine kdn ?_ _ | refine kdw ?_ | refine kal ?_ _)); refine blk_far ?_ NB456_459.out _; (with_reducible repeat (first | refine kdn ?_ _ | refine kdw ?_ | refine kal ?_ _)); refine blk_far ?_ NB456_459.out _; (with_reducible repeat (first | refine kdn ?_ _ | refine kdw ?_ | refine kal ?_ _)); refine blk_far ?_ NB456_459.out _; (with_reducible repeat (first | refine kdn ?_ _ | refine kdw ?_ | refine kal ?_ _)); exact BK456.out⟩
    have n1_ : Aside0 ((((((w13.setCell ⟨gb459, 0, none⟩ (.int .i64 a0)).setCell ⟨gb459, 1, none⟩ (.int .i64 a1)).setCell ⟨gb459, 2, none⟩ (.int .i64 a2_0)).setCell ⟨gb459, 3, none⟩ (.string t457)).setCell ⟨gb459, 4, none⟩ (.int .i64 a2_2)).heap[gb458]? = some (.cells #[.int .i64 a0, .int .i64 a1, .int .i64 a2_0, .string t457, .int .i64 a2_2] 53 (0, 0))) := ⟨by (with_reducible repeat (first | refine kdn ?_ _ | refine kdw ?_ | refine kal ?_ _)); refine blk_far ?_ NB458_459.out _; (with_reducible repeat (first | refine kdn ?_ _ | refine kdw ?_ | refine kal ?_ _)); refine blk_far ?_ NB458_459.out _; (with_reducible repeat (first | refine kdn ?_ _ | refine kdw ?_ | refine kal ?_ _)); refine blk_far ?_ NB458_459.out _; (with_reducible repeat (first | refine kdn ?_ _ | refine kdw ?_ | refine kal ?_ _)); refine blk_far ?_ NB458_459.out _; (with_reducible repeat (first | refine kdn ?_ _ | refine kdw ?_ | refine kal ?_ _)); refine blk_far ?_ NB458_459.out _; (with_reducible repeat (first | refine kdn ?_ _ | refine kdw ?_ | refine kal ?_ _)); exact BK458.out⟩
    have n2_ : Aside0 ((((((w13.setCell ⟨gb459, 0, none⟩ (.int .i64 a0)).setCell ⟨gb459, 1, none⟩ (.int .i64 a1)).setCell ⟨gb459, 2, none⟩ (.int .i64 a2_0)).setCell ⟨gb459, 3, none⟩ (.string t457)).setCell ⟨gb459, 4, none⟩ (.int .i64 a2_2)).heap[gb459]? = some (.cells #[.int .i64 a0, .int .i64 a1, .int .i64 a2_0, .string t457, .int .i64 a2_2] 58 (0, 0))) := ⟨by (with_reducible repeat (first | refine kdn ?_ _ | refine kdw ?_ | refine kal ?_ _)); refine kpt (cs := #[.int .i64 a0, .int .i64 a1, .int .i64 a2_0, .string t457, .int .i64 0]) ?_ 4 _ rfl; (with_reducible repeat (first | refine kdn ?_ _ | refine kdw ?_ | refine kal ?_ _)); refine kpt (cs := #[.int .i64 a0, .int .i64 a1, .int .i64 a2_0, .string (⟨#[]⟩ : ByteArray), .int .i64 0]) ?_ 3 _ rfl; (with_reducible repeat (first | refine kdn ?_ _ | refine kdw ?_ | refine kal ?_ _)); refine kpt (cs := #[.int .i64 a0, .int .i64 a1, .int .i64 0, .string (⟨#[]⟩ : ByteArray), .int .i64 0]) ?_ 2 _ rfl; (with_reducible repeat (first | refine kdn ?_ _ | refine kdw ?_ | refine kal ?_ _)); refine kpt (cs := #[.int .i64 a0, .int .i64 0, .int .i64 0, .string (⟨#[]⟩ : ByteArray), .int .i64 0]) ?_ 1 _ rfl; (with_reducible repeat (first | refine kdn ?_ _ | refine kdw ?_ | refine kal ?_ _)); refine kpt (cs := #[.int .i64 0, .int .i64 0, .int .i64 0, .string (⟨#[]⟩ : ByteArray), .int .i64 0]) ?_ 0 _ rfl; (with_reducible repeat (first | refine kdn ?_ _ | refine kdw ?_ | refine kal ?_ _)); exact BK459.out⟩
    have n3_ : Aside0 (Below w.heap.size w (((((w13.setCell ⟨gb459, 0, none⟩ (.int .i64 a0)).setCell ⟨gb459, 1, none⟩ (.int .i64 a1)).setCell ⟨gb459, 2, none⟩ (.int .i64 a2_0)).setCell ⟨gb459, 3, none⟩ (.string t457)).setCell ⟨gb459, 4, none⟩ (.int .i64 a2_2))) := ⟨by repeat (first | (with_reducible first | exact HB.out | apply bal | apply bdn | apply bd1 | refine bst ?_ GE456.out | refine bst ?_ GE458.out | refine bst ?_ GE459.out) | exact HB.out)⟩
    (try clear BK456)
    (try clear BK458)
    (try clear BK459)
    (try clear HB)
    generalize (((((w13.setCell ⟨gb459, 0, none⟩ (.int .i64 a0)).setCell ⟨gb459, 1, none⟩ (.int .i64 a1)).setCell ⟨gb459, 2, none⟩ (.int .i64 a2_0)).setCell ⟨gb459, 3, none⟩ (.string t457)).setCell ⟨gb459, 4, none⟩ (.int .i64 a2_2)) = w21 at n0_ n1_ n2_ n3_ ⊢
    have BK456 := n0_
    have BK458 := n1_
    have BK459 := n2_
    have HB := n3_
    clear n0_ n1_ n2_ n3_
    have n0_ := Aside0.mk (kdw BK456.out)
    have n1_ := Aside0.mk (kdw BK458.out)
    have n2_ := Aside0.mk (kdw BK459.out)
    have n3_ := Aside0.mk (bd1 HB.out)
    clear BK456
    clear BK458
    clear BK459
    clear HB
    have BK456 := n0_
    have BK458 := n1_
    have BK459 := n2_
    have HB := n3_
    clear n0_ n1_ n2_ n3_
    refine start_ (n := 9) (S := fun w' => w'.cell? ⟨gb458, 0, none⟩ = some (.int .i64 a0) ∧ w'.cell? ⟨gb458, 1, none⟩ = some (.int .i64 a1) ∧ w'.cell? ⟨gb458, 2, none⟩ = some (.int .i64 a2_0) ∧ w'.cell? ⟨gb458, 3, none⟩ = some (.string t457) ∧ w'.cell? ⟨gb458, 4, none⟩ = some (.int .i64 a2_2) ∧ w'.cell? ⟨gb459, 0, none⟩ = some (.int .i64 a0) ∧ w'.cell? ⟨gb459, 1, none⟩ = some (.int .i64 a1) ∧ w'.cell? ⟨gb459, 2, none⟩ = some (.int .i64 a2_0) ∧ w'.cell? ⟨gb459, 3, none⟩ = some (.string t457) ∧ w'.cell? ⟨gb459, 4, none⟩ = some (.int .i64 a2_2)) (ds := []) #[false,false,false,false,false,false,false,false,false] (by kernel_rfl) rfl rfl ⟨(kcl BK458.out 0).trans rfl, (kcl BK458.out 1).trans rfl, (kcl BK458.out 2).trans rfl, (kcl BK458.out 3).trans rfl, (kcl BK458.out 4).trans rfl, (kcl BK459.out 0).trans rfl, (kcl BK459.out 1).trans rfl, (kcl BK459.out 2).trans rfl, (kcl BK459.out 3).trans rfl, (kcl BK459.out 4).trans rfl⟩ (fun hHeld => ?_); refine with_tabW armoirelaw24_FrameReplies.tab4 armoirelaw24_FrameReplies.bits4 (fun HT_ HW_ => ?_)
    generalize w21.drew = w22 at BK456 BK458 BK459 HB hHeld ⊢
    refine one_ (i := 0) (N := some 23) #[true,false,false,false,false,false,false,false,false] rfl rfl (one_of HT_.out (by kernel_rfl)) (by decide) (fun K hK => ?_)
    refine goes_ Try.func9 (by kernel_rfl) rfl #[] (by rfl) rfl rfl (by (try simp only [List.map_toArray, List.map_cons, List.map_nil]); first | done | rfl | (simp only [List.length_drop, List.length_take]; rfl) | (simp only [Act.eval, Array.getD_eq_getD_getElem?, Option.getD_some, *]; done) | (simp only [Array.mk.injEq, List.cons.injEq, Value.int.injEq, true_and, and_true]; first | omega | (simp [IntKind.wrap, IntKind.bits, IntKind.signed]; omega))) ?_
    with_reducible refine (armoirelaw24_awake.calls k  true _ A17.out).mono ?_
    rintro e w23 ⟨rfl, hb⟩
    refine ⟨_, rfl, ?_⟩
    have n0_ := Aside0.mk (kbl (g := gb456) (o := .cells #[.int .i64 a2_0, .string t457, .int .i64 a2_2] 51 (0, 0)) (by (with_reducible repeat (first | refine kdn ?_ _ | refine kdw ?_ | refine kal ?_ _)); exact BK456.out) hb)
    have n1_ := Aside0.mk (kbl (g := gb458) (o := .cells #[.int .i64 a0, .int .i64 a1, .int .i64 a2_0, .string t457, .int .i64 a2_2] 53 (0, 0)) (by (with_reducible repeat (first | refine kdn ?_ _ | refine kdw ?_ | refine kal ?_ _)); exact BK458.out) hb)
    have n2_ := Aside0.mk (kbl (g := gb459) (o := .cells #[.int .i64 a0, .int .i64 a1, .int .i64 a2_0, .string t457, .int .i64 a2_2] 58 (0, 0)) (by (with_reducible repeat (first | refine kdn ?_ _ | refine kdw ?_ | refine kal ?_ _)); exact BK459.out) hb)
    have n3_ := Aside0.mk (bsp (by repeat (first | (with_reducible first | exact HB.out | apply bal | apply bdn | apply bd1 | refine bst ?_ GE456.out | refine bst ?_ GE458.out | refine bst ?_ GE459.out) | exact HB.out)) hb)
    clear BK456
    clear BK458
    clear BK459
    clear HB
    have BK456 := n0_
    have BK458 := n1_
    have BK459 := n2_
    have HB := n3_
    clear n0_ n1_ n2_ n3_
    (try clear hb)
    (try clear hb2)
    (try clear hk)
    (try clear hi)
    refine hK.out _ _ ⟨(kcl BK458.out 0).trans rfl, (kcl BK458.out 1).trans rfl, (kcl BK458.out 2).trans rfl, (kcl BK458.out 3).trans rfl, (kcl BK458.out 4).trans rfl, (kcl BK459.out 0).trans rfl, (kcl BK459.out 1).trans rfl, (kcl BK459.out 2).trans rfl, (kcl BK459.out 3).trans rfl, (kcl BK459.out 4).trans rfl⟩ (fun hHeld => ?_)
    clear hK K
    refine norm_ (a' := ?_) ?_ ?_
    rotate_left
    · show Act.put _ (some 23) _ = _
      simp only [Act.put, List.setIfInBounds_toArray, List.set_cons_zero, List.set_cons_succ, i64_w, i32_w]
      rfl
    refine pure_ (i := 1) (N := some 24) (v := ?_) (a' := ?_) (bA 9 3) rfl rfl (any_of HT_.out (by kernel_rfl)) (fun _ _ _ h => h) (Or.inl ⟨by rfl, ?_⟩) ?_ ?_
    rotate_left; (intro w'; go_simp; with_reducible rfl); rotate_left; (simp only [Act.put, List.setIfInBounds_toArray, List.set_cons_zero, List.set_cons_succ, i64_w, i32_w]; rfl)
    refine pure_ (i := 2) (N := some 25) (v := ?_) (a' := ?_) (bA 9 7) rfl rfl (any_of HT_.out (by kernel_rfl)) (fun _ _ _ h => h) (Or.inl ⟨by rfl, ?_⟩) ?_ ?_
    rotate_left; (intro w'; go_simp; with_reducible rfl); rotate_left; (simp only [Act.put, List.setIfInBounds_toArray, List.set_cons_zero, List.set_cons_succ, i64_w, i32_w]; rfl)
    refine take_ (i := 3) (N := some 26) (v := ?_) (a' := ?_) #[true,true,true,true,false,false,false,false,false] rfl rfl (tkw HT_.out HW_.out (by kernel_rfl)) (fun _ _ _ h => h) (Or.inl ⟨by rfl, ?_⟩) hHeld ?_ ?_
    rotate_left
    · rintro w' ⟨s0, s1, s2, s3, s4, s5, s6, s7, s8, s9⟩
      go_simp
      with_reducible rfl
    rotate_left; (simp only [Act.put, List.setIfInBounds_toArray, List.set_cons_zero, List.set_cons_succ, i64_w, i32_w]; rfl)
    refine take_ (i := 5) (N := some 28) (v := ?_) (a' := ?_) #[true,true,true,true,false,true,false,false,false] rfl rfl (tkw HT_.out HW_.out (by kernel_rfl)) (fun _ _ _ h => h) (Or.inl ⟨by rfl, ?_⟩) hHeld ?_ ?_
    rotate_left
    · rintro w' ⟨s0, s1, s2, s3, s4, s5, s6, s7, s8, s9⟩
      go_simp
      with_reducible rfl
    rotate_left; (simp only [Act.put, List.setIfInBounds_toArray, List.set_cons_zero, List.set_cons_succ, i64_w, i32_w]; rfl)
    refine one_ (i := 4) (N := some 27) #[true,true,true,true,true,true,false,false,false] rfl rfl (one_of HT_.out (by kernel_rfl)) (by decide) (fun K hK => ?_)
    refine goes_ Try.func23 (by kernel_rfl) rfl #[.agg #[.int .i64 a0, .int .i64 a1, .int .i64 a2_0, .string t457, .int .i64 a2_2]] (by rfl) rfl rfl (by (try simp only [List.map_toArray, List.map_cons, List.map_nil]); first | done | rfl | (simp only [List.length_drop, List.length_take]; rfl) | (simp only [Act.eval, Array.getD_eq_getD_getElem?, Option.getD_some, *]; done) | (simp only [Array.mk.injEq, List.cons.injEq, Value.int.injEq, true_and, and_true]; first | omega | (simp [IntKind.wrap, IntKind.bits, IntKind.signed]; omega))) ?_
    with_reducible refine (frame_Reply_Check.calls k a0 a1 a2_0 t457 a2_2 t461 _ A19.out).mono ?_
    rintro e w24 ⟨rfl, hb⟩
    refine ⟨_, rfl, ?_⟩
    have n0_ := Aside0.mk (kbl (g := gb456) (o := .cells #[.int .i64 a2_0, .string t457, .int .i64 a2_2] 51 (0, 0)) (by (with_reducible repeat (first | refine kdn ?_ _ | refine kdw ?_ | refine kal ?_ _)); exact BK456.out) hb)
    have n1_ := Aside0.mk (kbl (g := gb458) (o := .cells #[.int .i64 a0, .int .i64 a1, .int .i64 a2_0, .string t457, .int .i64 a2_2] 53 (0, 0)) (by (with_reducible repeat (first | refine kdn ?_ _ | refine kdw ?_ | refine kal ?_ _)); exact BK458.out) hb)
    have n2_ := Aside0.mk (kbl (g := gb459) (o := .cells #[.int .i64 a0, .int .i64 a1, .int .i64 a2_0, .string t457, .int .i64 a2_2] 58 (0, 0)) (by (with_reducible repeat (first | refine kdn ?_ _ | refine kdw ?_ | refine kal ?_ _)); exact BK459.out) hb)
    have n3_ := Aside0.mk (bsp (by repeat (first | (with_reducible first | exact HB.out | apply bal | apply bdn | apply bd1 | refine bst ?_ GE456.out | refine bst ?_ GE458.out | refine bst ?_ GE459.out) | exact HB.out)) hb)
    clear BK456
    clear BK458
    clear BK459
    clear HB
    have BK456 := n0_
    have BK458 := n1_
    have BK459 := n2_
    have HB := n3_
    clear n0_ n1_ n2_ n3_
    (try clear hb)
    (try clear hb2)
    (try clear hk)
    (try clear hi)
    refine hK.out _ _ ⟨(kcl BK458.out 0).trans rfl, (kcl BK458.out 1).trans rfl, (kcl BK458.out 2).trans rfl, (kcl BK458.out 3).trans rfl, (kcl BK458.out 4).trans rfl, (kcl BK459.out 0).trans rfl, (kcl BK459.out 1).trans rfl, (kcl BK459.out 2).trans rfl, (kcl BK459.out 3).trans rfl, (kcl BK459.out 4).trans rfl⟩ (fun hHeld => ?_)
    clear hK K
    refine norm_ (a' := ?_) ?_ ?_
    rotate_left
    · show Act.put _ (some 27) _ = _
      simp only [Act.put, List.setIfInBounds_toArray, List.set_cons_zero, List.set_cons_succ, i64_w, i32_w]
      rfl
    refine one_ (i := 6) (N := some 29) #[true,true,true,true,true,true,true,false,false] rfl rfl (one_of HT_.out (by kernel_rfl)) (by decide) (fun K hK => ?_)
    refine goes_ Try.func24 (by kernel_rfl) rfl #[.agg #[.int .i64 a0, .int .i64 a1, .int .i64 a2_0, .string t457, .int .i64 a2_2]] (by rfl) rfl rfl (by (try simp only [List.map_toArray, List.map_cons, List.map_nil]); first | done | rfl | (simp only [List.length_drop, List.length_take]; rfl) | (simp only [Act.eval, Array.getD_eq_getD_getElem?, Option.getD_some, *]; done) | (simp only [Array.mk.injEq, List.cons.injEq, Value.int.injEq, true_and, and_true]; first | omega | (simp [IntKind.wrap, IntKind.bits, IntKind.signed]; omega))) ?_
    with_reducible refine (armoireref24_CheckReply.calls k a0 a1 a2_0 t457 a2_2 t462 _ A20.out).mono ?_
    rintro e w25 ⟨rfl, hb⟩
    refine ⟨_, rfl, ?_⟩
    have n0_ := Aside0.mk (kbl (g := gb456) (o := .cells #[.int .i64 a2_0, .string t457, .int .i64 a2_2] 51 (0, 0)) (by (with_reducible repeat (first | refine kdn ?_ _ | refine kdw ?_ | refine kal ?_ _)); exact BK456.out) hb)
    have n1_ := Aside0.mk (kbl (g := gb458) (o := .cells #[.int .i64 a0, .int .i64 a1, .int .i64 a2_0, .string t457, .int .i64 a2_2] 53 (0, 0)) (by (with_reducible repeat (first | refine kdn ?_ _ | refine kdw ?_ | refine kal ?_ _)); exact BK458.out) hb)
    have n2_ := Aside0.mk (kbl (g := gb459) (o := .cells #[.int .i64 a0, .int .i64 a1, .int .i64 a2_0, .string t457, .int .i64 a2_2] 58 (0, 0)) (by (with_reducible repeat (first | refine kdn ?_ _ | refine kdw ?_ | refine kal ?_ _)); exact BK459.out) hb)
    have n3_ := Aside0.mk (bsp (by repeat (first | (with_reducible first | exact HB.out | apply bal | apply bdn | apply bd1 | refine bst ?_ GE456.out | refine bst ?_ GE458.out | refine bst ?_ GE459.out) | exact HB.out)) hb)
    clear BK456
    clear BK458
    clear BK459
    clear HB
    have BK456 := n0_
    have BK458 := n1_
    have BK459 := n2_
    have HB := n3_
    clear n0_ n1_ n2_ n3_
    (try clear hb)
    (try clear hb2)
    (try clear hk)
    (try clear hi)
    refine hK.out _ _ ⟨(kcl BK458.out 0).trans rfl, (kcl BK458.out 1).trans rfl, (kcl BK458.out 2).trans rfl, (kcl BK458.out 3).trans rfl, (kcl BK458.out 4).trans rfl, (kcl BK459.out 0).trans rfl, (kcl BK459.out 1).trans rfl, (kcl BK459.out 2).trans rfl, (kcl BK459.out 3).trans rfl, (kcl BK459.out 4).trans rfl⟩ (fun hHeld => ?_)
    clear hK K
    refine norm_ (a' := ?_) ?_ ?_
    rotate_left
    · show Act.put _ (some 29) _ = _
      simp only [Act.put, List.setIfInBounds_toArray, List.set_cons_zero, List.set_cons_succ, i64_w, i32_w]
      rfl
    refine pure_ (i := 7) (N := some 30) (v := ?_) (a' := ?_) (bA 9 255) rfl rfl (any_of HT_.out (by kernel_rfl)) (fun _ _ _ h => h) (Or.inl ⟨by rfl, ?_⟩) ?_ ?_
    rotate_left; (intro w'; go_simp; with_reducible rfl); rotate_left; (simp only [Act.put, List.setIfInBounds_toArray, List.set_cons_zero, List.set_cons_succ, i64_w, i32_w]; rfl)
    refine pure_ (i := 8) (N := some 31) (v := ?_) (a' := ?_) (bA 9 511) rfl rfl (any_of HT_.out (by kernel_rfl)) (fun _ _ _ h => h) (Or.inl ⟨by rfl, ?_⟩) ?_ ?_
    rotate_left; (intro w'; go_simp; with_reducible rfl); rotate_left; (simp only [Act.put, List.setIfInBounds_toArray, List.set_cons_zero, List.set_cons_succ, i64_w, i32_w]; rfl)
    refine done_ (done_of HT_.out (by kernel_rfl)) ?_
    try go_wp2
    go_meet
    case rel => exact ⟨_, ((t461 != t462)), (by first | rfl | (simp; done) | (simp [*]; done) | exact emp1_ _ | exact (emp1_ _).symm | exact emp2_ _ | exact (emp2_ _).symm), H', ⟨by first | omega | exact Nat.le_refl _⟩, ⟨by (with_reducible repeat (first | refine kdn ?_ _ | refine kdw ?_ | refine kal ?_ _)); exact BK456.out⟩, ⟨by (with_reducible repeat (first | refine kdn ?_ _ | refine kdw ?_ | refine kal ?_ _)); exact BK458.out⟩, ⟨by (with_reducible repeat (first | refine kdn ?_ _ | refine kdw ?_ | refine kal ?_ _)); exact BK459.out⟩, ⟨by repeat (first | (with_reducible first | exact HB.out | apply bal | apply bdn | apply bd1 | refine bst ?_ GE456.out | refine bst ?_ GE458.out | refine bst ?_ GE459.out) | exact HB.out)⟩⟩
  clear HC5
  try clear c1
  try clear c2
  try clear p2
  try clear c6
  try clear c7
  try clear c9
  try clear c10
  try clear c14
  try clear c15
  try clear c18
  try clear c23
  try clear c24
  try clear hcz11_0
  try clear hcz11_1
  try clear hcz11_2
  try clear hcz11_3
  try clear hcz11_4
  try clear hcz12_0
  try clear hcz12_1
  try clear hcz12_2
  try clear hcz16_0
  try clear hcz16_1
  try clear hcz16_2
  try clear hcz16_3
  try clear hcz16_4
  try clear hcz7_0
  try clear hcz7_1
  try clear hcz7_2
  try clear hcz8_0
  try clear hcz8_1
  try clear hcz8_2
  try clear hfz11_0
  try clear hfz11_1
  try clear hfz11_2
  try clear hfz11_3
  try clear hfz11_4
  try clear hfz12_0
  try clear hfz12_1
  try clear hfz12_2
  try clear hfz16_0
  try clear hfz16_1
  try clear hfz16_2
  try clear hfz16_3
  try clear hfz16_4
  try clear hfz7_0
  try clear hfz7_1
  try clear hfz7_2
  try clear hfz8_0
  try clear hfz8_1
  try clear hfz8_2
  obtain ⟨kq, x31_4, rfl, HA, HJ4, BK456, BK458, BK459, HB⟩ := hcut
  cases kq with
  | zero => exact absurd HA.out (by simp [armoirelaw24_FrameReplies.j0])
  | succ kj4 =>
    have H := HA.out
    clear HA
    simp only [armoirelaw24_FrameReplies.j0] at H
    by_cases c29 : x31_4 = true
    · subst c29
      have H1 : (some false) = some r := by rw [if_pos rfl] at H; exact H
      clear H
      have H := H1
      clear H1
      obtain rfl := Option.some.inj H
      go_wp2
      go_ret
      exact ⟨by first | rfl | (simp [errW_none, errW_some] <;> rfl) | (simp [*, errW_none, errW_some] <;> rfl), by repeat (first | (with_reducible first | exact HB.out | apply bal | apply bdn | apply bd1 | refine bst ?_ GE456.out | refine bst ?_ GE458.out | refine bst ?_ GE459.out) | exact HB.out)⟩
    replace c29 := Bool.eq_false_iff.mpr c29
    subst c29
    have H1 : ((frame_Reply_Check.f kj4 a0 a1 a2_0 t457 a2_2).bind fun t463 => (if t463 = 0 then ((frame_Reply_Text.f kj4 a0 a1 a2_0 t457 a2_2).bind fun t464 => ((frame_ParseReply.f kj4 t464).bind fun bt465 => ((frame_Reply_Text.f kj4 a0 a1 a2_0 t457 a2_2).bind fun t472 => ((armoireref24_TextReply.f kj4 a0 a1 a2_0 t457 a2_2).bind fun t473 => (if t472.toList = t473.toList then (if (bt465.1 == a0 && (bt465.2.1 == a1 && ((bt465.2.2.1 == a2_0 && (bt465.2.2.2.1.toList == t457.toList && (bt465.2.2.2.2.1 == a2_2)))))) = true then (armoirelaw24_FrameReplies.j1 kj4 (bt465.2.2.2.2.2 == 0)) else (armoirelaw24_FrameReplies.j1 kj4 false)) else (armoirelaw24_FrameReplies.j1 kj4 false)))))) else (some true))) = some r := by rw [if_neg (show ¬ (false = true) by decide)] at H; exact H
    clear H
    have H := H1
    clear H1
    replace H := Option.bind_eq_some_iff.mp H
    obtain ⟨t463, A300, H⟩ := H
    replace H : (if t463 = 0 then ((frame_Reply_Text.f kj4 a0 a1 a2_0 t457 a2_2).bind fun t464 => ((frame_ParseReply.f kj4 t464).bind fun bt465 => ((frame_Reply_Text.f kj4 a0 a1 a2_0 t457 a2_2).bind fun t472 => ((armoireref24_TextReply.f kj4 a0 a1 a2_0 t457 a2_2).bind fun t473 => (if t472.toList = t473.toList then (if (bt465.1 == a0 && (bt465.2.1 == a1 && ((bt465.2.2.1 == a2_0 && (bt465.2.2.2.1.toList == t457.toList && (bt465.2.2.2.2.1 == a2_2)))))) = true then (armoirelaw24_FrameReplies.j1 kj4 (bt465.2.2.2.2.2 == 0)) else (armoirelaw24_FrameReplies.j1 kj4 false)) else (armoirelaw24_FrameReplies.j1 kj4 false)))))) else (some true)) = some r := H
    have A30 := Aside0.mk A300
    clear A300
    by_cases c31 : t463 = 0
    rotate_left
    · rw [if_neg c31] at H
      have c31b0 : (t463 == 0) = false := beq_eq_false_iff_ne.mpr c31
      have c31b1 : (t463 != 0) = true := bne_iff_ne.mpr c31
      obtain rfl := Option.some.inj H
      have hnb63 := NB458_456.out
      have hnc63 := NB456_458.out
      have hnb64 := NB458_459.out
      have hnc64 := NB459_458.out
      have hcz65_0 : wc.cell? ⟨gb458, 0, none⟩ = some (.int .i64 a0) := (kcl BK458.out 0).trans rfl
      have hcz65_1 : wc.cell? ⟨gb458, 1, none⟩ = some (.int .i64 a1) := (kcl BK458.out 1).trans rfl
      have hcz65_2 : wc.cell? ⟨gb458, 2, none⟩ = some (.int .i64 a2_0) := (kcl BK458.out 2).trans rfl
      have hcz65_3 : wc.cell? ⟨gb458, 3, none⟩ = some (.string t457) := (kcl BK458.out 3).trans rfl
      have hcz65_4 : wc.cell? ⟨gb458, 4, none⟩ = some (.int .i64 a2_2) := (kcl BK458.out 4).trans rfl
      have hfz65_0 := kfr BK458.out 0
      have hfz65_1 := kfr BK458.out 1
      have hfz65_2 := kfr BK458.out 2
      have hfz65_3 := kfr BK458.out 3
      have hfz65_4 := kfr BK458.out 4
      go_wp2_with (first | ((with_reducible refine gcl (f := 23) rfl ?_); refine gl_ (some 33) rfl rfl Try.func23 (by kernel_rfl) rfl #[.agg #[.int .i64 a0, .int .i64 a1, .int .i64 a2_0, .string t457, .int .i64 a2_2]] rfl (by (try simp only [List.map_toArray, List.map_cons, List.map_nil]); first | done | rfl | (simp only [List.length_drop, List.length_take]; rfl)) ?_; (with_reducible refine (frame_Reply_Check.calls kj4 a0 a1 a2_0 t457 a2_2 t463 _ A30.out).mono ?_); rintro e w66 ⟨rfl, hb⟩; refine ⟨_, rfl, ?_⟩; have n0_ := Aside0.mk (kbl (g := gb456) (o := .cells #[.int .i64 a2_0, .string t457, .int .i64 a2_2] 51 (0, 0)) (by (with_reducible repeat (first | refine kdn ?_ _ | refine kdw ?_ | refine kal ?_ _)); exact BK456.out) hb); have n1_ := Aside0.mk (kbl (g := gb458) (o := .cells #[.int .i64 a0, .int .i64 a1, .int .i64 a2_0, .string t457, .int .i64 a2_2] 53 (0, 0)) (by (with_reducible repeat (first | refine kdn ?_ _ | refine kdw ?_ | refine kal ?_ _)); exact BK458.out) hb); have n2_ := Aside0.mk (kbl (g := gb459) (o := .cells #[.int .i64 a0, .int .i64 a1, .int .i64 a2_0, .string t457, .int .i64 a2_2] 58 (0, 0)) (by (with_reducible repeat (first | refine kdn ?_ _ | refine kdw ?_ | refine kal ?_ _)); exact BK459.out) hb); have n3_ := Aside0.mk (bsp (by repeat (first | (with_reducible first | exact HB.out | apply bal | apply bdn | apply bd1 | refine bst ?_ GE456.out | refine bst ?_ GE458.out | refine bst ?_ GE459.out) | exact HB.out)) hb); clear BK456; clear BK458; clear BK459; clear HB; have BK456 := n0_; have BK458 := n1_; have BK459 := n2_; have HB := n3_; clear n0_ n1_ n2_ n3_; (try clear hb); (try clear hb2); (try clear hk); (try clear hi)))
      go_ret
      exact ⟨by first | rfl | (simp [errW_none, errW_some] <;> rfl) | (simp [*, errW_none, errW_some] <;> rfl), by repeat (first | (with_reducible first | exact HB.out | apply bal | apply bdn | apply bd1 | refine bst ?_ GE456.out | refine bst ?_ GE458.out | refine bst ?_ GE459.out) | exact HB.out)⟩
    rw [if_pos c31] at H
    have c31b0 : (t463 == 0) = true := beq_iff_eq.mpr c31
    have c31b1 : (t463 != 0) = false := bne_eq_false_iff_eq.mpr c31
    clear c31
    replace H := Option.bind_eq_some_iff.mp H
    obtain ⟨t464, A320, H⟩ := H
    replace H : ((frame_ParseReply.f kj4 t464).bind fun bt465 => ((frame_Reply_Text.f kj4 a0 a1 a2_0 t457 a2_2).bind fun t472 => ((armoireref24_TextReply.f kj4 a0 a1 a2_0 t457 a2_2).bind fun t473 => (if t472.toList = t473.toList then (if (bt465.1 == a0 && (bt465.2.1 == a1 && ((bt465.2.2.1 == a2_0 && (bt465.2.2.2.1.toList == t457.toList && (bt465.2.2.2.2.1 == a2_2)))))) = true then (armoirelaw24_FrameReplies.j1 kj4 (bt465.2.2.2.2.2 == 0)) else (armoirelaw24_FrameReplies.j1 kj4 false)) else (armoirelaw24_FrameReplies.j1 kj4 false))))) = some r := H
    have A32 := Aside0.mk A320
    clear A320
    replace H := Option.bind_eq_some_iff.mp H
    obtain ⟨⟨t465, t466, t467, t468, t469, t470⟩, A330, H⟩ := H
    replace H : ((frame_Reply_Text.f kj4 a0 a1 a2_0 t457 a2_2).bind fun t472 => ((armoireref24_TextReply.f kj4 a0 a1 a2_0 t457 a2_2).bind fun t473 => (if t472.toList = t473.toList then (if (t465 == a0 && (t466 == a1 && ((t467 == a2_0 && (t468.toList == t457.toList && (t469 == a2_2)))))) = true then (armoirelaw24_FrameReplies.j1 kj4 (t470 == 0)) else (armoirelaw24_FrameReplies.j1 kj4 false)) else (armoirelaw24_FrameReplies.j1 kj4 false)))) = some r := H
    have A33 := Aside0.mk A330
    clear A330
    have HC34 := Aside0.mk H
    clear H
    have hnb35 := NB458_456.out
    have hnc35 := NB456_458.out
    have hnb36 := NB458_459.out
    have hnc36 := NB459_458.out
    have hcz37_0 : wc.cell? ⟨gb458, 0, none⟩ = some (.int .i64 a0) := (kcl BK458.out 0).trans rfl
    have hcz37_1 : wc.cell? ⟨gb458, 1, none⟩ = some (.int .i64 a1) := (kcl BK458.out 1).trans rfl
    have hcz37_2 : wc.cell? ⟨gb458, 2, none⟩ = some (.int .i64 a2_0) := (kcl BK458.out 2).trans rfl
    have hcz37_3 : wc.cell? ⟨gb458, 3, none⟩ = some (.string t457) := (kcl BK458.out 3).trans rfl
    have hcz37_4 : wc.cell? ⟨gb458, 4, none⟩ = some (.int .i64 a2_2) := (kcl BK458.out 4).trans rfl
    have hfz37_0 := kfr BK458.out 0
    have hfz37_1 := kfr BK458.out 1
    have hfz37_2 := kfr BK458.out 2
    have hfz37_3 := kfr BK458.out 3
    have hfz37_4 := kfr BK458.out 4
    go_upto_region 9 with (first | ((with_reducible refine gcl (f := 23) rfl ?_); refine gl_ (some 33) rfl rfl Try.func23 (by kernel_rfl) rfl #[.agg #[.int .i64 a0, .int .i64 a1, .int .i64 a2_0, .string t457, .int .i64 a2_2]] rfl (by (try simp only [List.map_toArray, List.map_cons, List.map_nil]); first | done | rfl | (simp only [List.length_drop, List.length_take]; rfl)) ?_; (with_reducible refine (frame_Reply_Check.calls kj4 a0 a1 a2_0 t457 a2_2 t463 _ A30.out).mono ?_); rintro e w38 ⟨rfl, hb⟩; refine ⟨_, rfl, ?_⟩; have n0_ := Aside0.mk (kbl (g := gb456) (o := .cells #[.int .i64 a2_0, .string t457, .int .i64 a2_2] 51 (0, 0)) (by (with_reducible repeat (first | refine kdn ?_ _ | refine kdw ?_ | refine kal ?_ _)); exact BK456.out) hb); have n1_ := Aside0.mk (kbl (g := gb458) (o := .cells #[.int .i64 a0, .int .i64 a1, .int .i64 a2_0, .string t457, .int .i64 a2_2] 53 (0, 0)) (by (with_reducible repeat (first | refine kdn ?_ _ | refine kdw ?_ | refine kal ?_ _)); exact BK458.out) hb); have n2_ := Aside0.mk (kbl (g := gb459) (o := .cells #[.int .i64 a0, .int .i64 a1, .int .i64 a2_0, .string t457, .int .i64 a2_2] 58 (0, 0)) (by (with_reducible repeat (first | refine kdn ?_ _ | refine kdw ?_ | refine kal ?_ _)); exact BK459.out) hb); have n3_ := Aside0.mk (bsp (by repeat (first | (with_reducible first | exact HB.out | apply bal | apply bdn | apply bd1 | refine bst ?_ GE456.out | refine bst ?_ GE458.out | refine bst ?_ GE459.out) | exact HB.out)) hb); clear BK456; clear BK458; clear BK459; clear HB; have BK456 := n0_; have BK458 := n1_; have BK459 := n2_; have HB := n3_; clear n0_ n1_ n2_ n3_; (try clear hb); (try clear hb2); (try clear hk); (try clear hi); have hcz39_0 : w38.cell? ⟨gb458, 0, none⟩ = some (.int .i64 a0) := (kcl BK458.out 0).trans rfl; have hcz39_1 : w38.cell? ⟨gb458, 1, none⟩ = some (.int .i64 a1) := (kcl BK458.out 1).trans rfl; have hcz39_2 : w38.cell? ⟨gb458, 2, none⟩ = some (.int .i64 a2_0) := (kcl BK458.out 2).trans rfl; have hcz39_3 : w38.cell? ⟨gb458, 3, none⟩ = some (.string t457) := (kcl BK458.out 3).trans rfl; have hcz39_4 : w38.cell? ⟨gb458, 4, none⟩ = some (.int .i64 a2_2) := (kcl BK458.out 4).trans rfl; have hfz39_0 := kfr BK458.out 0; have hfz39_1 := kfr BK458.out 1; have hfz39_2 := kfr BK458.out 2; have hfz39_3 := kfr BK458.out 3; have hfz39_4 := kfr BK458.out 4) | ((with_reducible refine gcl (f := 22) rfl ?_); refine gl_ (some 37) rfl rfl Try.func22 (by kernel_rfl) rfl #[.agg #[.int .i64 a0, .int .i64 a1, .int .i64 a2_0, .string t457, .int .i64 a2_2]] rfl (by (try simp only [List.map_toArray, List.map_cons, List.map_nil]); first | done | rfl | (simp only [List.length_drop, List.length_take]; rfl)) ?_; (with_reducible refine (frame_Reply_Text.calls kj4 a0 a1 a2_0 t457 a2_2 t464 _ A32.out).mono ?_); rintro e w40 ⟨rfl, hb⟩; refine ⟨_, rfl, ?_⟩; have n0_ := Aside0.mk (kbl (g := gb456) (o := .cells #[.int .i64 a2_0, .string t457, .int .i64 a2_2] 51 (0, 0)) (by (with_reducible repeat (first | refine kdn ?_ _ | refine kdw ?_ | refine kal ?_ _)); exact BK456.out) hb); have n1_ := Aside0.mk (kbl (g := gb458) (o := .cells #[.int .i64 a0, .int .i64 a1, .int .i64 a2_0, .string t457, .int .i64 a2_2] 53 (0, 0)) (by (with_reducible repeat (first | refine kdn ?_ _ | refine kdw ?_ | refine kal ?_ _)); exact BK458.out) hb); have n2_ := Aside0.mk (kbl (g := gb459) (o := .cells #[.int .i64 a0, .int .i64 a1, .int .i64 a2_0, .string t457, .int .i64 a2_2] 58 (0, 0)) (by (with_reducible repeat (first | refine kdn ?_ _ | refine kdw ?_ | refine kal ?_ _)); exact BK459.out) hb); have n3_ := Aside0.mk (bsp (by repeat (first | (with_reducible first | exact HB.out | apply bal | apply bdn | apply bd1 | refine bst ?_ GE456.out | refine bst ?_ GE458.out | refine bst ?_ GE459.out) | exact HB.out)) hb); clear BK456; clear BK458; clear BK459; clear HB; have BK456 := n0_; have BK458 := n1_; have BK459 := n2_; have HB := n3_; clear n0_ n1_ n2_ n3_; (try clear hb); (try clear hb2); (try clear hk); (try clear hi)) | ((with_reducible refine gcl (f := 20) rfl ?_); refine gl_ (some 38) rfl rfl Try.func20 (by kernel_rfl) rfl #[.string t464] rfl (by (try simp only [List.map_toArray, List.map_cons, List.map_nil]); first | done | rfl | (simp only [List.length_drop, List.length_take]; rfl)) ?_; (with_reducible refine (frame_ParseReply.calls kj4 t464 t465 t466 t467 t468 t469 t470 _ A33.out).mono ?_); rintro e w41 ⟨rfl, hb⟩; refine ⟨_, rfl, ?_⟩; have n0_ := Aside0.mk (kbl (g := gb456) (o := .cells #[.int .i64 a2_0, .string t457, .int .i64 a2_2] 51 (0, 0)) (by (with_reducible repeat (first | refine kdn ?_ _ | refine kdw ?_ | refine kal ?_ _)); exact BK456.out) hb); have n1_ := Aside0.mk (kbl (g := gb458) (o := .cells #[.int .i64 a0, .int .i64 a1, .int .i64 a2_0, .string t457, .int .i64 a2_2] 53 (0, 0)) (by (with_reducible repeat (first | refine kdn ?_ _ | refine kdw ?_ | refine kal ?_ _)); exact BK458.out) hb); have n2_ := Aside0.mk (kbl (g := gb459) (o := .cells #[.int .i64 a0, .int .i64 a1, .int .i64 a2_0, .string t457, .int .i64 a2_2] 58 (0, 0)) (by (with_reducible repeat (first | refine kdn ?_ _ | refine kdw ?_ | refine kal ?_ _)); exact BK459.out) hb); have n3_ := Aside0.mk (bsp (by repeat (first | (with_reducible first | exact HB.out | apply bal | apply bdn | apply bd1 | refine bst ?_ GE456.out | refine bst ?_ GE458.out | refine bst ?_ GE459.out) | exact HB.out)) hb); clear BK456; clear BK458; clear BK459; clear HB; have BK456 := n0_; have BK458 := n1_; have BK459 := n2_; have HB := n3_; clear n0_ n1_ n2_ n3_; (try clear hb); (try clear hb2); (try clear hk); (try clear hi)) | ((with_reducible refine gds (N := 9) rfl ?_); refine bev ?hg (N := 9) ?hd (cs := #[.int .i64 0, .int .i64 0, .int .i64 0, .string (⟨#[]⟩ : ByteArray), .int .i64 0]) (t := 53) ?hr ?_; (case hd => rfl); (case hg => rfl); (case hr => first | (go_simp; done) | (go_simp; rfl)); intro gb471 hg w42 hbox hb; have n0_ := Aside0.mk (kbl (g := gb456) (o := .cells #[.int .i64 a2_0, .string t457, .int .i64 a2_2] 51 (0, 0)) (by (with_reducible repeat (first | refine kdn ?_ _ | refine kdw ?_ | refine kal ?_ _)); exact BK456.out) hb); have n1_ := Aside0.mk (kbl (g := gb458) (o := .cells #[.int .i64 a0, .int .i64 a1, .int .i64 a2_0, .string t457, .int .i64 a2_2] 53 (0, 0)) (by (with_reducible repeat (first | refine kdn ?_ _ | refine kdw ?_ | refine kal ?_ _)); exact BK458.out) hb); have n2_ := Aside0.mk (kbl (g := gb459) (o := .cells #[.int .i64 a0, .int .i64 a1, .int .i64 a2_0, .string t457, .int .i64 a2_2] 58 (0, 0)) (by (with_reducible repeat (first | refine kdn ?_ _ | refine kdw ?_ | refine kal ?_ _)); exact BK459.out) hb); have n3_ := Aside0.mk (bsp (by repeat (first | (with_reducible first | exact HB.out | apply bal | apply bdn | apply bd1 | refine bst ?_ GE456.out | refine bst ?_ GE458.out | refine bst ?_ GE459.out) | exact HB.out)) hb); have n4_ := Aside0.mk (hbox); have n5_ := Aside0.mk ((by rw [hg]; exact (bsz (by repeat (first | (with_reducible first | exact HB.out | apply bal | apply bdn | apply bd1 | refine bst ?_ GE456.out | refine bst ?_ GE458.out | refine bst ?_ GE459.out) | exact HB.out))) : w.heap.size ≤ gb471)); have n6_ := Aside0.mk ((by rw [hg]; exact (bsz (by repeat (first | (with_reducible first | exact HB.out | apply bal | apply bdn | apply bd1 | refine bst ?_ GE456.out | refine bst ?_ GE458.out | refine bst ?_ GE459.out) | exact HB.out))) : w.heap.size ≤ gb471)); have n7_ := Aside0.mk ((by rw [hg]; exact Nat.ne_of_lt (blk_lt (g := gb456) (o := .cells #[.int .i64 a2_0, .string t457, .int .i64 a2_2] 51 (0, 0)) (by (with_reducible repeat (first | refine kdn ?_ _ | refine kdw ?_ | refine kal ?_ _)); exact BK456.out)) : gb456 ≠ gb471)); have n8_ := Aside0.mk ((by rw [hg]; exact Nat.ne_of_gt (blk_lt (g := gb456) (o := .cells #[.int .i64 a2_0, .string t457, .int .i64 a2_2] 51 (0, 0)) (by (with_reducible repeat (first | refine kdn ?_ _ | refine kdw ?_ | refine kal ?_ _)); exact BK456.out)) : gb471 ≠ gb456)); have n9_ := Aside0.mk ((by rw [hg]; exact Nat.ne_of_lt (blk_lt (g := gb458) (o := .cells #[.int .i64 a0, .int .i64 a1, .int .i64 a2_0, .string t457, .int .i64 a2_2] 53 (0, 0)) (by (with_reducible repeat (first | refine kdn ?_ _ | refine kdw ?_ | refine kal ?_ _)); exact BK458.out)) : gb458 ≠ gb471)); have n10_ := Aside0.mk ((by rw [hg]; exact Nat.ne_of_gt (blk_lt (g := gb458) (o := .cells #[.int .i64 a0, .int .i64 a1, .int .i64 a2_0, .string t457, .int .i64 a2_2] 53 (0, 0)) (by (with_reducible repeat (first | refine kdn ?_ _ | refine kdw ?_ | refine kal ?_ _)); exact BK458.out)) : gb471 ≠ gb458)); have n11_ := Aside0.mk ((by rw [hg]; exact Nat.ne_of_lt (blk_lt (g := gb459) (o := .cells #[.int .i64 a0, .int .i64 a1, .int .i64 a2_0, .string t457, .int .i64 a2_2] 58 (0, 0)) (by (with_reducible repeat (first | refine kdn ?_ _ | refine kdw ?_ | refine kal ?_ _)); exact BK459.out)) : gb459 ≠ gb471)); have n12_ := Aside0.mk ((by rw [hg]; exact Nat.ne_of_gt (blk_lt (g := gb459) (o := .cells #[.int .i64 a0, .int .i64 a1, .int .i64 a2_0, .string t457, .int .i64 a2_2] 58 (0, 0)) (by (with_reducible repeat (first | refine kdn ?_ _ | refine kdw ?_ | refine kal ?_ _)); exact BK459.out)) : gb471 ≠ gb459)); clear BK456; clear BK458; clear BK459; clear HB; have BK456 := n0_; have BK458 := n1_; have BK459 := n2_; have HB := n3_; have BK471 := n4_; have GW471 := n5_; have GE471 := n6_; have NB456_471 := n7_; have NB471_456 := n8_; have NB458_471 := n9_; have NB471_458 := n10_; have NB459_471 := n11_; have NB471_459 := n12_; clear n0_ n1_ n2_ n3_ n4_ n5_ n6_ n7_ n8_ n9_ n10_ n11_ n12_; clear hb hbox hg; have hnb43 := NB471_456.out; have hnc43 := NB456_471.out; have hnb44 := NB471_458.out; have hnc44 := NB458_471.out; have hnb45 := NB471_459.out; have hnc45 := NB459_471.out; have hcz46_0 : w42.cell? ⟨gb471, 0, none⟩ = some (.int .i64 0) := (kcl BK471.out 0).trans rfl; have hcz46_1 : w42.cell? ⟨gb471, 1, none⟩ = some (.int .i64 0) := (kcl BK471.out 1).trans rfl; have hcz46_2 : w42.cell? ⟨gb471, 2, none⟩ = some (.int .i64 0) := (kcl BK471.out 2).trans rfl; have hcz46_3 : w42.cell? ⟨gb471, 3, none⟩ = some (.string (⟨#[]⟩ : ByteArray)) := (kcl BK471.out 3).trans rfl; have hcz46_4 : w42.cell? ⟨gb471, 4, none⟩ = some (.int .i64 0) := (kcl BK471.out 4).trans rfl; have hfz46_0 := kfr BK471.out 0; have hfz46_1 := kfr BK471.out 1; have hfz46_2 := kfr BK471.out 2; have hfz46_3 := kfr BK471.out 3; have hfz46_4 := kfr BK471.out 4))
    (try simp only [Act.put, List.setIfInBounds_toArray, List.set_cons_zero, List.set_cons_succ])
    go_cut [6] (fun v6 wc => ∃ (kq : Nat) (x6_33 : Bool), v6 = .bool x6_33 ∧ Aside0 (armoirelaw24_FrameReplies.j1 kq x6_33 = some r) ∧ Aside0 (kq ≤ kj4) ∧ Aside0 (wc.heap[gb456]? = some (.cells #[.int .i64 a2_0, .string t457, .int .i64 a2_2] 51 (0, 0))) ∧ Aside0 (wc.heap[gb458]? = some (.cells #[.int .i64 a0, .int .i64 a1, .int .i64 a2_0, .string t457, .int .i64 a2_2] 53 (0, 0))) ∧ Aside0 (wc.heap[gb459]? = some (.cells #[.int .i64 a0, .int .i64 a1, .int .i64 a2_0, .string t457, .int .i64 a2_2] 58 (0, 0))) ∧ Aside0 (wc.heap[gb471]? = some (.cells #[.int .i64 t465, .int .i64 t466, .int .i64 t467, .string t468, .int .i64 t469] 53 (0, 0))) ∧ Aside0 (Below w.heap.size w wc))
    case first =>
      have H := HC34.out
      clear HC34
      replace H := Option.bind_eq_some_iff.mp H
      obtain ⟨t472, A470, H⟩ := H
      replace H : ((armoireref24_TextReply.f kj4 a0 a1 a2_0 t457 a2_2).bind fun t473 => (if t472.toList = t473.toList then (if (t465 == a0 && (t466 == a1 && ((t467 == a2_0 && (t468.toList == t457.toList && (t469 == a2_2)))))) = true then (armoirelaw24_FrameReplies.j1 kj4 (t470 == 0)) else (armoirelaw24_FrameReplies.j1 kj4 false)) else (armoirelaw24_FrameReplies.j1 kj4 false))) = some r := H
      have A47 := Aside0.mk A470
      clear A470
      replace H := Option.bind_eq_some_iff.mp H
      obtain ⟨t473, A480, H⟩ := H
      replace H : (if t472.toList = t473.toList then (if (t465 == a0 && (t466 == a1 && ((t467 == a2_0 && (t468.toList == t457.toList && (t469 == a2_2)))))) = true then (armoirelaw24_FrameReplies.j1 kj4 (t470 == 0)) else (armoirelaw24_FrameReplies.j1 kj4 false)) else (armoirelaw24_FrameReplies.j1 kj4 false)) = some r := H
      have A48 := Aside0.mk A480
      clear A480
      by_cases c49 : t472.toList = t473.toList
      rotate_left
      · rw [if_neg c49] at H
        have c49b0 : (t472.toList == t473.toList) = false := beq_eq_false_iff_ne.mpr c49
        have c49b1 : (t472.toList != t473.toList) = true := bne_iff_ne.mpr c49
        (first | rw [c49b0] | (simp only [i64_w, i32_w]; rw [c49b0]) | skip)
        have H' := Aside0.mk H
        clear H
        try go_wp2
        have n0_ : Aside0 ((((((w42.setCell ⟨gb471, 0, none⟩ (.int .i64 t465)).setCell ⟨gb471, 1, none⟩ (.int .i64 t466)).setCell ⟨gb471, 2, none⟩ (.int .i64 t467)).setCell ⟨gb471, 3, none⟩ (.string t468)).setCell ⟨gb471, 4, none⟩ (.int .i64 t469)).heap[gb456]? = some (.cells #[.int .i64 a2_0, .string t457, .int .i64 a2_2] 51 (0, 0))) := ⟨by (with_reducible repeat (first | refine kdn ?_ _ | refine kdw ?_ | refine kal ?_ _)); refine blk_far ?_ NB456_471.out _; (with_reducible repeat (first | refine kdn ?_ _ | refine kdw ?_ | refine kal ?_ _)); refine blk_far ?_ NB456_471.out _; (with_reducible repeat (first | refine kdn ?_ _ | refine kdw ?_ | refine kal ?_ _)); refine blk_far ?_ NB456_471.out _; (with_reducible repeat (first | refine kdn ?_ _ | refine kdw ?_ | refine kal ?_ _)); refine blk_far ?_ NB456_471.out _; (with_reducible repeat (first | refine kdn ?_ _ | refine kdw ?_ | refine kal ?_ _)); refine blk_far ?_ NB456_471.out _; (with_reducible repeat (first | refine kdn ?_ _ | refine kdw ?_ | refine kal ?_ _)); exact BK456.out⟩
        have n1_ : Aside0 ((((((w42.setCell ⟨gb471, 0, none⟩ (.int .i64 t465)).setCell ⟨gb471, 1, none⟩ (.int .i64 t466)).setCell ⟨gb471, 2, none⟩ (.int .i64 t467)).setCell ⟨gb471, 3, none⟩ (.string t468)).setCell ⟨gb471, 4, none⟩ (.int .i64 t469)).heap[gb458]? = some (.cells #[.int .i64 a0, .int .i64 a1, .int .i64 a2_0, .string t457, .int .i64 a2_2] 53 (0, 0))) := ⟨by (with_reducible repeat (first | refine kdn ?_ _ | refine kdw ?_ | refine kal ?_ _)); refine blk_far ?_ NB458_471.out _; (with_reducible repeat (first | refine kdn ?_ _ | refine kdw ?_ | refine kal ?_ _)); refine blk_far ?_ NB458_471.out _; (with_reducible repeat (first | refine kdn ?_ _ | refine kdw ?_ | refine kal ?_ _)); refine blk_far ?_ NB458_471.out _; (with_reducible repeat (first | refine kdn ?_ _ | refine kdw ?_ | refine kal ?_ _)); refine blk_far ?_ NB458_471.out _; (with_reducible repeat (first | refine kdn ?_ _ | refine kdw ?_ | refine kal ?_ _)); refine blk_far ?_ NB458_471.out _; (with_reducible repeat (first | refine kdn ?_ _ | refine kdw ?_ | refine kal ?_ _)); exact BK458.out⟩
        have n2_ : Aside0 ((((((w42.setCell ⟨gb471, 0, none⟩ (.int .i64 t465)).setCell ⟨gb471, 1, none⟩ (.int .i64 t466)).setCell ⟨gb471, 2, none⟩ (.int .i64 t467)).setCell ⟨gb471, 3, none⟩ (.string t468)).setCell ⟨gb471, 4, none⟩ (.int .i64 t469)).heap[gb459]? = some (.cells #[.int .i64 a0, .int .i64 a1, .int .i64 a2_0, .string t457, .int .i64 a2_2] 58 (0, 0))) := ⟨by (with_reducible repeat (first | refine kdn ?_ _ | refine kdw ?_ | refine kal ?_ _)); refine blk_far ?_ NB459_471.out _; (with_reducible repeat (first | refine kdn ?_ _ | refine kdw ?_ | refine kal ?_ _)); refine blk_far ?_ NB459_471.out _; (with_reducible repeat (first | refine kdn ?_ _ | refine kdw ?_ | refine kal ?_ _)); refine blk_far ?_ NB459_471.out _; (with_reducible repeat (first | refine kdn ?_ _ | refine kdw ?_ | refine kal ?_ _)); refine blk_far ?_ NB459_471.out _; (with_reducible repeat (first | refine kdn ?_ _ | refine kdw ?_ | refine kal ?_ _)); refine blk_far ?_ NB459_471.out _; (with_reducible repeat (first | refine kdn ?_ _ | refine kdw ?_ | refine kal ?_ _)); exact BK459.out⟩
        have n3_ : Aside0 ((((((w42.setCell ⟨gb471, 0, none⟩ (.int .i64 t465)).setCell ⟨gb471, 1, none⟩ (.int .i64 t466)).setCell ⟨gb471, 2, none⟩ (.int .i64 t467)).setCell ⟨gb471, 3, none⟩ (.string t468)).setCell ⟨gb471, 4, none⟩ (.int .i64 t469)).heap[gb471]? = some (.cells #[.int .i64 t465, .int .i64 t466, .int .i64 t467, .string t468, .int .i64 t469] 53 (0, 0))) := ⟨by (with_reducible repeat (first | refine kdn ?_ _ | refine kdw ?_ | refine kal ?_ _)); refine kpt (cs := #[.int .i64 t465, .int .i64 t466, .int .i64 t467, .string t468, .int .i64 0]) ?_ 4 _ rfl; (with_reducible repeat (first | refine kdn ?_ _ | refine kdw ?_ | refine kal ?_ _)); refine kpt (cs := #[.int .i64 t465, .int .i64 t466, .int .i64 t467, .string (⟨#[]⟩ : ByteArray), .int .i64 0]) ?_ 3 _ rfl; (with_reducible repeat (first | refine kdn ?_ _ | refine kdw ?_ | refine kal ?_ _)); refine kpt (cs := #[.int .i64 t465, .int .i64 t466, .int .i64 0, .string (⟨#[]⟩ : ByteArray), .int .i64 0]) ?_ 2 _ rfl; (with_reducible repeat (first | refine kdn ?_ _ | refine kdw ?_ | refine kal ?_ _)); refine kpt (cs := #[.int .i64 t465, .int .i64 0, .int .i64 0, .string (⟨#[]⟩ : ByteArray), .int .i64 0]) ?_ 1 _ rfl; (with_reducible repeat (first | refine kdn ?_ _ | refine kdw ?_ | refine kal ?_ _)); refine kpt (cs := #[.int .i64 0, .int .i64 0, .int .i64 0, .string (⟨#[]⟩ : ByteArray), .int .i64 0]) ?_ 0 _ rfl; (with_reducible repeat (first | refine kdn ?_ _ | refine kdw ?_ | refine kal ?_ _)); exact BK471.out⟩
        have n4_ : Aside0 (Below w.heap.size w (((((w42.setCell ⟨gb471, 0, none⟩ (.int .i64 t465)).setCell ⟨gb471, 1, none⟩ (.int .i64 t466)).setCell ⟨gb471, 2, none⟩ (.int .i64 t467)).setCell ⟨gb471, 3, none⟩ (.string t468)).setCell ⟨gb471, 4, none⟩ (.int .i64 t469))) := ⟨by repeat (first | (with_reducible first | exact HB.out | apply bal | apply bdn | apply bd1 | refine bst ?_ GE456.out | refine bst ?_ GE458.out | refine bst ?_ GE459.out | refine bst ?_ GE471.out) | exact HB.out)⟩
        (try clear BK456)
        (try clear BK458)
        (try clear BK459)
        (try clear BK471)
        (try clear HB)
        generalize (((((w42.setCell ⟨gb471, 0, none⟩ (.int .i64 t465)).setCell ⟨gb471, 1, none⟩ (.int .i64 t466)).setCell ⟨gb471, 2, none⟩ (.int .i64 t467)).setCell ⟨gb471, 3, none⟩ (.string t468)).setCell ⟨gb471, 4, none⟩ (.int .i64 t469)) = w59 at n0_ n1_ n2_ n3_ n4_ ⊢
        have BK456 := n0_
        have BK458 := n1_
        have BK459 := n2_
        have BK471 := n3_
        have HB := n4_
        clear n0_ n1_ n2_ n3_ n4_
        have n0_ := Aside0.mk (kdw BK456.out)
        have n1_ := Aside0.mk (kdw BK458.out)
        have n2_ := Aside0.mk (kdw BK459.out)
        have n3_ := Aside0.mk (kdw BK471.out)
        have n4_ := Aside0.mk (bd1 HB.out)
        clear BK456
        clear BK458
        clear BK459
        clear BK471
        clear HB
        have BK456 := n0_
        have BK458 := n1_
        have BK459 := n2_
        have BK471 := n3_
        have HB := n4_
        clear n0_ n1_ n2_ n3_ n4_
        refine start_ (n := 15) (S := fun w' => w'.cell? ⟨gb458, 0, none⟩ = some (.int .i64 a0) ∧ w'.cell? ⟨gb458, 1, none⟩ = some (.int .i64 a1) ∧ w'.cell? ⟨gb458, 2, none⟩ = some (.int .i64 a2_0) ∧ w'.cell? ⟨gb458, 3, none⟩ = some (.string t457) ∧ w'.cell? ⟨gb458, 4, none⟩ = some (.int .i64 a2_2) ∧ w'.cell? ⟨gb459, 0, none⟩ = some (.int .i64 a0) ∧ w'.cell? ⟨gb459, 1, none⟩ = some (.int .i64 a1) ∧ w'.cell? ⟨gb459, 2, none⟩ = some (.int .i64 a2_0) ∧ w'.cell? ⟨gb459, 3, none⟩ = some (.string t457) ∧ w'.cell? ⟨gb459, 4, none⟩ = some (.int .i64 a2_2)) (ds := []) #[false,false,false,false,false,false,false,false,false,false,false,false,false,false,false] (by kernel_rfl) rfl rfl ⟨(kcl BK458.out 0).trans rfl, (kcl BK458.out 1).trans rfl, (kcl BK458.out 2).trans rfl, (kcl BK458.out 3).trans rfl, (kcl BK458.out 4).trans rfl, (kcl BK459.out 0).trans rfl, (kcl BK459.out 1).trans rfl, (kcl BK459.out 2).trans rfl, (kcl BK459.out 3).trans rfl, (kcl BK459.out 4).trans rfl⟩ (fun hHeld => ?_); refine with_tabW armoirelaw24_FrameReplies.tab9 armoirelaw24_FrameReplies.bits9 (fun HT_ HW_ => ?_)
        generalize w59.drew = w60 at BK456 BK458 BK459 BK471 HB hHeld ⊢
        refine take_ (i := 0) (N := some 41) (v := ?_) (a' := ?_) #[true,false,false,false,false,false,false,false,false,false,false,false,false,false,false] rfl rfl (tkw HT_.out HW_.out (by kernel_rfl)) (fun _ _ _ h => h) (Or.inl ⟨by rfl, ?_⟩) hHeld ?_ ?_
        rotate_left
        · rintro w' ⟨s0, s1, s2, s3, s4, s5, s6, s7, s8, s9⟩
          go_simp
          with_reducible rfl
        rotate_left; (simp only [Act.put, List.setIfInBounds_toArray, List.set_cons_zero, List.set_cons_succ, i64_w, i32_w]; rfl)
        refine take_ (i := 2) (N := some 43) (v := ?_) (a' := ?_) #[true,false,true,false,false,false,false,false,false,false,false,false,false,false,false] rfl rfl (tkw HT_.out HW_.out (by kernel_rfl)) (fun _ _ _ h => h) (Or.inl ⟨by rfl, ?_⟩) hHeld ?_ ?_
        rotate_left
        · rintro w' ⟨s0, s1, s2, s3, s4, s5, s6, s7, s8, s9⟩
          go_simp
          with_reducible rfl
        rotate_left; (simp only [Act.put, List.setIfInBounds_toArray, List.set_cons_zero, List.set_cons_succ, i64_w, i32_w]; rfl)
        refine one_ (i := 1) (N := some 42) #[true,true,true,false,false,false,false,false,false,false,false,false,false,false,false] rfl rfl (one_of HT_.out (by kernel_rfl)) (by decide) (fun K hK => ?_)
        refine goes_ Try.func22 (by kernel_rfl) rfl #[.agg #[.int .i64 a0, .int .i64 a1, .int .i64 a2_0, .string t457, .int .i64 a2_2]] (by rfl) rfl rfl (by (try simp only [List.map_toArray, List.map_cons, List.map_nil]); first | done | rfl | (simp only [List.length_drop, List.length_take]; rfl) | (simp only [Act.eval, Array.getD_eq_getD_getElem?, Option.getD_some, *]; done) | (simp only [Array.mk.injEq, List.cons.injEq, Value.int.injEq, true_and, and_true]; first | omega | (simp [IntKind.wrap, IntKind.bits, IntKind.signed]; omega))) ?_
        with_reducible refine (frame_Reply_Text.calls kj4 a0 a1 a2_0 t457 a2_2 t472 _ A47.out).mono ?_
        rintro e w61 ⟨rfl, hb⟩
        refine ⟨_, rfl, ?_⟩
        have n0_ := Aside0.mk (kbl (g := gb456) (o := .cells #[.int .i64 a2_0, .string t457, .int .i64 a2_2] 51 (0, 0)) (by (with_reducible repeat (first | refine kdn ?_ _ | refine kdw ?_ | refine kal ?_ _)); exact BK456.out) hb)
        have n1_ := Aside0.mk (kbl (g := gb458) (o := .cells #[.int .i64 a0, .int .i64 a1, .int .i64 a2_0, .string t457, .int .i64 a2_2] 53 (0, 0)) (by (with_reducible repeat (first | refine kdn ?_ _ | refine kdw ?_ | refine kal ?_ _)); exact BK458.out) hb)
        have n2_ := Aside0.mk (kbl (g := gb459) (o := .cells #[.int .i64 a0, .int .i64 a1, .int .i64 a2_0, .string t457, .int .i64 a2_2] 58 (0, 0)) (by (with_reducible repeat (first | refine kdn ?_ _ | refine kdw ?_ | refine kal ?_ _)); exact BK459.out) hb)
        have n3_ := Aside0.mk (kbl (g := gb471) (o := .cells #[.int .i64 t465, .int .i64 t466, .int .i64 t467, .string t468, .int .i64 t469] 53 (0, 0)) (by (with_reducible repeat (first | refine kdn ?_ _ | refine kdw ?_ | refine kal ?_ _)); exact BK471.out) hb)
        have n4_ := Aside0.mk (bsp (by repeat (first | (with_reducible first | exact HB.out | apply bal | apply bdn | apply bd1 | refine bst ?_ GE456.out | refine bst ?_ GE458.out | refine bst ?_ GE459.out | refine bst ?_ GE471.out) | exact HB.out)) hb)
        clear BK456
        clear BK458
        clear BK459
        clear BK471
        clear HB
        have BK456 := n0_
        have BK458 := n1_
        have BK459 := n2_
        have BK471 := n3_
        have HB := n4_
        clear n0_ n1_ n2_ n3_ n4_
        (try clear hb)
        (try clear hb2)
        (try clear hk)
        (try clear hi)
        refine hK.out _ _ ⟨(kcl BK458.out 0).trans rfl, (kcl BK458.out 1).trans rfl, (kcl BK458.out 2).trans rfl, (kcl BK458.out 3).trans rfl, (kcl BK458.out 4).trans rfl, (kcl BK459.out 0).trans rfl, (kcl BK459.out 1).trans rfl, (kcl BK459.out 2).trans rfl, (kcl BK459.out 3).trans rfl, (kcl BK459.out 4).trans rfl⟩ (fun hHeld => ?_)
        clear hK K
        refine norm_ (a' := ?_) ?_ ?_
        rotate_left
        · show Act.put _ (some 42) _ = _
          simp only [Act.put, List.setIfInBounds_toArray, List.set_cons_zero, List.set_cons_succ, i64_w, i32_w]
          rfl
        refine one_ (i := 3) (N := some 44) #[true,true,true,true,false,false,false,false,false,false,false,false,false,false,false] rfl rfl (one_of HT_.out (by kernel_rfl)) (by decide) (fun K hK => ?_)
        refine goes_ Try.func25 (by kernel_rfl) rfl #[.agg #[.int .i64 a0, .int .i64 a1, .int .i64 a2_0, .string t457, .int .i64 a2_2]] (by rfl) rfl rfl (by (try simp only [List.map_toArray, List.map_cons, List.map_nil]); first | done | rfl | (simp only [List.length_drop, List.length_take]; rfl) | (simp only [Act.eval, Array.getD_eq_getD_getElem?, Option.getD_some, *]; done) | (simp only [Array.mk.injEq, List.cons.injEq, Value.int.injEq, true_and, and_true]; first | omega | (simp [IntKind.wrap, IntKind.bits, IntKind.signed]; omega))) ?_
        with_reducible refine (armoireref24_TextReply.calls kj4 a0 a1 a2_0 t457 a2_2 t473 _ A48.out).mono ?_
        rintro e w62 ⟨rfl, hb⟩
        refine ⟨_, rfl, ?_⟩
        have n0_ := Aside0.mk (kbl (g := gb456) (o := .cells #[.int .i64 a2_0, .string t457, .int .i64 a2_2] 51 (0, 0)) (by (with_reducible repeat (first | refine kdn ?_ _ | refine kdw ?_ | refine kal ?_ _)); exact BK456.out) hb)
        have n1_ := Aside0.mk (kbl (g := gb458) (o := .cells #[.int .i64 a0, .int .i64 a1, .int .i64 a2_0, .string t457, .int .i64 a2_2] 53 (0, 0)) (by (with_reducible repeat (first | refine kdn ?_ _ | refine kdw ?_ | refine kal ?_ _)); exact BK458.out) hb)
        have n2_ := Aside0.mk (kbl (g := gb459) (o := .cells #[.int .i64 a0, .int .i64 a1, .int .i64 a2_0, .string t457, .int .i64 a2_2] 58 (0, 0)) (by (with_reducible repeat (first | refine kdn ?_ _ | refine kdw ?_ | refine kal ?_ _)); exact BK459.out) hb)
        have n3_ := Aside0.mk (kbl (g := gb471) (o := .cells #[.int .i64 t465, .int .i64 t466, .int .i64 t467, .string t468, .int .i64 t469] 53 (0, 0)) (by (with_reducible repeat (first | refine kdn ?_ _ | refine kdw ?_ | refine kal ?_ _)); exact BK471.out) hb)
        have n4_ := Aside0.mk (bsp (by repeat (first | (with_reducible first | exact HB.out | apply bal | apply bdn | apply bd1 | refine bst ?_ GE456.out | refine bst ?_ GE458.out | refine bst ?_ GE459.out | refine bst ?_ GE471.out) | exact HB.out)) hb)
        clear BK456
        clear BK458
        clear BK459
        clear BK471
        clear HB
        have BK456 := n0_
        have BK458 := n1_
        have BK459 := n2_
        have BK471 := n3_
        have HB := n4_
        clear n0_ n1_ n2_ n3_ n4_
        (try clear hb)
        (try clear hb2)
        (try clear hk)
        (try clear hi)
        refine hK.out _ _ ⟨(kcl BK458.out 0).trans rfl, (kcl BK458.out 1).trans rfl, (kcl BK458.out 2).trans rfl, (kcl BK458.out 3).trans rfl, (kcl BK458.out 4).trans rfl, (kcl BK459.out 0).trans rfl, (kcl BK459.out 1).trans rfl, (kcl BK459.out 2).trans rfl, (kcl BK459.out 3).trans rfl, (kcl BK459.out 4).trans rfl⟩ (fun hHeld => ?_)
        clear hK K
        refine norm_ (a' := ?_) ?_ ?_
        rotate_left
        · show Act.put _ (some 44) _ = _
          simp only [Act.put, List.setIfInBounds_toArray, List.set_cons_zero, List.set_cons_succ, i64_w, i32_w]
          rfl
        refine pure_ (i := 4) (N := some 45) (v := ?_) (a' := ?_) (bA 15 31) rfl rfl (any_of HT_.out (by kernel_rfl)) (fun _ _ _ h => h) (Or.inl ⟨by rfl, ?_⟩) ?_ ?_
        rotate_left; (intro w'; go_simp; with_reducible rfl); rotate_left; (simp only [Act.put, List.setIfInBounds_toArray, List.set_cons_zero, List.set_cons_succ, i64_w, i32_w]; rfl)
        refine pure_ (i := 5) (N := some 46) (v := ?_) (a' := ?_) (bA 15 63) rfl rfl (any_of HT_.out (by kernel_rfl)) (fun _ _ _ h => h) (Or.inl ⟨by rfl, ?_⟩) ?_ ?_
        rotate_left; (intro w'; go_simp; with_reducible rfl); rotate_left; (simp only [Act.put, List.setIfInBounds_toArray, List.set_cons_zero, List.set_cons_succ, i64_w, i32_w]; rfl)
        refine pure_ (i := 6) (N := some 47) (v := undef) (a' := ?_) (bA 15 127) rfl rfl (any_of HT_.out (by kernel_rfl)) (fun _ _ _ h => h) (Or.inr ⟨by rfl, rfl⟩) ?_ ?_
        rotate_left; (simp only [Act.put, List.setIfInBounds_toArray, List.set_cons_zero, List.set_cons_succ, i64_w, i32_w]; rfl)
        refine pure_ (i := 7) (N := some 48) (v := undef) (a' := ?_) (bA 15 255) rfl rfl (any_of HT_.out (by kernel_rfl)) (fun _ _ _ h => h) (Or.inr ⟨by rfl, rfl⟩) ?_ ?_
        rotate_left; (simp only [Act.put, List.setIfInBounds_toArray, List.set_cons_zero, List.set_cons_succ, i64_w, i32_w]; rfl)
        refine pure_ (i := 8) (N := some 49) (v := undef) (a' := ?_) (bA 15 511) rfl rfl (any_of HT_.out (by kernel_rfl)) (fun _ _ _ h => h) (Or.inr ⟨by rfl, rfl⟩) ?_ ?_
        rotate_left; (simp only [Act.put, List.setIfInBounds_toArray, List.set_cons_zero, List.set_cons_succ, i64_w, i32_w]; rfl)
        refine pure_ (i := 9) (N := some 50) (v := ?_) (a' := ?_) (bA 15 1023) rfl rfl (any_of HT_.out (by kernel_rfl)) (fun _ _ _ h => h) (Or.inl ⟨by rfl, ?_⟩) ?_ ?_
        rotate_left; (intro w'; go_simp; with_reducible rfl); rotate_left; (simp only [Act.put, List.setIfInBounds_toArray, List.set_cons_zero, List.set_cons_succ, i64_w, i32_w]; rfl)
        refine pure_ (i := 10) (N := some 51) (v := ?_) (a' := ?_) (bA 15 2047) rfl rfl (any_of HT_.out (by kernel_rfl)) (fun _ _ _ h => h) (Or.inl ⟨by rfl, ?_⟩) ?_ ?_
        rotate_left; (intro w'; go_simp; with_reducible rfl); rotate_left; (simp only [Act.put, List.setIfInBounds_toArray, List.set_cons_zero, List.set_cons_succ, i64_w, i32_w]; rfl)
        refine pure_ (i := 11) (N := some 52) (v := undef) (a' := ?_) (bA 15 4095) rfl rfl (any_of HT_.out (by kernel_rfl)) (fun _ _ _ h => h) (Or.inr ⟨by rfl, rfl⟩) ?_ ?_
        rotate_left; (simp only [Act.put, List.setIfInBounds_toArray, List.set_cons_zero, List.set_cons_succ, i64_w, i32_w]; rfl)
        refine pure_ (i := 12) (N := some 53) (v := undef) (a' := ?_) (bA 15 8191) rfl rfl (any_of HT_.out (by kernel_rfl)) (fun _ _ _ h => h) (Or.inr ⟨by rfl, rfl⟩) ?_ ?_
        rotate_left; (simp only [Act.put, List.setIfInBounds_toArray, List.set_cons_zero, List.set_cons_succ, i64_w, i32_w]; rfl)
        refine pure_ (i := 13) (N := some 54) (v := ?_) (a' := ?_) (bA 15 16383) rfl rfl (any_of HT_.out (by kernel_rfl)) (fun _ _ _ h => h) (Or.inl ⟨by rfl, ?_⟩) ?_ ?_
        rotate_left; (intro w'; go_simp; with_reducible rfl); rotate_left; (simp only [Act.put, List.setIfInBounds_toArray, List.set_cons_zero, List.set_cons_succ, i64_w, i32_w]; rfl)
        refine pure_ (i := 14) (N := some 6) (v := ?_) (a' := ?_) (bA 15 32767) rfl rfl (any_of HT_.out (by kernel_rfl)) (fun _ _ _ h => h) (Or.inl ⟨by rfl, ?_⟩) ?_ ?_
        rotate_left; (intro w'; go_simp; with_reducible rfl); rotate_left; (simp only [Act.put, List.setIfInBounds_toArray, List.set_cons_zero, List.set_cons_succ, i64_w, i32_w]; rfl)
        refine done_ (done_of HT_.out (by kernel_rfl)) ?_
        try go_wp2
        go_meet
        case rel => exact ⟨_, (false), (by first | rfl | (simp; done) | (simp [*]; done) | exact emp1_ _ | exact (emp1_ _).symm | exact emp2_ _ | exact (emp2_ _).symm), H', ⟨by have := HJ4.out; first | omega | exact Nat.le_refl _⟩, ⟨by (with_reducible repeat (first | refine kdn ?_ _ | refine kdw ?_ | refine kal ?_ _)); exact BK456.out⟩, ⟨by (with_reducible repeat (first | refine kdn ?_ _ | refine kdw ?_ | refine kal ?_ _)); exact BK458.out⟩, ⟨by (with_reducible repeat (first | refine kdn ?_ _ | refine kdw ?_ | refine kal ?_ _)); exact BK459.out⟩, ⟨by (with_reducible repeat (first | refine kdn ?_ _ | refine kdw ?_ | refine kal ?_ _)); exact BK471.out⟩, ⟨by repeat (first | (with_reducible first | exact HB.out | apply bal | apply bdn | apply bd1 | refine bst ?_ GE456.out | refine bst ?_ GE458.out | refine bst ?_ GE459.out | refine bst ?_ GE471.out) | exact HB.out)⟩⟩
      rw [if_pos c49] at H
      have c49b0 : (t472.toList == t473.toList) = true := beq_iff_eq.mpr c49
      have c49b1 : (t472.toList != t473.toList) = false := bne_eq_false_iff_eq.mpr c49
      clear c49
      (first | rw [c49b0] | (simp only [i64_w, i32_w]; rw [c49b0]) | skip)
      by_cases c50 : (t465 == a0 && (t466 == a1 && ((t467 == a2_0 && (t468.toList == t457.toList && (t469 == a2_2)))))) = true
      · rw [if_pos c50] at H
        have c50b0 : (t465 == a0 && (t466 == a1 && ((t467 == a2_0 && (t468.toList == t457.toList && (t469 == a2_2)))))) = true := c50
        (try (have c50b1 : decide (t465 = a0 && (t466 == a1 && ((t467 == a2_0 && (t468.toList == t457.toList && (t469 == a2_2)))))) = true := by simpa using c50))
        (try (have c50b2 : (t465 == a0 && (t466 == a1 && ((t467 == a2_0 && (t468.toList == t457.toList && (t469 == a2_2)))))) = true := by simpa using c50))
        clear c50
        have H' := Aside0.mk H
        clear H
        try go_wp2
        have n0_ : Aside0 ((((((w42.setCell ⟨gb471, 0, none⟩ (.int .i64 t465)).setCell ⟨gb471, 1, none⟩ (.int .i64 t466)).setCell ⟨gb471, 2, none⟩ (.int .i64 t467)).setCell ⟨gb471, 3, none⟩ (.string t468)).setCell ⟨gb471, 4, none⟩ (.int .i64 t469)).heap[gb456]? = some (.cells #[.int .i64 a2_0, .string t457, .int .i64 a2_2] 51 (0, 0))) := ⟨by (with_reducible repeat (first | refine kdn ?_ _ | refine kdw ?_ | refine kal ?_ _)); refine blk_far ?_ NB456_471.out _; (with_reducible repeat (first | refine kdn ?_ _ | refine kdw ?_ | refine kal ?_ _)); refine blk_far ?_ NB456_471.out _; (with_reducible repeat (first | refine kdn ?_ _ | refine kdw ?_ | refine kal ?_ _)); refine blk_far ?_ NB456_471.out _; (with_reducible repeat (first | refine kdn ?_ _ | refine kdw ?_ | refine kal ?_ _)); refine blk_far ?_ NB456_471.out _; (with_reducible repeat (first | refine kdn ?_ _ | refine kdw ?_ | refine kal ?_ _)); refine blk_far ?_ NB456_471.out _; (with_reducible repeat (first | refine kdn ?_ _ | refine kdw ?_ | refine kal ?_ _)); exact BK456.out⟩
        have n1_ : Aside0 ((((((w42.setCell ⟨gb471, 0, none⟩ (.int .i64 t465)).setCell ⟨gb471, 1, none⟩ (.int .i64 t466)).setCell ⟨gb471, 2, none⟩ (.int .i64 t467)).setCell ⟨gb471, 3, none⟩ (.string t468)).setCell ⟨gb471, 4, none⟩ (.int .i64 t469)).heap[gb458]? = some (.cells #[.int .i64 a0, .int .i64 a1, .int .i64 a2_0, .string t457, .int .i64 a2_2] 53 (0, 0))) := ⟨by (with_reducible repeat (first | refine kdn ?_ _ | refine kdw ?_ | refine kal ?_ _)); refine blk_far ?_ NB458_471.out _; (with_reducible repeat (first | refine kdn ?_ _ | refine kdw ?_ | refine kal ?_ _)); refine blk_far ?_ NB458_471.out _; (with_reducible repeat (first | refine kdn ?_ _ | refine kdw ?_ | refine kal ?_ _)); refine blk_far ?_ NB458_471.out _; (with_reducible repeat (first | refine kdn ?_ _ | refine kdw ?_ | refine kal ?_ _)); refine blk_far ?_ NB458_471.out _; (with_reducible repeat (first | refine kdn ?_ _ | refine kdw ?_ | refine kal ?_ _)); refine blk_far ?_ NB458_471.out _; (with_reducible repeat (first | refine kdn ?_ _ | refine kdw ?_ | refine kal ?_ _)); exact BK458.out⟩
        have n2_ : Aside0 ((((((w42.setCell ⟨gb471, 0, none⟩ (.int .i64 t465)).setCell ⟨gb471, 1, none⟩ (.int .i64 t466)).setCell ⟨gb471, 2, none⟩ (.int .i64 t467)).setCell ⟨gb471, 3, none⟩ (.string t468)).setCell ⟨gb471, 4, none⟩ (.int .i64 t469)).heap[gb459]? = some (.cells #[.int .i64 a0, .int .i64 a1, .int .i64 a2_0, .string t457, .int .i64 a2_2] 58 (0, 0))) := ⟨by (with_reducible repeat (first | refine kdn ?_ _ | refine kdw ?_ | refine kal ?_ _)); refine blk_far ?_ NB459_471.out _; (with_reducible repeat (first | refine kdn ?_ _ | refine kdw ?_ | refine kal ?_ _)); refine blk_far ?_ NB459_471.out _; (with_reducible repeat (first | refine kdn ?_ _ | refine kdw ?_ | refine kal ?_ _)); refine blk_far ?_ NB459_471.out _; (with_reducible repeat (first | refine kdn ?_ _ | refine kdw ?_ | refine kal ?_ _)); refine blk_far ?_ NB459_471.out _; (with_reducible repeat (first | refine kdn ?_ _ | refine kdw ?_ | refine kal ?_ _)); refine blk_far ?_ NB459_471.out _; (with_reducible repeat (first | refine kdn ?_ _ | refine kdw ?_ | refine kal ?_ _)); exact BK459.out⟩
        have n3_ : Aside0 ((((((w42.setCell ⟨gb471, 0, none⟩ (.int .i64 t465)).setCell ⟨gb471, 1, none⟩ (.int .i64 t466)).setCell ⟨gb471, 2, none⟩ (.int .i64 t467)).setCell ⟨gb471, 3, none⟩ (.string t468)).setCell ⟨gb471, 4, none⟩ (.int .i64 t469)).heap[gb471]? = some (.cells #[.int .i64 t465, .int .i64 t466, .int .i64 t467, .string t468, .int .i64 t469] 53 (0, 0))) := ⟨by (with_reducible repeat (first | refine kdn ?_ _ | refine kdw ?_ | refine kal ?_ _)); refine kpt (cs := #[.int .i64 t465, .int .i64 t466, .int .i64 t467, .string t468, .int .i64 0]) ?_ 4 _ rfl; (with_reducible repeat (first | refine kdn ?_ _ | refine kdw ?_ | refine kal ?_ _)); refine kpt (cs := #[.int .i64 t465, .int .i64 t466, .int .i64 t467, .string (⟨#[]⟩ : ByteArray), .int .i64 0]) ?_ 3 _ rfl; (with_reducible repeat (first | refine kdn ?_ _ | refine kdw ?_ | refine kal ?_ _)); refine kpt (cs := #[.int .i64 t465, .int .i64 t466, .int .i64 0, .string (⟨#[]⟩ : ByteArray), .int .i64 0]) ?_ 2 _ rfl; (with_reducible repeat (first | refine kdn ?_ _ | refine kdw ?_ | refine kal ?_ _)); refine kpt (cs := #[.int .i64 t465, .int .i64 0, .int .i64 0, .string (⟨#[]⟩ : ByteArray), .int .i64 0]) ?_ 1 _ rfl; (with_reducible repeat (first | refine kdn ?_ _ | refine kdw ?_ | refine kal ?_ _)); refine kpt (cs := #[.int .i64 0, .int .i64 0, .int .i64 0, .string (⟨#[]⟩ : ByteArray), .int .i64 0]) ?_ 0 _ rfl; (with_reducible repeat (first | refine kdn ?_ _ | refine kdw ?_ | refine kal ?_ _)); exact BK471.out⟩
        have n4_ : Aside0 (Below w.heap.size w (((((w42.setCell ⟨gb471, 0, none⟩ (.int .i64 t465)).setCell ⟨gb471, 1, none⟩ (.int .i64 t466)).setCell ⟨gb471, 2, none⟩ (.int .i64 t467)).setCell ⟨gb471, 3, none⟩ (.string t468)).setCell ⟨gb471, 4, none⟩ (.int .i64 t469))) := ⟨by repeat (first | (with_reducible first | exact HB.out | apply bal | apply bdn | apply bd1 | refine bst ?_ GE456.out | refine bst ?_ GE458.out | refine bst ?_ GE459.out | refine bst ?_ GE471.out) | exact HB.out)⟩
        (try clear BK456)
        (try clear BK458)
        (try clear BK459)
        (try clear BK471)
        (try clear HB)
        generalize (((((w42.setCell ⟨gb471, 0, none⟩ (.int .i64 t465)).setCell ⟨gb471, 1, none⟩ (.int .i64 t466)).setCell ⟨gb471, 2, none⟩ (.int .i64 t467)).setCell ⟨gb471, 3, none⟩ (.string t468)).setCell ⟨gb471, 4, none⟩ (.int .i64 t469)) = w51 at n0_ n1_ n2_ n3_ n4_ ⊢
        have BK456 := n0_
        have BK458 := n1_
        have BK459 := n2_
        have BK471 := n3_
        have HB := n4_
        clear n0_ n1_ n2_ n3_ n4_
        have n0_ := Aside0.mk (kdw BK456.out)
        have n1_ := Aside0.mk (kdw BK458.out)
        have n2_ := Aside0.mk (kdw BK459.out)
        have n3_ := Aside0.mk (kdw BK471.out)
        have n4_ := Aside0.mk (bd1 HB.out)
        clear BK456
        clear BK458
        clear BK459
        clear BK471
        clear HB
        have BK456 := n0_
        have BK458 := n1_
        have BK459 := n2_
        have BK471 := n3_
        have HB := n4_
        clear n0_ n1_ n2_ n3_ n4_
        refine start_ (n := 15) (S := fun w' => w'.cell? ⟨gb458, 0, none⟩ = some (.int .i64 a0) ∧ w'.cell? ⟨gb458, 1, none⟩ = some (.int .i64 a1) ∧ w'.cell? ⟨gb458, 2, none⟩ = some (.int .i64 a2_0) ∧ w'.cell? ⟨gb458, 3, none⟩ = some (.string t457) ∧ w'.cell? ⟨gb458, 4, none⟩ = some (.int .i64 a2_2) ∧ w'.cell? ⟨gb459, 0, none⟩ = some (.int .i64 a0) ∧ w'.cell? ⟨gb459, 1, none⟩ = some (.int .i64 a1) ∧ w'.cell? ⟨gb459, 2, none⟩ = some (.int .i64 a2_0) ∧ w'.cell? ⟨gb459, 3, none⟩ = some (.string t457) ∧ w'.cell? ⟨gb459, 4, none⟩ = some (.int .i64 a2_2) ∧ w'.cell? ⟨gb471, 0, none⟩ = some (.int .i64 t465) ∧ w'.cell? ⟨gb471, 1, none⟩ = some (.int .i64 t466) ∧ w'.cell? ⟨gb471, 2, none⟩ = some (.int .i64 t467) ∧ w'.cell? ⟨gb471, 3, none⟩ = some (.string t468) ∧ w'.cell? ⟨gb471, 4, none⟩ = some (.int .i64 t469)) (ds := []) #[false,false,false,false,false,false,false,false,false,false,false,false,false,false,false] (by kernel_rfl) rfl rfl ⟨(kcl BK458.out 0).trans rfl, (kcl BK458.out 1).trans rfl, (kcl BK458.out 2).trans rfl, (kcl BK458.out 3).trans rfl, (kcl BK458.out 4).trans rfl, (kcl BK459.out 0).trans rfl, (kcl BK459.out 1).trans rfl, (kcl BK459.out 2).trans rfl, (kcl BK459.out 3).trans rfl, (kcl BK459.out 4).trans rfl, (kcl BK471.out 0).trans rfl, (kcl BK471.out 1).trans rfl, (kcl BK471.out 2).trans rfl, (kcl BK471.out 3).trans rfl, (kcl BK471.out 4).trans rfl⟩ (fun hHeld => ?_); refine with_tabW armoirelaw24_FrameReplies.tab9 armoirelaw24_FrameReplies.bits9 (fun HT_ HW_ => ?_)
        generalize w51.drew = w52 at BK456 BK458 BK459 BK471 HB hHeld ⊢
        refine take_ (i := 0) (N := some 41) (v := ?_) (a' := ?_) #[true,false,false,false,false,false,false,false,false,false,false,false,false,false,false] rfl rfl (tkw HT_.out HW_.out (by kernel_rfl)) (fun _ _ _ h => h) (Or.inl ⟨by rfl, ?_⟩) hHeld ?_ ?_
        rotate_left
        · rintro w' ⟨s0, s1, s2, s3, s4, s5, s6, s7, s8, s9, s10, s11, s12, s13, s14⟩
          go_simp
          with_reducible rfl
        rotate_left; (simp only [Act.put, List.setIfInBounds_toArray, List.set_cons_zero, List.set_cons_succ, i64_w, i32_w]; rfl)
        refine take_ (i := 2) (N := some 43) (v := ?_) (a' := ?_) #[true,false,true,false,false,false,false,false,false,false,false,false,false,false,false] rfl rfl (tkw HT_.out HW_.out (by kernel_rfl)) (fun _ _ _ h => h) (Or.inl ⟨by rfl, ?_⟩) hHeld ?_ ?_
        rotate_left
        · rintro w' ⟨s0, s1, s2, s3, s4, s5, s6, s7, s8, s9, s10, s11, s12, s13, s14⟩
          go_simp
          with_reducible rfl
        rotate_left; (simp only [Act.put, List.setIfInBounds_toArray, List.set_cons_zero, List.set_cons_succ, i64_w, i32_w]; rfl)
        refine one_ (i := 1) (N := some 42) #[true,true,true,false,false,false,false,false,false,false,false,false,false,false,false] rfl rfl (one_of HT_.out (by kernel_rfl)) (by decide) (fun K hK => ?_)
        refine goes_ Try.func22 (by kernel_rfl) rfl #[.agg #[.int .i64 a0, .int .i64 a1, .int .i64 a2_0, .string t457, .int .i64 a2_2]] (by rfl) rfl rfl (by (try simp only [List.map_toArray, List.map_cons, List.map_nil]); first | done | rfl | (simp only [List.length_drop, List.length_take]; rfl) | (simp only [Act.eval, Array.getD_eq_getD_getElem?, Option.getD_some, *]; done) | (simp only [Array.mk.injEq, List.cons.injEq, Value.int.injEq, true_and, and_true]; first | omega | (simp [IntKind.wrap, IntKind.bits, IntKind.signed]; omega))) ?_
        with_reducible refine (frame_Reply_Text.calls kj4 a0 a1 a2_0 t457 a2_2 t472 _ A47.out).mono ?_
        rintro e w53 ⟨rfl, hb⟩
        refine ⟨_, rfl, ?_⟩
        have n0_ := Aside0.mk (kbl (g := gb456) (o := .cells #[.int .i64 a2_0, .string t457, .int .i64 a2_2] 51 (0, 0)) (by (with_reducible repeat (first | refine kdn ?_ _ | refine kdw ?_ | refine kal ?_ _)); exact BK456.out) hb)
        have n1_ := Aside0.mk (kbl (g := gb458) (o := .cells #[.int .i64 a0, .int .i64 a1, .int .i64 a2_0, .string t457, .int .i64 a2_2] 53 (0, 0)) (by (with_reducible repeat (first | refine kdn ?_ _ | refine kdw ?_ | refine kal ?_ _)); exact BK458.out) hb)
        have n2_ := Aside0.mk (kbl (g := gb459) (o := .cells #[.int .i64 a0, .int .i64 a1, .int .i64 a2_0, .string t457, .int .i64 a2_2] 58 (0, 0)) (by (with_reducible repeat (first | refine kdn ?_ _ | refine kdw ?_ | refine kal ?_ _)); exact BK459.out) hb)
        have n3_ := Aside0.mk (kbl (g := gb471) (o := .cells #[.int .i64 t465, .int .i64 t466, .int .i64 t467, .string t468, .int .i64 t469] 53 (0, 0)) (by (with_reducible repeat (first | refine kdn ?_ _ | refine kdw ?_ | refine kal ?_ _)); exact BK471.out) hb)
        have n4_ := Aside0.mk (bsp (by repeat (first | (with_reducible first | exact HB.out | apply bal | apply bdn | apply bd1 | refine bst ?_ GE456.out | refine bst ?_ GE458.out | refine bst ?_ GE459.out | refine bst ?_ GE471.out) | exact HB.out)) hb)
        clear BK456
        clear BK458
        clear BK459
        clear BK471
        clear HB
        have BK456 := n0_
        have BK458 := n1_
        have BK459 := n2_
        have BK471 := n3_
        have HB := n4_
        clear n0_ n1_ n2_ n3_ n4_
        (try clear hb)
        (try clear hb2)
        (try clear hk)
        (try clear hi)
        refine hK.out _ _ ⟨(kcl BK458.out 0).trans rfl, (kcl BK458.out 1).trans rfl, (kcl BK458.out 2).trans rfl, (kcl BK458.out 3).trans rfl, (kcl BK458.out 4).trans rfl, (kcl BK459.out 0).trans rfl, (kcl BK459.out 1).trans rfl, (kcl BK459.out 2).trans rfl, (kcl BK459.out 3).trans rfl, (kcl BK459.out 4).trans rfl, (kcl BK471.out 0).trans rfl, (kcl BK471.out 1).trans rfl, (kcl BK471.out 2).trans rfl, (kcl BK471.out 3).trans rfl, (kcl BK471.out 4).trans rfl⟩ (fun hHeld => ?_)
        clear hK K
        refine norm_ (a' := ?_) ?_ ?_
        rotate_left
        · show Act.put _ (some 42) _ = _
          simp only [Act.put, List.setIfInBounds_toArray, List.set_cons_zero, List.set_cons_succ, i64_w, i32_w]
          rfl
        refine one_ (i := 3) (N := some 44) #[true,true,true,true,false,false,false,false,false,false,false,false,false,false,false] rfl rfl (one_of HT_.out (by kernel_rfl)) (by decide) (fun K hK => ?_)
        refine goes_ Try.func25 (by kernel_rfl) rfl #[.agg #[.int .i64 a0, .int .i64 a1, .int .i64 a2_0, .string t457, .int .i64 a2_2]] (by rfl) rfl rfl (by (try simp only [List.map_toArray, List.map_cons, List.map_nil]); first | done | rfl | (simp only [List.length_drop, List.length_take]; rfl) | (simp only [Act.eval, Array.getD_eq_getD_getElem?, Option.getD_some, *]; done) | (simp only [Array.mk.injEq, List.cons.injEq, Value.int.injEq, true_and, and_true]; first | omega | (simp [IntKind.wrap, IntKind.bits, IntKind.signed]; omega))) ?_
        with_reducible refine (armoireref24_TextReply.calls kj4 a0 a1 a2_0 t457 a2_2 t473 _ A48.out).mono ?_
        rintro e w54 ⟨rfl, hb⟩
        refine ⟨_, rfl, ?_⟩
        have n0_ := Aside0.mk (kbl (g := gb456) (o := .cells #[.int .i64 a2_0, .string t457, .int .i64 a2_2] 51 (0, 0)) (by (with_reducible repeat (first | refine kdn ?_ _ | refine kdw ?_ | refine kal ?_ _)); exact BK456.out) hb)
        have n1_ := Aside0.mk (kbl (g := gb458) (o := .cells #[.int .i64 a0, .int .i64 a1, .int .i64 a2_0, .string t457, .int .i64 a2_2] 53 (0, 0)) (by (with_reducible repeat (first | refine kdn ?_ _ | refine kdw ?_ | refine kal ?_ _)); exact BK458.out) hb)
        have n2_ := Aside0.mk (kbl (g := gb459) (o := .cells #[.int .i64 a0, .int .i64 a1, .int .i64 a2_0, .string t457, .int .i64 a2_2] 58 (0, 0)) (by (with_reducible repeat (first | refine kdn ?_ _ | refine kdw ?_ | refine kal ?_ _)); exact BK459.out) hb)
        have n3_ := Aside0.mk (kbl (g := gb471) (o := .cells #[.int .i64 t465, .int .i64 t466, .int .i64 t467, .string t468, .int .i64 t469] 53 (0, 0)) (by (with_reducible repeat (first | refine kdn ?_ _ | refine kdw ?_ | refine kal ?_ _)); exact BK471.out) hb)
        have n4_ := Aside0.mk (bsp (by repeat (first | (with_reducible first | exact HB.out | apply bal | apply bdn | apply bd1 | refine bst ?_ GE456.out | refine bst ?_ GE458.out | refine bst ?_ GE459.out | refine bst ?_ GE471.out) | exact HB.out)) hb)
        clear BK456
        clear BK458
        clear BK459
        clear BK471
        clear HB
        have BK456 := n0_
        have BK458 := n1_
        have BK459 := n2_
        have BK471 := n3_
        have HB := n4_
        clear n0_ n1_ n2_ n3_ n4_
        (try clear hb)
        (try clear hb2)
        (try clear hk)
        (try clear hi)
        refine hK.out _ _ ⟨(kcl BK458.out 0).trans rfl, (kcl BK458.out 1).trans rfl, (kcl BK458.out 2).trans rfl, (kcl BK458.out 3).trans rfl, (kcl BK458.out 4).trans rfl, (kcl BK459.out 0).trans rfl, (kcl BK459.out 1).trans rfl, (kcl BK459.out 2).trans rfl, (kcl BK459.out 3).trans rfl, (kcl BK459.out 4).trans rfl, (kcl BK471.out 0).trans rfl, (kcl BK471.out 1).trans rfl, (kcl BK471.out 2).trans rfl, (kcl BK471.out 3).trans rfl, (kcl BK471.out 4).trans rfl⟩ (fun hHeld => ?_)
        clear hK K
        refine norm_ (a' := ?_) ?_ ?_
        rotate_left
        · show Act.put _ (some 44) _ = _
          simp only [Act.put, List.setIfInBounds_toArray, List.set_cons_zero, List.set_cons_succ, i64_w, i32_w]
          rfl
        refine pure_ (i := 4) (N := some 45) (v := ?_) (a' := ?_) (bA 15 31) rfl rfl (any_of HT_.out (by kernel_rfl)) (fun _ _ _ h => h) (Or.inl ⟨by rfl, ?_⟩) ?_ ?_
        rotate_left; (intro w'; go_simp; with_reducible rfl); rotate_left; (simp only [Act.put, List.setIfInBounds_toArray, List.set_cons_zero, List.set_cons_succ, i64_w, i32_w]; rfl)
        refine pure_ (i := 5) (N := some 46) (v := ?_) (a' := ?_) (bA 15 63) rfl rfl (any_of HT_.out (by kernel_rfl)) (fun _ _ _ h => h) (Or.inl ⟨by rfl, ?_⟩) ?_ ?_
        rotate_left; (intro w'; go_simp; with_reducible rfl); rotate_left; (simp only [Act.put, List.setIfInBounds_toArray, List.set_cons_zero, List.set_cons_succ, i64_w, i32_w]; rfl)
        refine take_ (i := 6) (N := some 47) (v := ?_) (a' := ?_) #[true,true,true,true,true,true,true,false,false,false,false,false,false,false,false] rfl rfl (tkw HT_.out HW_.out (by kernel_rfl)) (fun _ _ _ h => h) (Or.inl ⟨by rfl, ?_⟩) hHeld ?_ ?_
        rotate_left
        · rintro w' ⟨s0, s1, s2, s3, s4, s5, s6, s7, s8, s9, s10, s11, s12, s13, s14⟩
          go_simp
          with_reducible rfl
        rotate_left; (simp only [Act.put, List.setIfInBounds_toArray, List.set_cons_zero, List.set_cons_succ, i64_w, i32_w]; rfl)
        refine take_ (i := 7) (N := some 48) (v := ?_) (a' := ?_) #[true,true,true,true,true,true,true,true,false,false,false,false,false,false,false] rfl rfl (tkw HT_.out HW_.out (by kernel_rfl)) (fun _ _ _ h => h) (Or.inl ⟨by rfl, ?_⟩) hHeld ?_ ?_
        rotate_left
        · rintro w' ⟨s0, s1, s2, s3, s4, s5, s6, s7, s8, s9, s10, s11, s12, s13, s14⟩
          go_simp
          with_reducible rfl
        rotate_left; (simp only [Act.put, List.setIfInBounds_toArray, List.set_cons_zero, List.set_cons_succ, i64_w, i32_w]; rfl)
        refine pure_ (i := 8) (N := some 49) (v := ?_) (a' := ?_) (bA 15 511) rfl rfl (any_of HT_.out (by kernel_rfl)) (fun _ _ _ h => h) (Or.inl ⟨by rfl, ?_⟩) ?_ ?_
        rotate_left; (intro w'; go_simp; with_reducible rfl); rotate_left; (simp only [Act.put, List.setIfInBounds_toArray, List.set_cons_zero, List.set_cons_succ, i64_w, i32_w]; rfl)
        refine pure_ (i := 9) (N := some 50) (v := ?_) (a' := ?_) (bA 15 1023) rfl rfl (any_of HT_.out (by kernel_rfl)) (fun _ _ _ h => h) (Or.inl ⟨by rfl, ?_⟩) ?_ ?_
        rotate_left; (intro w'; go_simp; with_reducible rfl); rotate_left; (simp only [Act.put, List.setIfInBounds_toArray, List.set_cons_zero, List.set_cons_succ, i64_w, i32_w]; rfl)
        refine pure_ (i := 10) (N := some 51) (v := ?_) (a' := ?_) (bA 15 2047) rfl rfl (any_of HT_.out (by kernel_rfl)) (fun _ _ _ h => h) (Or.inl ⟨by rfl, ?_⟩) ?_ ?_
        rotate_left; (intro w'; go_simp; with_reducible rfl); rotate_left; (simp only [Act.put, List.setIfInBounds_toArray, List.set_cons_zero, List.set_cons_succ, i64_w, i32_w]; rfl)
        refine pure_ (i := 11) (N := some 52) (v := ?_) (a' := ?_) (bA 15 4095) rfl rfl (any_of HT_.out (by kernel_rfl)) (fun _ _ _ h => h) (Or.inl ⟨by rfl, ?_⟩) ?_ ?_
        rotate_left; (intro w'; go_simp; with_reducible rfl); rotate_left; (simp only [Act.put, List.setIfInBounds_toArray, List.set_cons_zero, List.set_cons_succ, i64_w, i32_w]; rfl)
        refine pure_ (i := 12) (N := some 53) (v := ?_) (a' := ?_) (bA 15 8191) rfl rfl (any_of HT_.out (by kernel_rfl)) (fun _ _ _ h => h) (Or.inl ⟨by rfl, ?_⟩) ?_ ?_
        rotate_left; (intro w'; go_simp; with_reducible rfl); rotate_left; (simp only [Act.put, List.setIfInBounds_toArray, List.set_cons_zero, List.set_cons_succ, i64_w, i32_w]; rfl)
        refine pure_ (i := 13) (N := some 54) (v := ?_) (a' := ?_) (bA 15 16383) rfl rfl (any_of HT_.out (by kernel_rfl)) (fun _ _ _ h => h) (Or.inl ⟨by rfl, ?_⟩) ?_ ?_
        rotate_left; (intro w'; go_simp; with_reducible rfl); rotate_left; (simp only [Act.put, List.setIfInBounds_toArray, List.set_cons_zero, List.set_cons_succ, i64_w, i32_w]; rfl)
        refine pure_ (i := 14) (N := some 6) (v := ?_) (a' := ?_) (bA 15 32767) rfl rfl (any_of HT_.out (by kernel_rfl)) (fun _ _ _ h => h) (Or.inl ⟨by rfl, ?_⟩) ?_ ?_
        rotate_left; (intro w'; go_simp; with_reducible rfl); rotate_left; (simp only [Act.put, List.setIfInBounds_toArray, List.set_cons_zero, List.set_cons_succ, i64_w, i32_w]; rfl)
        refine done_ (done_of HT_.out (by kernel_rfl)) ?_
        try go_wp2
        go_meet
        case rel => exact ⟨_, ((t470 == 0)), (by first | rfl | (simp; done) | (simp [*]; done) | exact emp1_ _ | exact (emp1_ _).symm | exact emp2_ _ | exact (emp2_ _).symm), H', ⟨by have := HJ4.out; first | omega | exact Nat.le_refl _⟩, ⟨by (with_reducible repeat (first | refine kdn ?_ _ | refine kdw ?_ | refine kal ?_ _)); exact BK456.out⟩, ⟨by (with_reducible repeat (first | refine kdn ?_ _ | refine kdw ?_ | refine kal ?_ _)); exact BK458.out⟩, ⟨by (with_reducible repeat (first | refine kdn ?_ _ | refine kdw ?_ | refine kal ?_ _)); exact BK459.out⟩, ⟨by (with_reducible repeat (first | refine kdn ?_ _ | refine kdw ?_ | refine kal ?_ _)); exact BK471.out⟩, ⟨by repeat (first | (with_reducible first | exact HB.out | apply bal | apply bdn | apply bd1 | refine bst ?_ GE456.out | refine bst ?_ GE458.out | refine bst ?_ GE459.out | refine bst ?_ GE471.out) | exact HB.out)⟩⟩
      rw [if_neg c50] at H
      have c50b0 : (t465 == a0 && (t466 == a1 && ((t467 == a2_0 && (t468.toList == t457.toList && (t469 == a2_2)))))) = false := by simpa using c50
      (try (have c50b1 : decide (t465 = a0 && (t466 == a1 && ((t467 == a2_0 && (t468.toList == t457.toList && (t469 == a2_2)))))) = false := by simpa using c50))
      (try (have c50b2 : (t465 == a0 && (t466 == a1 && ((t467 == a2_0 && (t468.toList == t457.toList && (t469 == a2_2)))))) = false := by simpa using c50))
      (try (have c50b3 : ¬ (t465 = a0 && (t466 == a1 && ((t467 == a2_0 && (t468.toList == t457.toList && (t469 == a2_2)))))) := by simpa using c50))
      clear c50
      have H' := Aside0.mk H
      clear H
      try go_wp2
      have n0_ : Aside0 ((((((w42.setCell ⟨gb471, 0, none⟩ (.int .i64 t465)).setCell ⟨gb471, 1, none⟩ (.int .i64 t466)).setCell ⟨gb471, 2, none⟩ (.int .i64 t467)).setCell ⟨gb471, 3, none⟩ (.string t468)).setCell ⟨gb471, 4, none⟩ (.int .i64 t469)).heap[gb456]? = some (.cells #[.int .i64 a2_0, .string t457, .int .i64 a2_2] 51 (0, 0))) := ⟨by (with_reducible repeat (first | refine kdn ?_ _ | refine kdw ?_ | refine kal ?_ _)); refine blk_far ?_ NB456_471.out _; (with_reducible repeat (first | refine kdn ?_ _ | refine kdw ?_ | refine kal ?_ _)); refine blk_far ?_ NB456_471.out _; (with_reducible repeat (first | refine kdn ?_ _ | refine kdw ?_ | refine kal ?_ _)); refine blk_far ?_ NB456_471.out _; (with_reducible repeat (first | refine kdn ?_ _ | refine kdw ?_ | refine kal ?_ _)); refine blk_far ?_ NB456_471.out _; (with_reducible repeat (first | refine kdn ?_ _ | refine kdw ?_ | refine kal ?_ _)); refine blk_far ?_ NB456_471.out _; (with_reducible repeat (first | refine kdn ?_ _ | refine kdw ?_ | refine kal ?_ _)); exact BK456.out⟩
      have n1_ : Aside0 ((((((w42.setCell ⟨gb471, 0, none⟩ (.int .i64 t465)).setCell ⟨gb471, 1, none⟩ (.int .i64 t466)).setCell ⟨gb471, 2, none⟩ (.int .i64 t467)).setCell ⟨gb471, 3, none⟩ (.string t468)).setCell ⟨gb471, 4, none⟩ (.int .i64 t469)).heap[gb458]? = some (.cells #[.int .i64 a0, .int .i64 a1, .int .i64 a2_0, .string t457, .int .i64 a2_2] 53 (0, 0))) := ⟨by (with_reducible repeat (first | refine kdn ?_ _ | refine kdw ?_ | refine kal ?_ _)); refine blk_far ?_ NB458_471.out _; (with_reducible repeat (first | refine kdn ?_ _ | refine kdw ?_ | refine kal ?_ _)); refine blk_far ?_ NB458_471.out _; (with_reducible repeat (first | refine kdn ?_ _ | refine kdw ?_ | refine kal ?_ _)); refine blk_far ?_ NB458_471.out _; (with_reducible repeat (first | refine kdn ?_ _ | refine kdw ?_ | refine kal ?_ _)); refine blk_far ?_ NB458_471.out _; (with_reducible repeat (first | refine kdn ?_ _ | refine kdw ?_ | refine kal ?_ _)); refine blk_far ?_ NB458_471.out _; (with_reducible repeat (first | refine kdn ?_ _ | refine kdw ?_ | refine kal ?_ _)); exact BK458.out⟩
      have n2_ : Aside0 ((((((w42.setCell ⟨gb471, 0, none⟩ (.int .i64 t465)).setCell ⟨gb471, 1, none⟩ (.int .i64 t466)).setCell ⟨gb471, 2, none⟩ (.int .i64 t467)).setCell ⟨gb471, 3, none⟩ (.string t468)).setCell ⟨gb471, 4, none⟩ (.int .i64 t469)).heap[gb459]? = some (.cells #[.int .i64 a0, .int .i64 a1, .int .i64 a2_0, .string t457, .int .i64 a2_2] 58 (0, 0))) := ⟨by (with_reducible repeat (first | refine kdn ?_ _ | refine kdw ?_ | refine kal ?_ _)); refine blk_far ?_ NB459_471.out _; (with_reducible repeat (first | refine kdn ?_ _ | refine kdw ?_ | refine kal ?_ _)); refine blk_far ?_ NB459_471.out _; (with_reducible repeat (first | refine kdn ?_ _ | refine kdw ?_ | refine kal ?_ _)); refine blk_far ?_ NB459_471.out _; (with_reducible repeat (first | refine kdn ?_ _ | refine kdw ?_ | refine kal ?_ _)); refine blk_far ?_ NB459_471.out _; (with_reducible repeat (first | refine kdn ?_ _ | refine kdw ?_ | refine kal ?_ _)); refine blk_far ?_ NB459_471.out _; (with_reducible repeat (first | refine kdn ?_ _ | refine kdw ?_ | refine kal ?_ _)); exact BK459.out⟩
      have n3_ : Aside0 ((((((w42.setCell ⟨gb471, 0, none⟩ (.int .i64 t465)).setCell ⟨gb471, 1, none⟩ (.int .i64 t466)).setCell ⟨gb471, 2, none⟩ (.int .i64 t467)).setCell ⟨gb471, 3, none⟩ (.string t468)).setCell ⟨gb471, 4, none⟩ (.int .i64 t469)).heap[gb471]? = some (.cells #[.int .i64 t465, .int .i64 t466, .int .i64 t467, .string t468, .int .i64 t469] 53 (0, 0))) := ⟨by (with_reducible repeat (first | refine kdn ?_ _ | refine kdw ?_ | refine kal ?_ _)); refine kpt (cs := #[.int .i64 t465, .int .i64 t466, .int .i64 t467, .string t468, .int .i64 0]) ?_ 4 _ rfl; (with_reducible repeat (first | refine kdn ?_ _ | refine kdw ?_ | refine kal ?_ _)); refine kpt (cs := #[.int .i64 t465, .int .i64 t466, .int .i64 t467, .string (⟨#[]⟩ : ByteArray), .int .i64 0]) ?_ 3 _ rfl; (with_reducible repeat (first | refine kdn ?_ _ | refine kdw ?_ | refine kal ?_ _)); refine kpt (cs := #[.int .i64 t465, .int .i64 t466, .int .i64 0, .string (⟨#[]⟩ : ByteArray), .int .i64 0]) ?_ 2 _ rfl; (with_reducible repeat (first | refine kdn ?_ _ | refine kdw ?_ | refine kal ?_ _)); refine kpt (cs := #[.int .i64 t465, .int .i64 0, .int .i64 0, .string (⟨#[]⟩ : ByteArray), .int .i64 0]) ?_ 1 _ rfl; (with_reducible repeat (first | refine kdn ?_ _ | refine kdw ?_ | refine kal ?_ _)); refine kpt (cs := #[.int .i64 0, .int .i64 0, .int .i64 0, .string (⟨#[]⟩ : ByteArray), .int .i64 0]) ?_ 0 _ rfl; (with_reducible repeat (first | refine kdn ?_ _ | refine kdw ?_ | refine kal ?_ _)); exact BK471.out⟩
      have n4_ : Aside0 (Below w.heap.size w (((((w42.setCell ⟨gb471, 0, none⟩ (.int .i64 t465)).setCell ⟨gb471, 1, none⟩ (.int .i64 t466)).setCell ⟨gb471, 2, none⟩ (.int .i64 t467)).setCell ⟨gb471, 3, none⟩ (.string t468)).setCell ⟨gb471, 4, none⟩ (.int .i64 t469))) := ⟨by repeat (first | (with_reducible first | exact HB.out | apply bal | apply bdn | apply bd1 | refine bst ?_ GE456.out | refine bst ?_ GE458.out | refine bst ?_ GE459.out | refine bst ?_ GE471.out) | exact HB.out)⟩
      (try clear BK456)
      (try clear BK458)
      (try clear BK459)
      (try clear BK471)
      (try clear HB)
      generalize (((((w42.setCell ⟨gb471, 0, none⟩ (.int .i64 t465)).setCell ⟨gb471, 1, none⟩ (.int .i64 t466)).setCell ⟨gb471, 2, none⟩ (.int .i64 t467)).setCell ⟨gb471, 3, none⟩ (.string t468)).setCell ⟨gb471, 4, none⟩ (.int .i64 t469)) = w55 at n0_ n1_ n2_ n3_ n4_ ⊢
      have BK456 := n0_
      have BK458 := n1_
      have BK459 := n2_
      have BK471 := n3_
      have HB := n4_
      clear n0_ n1_ n2_ n3_ n4_
      have n0_ := Aside0.mk (kdw BK456.out)
      have n1_ := Aside0.mk (kdw BK458.out)
      have n2_ := Aside0.mk (kdw BK459.out)
      have n3_ := Aside0.mk (kdw BK471.out)
      have n4_ := Aside0.mk (bd1 HB.out)
      clear BK456
      clear BK458
      clear BK459
      clear BK471
      clear HB
      have BK456 := n0_
      have BK458 := n1_
      have BK459 := n2_
      have BK471 := n3_
      have HB := n4_
      clear n0_ n1_ n2_ n3_ n4_
      refine start_ (n := 15) (S := fun w' => w'.cell? ⟨gb458, 0, none⟩ = some (.int .i64 a0) ∧ w'.cell? ⟨gb458, 1, none⟩ = some (.int .i64 a1) ∧ w'.cell? ⟨gb458, 2, none⟩ = some (.int .i64 a2_0) ∧ w'.cell? ⟨gb458, 3, none⟩ = some (.string t457) ∧ w'.cell? ⟨gb458, 4, none⟩ = some (.int .i64 a2_2) ∧ w'.cell? ⟨gb459, 0, none⟩ = some (.int .i64 a0) ∧ w'.cell? ⟨gb459, 1, none⟩ = some (.int .i64 a1) ∧ w'.cell? ⟨gb459, 2, none⟩ = some (.int .i64 a2_0) ∧ w'.cell? ⟨gb459, 3, none⟩ = some (.string t457) ∧ w'.cell? ⟨gb459, 4, none⟩ = some (.int .i64 a2_2) ∧ w'.cell? ⟨gb471, 0, none⟩ = some (.int .i64 t465) ∧ w'.cell? ⟨gb471, 1, none⟩ = some (.int .i64 t466) ∧ w'.cell? ⟨gb471, 2, none⟩ = some (.int .i64 t467) ∧ w'.cell? ⟨gb471, 3, none⟩ = some (.string t468) ∧ w'.cell? ⟨gb471, 4, none⟩ = some (.int .i64 t469)) (ds := []) #[false,false,false,false,false,false,false,false,false,false,false,false,false,false,false] (by kernel_rfl) rfl rfl ⟨(kcl BK458.out 0).trans rfl, (kcl BK458.out 1).trans rfl, (kcl BK458.out 2).trans rfl, (kcl BK458.out 3).trans rfl, (kcl BK458.out 4).trans rfl, (kcl BK459.out 0).trans rfl, (kcl BK459.out 1).trans rfl, (kcl BK459.out 2).trans rfl, (kcl BK459.out 3).trans rfl, (kcl BK459.out 4).trans rfl, (kcl BK471.out 0).trans rfl, (kcl BK471.out 1).trans rfl, (kcl BK471.out 2).trans rfl, (kcl BK471.out 3).trans rfl, (kcl BK471.out 4).trans rfl⟩ (fun hHeld => ?_); refine with_tabW armoirelaw24_FrameReplies.tab9 armoirelaw24_FrameReplies.bits9 (fun HT_ HW_ => ?_)
      generalize w55.drew = w56 at BK456 BK458 BK459 BK471 HB hHeld ⊢
      refine take_ (i := 0) (N := some 41) (v := ?_) (a' := ?_) #[true,false,false,false,false,false,false,false,false,false,false,false,false,false,false] rfl rfl (tkw HT_.out HW_.out (by kernel_rfl)) (fun _ _ _ h => h) (Or.inl ⟨by rfl, ?_⟩) hHeld ?_ ?_
      rotate_left
      · rintro w' ⟨s0, s1, s2, s3, s4, s5, s6, s7, s8, s9, s10, s11, s12, s13, s14⟩
        go_simp
        with_reducible rfl
      rotate_left; (simp only [Act.put, List.setIfInBounds_toArray, List.set_cons_zero, List.set_cons_succ, i64_w, i32_w]; rfl)
      refine take_ (i := 2) (N := some 43) (v := ?_) (a' := ?_) #[true,false,true,false,false,false,false,false,false,false,false,false,false,false,false] rfl rfl (tkw HT_.out HW_.out (by kernel_rfl)) (fun _ _ _ h => h) (Or.inl ⟨by rfl, ?_⟩) hHeld ?_ ?_
      rotate_left
      · rintro w' ⟨s0, s1, s2, s3, s4, s5, s6, s7, s8, s9, s10, s11, s12, s13, s14⟩
        go_simp
        with_reducible rfl
      rotate_left; (simp only [Act.put, List.setIfInBounds_toArray, List.set_cons_zero, List.set_cons_succ, i64_w, i32_w]; rfl)
      refine one_ (i := 1) (N := some 42) #[true,true,true,false,false,false,false,false,false,false,false,false,false,false,false] rfl rfl (one_of HT_.out (by kernel_rfl)) (by decide) (fun K hK => ?_)
      refine goes_ Try.func22 (by kernel_rfl) rfl #[.agg #[.int .i64 a0, .int .i64 a1, .int .i64 a2_0, .string t457, .int .i64 a2_2]] (by rfl) rfl rfl (by (try simp only [List.map_toArray, List.map_cons, List.map_nil]); first | done | rfl | (simp only [List.length_drop, List.length_take]; rfl) | (simp only [Act.eval, Array.getD_eq_getD_getElem?, Option.getD_some, *]; done) | (simp only [Array.mk.injEq, List.cons.injEq, Value.int.injEq, true_and, and_true]; first | omega | (simp [IntKind.wrap, IntKind.bits, IntKind.signed]; omega))) ?_
      with_reducible refine (frame_Reply_Text.calls kj4 a0 a1 a2_0 t457 a2_2 t472 _ A47.out).mono ?_
      rintro e w57 ⟨rfl, hb⟩
      refine ⟨_, rfl, ?_⟩
      have n0_ := Aside0.mk (kbl (g := gb456) (o := .cells #[.int .i64 a2_0, .string t457, .int .i64 a2_2] 51 (0, 0)) (by (with_reducible repeat (first | refine kdn ?_ _ | refine kdw ?_ | refine kal ?_ _)); exact BK456.out) hb)
      have n1_ := Aside0.mk (kbl (g := gb458) (o := .cells #[.int .i64 a0, .int .i64 a1, .int .i64 a2_0, .string t457, .int .i64 a2_2] 53 (0, 0)) (by (with_reducible repeat (first | refine kdn ?_ _ | refine kdw ?_ | refine kal ?_ _)); exact BK458.out) hb)
      have n2_ := Aside0.mk (kbl (g := gb459) (o := .cells #[.int .i64 a0, .int .i64 a1, .int .i64 a2_0, .string t457, .int .i64 a2_2] 58 (0, 0)) (by (with_reducible repeat (first | refine kdn ?_ _ | refine kdw ?_ | refine kal ?_ _)); exact BK459.out) hb)
      have n3_ := Aside0.mk (kbl (g := gb471) (o := .cells #[.int .i64 t465, .int .i64 t466, .int .i64 t467, .string t468, .int .i64 t469] 53 (0, 0)) (by (with_reducible repeat (first | refine kdn ?_ _ | refine kdw ?_ | refine kal ?_ _)); exact BK471.out) hb)
      have n4_ := Aside0.mk (bsp (by repeat (first | (with_reducible first | exact HB.out | apply bal | apply bdn | apply bd1 | refine bst ?_ GE456.out | refine bst ?_ GE458.out | refine bst ?_ GE459.out | refine bst ?_ GE471.out) | exact HB.out)) hb)
      clear BK456
      clear BK458
      clear BK459
      clear BK471
      clear HB
      have BK456 := n0_
      have BK458 := n1_
      have BK459 := n2_
      have BK471 := n3_
      have HB := n4_
      clear n0_ n1_ n2_ n3_ n4_
      (try clear hb)
      (try clear hb2)
      (try clear hk)
      (try clear hi)
      refine hK.out _ _ ⟨(kcl BK458.out 0).trans rfl, (kcl BK458.out 1).trans rfl, (kcl BK458.out 2).trans rfl, (kcl BK458.out 3).trans rfl, (kcl BK458.out 4).trans rfl, (kcl BK459.out 0).trans rfl, (kcl BK459.out 1).trans rfl, (kcl BK459.out 2).trans rfl, (kcl BK459.out 3).trans rfl, (kcl BK459.out 4).trans rfl, (kcl BK471.out 0).trans rfl, (kcl BK471.out 1).trans rfl, (kcl BK471.out 2).trans rfl, (kcl BK471.out 3).trans rfl, (kcl BK471.out 4).trans rfl⟩ (fun hHeld => ?_)
      clear hK K
      refine norm_ (a' := ?_) ?_ ?_
      rotate_left
      · show Act.put _ (some 42) _ = _
        simp only [Act.put, List.setIfInBounds_toArray, List.set_cons_zero, List.set_cons_succ, i64_w, i32_w]
        rfl
      refine one_ (i := 3) (N := some 44) #[true,true,true,true,false,false,false,false,false,false,false,false,false,false,false] rfl rfl (one_of HT_.out (by kernel_rfl)) (by decide) (fun K hK => ?_)
      refine goes_ Try.func25 (by kernel_rfl) rfl #[.agg #[.int .i64 a0, .int .i64 a1, .int .i64 a2_0, .string t457, .int .i64 a2_2]] (by rfl) rfl rfl (by (try simp only [List.map_toArray, List.map_cons, List.map_nil]); first | done | rfl | (simp only [List.length_drop, List.length_take]; rfl) | (simp only [Act.eval, Array.getD_eq_getD_getElem?, Option.getD_some, *]; done) | (simp only [Array.mk.injEq, List.cons.injEq, Value.int.injEq, true_and, and_true]; first | omega | (simp [IntKind.wrap, IntKind.bits, IntKind.signed]; omega))) ?_
      with_reducible refine (armoireref24_TextReply.calls kj4 a0 a1 a2_0 t457 a2_2 t473 _ A48.out).mono ?_
      rintro e w58 ⟨rfl, hb⟩
      refine ⟨_, rfl, ?_⟩
      have n0_ := Aside0.mk (kbl (g := gb456) (o := .cells #[.int .i64 a2_0, .string t457, .int .i64 a2_2] 51 (0, 0)) (by (with_reducible repeat (first | refine kdn ?_ _ | refine kdw ?_ | refine kal ?_ _)); exact BK456.out) hb)
      have n1_ := Aside0.mk (kbl (g := gb458) (o := .cells #[.int .i64 a0, .int .i64 a1, .int .i64 a2_0, .string t457, .int .i64 a2_2] 53 (0, 0)) (by (with_reducible repeat (first | refine kdn ?_ _ | refine kdw ?_ | refine kal ?_ _)); exact BK458.out) hb)
      have n2_ := Aside0.mk (kbl (g := gb459) (o := .cells #[.int .i64 a0, .int .i64 a1, .int .i64 a2_0, .string t457, .int .i64 a2_2] 58 (0, 0)) (by (with_reducible repeat (first | refine kdn ?_ _ | refine kdw ?_ | refine kal ?_ _)); exact BK459.out) hb)
      have n3_ := Aside0.mk (kbl (g := gb471) (o := .cells #[.int .i64 t465, .int .i64 t466, .int .i64 t467, .string t468, .int .i64 t469] 53 (0, 0)) (by (with_reducible repeat (first | refine kdn ?_ _ | refine kdw ?_ | refine kal ?_ _)); exact BK471.out) hb)
      have n4_ := Aside0.mk (bsp (by repeat (first | (with_reducible first | exact HB.out | apply bal | apply bdn | apply bd1 | refine bst ?_ GE456.out | refine bst ?_ GE458.out | refine bst ?_ GE459.out | refine bst ?_ GE471.out) | exact HB.out)) hb)
      clear BK456
      clear BK458
      clear BK459
      clear BK471
      clear HB
      have BK456 := n0_
      have BK458 := n1_
      have BK459 := n2_
      have BK471 := n3_
      have HB := n4_
      clear n0_ n1_ n2_ n3_ n4_
      (try clear hb)
      (try clear hb2)
      (try clear hk)
      (try clear hi)
      refine hK.out _ _ ⟨(kcl BK458.out 0).trans rfl, (kcl BK458.out 1).trans rfl, (kcl BK458.out 2).trans rfl, (kcl BK458.out 3).trans rfl, (kcl BK458.out 4).trans rfl, (kcl BK459.out 0).trans rfl, (kcl BK459.out 1).trans rfl, (kcl BK459.out 2).trans rfl, (kcl BK459.out 3).trans rfl, (kcl BK459.out 4).trans rfl, (kcl BK471.out 0).trans rfl, (kcl BK471.out 1).trans rfl, (kcl BK471.out 2).trans rfl, (kcl BK471.out 3).trans rfl, (kcl BK471.out 4).trans rfl⟩ (fun hHeld => ?_)
      clear hK K
      refine norm_ (a' := ?_) ?_ ?_
      rotate_left
      · show Act.put _ (some 44) _ = _
        simp only [Act.put, List.setIfInBounds_toArray, List.set_cons_zero, List.set_cons_succ, i64_w, i32_w]
        rfl
      refine pure_ (i := 4) (N := some 45) (v := ?_) (a' := ?_) (bA 15 31) rfl rfl (any_of HT_.out (by kernel_rfl)) (fun _ _ _ h => h) (Or.inl ⟨by rfl, ?_⟩) ?_ ?_
      rotate_left; (intro w'; go_simp; with_reducible rfl); rotate_left; (simp only [Act.put, List.setIfInBounds_toArray, List.set_cons_zero, List.set_cons_succ, i64_w, i32_w]; rfl)
      refine pure_ (i := 5) (N := some 46) (v := ?_) (a' := ?_) (bA 15 63) rfl rfl (any_of HT_.out (by kernel_rfl)) (fun _ _ _ h => h) (Or.inl ⟨by rfl, ?_⟩) ?_ ?_
      rotate_left; (intro w'; go_simp; with_reducible rfl); rotate_left; (simp only [Act.put, List.setIfInBounds_toArray, List.set_cons_zero, List.set_cons_succ, i64_w, i32_w]; rfl)
      refine take_ (i := 6) (N := some 47) (v := ?_) (a' := ?_) #[true,true,true,true,true,true,true,false,false,false,false,false,false,false,false] rfl rfl (tkw HT_.out HW_.out (by kernel_rfl)) (fun _ _ _ h => h) (Or.inl ⟨by rfl, ?_⟩) hHeld ?_ ?_
      rotate_left
      · rintro w' ⟨s0, s1, s2, s3, s4, s5, s6, s7, s8, s9, s10, s11, s12, s13, s14⟩
        go_simp
        with_reducible rfl
      rotate_left; (simp only [Act.put, List.setIfInBounds_toArray, List.set_cons_zero, List.set_cons_succ, i64_w, i32_w]; rfl)
      refine take_ (i := 7) (N := some 48) (v := ?_) (a' := ?_) #[true,true,true,true,true,true,true,true,false,false,false,false,false,false,false] rfl rfl (tkw HT_.out HW_.out (by kernel_rfl)) (fun _ _ _ h => h) (Or.inl ⟨by rfl, ?_⟩) hHeld ?_ ?_
      rotate_left
      · rintro w' ⟨s0, s1, s2, s3, s4, s5, s6, s7, s8, s9, s10, s11, s12, s13, s14⟩
        go_simp
        with_reducible rfl
      rotate_left; (simp only [Act.put, List.setIfInBounds_toArray, List.set_cons_zero, List.set_cons_succ, i64_w, i32_w]; rfl)
      refine pure_ (i := 8) (N := some 49) (v := ?_) (a' := ?_) (bA 15 511) rfl rfl (any_of HT_.out (by kernel_rfl)) (fun _ _ _ h => h) (Or.inl ⟨by rfl, ?_⟩) ?_ ?_
      rotate_left; (intro w'; go_simp; with_reducible rfl); rotate_left; (simp only [Act.put, List.setIfInBounds_toArray, List.set_cons_zero, List.set_cons_succ, i64_w, i32_w]; rfl)
      refine pure_ (i := 9) (N := some 50) (v := ?_) (a' := ?_) (bA 15 1023) rfl rfl (any_of HT_.out (by kernel_rfl)) (fun _ _ _ h => h) (Or.inl ⟨by rfl, ?_⟩) ?_ ?_
      rotate_left; (intro w'; go_simp; with_reducible rfl); rotate_left; (simp only [Act.put, List.setIfInBounds_toArray, List.set_cons_zero, List.set_cons_succ, i64_w, i32_w]; rfl)
      refine pure_ (i := 10) (N := some 51) (v := ?_) (a' := ?_) (bA 15 2047) rfl rfl (any_of HT_.out (by kernel_rfl)) (fun _ _ _ h => h) (Or.inl ⟨by rfl, ?_⟩) ?_ ?_
      rotate_left; (intro w'; go_simp; with_reducible rfl); rotate_left; (simp only [Act.put, List.setIfInBounds_toArray, List.set_cons_zero, List.set_cons_succ, i64_w, i32_w]; rfl)
      refine pure_ (i := 11) (N := some 52) (v := undef) (a' := ?_) (bA 15 4095) rfl rfl (any_of HT_.out (by kernel_rfl)) (fun _ _ _ h => h) (Or.inr ⟨by rfl, rfl⟩) ?_ ?_
      rotate_left; (simp only [Act.put, List.setIfInBounds_toArray, List.set_cons_zero, List.set_cons_succ, i64_w, i32_w]; rfl)
      refine pure_ (i := 12) (N := some 53) (v := undef) (a' := ?_) (bA 15 8191) rfl rfl (any_of HT_.out (by kernel_rfl)) (fun _ _ _ h => h) (Or.inr ⟨by rfl, rfl⟩) ?_ ?_
      rotate_left; (simp only [Act.put, List.setIfInBounds_toArray, List.set_cons_zero, List.set_cons_succ, i64_w, i32_w]; rfl)
      refine pure_ (i := 13) (N := some 54) (v := ?_) (a' := ?_) (bA 15 16383) rfl rfl (any_of HT_.out (by kernel_rfl)) (fun _ _ _ h => h) (Or.inl ⟨by rfl, ?_⟩) ?_ ?_
      rotate_left; (intro w'; go_simp; with_reducible rfl); rotate_left; (simp only [Act.put, List.setIfInBounds_toArray, List.set_cons_zero, List.set_cons_succ, i64_w, i32_w]; rfl)
      refine pure_ (i := 14) (N := some 6) (v := ?_) (a' := ?_) (bA 15 32767) rfl rfl (any_of HT_.out (by kernel_rfl)) (fun _ _ _ h => h) (Or.inl ⟨by rfl, ?_⟩) ?_ ?_
      rotate_left; (intro w'; go_simp; with_reducible rfl); rotate_left; (simp only [Act.put, List.setIfInBounds_toArray, List.set_cons_zero, List.set_cons_succ, i64_w, i32_w]; rfl)
      refine done_ (done_of HT_.out (by kernel_rfl)) ?_
      try go_wp2
      go_meet
      case rel => exact ⟨_, (false), (by first | rfl | (simp; done) | (simp [*]; done) | exact emp1_ _ | exact (emp1_ _).symm | exact emp2_ _ | exact (emp2_ _).symm), H', ⟨by have := HJ4.out; first | omega | exact Nat.le_refl _⟩, ⟨by (with_reducible repeat (first | refine kdn ?_ _ | refine kdw ?_ | refine kal ?_ _)); exact BK456.out⟩, ⟨by (with_reducible repeat (first | refine kdn ?_ _ | refine kdw ?_ | refine kal ?_ _)); exact BK458.out⟩, ⟨by (with_reducible repeat (first | refine kdn ?_ _ | refine kdw ?_ | refine kal ?_ _)); exact BK459.out⟩, ⟨by (with_reducible repeat (first | refine kdn ?_ _ | refine kdw ?_ | refine kal ?_ _)); exact BK471.out⟩, ⟨by repeat (first | (with_reducible first | exact HB.out | apply bal | apply bdn | apply bd1 | refine bst ?_ GE456.out | refine bst ?_ GE458.out | refine bst ?_ GE459.out | refine bst ?_ GE471.out) | exact HB.out)⟩⟩
    clear HC34
    try clear c2
    try clear p2
    try clear c4
    try clear c5
    try clear c22
    try clear c25
    try clear c49
    try clear c49b0
    try clear c49b1
    try clear c50
    try clear c50b0
    try clear c50b1
    try clear c50b2
    obtain ⟨kq, x6_33, rfl, HA, HJ33, BK456, BK458, BK459, BK471, HB⟩ := hcut
    cases kq with
    | zero => exact absurd HA.out (by simp [armoirelaw24_FrameReplies.j1])
    | succ kj33 =>
      have H := HA.out
      clear HA
      simp only [armoirelaw24_FrameReplies.j1] at H
      obtain rfl := Option.some.inj H
      go_wp2
      go_ret
      exact ⟨by first | rfl | (simp [errW_none, errW_some] <;> rfl) | (simp [*, errW_none, errW_some] <;> rfl), by repeat (first | (with_reducible first | exact HB.out | apply bal | apply bdn | apply bd1 | refine bst ?_ GE456.out | refine bst ?_ GE458.out | refine bst ?_ GE459.out | refine bst ?_ GE471.out) | exact HB.out)⟩
def armoirelaw24_FrameReplies.Pure : Prop := ∀ (a0 : Int) (a1 : Int) (a2_0 : Int) (a2_1 : ByteArray) (a2_2 : Int), (Lit.int .i64 a0).wf = true → (Lit.int .i64 a1).wf = true → ((Lit.int .i64 a2_0).wf = true ∧ a2_1.size ≤ maxLen ∧ (Lit.int .i64 a2_2).wf = true) → ∃ k, armoirelaw24_FrameReplies.f k a0 a1 a2_0 a2_1 a2_2 = some true
theorem armoirelaw24_FrameReplies.walk (P : armoirelaw24_FrameReplies.Pure) (a0 : Int) (a1 : Int) (a2_0 : Int) (a2_1 : ByteArray) (a2_2 : Int) (w : World) (w0 : (Lit.int .i64 a0).wf = true) (w1 : (Lit.int .i64 a1).wf = true) (w2 : ((Lit.int .i64 a2_0).wf = true ∧ a2_1.size ≤ maxLen ∧ (Lit.int .i64 a2_2).wf = true)) :
    Calls Try.prog 6 #[.int .i64 a0, .int .i64 a1, .agg #[.int .i64 a2_0, .string a2_1, .int .i64 a2_2]] w fun e w' => e = .returned (.bool true) ∧ Below w.heap.size w w' := by
  obtain ⟨k, h⟩ := P a0 a1 a2_0 a2_1 a2_2 w0 w1 w2
  refine (armoirelaw24_FrameReplies.calls k a0 a1 a2_0 a2_1 a2_2 true w h).mono ?_
  rintro e w' ⟨rfl, hd⟩
  exact ⟨rfl, hd⟩
end Go.Proofs.Ytkkkmbgflflcnaa.PA

