import Derived.Test.YtkkkmbgflflcnaaQQxPAx2
import Derived.Test.YtkkkmbgflflcnaaQQxPAx9
namespace Go.Proofs.Ytkkkmbgflflcnaa.PA
open Go.Proofs.Ytkkkmbgflflcnaa.PL
open Go.RowKit Go.Proofs.YtkkkmbgflflcnaaW.PrintWords Go.Proofs.YtkkkmbgflflcnaaW.PrintLast Go.Proofs.YtkkkmbgflflcnaaW.PrintMore
attribute [local go_sem] max2_int min2_int max_two min_two max_three min_three max_four min_four
set_option linter.unusedVariables false
set_option linter.unusedSimpArgs false
mutual
def method_Call_Check.j0 : Nat → Bool → Int → ByteArray → ByteArray → Int → Int → ByteArray → Bool → Bool → Bool → Option (Int)
  | 0, _, _, _, _, _, _, _, _, _, _ => none
  | k + 1, x11, x132000, x132001, x132002, x132003, x138000, x138001, x138002, x138003, x138004 => if x11 = true then (method_Call_Check.j1 k x11 x132000 x132001 x132002 x132003) else (if x138003 = true then (if x138004 = true then (method_Call_Check.j1 k false x132000 x132001 x132002 x132003) else (method_Call_Check.j1 k (x132003 != 0) x132000 x132001 x132002 x132003)) else (if x132002.toList = ([] : List UInt8) then (if x138004 = true then (method_Call_Check.j1 k false x132000 x132001 x132002 x132003) else (method_Call_Check.j1 k (x132003 != 0) x132000 x132001 x132002 x132003)) else (method_Call_Check.j1 k (x132002.toList != ([] : List UInt8)) x132000 x132001 x132002 x132003)))
def method_Call_Check.j1 : Nat → Bool → Int → ByteArray → ByteArray → Int → Option (Int)
  | 0, _, _, _, _, _ => none
  | k + 1, x11, x132000, x132001, x132002, x132003 => if x11 = true then (some 2) else (if (x132001.size : Int) > 24 then (method_Call_Check.j2 k true x132000 x132001 x132002 x132003) else (method_Call_Check.j2 k (decide ((x132002.size : Int) > 24)) x132000 x132001 x132002 x132003))
def method_Call_Check.j2 : Nat → Bool → Int → ByteArray → ByteArray → Int → Option (Int)
  | 0, _, _, _, _, _ => none
  | k + 1, x36, x132000, x132001, x132002, x132003 => if x36 = true then (some 3) else (if x132000 = 5 then (if x132003 < 1 then (some 4) else (if x132003 > 1048576 then (some 4) else (some 0))) else (if x132000 = 6 then (if x132003 < 1 then (some 4) else (if x132003 > 1048576 then (some 4) else (some 0))) else (some 0)))
end
def method_Call_Check.f (k : Nat) (a0_0 : Int) (a0_1 : ByteArray) (a0_2 : ByteArray) (a0_3 : Int) : Option (Int) := (method_Op_shape.f a0_0).bind fun bt132 => (if bt132.1 = 0 then (some 6) else (if bt132.2.2.1 = true then (method_Call_Check.j0 k false a0_0 a0_1 a0_2 a0_3 bt132.1 bt132.2.1 bt132.2.2.1 bt132.2.2.2.1 bt132.2.2.2.2) else (method_Call_Check.j0 k (a0_1.toList != ([] : List UInt8)) a0_0 a0_1 a0_2 a0_3 bt132.1 bt132.2.1 bt132.2.2.1 bt132.2.2.2.1 bt132.2.2.2.2)))
set_option maxHeartbeats 2000000 in
set_option maxRecDepth 100000 in
theorem method_Call_Check.calls (k : Nat) (a0_0 : Int) (a0_1 : ByteArray) (a0_2 : ByteArray) (a0_3 : Int) (r : Int) (w : World) (h : method_Call_Check.f k a0_0 a0_1 a0_2 a0_3 = some r) :
    Calls Try.prog 28 #[.agg #[.int .i64 a0_0, .string a0_1, .string a0_2, .int .i64 a0_3]] w fun e w' => e = .returned (.int .i64 r) ∧ Below w.heap.size w w' := by
  have hu24 := Try.underlying24
  have hu104 := Try.underlying104
  have HB := Aside0.mk (Below.refl w.heap.size w)
  have H : ((method_Op_shape.f a0_0).bind fun bt132 => (if bt132.1 = 0 then (some 6) else (if bt132.2.2.1 = true then (method_Call_Check.j0 k false a0_0 a0_1 a0_2 a0_3 bt132.1 bt132.2.1 bt132.2.2.1 bt132.2.2.2.1 bt132.2.2.2.2) else (method_Call_Check.j0 k (a0_1.toList != ([] : List UInt8)) a0_0 a0_1 a0_2 a0_3 bt132.1 bt132.2.1 bt132.2.2.1 bt132.2.2.2.1 bt132.2.2.2.2)))) = some r := h
  clear h
  replace H := Option.bind_eq_some_iff.mp H
  obtain ⟨⟨t132, t133, t134, t135, t136⟩, A20, H⟩ := H
  replace H : (if t132 = 0 then (some 6) else (if t134 = true then (method_Call_Check.j0 k false a0_0 a0_1 a0_2 a0_3 t132 t133 t134 t135 t136) else (method_Call_Check.j0 k (a0_1.toList != ([] : List UInt8)) a0_0 a0_1 a0_2 a0_3 t132 t133 t134 t135 t136))) = some r := H
  have A2 := Aside0.mk A20
  clear A20
  by_cases c3 : t132 = 0
  · rw [if_pos c3] at H
    have c3b0 : (t132 == 0) = true := beq_iff_eq.mpr c3
    have c3b1 : (t132 != 0) = false := bne_eq_false_iff_eq.mpr c3
    clear c3
    obtain rfl := Option.some.inj H
    go_enter Try.func28, Try.ntmps28
    go_wp2_with (first | ((with_reducible refine gds (N := 1) rfl ?_); (try (refine gate_guard (by rfl) ?_; dsimp only)); refine bev ?hg (N := 1) ?hd (cs := #[.int .i64 a0_0, .string a0_1, .string a0_2, .int .i64 a0_3]) (t := 24) ?hr ?_; (case hd => rfl); (case hg => rfl); (case hr => first | (go_simp; done) | (go_simp; rfl)); intro gb131 hg w4 hbox hb; have n0_ := Aside0.mk (bsp (by repeat (first | (with_reducible first | exact HB.out | apply bal | apply bdn | apply bd1) | exact HB.out)) hb); have n1_ := Aside0.mk (hbox); have n2_ := Aside0.mk ((by rw [hg]; exact (bsz (by repeat (first | (with_reducible first | exact HB.out | apply bal | apply bdn | apply bd1) | exact HB.out))) : w.heap.size ≤ gb131)); have n3_ := Aside0.mk ((by rw [hg]; exact (bsz (by repeat (first | (with_reducible first | exact HB.out | apply bal | apply bdn | apply bd1) | exact HB.out))) : w.heap.size ≤ gb131)); clear HB; have HB := n0_; have BK131 := n1_; have GW131 := n2_; have GE131 := n3_; clear n0_ n1_ n2_ n3_; clear hb hbox hg; have hcz5_0 : w4.cell? ⟨gb131, 0, none⟩ = some (.int .i64 a0_0) := (kcl BK131.out 0).trans rfl; have hcz5_1 : w4.cell? ⟨gb131, 1, none⟩ = some (.string a0_1) := (kcl BK131.out 1).trans rfl; have hcz5_2 : w4.cell? ⟨gb131, 2, none⟩ = some (.string a0_2) := (kcl BK131.out 2).trans rfl; have hcz5_3 : w4.cell? ⟨gb131, 3, none⟩ = some (.int .i64 a0_3) := (kcl BK131.out 3).trans rfl; have hfz5_0 := kfr BK131.out 0; have hfz5_1 := kfr BK131.out 1; have hfz5_2 := kfr BK131.out 2; have hfz5_3 := kfr BK131.out 3) | ((with_reducible refine gcl (f := 60) rfl ?_); refine gl_ (some 6) rfl rfl Try.func60 (by kernel_rfl) rfl #[.int .i64 a0_0] rfl (by (try simp only [List.map_toArray, List.map_cons, List.map_nil]); first | done | rfl | (simp only [List.length_drop, List.length_take]; rfl)) ?_; (with_reducible refine (method_Op_shape.calls a0_0 t132 t133 t134 t135 t136 _ A2.out).mono ?_); rintro e w6 ⟨rfl, hb⟩; refine ⟨_, rfl, ?_⟩; have n0_ := Aside0.mk (kbl (g := gb131) (o := .cells #[.int .i64 a0_0, .string a0_1, .string a0_2, .int .i64 a0_3] 24 (0, 0)) (by (with_reducible repeat (first | refine kdn ?_ _ | refine kdw ?_ | refine kal ?_ _)); exact BK131.out) hb); have n1_ := Aside0.mk (bsp (by repeat (first | (with_reducible first | exact HB.out | apply bal | apply bdn | apply bd1 | refine bst ?_ GE131.out) | exact HB.out)) hb); clear BK131; clear HB; have BK131 := n0_; have HB := n1_; clear n0_ n1_; (try clear hb); (try clear hb2); (try clear hk); (try clear hi)) | ((with_reducible refine gds (N := 3) rfl ?_); (try (refine gate_guard (by rfl) ?_; dsimp only)); refine bev ?hg (N := 3) ?hd (cs := #[.int .i64 0, .string (⟨#[]⟩ : ByteArray), .bool false, .bool false, .bool false]) (t := 104) ?hr ?_; (case hd => rfl); (case hg => rfl); (case hr => first | (go_simp; done) | (go_simp; rfl)); intro gb137 hg w7 hbox hb; have n0_ := Aside0.mk (kbl (g := gb131) (o := .cells #[.int .i64 a0_0, .string a0_1, .string a0_2, .int .i64 a0_3] 24 (0, 0)) (by (with_reducible repeat (first | refine kdn ?_ _ | refine kdw ?_ | refine kal ?_ _)); exact BK131.out) hb); have n1_ := Aside0.mk (bsp (by repeat (first | (with_reducible first | exact HB.out | apply bal | apply bdn | apply bd1 | refine bst ?_ GE131.out) | exact HB.out)) hb); have n2_ := Aside0.mk (hbox); have n3_ := Aside0.mk ((by rw [hg]; exact (bsz (by repeat (first | (with_reducible first | exact HB.out | apply bal | apply bdn | apply bd1 | refine bst ?_ GE131.out) | exact HB.out))) : w.heap.size ≤ gb137)); have n4_ := Aside0.mk ((by rw [hg]; exact (bsz (by repeat (first | (with_reducible first | exact HB.out | apply bal | apply bdn | apply bd1 | refine bst ?_ GE131.out) | exact HB.out))) : w.heap.size ≤ gb137)); have n5_ := Aside0.mk ((by rw [hg]; exact Nat.ne_of_lt (blk_lt (g := gb131) (o := .cells #[.int .i64 a0_0, .string a0_1, .string a0_2, .int .i64 a0_3] 24 (0, 0)) (by (with_reducible repeat (first | refine kdn ?_ _ | refine kdw ?_ | refine kal ?_ _)); exact BK131.out)) : gb131 ≠ gb137)); have n6_ := Aside0.mk ((by rw [hg]; exact Nat.ne_of_gt (blk_lt (g := gb131) (o := .cells #[.int .i64 a0_0, .string a0_1, .string a0_2, .int .i64 a0_3] 24 (0, 0)) (by (with_reducible repeat (first | refine kdn ?_ _ | refine kdw ?_ | refine kal ?_ _)); exact BK131.out)) : gb137 ≠ gb131)); clear BK131; clear HB; have BK131 := n0_; have HB := n1_; have BK137 := n2_; have GW137 := n3_; have GE137 := n4_; have NB131_137 := n5_; have NB137_131 := n6_; clear n0_ n1_ n2_ n3_ n4_ n5_ n6_; clear hb hbox hg; have hnb8 := NB137_131.out; have hnc8 := NB131_137.out; have hcz9_0 : w7.cell? ⟨gb137, 0, none⟩ = some (.int .i64 0) := (kcl BK137.out 0).trans rfl; have hcz9_1 : w7.cell? ⟨gb137, 1, none⟩ = some (.string (⟨#[]⟩ : ByteArray)) := (kcl BK137.out 1).trans rfl; have hcz9_2 : w7.cell? ⟨gb137, 2, none⟩ = some (.bool false) := (kcl BK137.out 2).trans rfl; have hcz9_3 : w7.cell? ⟨gb137, 3, none⟩ = some (.bool false) := (kcl BK137.out 3).trans rfl; have hcz9_4 : w7.cell? ⟨gb137, 4, none⟩ = some (.bool false) := (kcl BK137.out 4).trans rfl; have hfz9_0 := kfr BK137.out 0; have hfz9_1 := kfr BK137.out 1; have hfz9_2 := kfr BK137.out 2; have hfz9_3 := kfr BK137.out 3; have hfz9_4 := kfr BK137.out 4))
    go_ret
    exact ⟨by first | rfl | (simp [errW_none, errW_some] <;> rfl) | (simp [*, errW_none, errW_some] <;> rfl), by repeat (first | (with_reducible first | exact HB.out | apply bal | apply bdn | apply bd1 | refine bst ?_ GE131.out | refine bst ?_ GE137.out) | exact HB.out)⟩
  rw [if_neg c3] at H
  have c3b0 : (t132 == 0) = false := beq_eq_false_iff_ne.mpr c3
  have c3b1 : (t132 != 0) = true := bne_iff_ne.mpr c3
  have HC10 := Aside0.mk H
  clear H
  go_enter Try.func28, Try.ntmps28
  go_upto_region 4 with (first | ((with_reducible refine gds (N := 1) rfl ?_); (try (refine gate_guard (by rfl) ?_; dsimp only)); refine bev ?hg (N := 1) ?hd (cs := #[.int .i64 a0_0, .string a0_1, .string a0_2, .int .i64 a0_3]) (t := 24) ?hr ?_; (case hd => rfl); (case hg => rfl); (case hr => first | (go_simp; done) | (go_simp; rfl)); intro gb131 hg w11 hbox hb; have n0_ := Aside0.mk (bsp (by repeat (first | (with_reducible first | exact HB.out | apply bal | apply bdn | apply bd1) | exact HB.out)) hb); have n1_ := Aside0.mk (hbox); have n2_ := Aside0.mk ((by rw [hg]; exact (bsz (by repeat (first | (with_reducible first | exact HB.out | apply bal | apply bdn | apply bd1) | exact HB.out))) : w.heap.size ≤ gb131)); have n3_ := Aside0.mk ((by rw [hg]; exact (bsz (by repeat (first | (with_reducible first | exact HB.out | apply bal | apply bdn | apply bd1) | exact HB.out))) : w.heap.size ≤ gb131)); clear HB; have HB := n0_; have BK131 := n1_; have GW131 := n2_; have GE131 := n3_; clear n0_ n1_ n2_ n3_; clear hb hbox hg; have hcz12_0 : w11.cell? ⟨gb131, 0, none⟩ = some (.int .i64 a0_0) := (kcl BK131.out 0).trans rfl; have hcz12_1 : w11.cell? ⟨gb131, 1, none⟩ = some (.string a0_1) := (kcl BK131.out 1).trans rfl; have hcz12_2 : w11.cell? ⟨gb131, 2, none⟩ = some (.string a0_2) := (kcl BK131.out 2).trans rfl; have hcz12_3 : w11.cell? ⟨gb131, 3, none⟩ = some (.int .i64 a0_3) := (kcl BK131.out 3).trans rfl; have hfz12_0 := kfr BK131.out 0; have hfz12_1 := kfr BK131.out 1; have hfz12_2 := kfr BK131.out 2; have hfz12_3 := kfr BK131.out 3) | ((with_reducible refine gcl (f := 60) rfl ?_); refine gl_ (some 6) rfl rfl Try.func60 (by kernel_rfl) rfl #[.int .i64 a0_0] rfl (by (try simp only [List.map_toArray, List.map_cons, List.map_nil]); first | done | rfl | (simp only [List.length_drop, List.length_take]; rfl)) ?_; (with_reducible refine (method_Op_shape.calls a0_0 t132 t133 t134 t135 t136 _ A2.out).mono ?_); rintro e w13 ⟨rfl, hb⟩; refine ⟨_, rfl, ?_⟩; have n0_ := Aside0.mk (kbl (g := gb131) (o := .cells #[.int .i64 a0_0, .string a0_1, .string a0_2, .int .i64 a0_3] 24 (0, 0)) (by (with_reducible repeat (first | refine kdn ?_ _ | refine kdw ?_ | refine kal ?_ _)); exact BK131.out) hb); have n1_ := Aside0.mk (bsp (by repeat (first | (with_reducible first | exact HB.out | apply bal | apply bdn | apply bd1 | refine bst ?_ GE131.out) | exact HB.out)) hb); clear BK131; clear HB; have BK131 := n0_; have HB := n1_; clear n0_ n1_; (try clear hb); (try clear hb2); (try clear hk); (try clear hi)) | ((with_reducible refine gds (N := 3) rfl ?_); (try (refine gate_guard (by rfl) ?_; dsimp only)); refine bev ?hg (N := 3) ?hd (cs := #[.int .i64 0, .string (⟨#[]⟩ : ByteArray), .bool false, .bool false, .bool false]) (t := 104) ?hr ?_; (case hd => rfl); (case hg => rfl); (case hr => first | (go_simp; done) | (go_simp; rfl)); intro gb137 hg w14 hbox hb; have n0_ := Aside0.mk (kbl (g := gb131) (o := .cells #[.int .i64 a0_0, .string a0_1, .string a0_2, .int .i64 a0_3] 24 (0, 0)) (by (with_reducible repeat (first | refine kdn ?_ _ | refine kdw ?_ | refine kal ?_ _)); exact BK131.out) hb); have n1_ := Aside0.mk (bsp (by repeat (first | (with_reducible first | exact HB.out | apply bal | apply bdn | apply bd1 | refine bst ?_ GE131.out) | exact HB.out)) hb); have n2_ := Aside0.mk (hbox); have n3_ := Aside0.mk ((by rw [hg]; exact (bsz (by repeat (first | (with_reducible first | exact HB.out | apply bal | apply bdn | apply bd1 | refine bst ?_ GE131.out) | exact HB.out))) : w.heap.size ≤ gb137)); have n4_ := Aside0.mk ((by rw [hg]; exact (bsz (by repeat (first | (with_reducible first | exact HB.out | apply bal | apply bdn | apply bd1 | refine bst ?_ GE131.out) | exact HB.out))) : w.heap.size ≤ gb137)); have n5_ := Aside0.mk ((by rw [hg]; exact Nat.ne_of_lt (blk_lt (g := gb131) (o := .cells #[.int .i64 a0_0, .string a0_1, .string a0_2, .int .i64 a0_3] 24 (0, 0)) (by (with_reducible repeat (first | refine kdn ?_ _ | refine kdw ?_ | refine kal ?_ _)); exact BK131.out)) : gb131 ≠ gb137)); have n6_ := Aside0.mk ((by rw [hg]; exact Nat.ne_of_gt (blk_lt (g := gb131) (o := .cells #[.int .i64 a0_0, .string a0_1, .string a0_2, .int .i64 a0_3] 24 (0, 0)) (by (with_reducible repeat (first | refine kdn ?_ _ | refine kdw ?_ | refine kal ?_ _)); exact BK131.out)) : gb137 ≠ gb131)); clear BK131; clear HB; have BK131 := n0_; have HB := n1_; have BK137 := n2_; have GW137 := n3_; have GE137 := n4_; have NB131_137 := n5_; have NB137_131 := n6_; clear n0_ n1_ n2_ n3_ n4_ n5_ n6_; clear hb hbox hg; have hnb15 := NB137_131.out; have hnc15 := NB131_137.out; have hcz16_0 : w14.cell? ⟨gb137, 0, none⟩ = some (.int .i64 0) := (kcl BK137.out 0).trans rfl; have hcz16_1 : w14.cell? ⟨gb137, 1, none⟩ = some (.string (⟨#[]⟩ : ByteArray)) := (kcl BK137.out 1).trans rfl; have hcz16_2 : w14.cell? ⟨gb137, 2, none⟩ = some (.bool false) := (kcl BK137.out 2).trans rfl; have hcz16_3 : w14.cell? ⟨gb137, 3, none⟩ = some (.bool false) := (kcl BK137.out 3).trans rfl; have hcz16_4 : w14.cell? ⟨gb137, 4, none⟩ = some (.bool false) := (kcl BK137.out 4).trans rfl; have hfz16_0 := kfr BK137.out 0; have hfz16_1 := kfr BK137.out 1; have hfz16_2 := kfr BK137.out 2; have hfz16_3 := kfr BK137.out 3; have hfz16_4 := kfr BK137.out 4))
  (try simp only [Act.put, List.setIfInBounds_toArray, List.set_cons_zero, List.set_cons_succ])
  go_cut [11] (fun v11 wc => ∃ (kq : Nat) (x11_9 : Bool), v11 = .bool x11_9 ∧ Aside0 (method_Call_Check.j0 kq x11_9 a0_0 a0_1 a0_2 a0_3 t132 t133 t134 t135 t136 = some r) ∧ Aside0 (kq ≤ k) ∧ Aside0 (wc.heap[gb131]? = some (.cells #[.int .i64 a0_0, .string a0_1, .string a0_2, .int .i64 a0_3] 24 (0, 0))) ∧ Aside0 (wc.heap[gb137]? = some (.cells #[.int .i64 t132, .string t133, .bool t134, .bool t135, .bool t136] 104 (0, 0))) ∧ Aside0 (Below w.heap.size w wc))
  case first =>
    have H := HC10.out
    clear HC10
    by_cases c17 : t134 = true
    · subst c17
      have H1 : (method_Call_Check.j0 k false a0_0 a0_1 a0_2 a0_3 t132 t133 true t135 t136) = some r := by rw [if_pos rfl] at H; exact H
      clear H
      have H := H1
      clear H1
      have H' := Aside0.mk H
      clear H
      have hnb18 := NB137_131.out
      have hnc18 := NB131_137.out
      have hcz19_0 : w14.cell? ⟨gb137, 0, none⟩ = some (.int .i64 0) := (kcl BK137.out 0).trans rfl
      have hcz19_1 : w14.cell? ⟨gb137, 1, none⟩ = some (.string (⟨#[]⟩ : ByteArray)) := (kcl BK137.out 1).trans rfl
      have hcz19_2 : w14.cell? ⟨gb137, 2, none⟩ = some (.bool false) := (kcl BK137.out 2).trans rfl
      have hcz19_3 : w14.cell? ⟨gb137, 3, none⟩ = some (.bool false) := (kcl BK137.out 3).trans rfl
      have hcz19_4 : w14.cell? ⟨gb137, 4, none⟩ = some (.bool false) := (kcl BK137.out 4).trans rfl
      have hfz19_0 := kfr BK137.out 0
      have hfz19_1 := kfr BK137.out 1
      have hfz19_2 := kfr BK137.out 2
      have hfz19_3 := kfr BK137.out 3
      have hfz19_4 := kfr BK137.out 4
      go_wp2
      go_meet
      case rel => exact ⟨_, (false), (by first | rfl | (simp; done) | (simp [*]; done) | exact emp1_ _ | exact (emp1_ _).symm | exact emp2_ _ | exact (emp2_ _).symm), H', ⟨by first | omega | exact Nat.le_refl _⟩, ⟨by (with_reducible repeat (first | refine kdn ?_ _ | refine kdw ?_ | refine kal ?_ _)); refine blk_far ?_ NB131_137.out _; (with_reducible repeat (first | refine kdn ?_ _ | refine kdw ?_ | refine kal ?_ _)); refine blk_far ?_ NB131_137.out _; (with_reducible repeat (first | refine kdn ?_ _ | refine kdw ?_ | refine kal ?_ _)); refine blk_far ?_ NB131_137.out _; (with_reducible repeat (first | refine kdn ?_ _ | refine kdw ?_ | refine kal ?_ _)); refine blk_far ?_ NB131_137.out _; (with_reducible repeat (first | refine kdn ?_ _ | refine kdw ?_ | refine kal ?_ _)); refine blk_far ?_ NB131_137.out _; (with_reducible repeat (first | refine kdn ?_ _ | refine kdw ?_ | refine kal ?_ _)); exact BK131.out⟩, ⟨by (with_reducible repeat (first | refine kdn ?_ _ | refine kdw ?_ | refine kal ?_ _)); refine kpt (cs := #[.int .i64 t132, .string t133, .bool true, .bool t135, .bool false]) ?_ 4 _ rfl; (with_reducible repeat (first | refine kdn ?_ _ | refine kdw ?_ | refine kal ?_ _)); refine kpt (cs := #[.int .i64 t132, .string t133, .bool true, .bool false, .bool false]) ?_ 3 _ rfl; (with_reducible repeat (first | refine kdn ?_ _ | refine kdw ?_ | refine kal ?_ _)); refine kpt (cs := #[.int .i64 t132, .string t133, .bool false, .bool false, .bool false]) ?_ 2 _ rfl; (with_reducible repeat (first | refine kdn ?_ _ | refine kdw ?_ | refine kal ?_ _)); refine kpt (cs := #[.int .i64 t132, .string (⟨#[]⟩ : ByteArray), .bool false, .bool false, .bool false]) ?_ 1 _ rfl; (with_reducible repeat (first | refine kdn ?_ _ | refine kdw ?_ | refine kal ?_ _)); refine kpt (cs := #[.int .i64 0, .string (⟨#[]⟩ : ByteArray), .bool false, .bool false, .bool false]) ?_ 0 _ rfl; (with_reducible repeat (first | refine kdn ?_ _ | refine kdw ?_ | refine kal ?_ _)); exact BK137.out⟩, ⟨by repeat (first | (with_reducible first | exact HB.out | apply bal | apply bdn | apply bd1 | refine bst ?_ GE131.out | refine bst ?_ GE137.out) | exact HB.out)⟩⟩
    replace c17 := Bool.eq_false_iff.mpr c17
    subst c17
    have H1 : (method_Call_Check.j0 k (a0_1.toList != ([] : List UInt8)) a0_0 a0_1 a0_2 a0_3 t132 t133 false t135 t136) = some r := by rw [if_neg (show ¬ (false = true) by decide)] at H; exact H
    clear H
    have H := H1
    clear H1
    have H' := Aside0.mk H
    clear H
    have hnb20 := NB137_131.out
    have hnc20 := NB131_137.out
    have hcz21_0 : w14.cell? ⟨gb137, 0, none⟩ = some (.int .i64 0) := (kcl BK137.out 0).trans rfl
    have hcz21_1 : w14.cell? ⟨gb137, 1, none⟩ = some (.string (⟨#[]⟩ : ByteArray)) := (kcl BK137.out 1).trans rfl
    have hcz21_2 : w14.cell? ⟨gb137, 2, none⟩ = some (.bool false) := (kcl BK137.out 2).trans rfl
    have hcz21_3 : w14.cell? ⟨gb137, 3, none⟩ = some (.bool false) := (kcl BK137.out 3).trans rfl
    have hcz21_4 : w14.cell? ⟨gb137, 4, none⟩ = some (.bool false) := (kcl BK137.out 4).trans rfl
    have hfz21_0 := kfr BK137.out 0
    have hfz21_1 := kfr BK137.out 1
    have hfz21_2 := kfr BK137.out 2
    have hfz21_3 := kfr BK137.out 3
    have hfz21_4 := kfr BK137.out 4
    have hcz22_0 : w14.cell? ⟨gb131, 0, none⟩ = some (.int .i64 a0_0) := (kcl BK131.out 0).trans rfl
    have hcz22_1 : w14.cell? ⟨gb131, 1, none⟩ = some (.string a0_1) := (kcl BK131.out 1).trans rfl
    have hcz22_2 : w14.cell? ⟨gb131, 2, none⟩ = some (.string a0_2) := (kcl BK131.out 2).trans rfl
    have hcz22_3 : w14.cell? ⟨gb131, 3, none⟩ = some (.int .i64 a0_3) := (kcl BK131.out 3).trans rfl
    have hfz22_0 := kfr BK131.out 0
    have hfz22_1 := kfr BK131.out 1
    have hfz22_2 := kfr BK131.out 2
    have hfz22_3 := kfr BK131.out 3
    go_wp2
    go_meet
    case rel => exact ⟨_, ((a0_1.toList != ([] : List UInt8))), (by first | rfl | (simp; done) | (simp [*]; done) | exact emp1_ _ | exact (emp1_ _).symm | exact emp2_ _ | exact (emp2_ _).symm), H', ⟨by first | omega | exact Nat.le_refl _⟩, ⟨by (with_reducible repeat (first | refine kdn ?_ _ | refine kdw ?_ | refine kal ?_ _)); refine blk_far ?_ NB131_137.out _; (with_reducible repeat (first | refine kdn ?_ _ | refine kdw ?_ | refine kal ?_ _)); refine blk_far ?_ NB131_137.out _; (with_reducible repeat (first | refine kdn ?_ _ | refine kdw ?_ | refine kal ?_ _)); refine blk_far ?_ NB131_137.out _; (with_reducible repeat (first | refine kdn ?_ _ | refine kdw ?_ | refine kal ?_ _)); refine blk_far ?_ NB131_137.out _; (with_reducible repeat (first | refine kdn ?_ _ | refine kdw ?_ | refine kal ?_ _)); refine blk_far ?_ NB131_137.out _; (with_reducible repeat (first | refine kdn ?_ _ | refine kdw ?_ | refine kal ?_ _)); exact BK131.out⟩, ⟨by (with_reducible repeat (first | refine kdn ?_ _ | refine kdw ?_ | refine kal ?_ _)); refine kpt (cs := #[.int .i64 t132, .string t133, .bool false, .bool t135, .bool false]) ?_ 4 _ rfl; (with_reducible repeat (first | refine kdn ?_ _ | refine kdw ?_ | refine kal ?_ _)); refine kpt (cs := #[.int .i64 t132, .string t133, .bool false, .bool false, .bool false]) ?_ 3 _ rfl; (with_reducible repeat (first | refine kdn ?_ _ | refine kdw ?_ | refine kal ?_ _)); refine kpt (cs := #[.int .i64 t132, .string t133, .bool false, .bool false, .bool false]) ?_ 2 _ rfl; (with_reducible repeat (first | refine kdn ?_ _ | refine kdw ?_ | refine kal ?_ _)); refine kpt (cs := #[.int .i64 t132, .string (⟨#[]⟩ : ByteArray), .bool false, .bool false, .bool false]) ?_ 1 _ rfl; (with_reducible repeat (first | refine kdn ?_ _ | refine kdw ?_ | refine kal ?_ _)); refine kpt (cs := #[.int .i64 0, .string (⟨#[]⟩ : ByteArray), .bool false, .bool false, .bool false]) ?_ 0 _ rfl; (with_reducible repeat (first | refine kdn ?_ _ | refine kdw ?_ | refine kal ?_ _)); exact BK137.out⟩, ⟨by repeat (first | (with_reducible first | exact HB.out | apply bal | apply bdn | apply bd1 | refine bst ?_ GE131.out | refine bst ?_ GE137.out) | exact HB.out)⟩⟩
  clear HC10
  try clear c1
  try clear c2
  try clear p2
  try clear c3
  try clear c3b0
  try clear c3b1
  try clear c6
  try clear c8
  try clear c15
  try clear c17
  try clear c18
  try clear c20
  try clear hcz12_0
  try clear hcz12_1
  try clear hcz12_2
  try clear hcz12_3
  try clear hcz16_0
  try clear hcz16_1
  try clear hcz16_2
  try clear hcz16_3
  try clear hcz16_4
  try clear hcz19_0
  try clear hcz19_1
  try clear hcz19_2
  try clear hcz19_3
  try clear hcz19_4
  try clear hcz21_0
  try clear hcz21_1
  try clear hcz21_2
  try clear hcz21_3
  try clear hcz21_4
  try clear hcz22_0
  try clear hcz22_1
  try clear hcz22_2
  try clear hcz22_3
  try clear hcz5_0
  try clear hcz5_1
  try clear hcz5_2
  try clear hcz5_3
  try clear hcz9_0
  try clear hcz9_1
  try clear hcz9_2
  try clear hcz9_3
  try clear hcz9_4
  try clear hfz12_0
  try clear hfz12_1
  try clear hfz12_2
  try clear hfz12_3
  try clear hfz16_0
  try clear hfz16_1
  try clear hfz16_2
  try clear hfz16_3
  try clear hfz16_4
  try clear hfz19_0
  try clear hfz19_1
  try clear hfz19_2
  try clear hfz19_3
  try clear hfz19_4
  try clear hfz21_0
  try clear hfz21_1
  try clear hfz21_2
  try clear hfz21_3
  try clear hfz21_4
  try clear hfz22_0
  try clear hfz22_1
  try clear hfz22_2
  try clear hfz22_3
  try clear hfz5_0
  try clear hfz5_1
  try clear hfz5_2
  try clear hfz5_3
  try clear hfz9_0
  try clear hfz9_1
  try clear hfz9_2
  try clear hfz9_3
  try clear hfz9_4
  obtain ⟨kq, x11_9, rfl, HA, HJ9, BK131, BK137, HB⟩ := hcut
  cases kq with
  | zero => exact absurd HA.out (by simp [method_Call_Check.j0])
  | succ kj9 =>
    have H := HA.out
    clear HA
    simp only [method_Call_Check.j0] at H
    have HC23 := Aside0.mk H
    clear H
    go_upto_if 11 with (fail)
    go_cut [11] (fun v11 wc => ∃ (kq : Nat) (x11_22 : Bool), v11 = .bool x11_22 ∧ Aside0 (method_Call_Check.j1 kq x11_22 a0_0 a0_1 a0_2 a0_3 = some r) ∧ Aside0 (kq ≤ kj9) ∧ Aside0 (wc.heap[gb131]? = some (.cells #[.int .i64 a0_0, .string a0_1, .string a0_2, .int .i64 a0_3] 24 (0, 0))) ∧ Aside0 (wc.heap[gb137]? = some (.cells #[.int .i64 t132, .string t133, .bool t134, .bool t135, .bool t136] 104 (0, 0))) ∧ Aside0 (Below w.heap.size w wc))
    case first =>
      have H := HC23.out
      clear HC23
      by_cases c24 : x11_9 = true
      · subst c24
        have H1 : (method_Call_Check.j1 kj9 true a0_0 a0_1 a0_2 a0_3) = some r := by rw [if_pos rfl] at H; exact H
        clear H
        have H := H1
        clear H1
        have H' := Aside0.mk H
        clear H
        go_wp2
        go_meet
        case rel => exact ⟨_, (true), (by first | rfl | (simp; done) | (simp [*]; done) | exact emp1_ _ | exact (emp1_ _).symm | exact emp2_ _ | exact (emp2_ _).symm), H', ⟨by have := HJ9.out; first | omega | exact Nat.le_refl _⟩, ⟨by (with_reducible repeat (first | refine kdn ?_ _ | refine kdw ?_ | refine kal ?_ _)); exact BK131.out⟩, ⟨by (with_reducible repeat (first | refine kdn ?_ _ | refine kdw ?_ | refine kal ?_ _)); exact BK137.out⟩, ⟨by repeat (first | (with_reducible first | exact HB.out | apply bal | apply bdn | apply bd1 | refine bst ?_ GE131.out | refine bst ?_ GE137.out) | exact HB.out)⟩⟩
      replace c24 := Bool.eq_false_iff.mpr c24
      subst c24
      have H1 : (if t135 = true then (if t136 = true then (method_Call_Check.j1 kj9 false a0_0 a0_1 a0_2 a0_3) else (method_Call_Check.j1 kj9 (a0_3 != 0) a0_0 a0_1 a0_2 a0_3)) else (if a0_2.toList = ([] : List UInt8) then (if t136 = true then (method_Call_Check.j1 kj9 false a0_0 a0_1 a0_2 a0_3) else (method_Call_Check.j1 kj9 (a0_3 != 0) a0_0 a0_1 a0_2 a0_3)) else (method_Call_Check.j1 kj9 (a0_2.toList != ([] : List UInt8)) a0_0 a0_1 a0_2 a0_3))) = some r := by rw [if_neg (show ¬ (false = true) by decide)] at H; exact H
      clear H
      have H := H1
      clear H1
      by_cases c25 : t135 = true
      · subst c25
        have H1 : (if t136 = true then (method_Call_Check.j1 kj9 false a0_0 a0_1 a0_2 a0_3) else (method_Call_Check.j1 kj9 (a0_3 != 0) a0_0 a0_1 a0_2 a0_3)) = some r := by rw [if_pos rfl] at H; exact H
        clear H
        have H := H1
        clear H1
        by_cases c26 : t136 = true
        · subst c26
          have H1 : (method_Call_Check.j1 kj9 false a0_0 a0_1 a0_2 a0_3) = some r := by rw [if_pos rfl] at H; exact H
          clear H
          have H := H1
          clear H1
          have H' := Aside0.mk H
          clear H
          have hnb27 := NB137_131.out
          have hnc27 := NB131_137.out
          have hcz28_0 : wc.cell? ⟨gb137, 0, none⟩ = some (.int .i64 t132) := (kcl BK137.out 0).trans rfl
          have hcz28_1 : wc.cell? ⟨gb137, 1, none⟩ = some (.string t133) := (kcl BK137.out 1).trans rfl
          have hcz28_2 : wc.cell? ⟨gb137, 2, none⟩ = some (.bool t134) := (kcl BK137.out 2).trans rfl
          have hcz28_3 : wc.cell? ⟨gb137, 3, none⟩ = some (.bool true) := (kcl BK137.out 3).trans rfl
          have hcz28_4 : wc.cell? ⟨gb137, 4, none⟩ = some (.bool true) := (kcl BK137.out 4).trans rfl
          have hfz28_0 := kfr BK137.out 0
          have hfz28_1 := kfr BK137.out 1
          have hfz28_2 := kfr BK137.out 2
          have hfz28_3 := kfr BK137.out 3
          have hfz28_4 := kfr BK137.out 4
          go_wp2
          go_meet
          case rel => exact ⟨_, (false), (by first | rfl | (simp; done) | (simp [*]; done) | exact emp1_ _ | exact (emp1_ _).symm | exact emp2_ _ | exact (emp2_ _).symm), H', ⟨by have := HJ9.out; first | omega | exact Nat.le_refl _⟩, ⟨by (with_reducible repeat (first | refine kdn ?_ _ | refine kdw ?_ | refine kal ?_ _)); exact BK131.out⟩, ⟨by (with_reducible repeat (first | refine kdn ?_ _ | refine kdw ?_ | refine kal ?_ _)); exact BK137.out⟩, ⟨by repeat (first | (with_reducible first | exact HB.out | apply bal | apply bdn | apply bd1 | refine bst ?_ GE131.out | refine bst ?_ GE137.out) | exact HB.out)⟩⟩
        replace c26 := Bool.eq_false_iff.mpr c26
        subst c26
        have H1 : (method_Call_Check.j1 kj9 (a0_3 != 0) a0_0 a0_1 a0_2 a0_3) = some r := by rw [if_neg (show ¬ (false = true) by decide)] at H; exact H
        clear H
        have H := H1
        clear H1
        have H' := Aside0.mk H
        clear H
        have hnb29 := NB137_131.out
        have hnc29 := NB131_137.out
        have hcz30_0 : wc.cell? ⟨gb137, 0, none⟩ = some (.int .i64 t132) := (kcl BK137.out 0).trans rfl
        have hcz30_1 : wc.cell? ⟨gb137, 1, none⟩ = some (.string t133) := (kcl BK137.out 1).trans rfl
        have hcz30_2 : wc.cell? ⟨gb137, 2, none⟩ = some (.bool t134) := (kcl BK137.out 2).trans rfl
        have hcz30_3 : wc.cell? ⟨gb137, 3, none⟩ = some (.bool true) := (kcl BK137.out 3).trans rfl
        have hcz30_4 : wc.cell? ⟨gb137, 4, none⟩ = some (.bool false) := (kcl BK137.out 4).trans rfl
        have hfz30_0 := kfr BK137.out 0
        have hfz30_1 := kfr BK137.out 1
        have hfz30_2 := kfr BK137.out 2
        have hfz30_3 := kfr BK137.out 3
        have hfz30_4 := kfr BK137.out 4
        have hcz31_0 : wc.cell? ⟨gb131, 0, none⟩ = some (.int .i64 a0_0) := (kcl BK131.out 0).trans rfl
        have hcz31_1 : wc.cell? ⟨gb131, 1, none⟩ = some (.string a0_1) := (kcl BK131.out 1).trans rfl
        have hcz31_2 : wc.cell? ⟨gb131, 2, none⟩ = some (.string a0_2) := (kcl BK131.out 2).trans rfl
        have hcz31_3 : wc.cell? ⟨gb131, 3, none⟩ = some (.int .i64 a0_3) := (kcl BK131.out 3).trans rfl
        have hfz31_0 := kfr BK131.out 0
        have hfz31_1 := kfr BK131.out 1
        have hfz31_2 := kfr BK131.out 2
        have hfz31_3 := kfr BK131.out 3
        go_wp2
        go_meet
        case rel => exact ⟨_, ((a0_3 != 0)), (by first | rfl | (simp; done) | (simp [*]; done) | exact emp1_ _ | exact (emp1_ _).symm | exact emp2_ _ | exact (emp2_ _).symm), H', ⟨by have := HJ9.out; first | omega | exact Nat.le_refl _⟩, ⟨by (with_reducible repeat (first | refine kdn ?_ _ | refine kdw ?_ | refine kal ?_ _)); exact BK131.out⟩, ⟨by (with_reducible repeat (first | refine kdn ?_ _ | refine kdw ?_ | refine kal ?_ _)); exact BK137.out⟩, ⟨by repeat (first | (with_reducible first | exact HB.out | apply bal | apply bdn | apply bd1 | refine bst ?_ GE131.out | refine bst ?_ GE137.out) | exact HB.out)⟩⟩
      replace c25 := Bool.eq_false_iff.mpr c25
      subst c25
      have H1 : (if a0_2.toList = ([] : List UInt8) then (if t136 = true then (method_Call_Check.j1 kj9 false a0_0 a0_1 a0_2 a0_3) else (method_Call_Check.j1 kj9 (a0_3 != 0) a0_0 a0_1 a0_2 a0_3)) else (method_Call_Check.j1 kj9 (a0_2.toList != ([] : List UInt8)) a0_0 a0_1 a0_2 a0_3)) = some r := by rw [if_neg (show ¬ (false = true) by decide)] at H; exact H
      clear H
      have H := H1
      clear H1
      by_cases c32 : a0_2.toList = ([] : List UInt8)
      rotate_left
      · rw [if_neg c32] at H
        have c32b0 : (a0_2.toList == ([] : List UInt8)) = false := beq_eq_false_iff_ne.mpr c32
        have c32b1 : (a0_2.toList != ([] : List UInt8)) = true := bne_iff_ne.mpr c32
        (first | rw [c32b0] | rw [c32b1] | (simp only [i64_w, i32_w]; rw [c32b0]) | (simp only [i64_w, i32_w]; rw [c32b1]) | skip)
        have H' := Aside0.mk H
        clear H
        have hnb40 := NB137_131.out
        have hnc40 := NB131_137.out
        have hcz41_0 : wc.cell? ⟨gb137, 0, none⟩ = some (.int .i64 t132) := (kcl BK137.out 0).trans rfl
        have hcz41_1 : wc.cell? ⟨gb137, 1, none⟩ = some (.string t133) := (kcl BK137.out 1).trans rfl
        have hcz41_2 : wc.cell? ⟨gb137, 2, none⟩ = some (.bool t134) := (kcl BK137.out 2).trans rfl
        have hcz41_3 : wc.cell? ⟨gb137, 3, none⟩ = some (.bool false) := (kcl BK137.out 3).trans rfl
        have hcz41_4 : wc.cell? ⟨gb137, 4, none⟩ = some (.bool t136) := (kcl BK137.out 4).trans rfl
        have hfz41_0 := kfr BK137.out 0
        have hfz41_1 := kfr BK137.out 1
        have hfz41_2 := kfr BK137.out 2
        have hfz41_3 := kfr BK137.out 3
        have hfz41_4 := kfr BK137.out 4
        have hcz42_0 : wc.cell? ⟨gb131, 0, none⟩ = some (.int .i64 a0_0) := (kcl BK131.out 0).trans rfl
        have hcz42_1 : wc.cell? ⟨gb131, 1, none⟩ = some (.string a0_1) := (kcl BK131.out 1).trans rfl
        have hcz42_2 : wc.cell? ⟨gb131, 2, none⟩ = some (.string a0_2) := (kcl BK131.out 2).trans rfl
        have hcz42_3 : wc.cell? ⟨gb131, 3, none⟩ = some (.int .i64 a0_3) := (kcl BK131.out 3).trans rfl
        have hfz42_0 := kfr BK131.out 0
        have hfz42_1 := kfr BK131.out 1
        have hfz42_2 := kfr BK131.out 2
        have hfz42_3 := kfr BK131.out 3
        go_wp2
        go_meet
        case rel => exact ⟨_, ((a0_2.toList != ([] : List UInt8))), (by first | rfl | (simp; done) | (simp [*]; done) | exact emp1_ _ | exact (emp1_ _).symm | exact emp2_ _ | exact (emp2_ _).symm), H', ⟨by have := HJ9.out; first | omega | exact Nat.le_refl _⟩, ⟨by (with_reducible repeat (first | refine kdn ?_ _ | refine kdw ?_ | refine kal ?_ _)); exact BK131.out⟩, ⟨by (with_reducible repeat (first | refine kdn ?_ _ | refine kdw ?_ | refine kal ?_ _)); exact BK137.out⟩, ⟨by repeat (first | (with_reducible first | exact HB.out | apply bal | apply bdn | apply bd1 | refine bst ?_ GE131.out | refine bst ?_ GE137.out) | exact HB.out)⟩⟩
      rw [if_pos c32] at H
      have c32b0 : (a0_2.toList == ([] : List UInt8)) = true := beq_iff_eq.mpr c32
      have c32b1 : (a0_2.toList != ([] : List UInt8)) = false := bne_eq_false_iff_eq.mpr c32
      clear c32
      (first | rw [c32b0] | rw [c32b1] | (simp only [i64_w, i32_w]; rw [c32b0]) | (simp only [i64_w, i32_w]; rw [c32b1]) | skip)
      by_cases c33 : t136 = true
      · subst c33
        have H1 : (method_Call_Check.j1 kj9 false a0_0 a0_1 a0_2 a0_3) = some r := by rw [if_pos rfl] at H; exact H
        clear H
        have H := H1
        clear H1
        have H' := Aside0.mk H
        clear H
        have hnb34 := NB137_131.out
        have hnc34 := NB131_137.out
        have hcz35_0 : wc.cell? ⟨gb137, 0, none⟩ = some (.int .i64 t132) := (kcl BK137.out 0).trans rfl
        have hcz35_1 : wc.cell? ⟨gb137, 1, none⟩ = some (.string t133) := (kcl BK137.out 1).trans rfl
        have hcz35_2 : wc.cell? ⟨gb137, 2, none⟩ = some (.bool t134) := (kcl BK137.out 2).trans rfl
        have hcz35_3 : wc.cell? ⟨gb137, 3, none⟩ = some (.bool false) := (kcl BK137.out 3).trans rfl
        have hcz35_4 : wc.cell? ⟨gb137, 4, none⟩ = some (.bool true) := (kcl BK137.out 4).trans rfl
        have hfz35_0 := kfr BK137.out 0
        have hfz35_1 := kfr BK137.out 1
        have hfz35_2 := kfr BK137.out 2
        have hfz35_3 := kfr BK137.out 3
        have hfz35_4 := kfr BK137.out 4
        have hcz36_0 : wc.cell? ⟨gb131, 0, none⟩ = some (.int .i64 a0_0) := (kcl BK131.out 0).trans rfl
        have hcz36_1 : wc.cell? ⟨gb131, 1, none⟩ = some (.string a0_1) := (kcl BK131.out 1).trans rfl
        have hcz36_2 : wc.cell? ⟨gb131, 2, none⟩ = some (.string a0_2) := (kcl BK131.out 2).trans rfl
        have hcz36_3 : wc.cell? ⟨gb131, 3, none⟩ = some (.int .i64 a0_3) := (kcl BK131.out 3).trans rfl
        have hfz36_0 := kfr BK131.out 0
        have hfz36_1 := kfr BK131.out 1
        have hfz36_2 := kfr BK131.out 2
        have hfz36_3 := kfr BK131.out 3
        go_wp2
        go_meet
        case rel => exact ⟨_, (false), (by first | rfl | (simp; done) | (simp [*]; done) | exact emp1_ _ | exact (emp1_ _).symm | exact emp2_ _ | exact (emp2_ _).symm), H', ⟨by have := HJ9.out; first | omega | exact Nat.le_refl _⟩, ⟨by (with_reducible repeat (first | refine kdn ?_ _ | refine kdw ?_ | refine kal ?_ _)); exact BK131.out⟩, ⟨by (with_reducible repeat (first | refine kdn ?_ _ | refine kdw ?_ | refine kal ?_ _)); exact BK137.out⟩, ⟨by repeat (first | (with_reducible first | exact HB.out | apply bal | apply bdn | apply bd1 | refine bst ?_ GE131.out | refine bst ?_ GE137.out) | exact HB.out)⟩⟩
      replace c33 := Bool.eq_false_iff.mpr c33
      subst c33
      have H1 : (method_Call_Check.j1 kj9 (a0_3 != 0) a0_0 a0_1 a0_2 a0_3) = some r := by rw [if_neg (show ¬ (false = true) by decide)] at H; exact H
      clear H
      have H := H1
      clear H1
      have H' := Aside0.mk H
      clear H
      have hnb37 := NB137_131.out
      have hnc37 := NB131_137.out
      have hcz38_0 : wc.cell? ⟨gb137, 0, none⟩ = some (.int .i64 t132) := (kcl BK137.out 0).trans rfl
      have hcz38_1 : wc.cell? ⟨gb137, 1, none⟩ = some (.string t133) := (kcl BK137.out 1).trans rfl
      have hcz38_2 : wc.cell? ⟨gb137, 2, none⟩ = some (.bool t134) := (kcl BK137.out 2).trans rfl
      have hcz38_3 : wc.cell? ⟨gb137, 3, none⟩ = some (.bool false) := (kcl BK137.out 3).trans rfl
      have hcz38_4 : wc.cell? ⟨gb137, 4, none⟩ = some (.bool false) := (kcl BK137.out 4).trans rfl
      have hfz38_0 := kfr BK137.out 0
      have hfz38_1 := kfr BK137.out 1
      have hfz38_2 := kfr BK137.out 2
      have hfz38_3 := kfr BK137.out 3
      have hfz38_4 := kfr BK137.out 4
      have hcz39_0 : wc.cell? ⟨gb131, 0, none⟩ = some (.int .i64 a0_0) := (kcl BK131.out 0).trans rfl
      have hcz39_1 : wc.cell? ⟨gb131, 1, none⟩ = some (.string a0_1) := (kcl BK131.out 1).trans rfl
      have hcz39_2 : wc.cell? ⟨gb131, 2, none⟩ = some (.string a0_2) := (kcl BK131.out 2).trans rfl
      have hcz39_3 : wc.cell? ⟨gb131, 3, none⟩ = some (.int .i64 a0_3) := (kcl BK131.out 3).trans rfl
      have hfz39_0 := kfr BK131.out 0
      have hfz39_1 := kfr BK131.out 1
      have hfz39_2 := kfr BK131.out 2
      have hfz39_3 := kfr BK131.out 3
      go_wp2
      go_meet
      case rel => exact ⟨_, ((a0_3 != 0)), (by first | rfl | (simp; done) | (simp [*]; done) | exact emp1_ _ | exact (emp1_ _).symm | exact emp2_ _ | exact (emp2_ _).symm), H', ⟨by have := HJ9.out; first | omega | exact Nat.le_refl _⟩, ⟨by (with_reducible repeat (first | refine kdn ?_ _ | refine kdw ?_ | refine kal ?_ _)); exact BK131.out⟩, ⟨by (with_reducible repeat (first | refine kdn ?_ _ | refine kdw ?_ | refine kal ?_ _)); exact BK137.out⟩, ⟨by repeat (first | (with_reducible first | exact HB.out | apply bal | apply bdn | apply bd1 | refine bst ?_ GE131.out | refine bst ?_ GE137.out) | exact HB.out)⟩⟩
    clear HC23
    try clear c1
    try clear c2
    try clear p2
    try clear c3
    try clear c3b0
    try clear c3b1
    try clear c4
    try clear c6
    try clear c8
    try clear c15
    try clear c17
    try clear c18
    try clear c20
    try clear c24
    try clear c25
    try clear c26
    try clear c27
    try clear c28
    try clear c29
    try clear c32
    try clear c32b0
    try clear c32b1
    try clear c33
    try clear c34
    try clear c37
    try clear c40
    try clear hcz12_0
    try clear hcz12_1
    try clear hcz12_2
    try clear hcz12_3
    try clear hcz16_0
    try clear hcz16_1
    try clear hcz16_2
    try clear hcz16_3
    try clear hcz16_4
    try clear hcz19_0
    try clear hcz19_1
    try clear hcz19_2
    try clear hcz19_3
    try clear hcz19_4
    try clear hcz21_0
    try clear hcz21_1
    try clear hcz21_2
    try clear hcz21_3
    try clear hcz21_4
    try clear hcz22_0
    try clear hcz22_1
    try clear hcz22_2
    try clear hcz22_3
    try clear hcz28_0
    try clear hcz28_1
    try clear hcz28_2
    try clear hcz28_3
    try clear hcz28_4
    try clear hcz30_0
    try clear hcz30_1
    try clear hcz30_2
    try clear hcz30_3
    try clear hcz30_4
    try clear hcz31_0
    try clear hcz31_1
    try clear hcz31_2
    try clear hcz31_3
    try clear hcz35_0
    try clear hcz35_1
    try clear hcz35_2
    try clear hcz35_3
    try clear hcz35_4
    try clear hcz36_0
    try clear hcz36_1
    try clear hcz36_2
    try clear hcz36_3
    try clear hcz38_0
    try clear hcz38_1
    try clear hcz38_2
    try clear hcz38_3
    try clear hcz38_4
    try clear hcz39_0
    try clear hcz39_1
    try clear hcz39_2
    try clear hcz39_3
    try clear hcz41_0
    try clear hcz41_1
    try clear hcz41_2
    try clear hcz41_3
    try clear hcz41_4
    try clear hcz42_0
    try clear hcz42_1
    try clear hcz42_2
    try clear hcz42_3
    try clear hcz5_0
    try clear hcz5_1
    try clear hcz5_2
    try clear hcz5_3
    try clear hcz9_0
    try clear hcz9_1
    try clear hcz9_2
    try clear hcz9_3
    try clear hcz9_4
    try clear hfz12_0
    try clear hfz12_1
    try clear hfz12_2
    try clear hfz12_3
    try clear hfz16_0
    try clear hfz16_1
    try clear hfz16_2
    try clear hfz16_3
    try clear hfz16_4
    try clear hfz19_0
    try clear hfz19_1
    try clear hfz19_2
    try clear hfz19_3
    try clear hfz19_4
    try clear hfz21_0
    try clear hfz21_1
    try clear hfz21_2
    try clear hfz21_3
    try clear hfz21_4
    try clear hfz22_0
    try clear hfz22_1
    try clear hfz22_2
    try clear hfz22_3
    try clear hfz28_0
    try clear hfz28_1
    try clear hfz28_2
    try clear hfz28_3
    try clear hfz28_4
    try clear hfz30_0
    try clear hfz30_1
    try clear hfz30_2
    try clear hfz30_3
    try clear hfz30_4
    try clear hfz31_0
    try clear hfz31_1
    try clear hfz31_2
    try clear hfz31_3
    try clear hfz35_0
    try clear hfz35_1
    try clear hfz35_2
    try clear hfz35_3
    try clear hfz35_4
    try clear hfz36_0
    try clear hfz36_1
    try clear hfz36_2
    try clear hfz36_3
    try clear hfz38_0
    try clear hfz38_1
    try clear hfz38_2
    try clear hfz38_3
    try clear hfz38_4
    try clear hfz39_0
    try clear hfz39_1
    try clear hfz39_2
    try clear hfz39_3
    try clear hfz41_0
    try clear hfz41_1
    try clear hfz41_2
    try clear hfz41_3
    try clear hfz41_4
    try clear hfz42_0
    try clear hfz42_1
    try clear hfz42_2
    try clear hfz42_3
    try clear hfz5_0
    try clear hfz5_1
    try clear hfz5_2
    try clear hfz5_3
    try clear hfz9_0
    try clear hfz9_1
    try clear hfz9_2
    try clear hfz9_3
    try clear hfz9_4
    try clear p2
    obtain ⟨kq, x11_22, rfl, HA, HJ22, BK131, BK137, HB⟩ := hcut
    cases kq with
    | zero => exact absurd HA.out (by simp [method_Call_Check.j1])
    | succ kj22 =>
      have H := HA.out
      clear HA
      simp only [method_Call_Check.j1] at H
      by_cases c43 : x11_22 = true
      · subst c43
        have H1 : (some 2) = some r := by rw [if_pos rfl] at H; exact H
        clear H
        have H := H1
        clear H1
        obtain rfl := Option.some.inj H
        go_wp2
        go_ret
        exact ⟨by first | rfl | (simp [errW_none, errW_some] <;> rfl) | (simp [*, errW_none, errW_some] <;> rfl), by repeat (first | (with_reducible first | exact HB.out | apply bal | apply bdn | apply bd1 | refine bst ?_ GE131.out | refine bst ?_ GE137.out) | exact HB.out)⟩
      replace c43 := Bool.eq_false_iff.mpr c43
      subst c43
      have H1 : (if (a0_1.size : Int) > 24 then (method_Call_Check.j2 kj22 true a0_0 a0_1 a0_2 a0_3) else (method_Call_Check.j2 kj22 (decide ((a0_2.size : Int) > 24)) a0_0 a0_1 a0_2 a0_3)) = some r := by rw [if_neg (show ¬ (false = true) by decide)] at H; exact H
      clear H
      have H := H1
      clear H1
      have HC44 := Aside0.mk H
      clear H
      go_upto_region 8 with (fail)
      go_cut [36] (fun v36 wc => ∃ (kq : Nat) (x36_43 : Bool), v36 = .bool x36_43 ∧ Aside0 (method_Call_Check.j2 kq x36_43 a0_0 a0_1 a0_2 a0_3 = some r) ∧ Aside0 (kq ≤ kj22) ∧ Aside0 (wc.heap[gb131]? = some (.cells #[.int .i64 a0_0, .string a0_1, .string a0_2, .int .i64 a0_3] 24 (0, 0))) ∧ Aside0 (wc.heap[gb137]? = some (.cells #[.int .i64 t132, .string t133, .bool t134, .bool t135, .bool t136] 104 (0, 0))) ∧ Aside0 (Below w.heap.size w wc))
      case first =>
        have H := HC44.out
        clear HC44
        by_cases c45 : (a0_1.size : Int) > 24
        · rw [if_pos c45] at H
          have c45b0 : decide (24 < (a0_1.size : Int)) = true := decide_eq_true c45
          have c45b1 : decide (24 < a0_1.size) = true := decide_eq_true (by omega)
          clear c45
          (first | rw [c45b0] | rw [c45b1] | (simp only [i64_w, i32_w]; rw [c45b0]) | (simp only [i64_w, i32_w]; rw [c45b1]) | skip)
          have H' := Aside0.mk H
          clear H
          have hnb46 := NB131_137.out
          have hnc46 := NB137_131.out
          have hcz47_0 : wc.cell? ⟨gb131, 0, none⟩ = some (.int .i64 a0_0) := (kcl BK131.out 0).trans rfl
          have hcz47_1 : wc.cell? ⟨gb131, 1, none⟩ = some (.string a0_1) := (kcl BK131.out 1).trans rfl
          have hcz47_2 : wc.cell? ⟨gb131, 2, none⟩ = some (.string a0_2) := (kcl BK131.out 2).trans rfl
          have hcz47_3 : wc.cell? ⟨gb131, 3, none⟩ = some (.int .i64 a0_3) := (kcl BK131.out 3).trans rfl
          have hfz47_0 := kfr BK131.out 0
          have hfz47_1 := kfr BK131.out 1
          have hfz47_2 := kfr BK131.out 2
          have hfz47_3 := kfr BK131.out 3
          go_wp2
          go_meet
          case rel => exact ⟨_, (true), (by first | rfl | (simp; done) | (simp [*]; done) | exact emp1_ _ | exact (emp1_ _).symm | exact emp2_ _ | exact (emp2_ _).symm), H', ⟨by have := HJ9.out; have := HJ22.out; first | omega | exact Nat.le_refl _⟩, ⟨by (with_reducible repeat (first | refine kdn ?_ _ | refine kdw ?_ | refine kal ?_ _)); exact BK131.out⟩, ⟨by (with_reducible repeat (first | refine kdn ?_ _ | refine kdw ?_ | refine kal ?_ _)); exact BK137.out⟩, ⟨by repeat (first | (with_reducible first | exact HB.out | apply bal | apply bdn | apply bd1 | refine bst ?_ GE131.out | refine bst ?_ GE137.out) | exact HB.out)⟩⟩
        rw [if_neg c45] at H
        have c45b0 : decide (24 < (a0_1.size : Int)) = false := decide_eq_false c45
        have c45b1 : decide (24 < a0_1.size) = false := decide_eq_false (by omega)
        clear c45
        (first | rw [c45b0] | rw [c45b1] | (simp only [i64_w, i32_w]; rw [c45b0]) | (simp only [i64_w, i32_w]; rw [c45b1]) | skip)
        have H' := Aside0.mk H
        clear H
        have hnb48 := NB131_137.out
        have hnc48 := NB137_131.out
        have hcz49_0 : wc.cell? ⟨gb131, 0, none⟩ = some (.int .i64 a0_0) := (kcl BK131.out 0).trans rfl
        have hcz49_1 : wc.cell? ⟨gb131, 1, none⟩ = some (.string a0_1) := (kcl BK131.out 1).trans rfl
        have hcz49_2 : wc.cell? ⟨gb131, 2, none⟩ = some (.string a0_2) := (kcl BK131.out 2).trans rfl
        have hcz49_3 : wc.cell? ⟨gb131, 3, none⟩ = some (.int .i64 a0_3) := (kcl BK131.out 3).trans rfl
        have hfz49_0 := kfr BK131.out 0
        have hfz49_1 := kfr BK131.out 1
        have hfz49_2 := kfr BK131.out 2
        have hfz49_3 := kfr BK131.out 3
        go_wp2
        go_meet
        case rel => exact ⟨_, (decide ((a0_2.size : Int) > 24)), (by first | rfl | (simp; done) | (simp [*]; done) | exact emp1_ _ | exact (emp1_ _).symm | exact emp2_ _ | exact (emp2_ _).symm), H', ⟨by have := HJ9.out; have := HJ22.out; first | omega | exact Nat.le_refl _⟩, ⟨by (with_reducible repeat (first | refine kdn ?_ _ | refine kdw ?_ | refine kal ?_ _)); exact BK131.out⟩, ⟨by (with_reducible repeat (first | refine kdn ?_ _ | refine kdw ?_ | refine kal ?_ _)); exact BK137.out⟩, ⟨by repeat (first | (with_reducible first | exact HB.out | apply bal | apply bdn | apply bd1 | refine bst ?_ GE131.out | refine bst ?_ GE137.out) | exact HB.out)⟩⟩
      clear HC44
      try clear c1
      try clear c2
      try clear p2
      try clear c3
      try clear c3b0
      try clear c3b1
      try clear c4
      try clear c6
      try clear c8
      try clear c15
      try clear c17
      try clear c18
      try clear c20
      try clear c24
      try clear c25
      try clear c26
      try clear c27
      try clear c28
      try clear c29
      try clear c32
      try clear c32b0
      try clear c32b1
      try clear c33
      try clear c34
      try clear c37
      try clear c40
      try clear c43
      try clear c45
      try clear c45b0
      try clear c45b1
      try clear c46
      try clear c48
      try clear hcz12_0
      try clear hcz12_1
      try clear hcz12_2
      try clear hcz12_3
      try clear hcz16_0
      try clear hcz16_1
      try clear hcz16_2
      try clear hcz16_3
      try clear hcz16_4
      try clear hcz19_0
      try clear hcz19_1
      try clear hcz19_2
      try clear hcz19_3
      try clear hcz19_4
      try clear hcz21_0
      try clear hcz21_1
      try clear hcz21_2
      try clear hcz21_3
      try clear hcz21_4
      try clear hcz22_0
      try clear hcz22_1
      try clear hcz22_2
      try clear hcz22_3
      try clear hcz28_0
      try clear hcz28_1
      try clear hcz28_2
      try clear hcz28_3
      try clear hcz28_4
      try clear hcz30_0
      try clear hcz30_1
      try clear hcz30_2
      try clear hcz30_3
      try clear hcz30_4
      try clear hcz31_0
      try clear hcz31_1
      try clear hcz31_2
      try clear hcz31_3
      try clear hcz35_0
      try clear hcz35_1
      try clear hcz35_2
      try clear hcz35_3
      try clear hcz35_4
      try clear hcz36_0
      try clear hcz36_1
      try clear hcz36_2
      try clear hcz36_3
      try clear hcz38_0
      try clear hcz38_1
      try clear hcz38_2
      try clear hcz38_3
      try clear hcz38_4
      try clear hcz39_0
      try clear hcz39_1
      try clear hcz39_2
      try clear hcz39_3
      try clear hcz41_0
      try clear hcz41_1
      try clear hcz41_2
      try clear hcz41_3
      try clear hcz41_4
      try clear hcz42_0
      try clear hcz42_1
      try clear hcz42_2
      try clear hcz42_3
      try clear hcz47_0
      try clear hcz47_1
      try clear hcz47_2
      try clear hcz47_3
      try clear hcz49_0
      try clear hcz49_1
      try clear hcz49_2
      try clear hcz49_3
      try clear hcz5_0
      try clear hcz5_1
      try clear hcz5_2
      try clear hcz5_3
      try clear hcz9_0
      try clear hcz9_1
      try clear hcz9_2
      try clear hcz9_3
      try clear hcz9_4
      try clear hfz12_0
      try clear hfz12_1
      try clear hfz12_2
      try clear hfz12_3
      try clear hfz16_0
      try clear hfz16_1
      try clear hfz16_2
      try clear hfz16_3
      try clear hfz16_4
      try clear hfz19_0
      try clear hfz19_1
      try clear hfz19_2
      try clear hfz19_3
      try clear hfz19_4
      try clear hfz21_0
      try clear hfz21_1
      try clear hfz21_2
      try clear hfz21_3
      try clear hfz21_4
      try clear hfz22_0
      try clear hfz22_1
      try clear hfz22_2
      try clear hfz22_3
      try clear hfz28_0
      try clear hfz28_1
      try clear hfz28_2
      try clear hfz28_3
      try clear hfz28_4
      try clear hfz30_0
      try clear hfz30_1
      try clear hfz30_2
      try clear hfz30_3
      try clear hfz30_4
      try clear hfz31_0
      try clear hfz31_1
      try clear hfz31_2
      try clear hfz31_3
      try clear hfz35_0
      try clear hfz35_1
      try clear hfz35_2
      try clear hfz35_3
      try clear hfz35_4
      try clear hfz36_0
      try clear hfz36_1
      try clear hfz36_2
      try clear hfz36_3
      try clear hfz38_0
      try clear hfz38_1
      try clear hfz38_2
      try clear hfz38_3
      try clear hfz38_4
      try clear hfz39_0
      try clear hfz39_1
      try clear hfz39_2
      try clear hfz39_3
      try clear hfz41_0
      try clear hfz41_1
      try clear hfz41_2
      try clear hfz41_3
      try clear hfz41_4
      try clear hfz42_0
      try clear hfz42_1
      try clear hfz42_2
      try clear hfz42_3
      try clear hfz47_0
      try clear hfz47_1
      try clear hfz47_2
      try clear hfz47_3
      try clear hfz49_0
      try clear hfz49_1
      try clear hfz49_2
      try clear hfz49_3
      try clear hfz5_0
      try clear hfz5_1
      try clear hfz5_2
      try clear hfz5_3
      try clear hfz9_0
      try clear hfz9_1
      try clear hfz9_2
      try clear hfz9_3
      try clear hfz9_4
      try clear p2
      obtain ⟨kq, x36_43, rfl, HA, HJ43, BK131, BK137, HB⟩ := hcut
      cases kq with
      | zero => exact absurd HA.out (by simp [method_Call_Check.j2])
      | succ kj43 =>
        have H := HA.out
        clear HA
        simp only [method_Call_Check.j2] at H
        by_cases c50 : x36_43 = true
        · subst c50
          have H1 : (some 3) = some r := by rw [if_pos rfl] at H; exact H
          clear H
          have H := H1
          clear H1
          obtain rfl := Option.some.inj H
          go_wp2
          go_ret
          exact ⟨by first | rfl | (simp [errW_none, errW_some] <;> rfl) | (simp [*, errW_none, errW_some] <;> rfl), by repeat (first | (with_reducible first | exact HB.out | apply bal | apply bdn | apply bd1 | refine bst ?_ GE131.out | refine bst ?_ GE137.out) | exact HB.out)⟩
        replace c50 := Bool.eq_false_iff.mpr c50
        subst c50
        have H1 : (if a0_0 = 5 then (if a0_3 < 1 then (some 4) else (if a0_3 > 1048576 then (some 4) else (some 0))) else (if a0_0 = 6 then (if a0_3 < 1 then (some 4) else (if a0_3 > 1048576 then (some 4) else (some 0))) else (some 0))) = some r := by rw [if_neg (show ¬ (false = true) by decide)] at H; exact H
        clear H
        have H := H1
        clear H1
        by_cases c51 : a0_0 = 5
        · rw [if_pos c51] at H
          have c51b0 : (a0_0 == 5) = true := beq_iff_eq.mpr c51
          have c51b1 : (a0_0 != 5) = false := bne_eq_false_iff_eq.mpr c51
          clear c51
          by_cases c52 : a0_3 < 1
          · rw [if_pos c52] at H
            have c52b0 : decide (a0_3 < 1) = true := decide_eq_true c52
            clear c52
            obtain rfl := Option.some.inj H
            have hnb53 := NB131_137.out
            have hnc53 := NB137_131.out
            have hcz54_0 : wc.cell? ⟨gb131, 0, none⟩ = some (.int .i64 a0_0) := (kcl BK131.out 0).trans rfl
            have hcz54_1 : wc.cell? ⟨gb131, 1, none⟩ = some (.string a0_1) := (kcl BK131.out 1).trans rfl
            have hcz54_2 : wc.cell? ⟨gb131, 2, none⟩ = some (.string a0_2) := (kcl BK131.out 2).trans rfl
            have hcz54_3 : wc.cell? ⟨gb131, 3, none⟩ = some (.int .i64 a0_3) := (kcl BK131.out 3).trans rfl
            have hfz54_0 := kfr BK131.out 0
            have hfz54_1 := kfr BK131.out 1
            have hfz54_2 := kfr BK131.out 2
            have hfz54_3 := kfr BK131.out 3
            go_wp2
            go_ret
            exact ⟨by first | rfl | (simp [errW_none, errW_some] <;> rfl) | (simp [*, errW_none, errW_some] <;> rfl), by repeat (first | (with_reducible first | exact HB.out | apply bal | apply bdn | apply bd1 | refine bst ?_ GE131.out | refine bst ?_ GE137.out) | exact HB.out)⟩
          rw [if_neg c52] at H
          have c52b0 : decide (a0_3 < 1) = false := decide_eq_false c52
          clear c52
          by_cases c55 : a0_3 > 1048576
          · rw [if_pos c55] at H
            have c55b0 : decide (1048576 < a0_3) = true := decide_eq_true c55
            clear c55
            obtain rfl := Option.some.inj H
            have hnb56 := NB131_137.out
            have hnc56 := NB137_131.out
            have hcz57_0 : wc.cell? ⟨gb131, 0, none⟩ = some (.int .i64 a0_0) := (kcl BK131.out 0).trans rfl
            have hcz57_1 : wc.cell? ⟨gb131, 1, none⟩ = some (.string a0_1) := (kcl BK131.out 1).trans rfl
            have hcz57_2 : wc.cell? ⟨gb131, 2, none⟩ = some (.string a0_2) := (kcl BK131.out 2).trans rfl
            have hcz57_3 : wc.cell? ⟨gb131, 3, none⟩ = some (.int .i64 a0_3) := (kcl BK131.out 3).trans rfl
            have hfz57_0 := kfr BK131.out 0
            have hfz57_1 := kfr BK131.out 1
            have hfz57_2 := kfr BK131.out 2
            have hfz57_3 := kfr BK131.out 3
            go_wp2
            go_ret
            exact ⟨by first | rfl | (simp [errW_none, errW_some] <;> rfl) | (simp [*, errW_none, errW_some] <;> rfl), by repeat (first | (with_reducible first | exact HB.out | apply bal | apply bdn | apply bd1 | refine bst ?_ GE131.out | refine bst ?_ GE137.out) | exact HB.out)⟩
          rw [if_neg c55] at H
          have c55b0 : decide (1048576 < a0_3) = false := decide_eq_false c55
          clear c55
          obtain rfl := Option.some.inj H
          have hnb58 := NB131_137.out
          have hnc58 := NB137_131.out
          have hcz59_0 : wc.cell? ⟨gb131, 0, none⟩ = some (.int .i64 a0_0) := (kcl BK131.out 0).trans rfl
          have hcz59_1 : wc.cell? ⟨gb131, 1, none⟩ = some (.string a0_1) := (kcl BK131.out 1).trans rfl
          have hcz59_2 : wc.cell? ⟨gb131, 2, none⟩ = some (.string a0_2) := (kcl BK131.out 2).trans rfl
          have hcz59_3 : wc.cell? ⟨gb131, 3, none⟩ = some (.int .i64 a0_3) := (kcl BK131.out 3).trans rfl
          have hfz59_0 := kfr BK131.out 0
          have hfz59_1 := kfr BK131.out 1
          have hfz59_2 := kfr BK131.out 2
          have hfz59_3 := kfr BK131.out 3
          go_wp2
          go_ret
          exact ⟨by first | rfl | (simp [errW_none, errW_some] <;> rfl) | (simp [*, errW_none, errW_some] <;> rfl), by repeat (first | (with_reducible first | exact HB.out | apply bal | apply bdn | apply bd1 | refine bst ?_ GE131.out | refine bst ?_ GE137.out) | exact HB.out)⟩
        rw [if_neg c51] at H
        have c51b0 : (a0_0 == 5) = false := beq_eq_false_iff_ne.mpr c51
        have c51b1 : (a0_0 != 5) = true := bne_iff_ne.mpr c51
        by_cases c60 : a0_0 = 6
        rotate_left
        · rw [if_neg c60] at H
          have c60b0 : (a0_0 == 6) = false := beq_eq_false_iff_ne.mpr c60
          have c60b1 : (a0_0 != 6) = true := bne_iff_ne.mpr c60
          obtain rfl := Option.some.inj H
          have hnb69 := NB131_137.out
          have hnc69 := NB137_131.out
          have hcz70_0 : wc.cell? ⟨gb131, 0, none⟩ = some (.int .i64 a0_0) := (kcl BK131.out 0).trans rfl
          have hcz70_1 : wc.cell? ⟨gb131, 1, none⟩ = some (.string a0_1) := (kcl BK131.out 1).trans rfl
          have hcz70_2 : wc.cell? ⟨gb131, 2, none⟩ = some (.string a0_2) := (kcl BK131.out 2).trans rfl
          have hcz70_3 : wc.cell? ⟨gb131, 3, none⟩ = some (.int .i64 a0_3) := (kcl BK131.out 3).trans rfl
          have hfz70_0 := kfr BK131.out 0
          have hfz70_1 := kfr BK131.out 1
          have hfz70_2 := kfr BK131.out 2
          have hfz70_3 := kfr BK131.out 3
          go_wp2
          go_ret
          exact ⟨by first | rfl | (simp [errW_none, errW_some] <;> rfl) | (simp [*, errW_none, errW_some] <;> rfl), by repeat (first | (with_reducible first | exact HB.out | apply bal | apply bdn | apply bd1 | refine bst ?_ GE131.out | refine bst ?_ GE137.out) | exact HB.out)⟩
        rw [if_pos c60] at H
        have c60b0 : (a0_0 == 6) = true := beq_iff_eq.mpr c60
        have c60b1 : (a0_0 != 6) = false := bne_eq_false_iff_eq.mpr c60
        clear c60
        by_cases c61 : a0_3 < 1
        · rw [if_pos c61] at H
          have c61b0 : decide (a0_3 < 1) = true := decide_eq_true c61
          clear c61
          obtain rfl := Option.some.inj H
          have hnb62 := NB131_137.out
          have hnc62 := NB137_131.out
          have hcz63_0 : wc.cell? ⟨gb131, 0, none⟩ = some (.int .i64 a0_0) := (kcl BK131.out 0).trans rfl
          have hcz63_1 : wc.cell? ⟨gb131, 1, none⟩ = some (.string a0_1) := (kcl BK131.out 1).trans rfl
          have hcz63_2 : wc.cell? ⟨gb131, 2, none⟩ = some (.string a0_2) := (kcl BK131.out 2).trans rfl
          have hcz63_3 : wc.cell? ⟨gb131, 3, none⟩ = some (.int .i64 a0_3) := (kcl BK131.out 3).trans rfl
          have hfz63_0 := kfr BK131.out 0
          have hfz63_1 := kfr BK131.out 1
          have hfz63_2 := kfr BK131.out 2
          have hfz63_3 := kfr BK131.out 3
          go_wp2
          go_ret
          exact ⟨by first | rfl | (simp [errW_none, errW_some] <;> rfl) | (simp [*, errW_none, errW_some] <;> rfl), by repeat (first | (with_reducible first | exact HB.out | apply bal | apply bdn | apply bd1 | refine bst ?_ GE131.out | refine bst ?_ GE137.out) | exact HB.out)⟩
        rw [if_neg c61] at H
        have c61b0 : decide (a0_3 < 1) = false := decide_eq_false c61
        clear c61
        by_cases c64 : a0_3 > 1048576
        · rw [if_pos c64] at H
          have c64b0 : decide (1048576 < a0_3) = true := decide_eq_true c64
          clear c64
          obtain rfl := Option.some.inj H
          have hnb65 := NB131_137.out
          have hnc65 := NB137_131.out
          have hcz66_0 : wc.cell? ⟨gb131, 0, none⟩ = some (.int .i64 a0_0) := (kcl BK131.out 0).trans rfl
          have hcz66_1 : wc.cell? ⟨gb131, 1, none⟩ = some (.string a0_1) := (kcl BK131.out 1).trans rfl
          have hcz66_2 : wc.cell? ⟨gb131, 2, none⟩ = some (.string a0_2) := (kcl BK131.out 2).trans rfl
          have hcz66_3 : wc.cell? ⟨gb131, 3, none⟩ = some (.int .i64 a0_3) := (kcl BK131.out 3).trans rfl
          have hfz66_0 := kfr BK131.out 0
          have hfz66_1 := kfr BK131.out 1
          have hfz66_2 := kfr BK131.out 2
          have hfz66_3 := kfr BK131.out 3
          go_wp2
          go_ret
          exact ⟨by first | rfl | (simp [errW_none, errW_some] <;> rfl) | (simp [*, errW_none, errW_some] <;> rfl), by repeat (first | (with_reducible first | exact HB.out | apply bal | apply bdn | apply bd1 | refine bst ?_ GE131.out | refine bst ?_ GE137.out) | exact HB.out)⟩
        rw [if_neg c64] at H
        have c64b0 : decide (1048576 < a0_3) = false := decide_eq_false c64
        clear c64
        obtain rfl := Option.some.inj H
        have hnb67 := NB131_137.out
        have hnc67 := NB137_131.out
        have hcz68_0 : wc.cell? ⟨gb131, 0, none⟩ = some (.int .i64 a0_0) := (kcl BK131.out 0).trans rfl
        have hcz68_1 : wc.cell? ⟨gb131, 1, none⟩ = some (.string a0_1) := (kcl BK131.out 1).trans rfl
        have hcz68_2 : wc.cell? ⟨gb131, 2, none⟩ = some (.string a0_2) := (kcl BK131.out 2).trans rfl
        have hcz68_3 : wc.cell? ⟨gb131, 3, none⟩ = some (.int .i64 a0_3) := (kcl BK131.out 3).trans rfl
        have hfz68_0 := kfr BK131.out 0
        have hfz68_1 := kfr BK131.out 1
        have hfz68_2 := kfr BK131.out 2
        have hfz68_3 := kfr BK131.out 3
        go_wp2
        go_ret
        exact ⟨by first | rfl | (simp [errW_none, errW_some] <;> rfl) | (simp [*, errW_none, errW_some] <;> rfl), by repeat (first | (with_reducible first | exact HB.out | apply bal | apply bdn | apply bd1 | refine bst ?_ GE131.out | refine bst ?_ GE137.out) | exact HB.out)⟩
end Go.Proofs.Ytkkkmbgflflcnaa.PA

