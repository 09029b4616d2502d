import Derived.Test.YtkkkmbgflflcnaaQQxPAx2
import Derived.Test.YtkkkmbgflflcnaaQQxPAx11
import Derived.Test.YtkkkmbgflflcnaaQQxPAx13
import Derived.Test.YtkkkmbgflflcnaaQQxPAx14
namespace Go.Proofs.Ytkkkmbgflflcnaa.PA
open Go.Proofs.Ytkkkmbgflflcnaa.PL
open Go.RowKit Go.Proofs.YtkkkmbgflflcnaaW.PrintWords Go.Proofs.YtkkkmbgflflcnaaW.PrintLast Go.Proofs.YtkkkmbgflflcnaaW.PrintMore
attribute [local go_sem] max2_int min2_int max_two min_two max_three min_three max_four min_four
set_option linter.unusedVariables false
set_option linter.unusedSimpArgs false
def armoirelaw24_awake.j0 : Nat → Bool → Option (Bool)
  | 0, _ => none
  | k + 1, x0 => some x0
def armoirelaw24_awake.f (k : Nat)  : Option (Bool) := (frame_Request_Text.f k 1 0 (⟨#[]⟩ : ByteArray) 0 (⟨#[]⟩ : ByteArray) (⟨#[]⟩ : ByteArray) 0).bind fun t271 => ((frame_ParseRequest.f k t271).bind fun bt272 => (if (t271.size : Int) = 6 then (if 4 ≤ (t271.size : Int) then (if (t271.extract 4 t271.size).toList = ([1, 1] : List UInt8) then (if bt272.1 = 1 then (if bt272.2.2.2.2.2.2.2 = 0 then ((frame_Request_Check.f k 0 0 (⟨#[]⟩ : ByteArray) 0 (⟨#[]⟩ : ByteArray) (⟨#[]⟩ : ByteArray) 0).bind fun t281 => (armoirelaw24_awake.j0 k (t281 == 6))) else (armoirelaw24_awake.j0 k false)) else (armoirelaw24_awake.j0 k false)) else (armoirelaw24_awake.j0 k false)) else (none)) else (armoirelaw24_awake.j0 k false)))
set_option maxHeartbeats 2000000 in
set_option maxRecDepth 100000 in
theorem armoirelaw24_awake.calls (k : Nat)  (r : Bool) (w : World) (h : armoirelaw24_awake.f k  = some r) :
    Calls Try.prog 9 #[] w fun e w' => e = .returned (.bool r) ∧ Below w.heap.size w w' := by
  have hu26 := Try.underlying26
  have HB := Aside0.mk (Below.refl w.heap.size w)
  have H : ((frame_Request_Text.f k 1 0 (⟨#[]⟩ : ByteArray) 0 (⟨#[]⟩ : ByteArray) (⟨#[]⟩ : ByteArray) 0).bind fun t271 => ((frame_ParseRequest.f k t271).bind fun bt272 => (if (t271.size : Int) = 6 then (if 4 ≤ (t271.size : Int) then (if (t271.extract 4 t271.size).toList = ([1, 1] : List UInt8) then (if bt272.1 = 1 then (if bt272.2.2.2.2.2.2.2 = 0 then ((frame_Request_Check.f k 0 0 (⟨#[]⟩ : ByteArray) 0 (⟨#[]⟩ : ByteArray) (⟨#[]⟩ : ByteArray) 0).bind fun t281 => (armoirelaw24_awake.j0 k (t281 == 6))) else (armoirelaw24_awake.j0 k false)) else (armoirelaw24_awake.j0 k false)) else (armoirelaw24_awake.j0 k false)) else (none)) else (armoirelaw24_awake.j0 k false)))) = some r := h
  clear h
  replace H := Option.bind_eq_some_iff.mp H
  obtain ⟨t271, A10, H⟩ := H
  replace H : ((frame_ParseRequest.f k t271).bind fun bt272 => (if (t271.size : Int) = 6 then (if 4 ≤ (t271.size : Int) then (if (t271.extract 4 t271.size).toList = ([1, 1] : List UInt8) then (if bt272.1 = 1 then (if bt272.2.2.2.2.2.2.2 = 0 then ((frame_Request_Check.f k 0 0 (⟨#[]⟩ : ByteArray) 0 (⟨#[]⟩ : ByteArray) (⟨#[]⟩ : ByteArray) 0).bind fun t281 => (armoirelaw24_awake.j0 k (t281 == 6))) else (armoirelaw24_awake.j0 k false)) else (armoirelaw24_awake.j0 k false)) else (armoirelaw24_awake.j0 k false)) else (none)) else (armoirelaw24_awake.j0 k false))) = some r := H
  have A1 := Aside0.mk A10
  clear A10
  replace H := Option.bind_eq_some_iff.mp H
  obtain ⟨⟨t272, t273, t274, t275, t276, t277, t278, t279⟩, A20, H⟩ := H
  replace H : (if (t271.size : Int) = 6 then (if 4 ≤ (t271.size : Int) then (if (t271.extract 4 t271.size).toList = ([1, 1] : List UInt8) then (if t272 = 1 then (if t279 = 0 then ((frame_Request_Check.f k 0 0 (⟨#[]⟩ : ByteArray) 0 (⟨#[]⟩ : ByteArray) (⟨#[]⟩ : ByteArray) 0).bind fun t281 => (armoirelaw24_awake.j0 k (t281 == 6))) else (armoirelaw24_awake.j0 k false)) else (armoirelaw24_awake.j0 k false)) else (armoirelaw24_awake.j0 k false)) else (none)) else (armoirelaw24_awake.j0 k false)) = some r := H
  have A2 := Aside0.mk A20
  clear A20
  have HC3 := Aside0.mk H
  clear H
  go_enter Try.func9, Try.ntmps9
  go_upto_region 3 with (first | ((with_reducible refine gcl (f := 14) rfl ?_); refine gl_ (some 5) rfl rfl Try.func14 (by kernel_rfl) rfl #[.agg #[.int .i64 1, .int .i64 0, .string (⟨#[]⟩ : ByteArray), .int .i64 0, .string (⟨#[]⟩ : ByteArray), .string (⟨#[]⟩ : ByteArray), .int .i64 0]] rfl (by (try simp only [List.map_toArray, List.map_cons, List.map_nil]); first | done | rfl | (simp only [List.length_drop, List.length_take]; rfl)) ?_; (with_reducible refine (frame_Request_Text.calls k 1 0 (⟨#[]⟩ : ByteArray) 0 (⟨#[]⟩ : ByteArray) (⟨#[]⟩ : ByteArray) 0 t271 _ A1.out).mono ?_); rintro e w4 ⟨rfl, hb⟩; refine ⟨_, rfl, ?_⟩; have n0_ := Aside0.mk (bsp (by repeat (first | (with_reducible first | exact HB.out | apply bal | apply bdn | apply bd1) | exact HB.out)) hb); clear HB; have HB := n0_; clear n0_; (try clear hb); (try clear hb2); (try clear hk); (try clear hi)) | ((with_reducible refine gcl (f := 13) rfl ?_); refine gl_ (some 8) rfl rfl Try.func13 (by kernel_rfl) rfl #[.string t271] rfl (by (try simp only [List.map_toArray, List.map_cons, List.map_nil]); first | done | rfl | (simp only [List.length_drop, List.length_take]; rfl)) ?_; (with_reducible refine (frame_ParseRequest.calls k t271 t272 t273 t274 t275 t276 t277 t278 t279 _ A2.out).mono ?_); rintro e w5 ⟨rfl, hb⟩; refine ⟨_, rfl, ?_⟩; have n0_ := Aside0.mk (bsp (by repeat (first | (with_reducible first | exact HB.out | apply bal | apply bdn | apply bd1) | exact HB.out)) hb); clear HB; have HB := n0_; clear n0_; (try clear hb); (try clear hb2); (try clear hk); (try clear hi)) | ((with_reducible refine gds (N := 2) rfl ?_); refine bev ?hg (N := 2) ?hd (cs := #[.int .i64 0, .int .i64 0, .string (⟨#[]⟩ : ByteArray), .int .i64 0, .string (⟨#[]⟩ : ByteArray), .string (⟨#[]⟩ : ByteArray), .int .i64 0]) (t := 26) ?hr ?_; (case hd => rfl); (case hg => rfl); (case hr => first | (go_simp; done) | (go_simp; rfl)); intro gb280 hg w6 hbox hb; have n0_ := Aside0.mk (bsp (by repeat (first | (with_reducible first | exact HB.out | apply bal | apply bdn | apply bd1) | exact HB.out)) hb); have n1_ := Aside0.mk (hbox); have n2_ := Aside0.mk ((by rw [hg]; exact (bsz (by repeat (first | (with_reducible first | exact HB.out | apply bal | apply bdn | apply bd1) | exact HB.out))) : w.heap.size ≤ gb280)); have n3_ := Aside0.mk ((by rw [hg]; exact (bsz (by repeat (first | (with_reducible first | exact HB.out | apply bal | apply bdn | apply bd1) | exact HB.out))) : w.heap.size ≤ gb280)); clear HB; have HB := n0_; have BK280 := n1_; have GW280 := n2_; have GE280 := n3_; clear n0_ n1_ n2_ n3_; clear hb hbox hg; have hcz7_0 : w6.cell? ⟨gb280, 0, none⟩ = some (.int .i64 0) := (kcl BK280.out 0).trans rfl; have hcz7_1 : w6.cell? ⟨gb280, 1, none⟩ = some (.int .i64 0) := (kcl BK280.out 1).trans rfl; have hcz7_2 : w6.cell? ⟨gb280, 2, none⟩ = some (.string (⟨#[]⟩ : ByteArray)) := (kcl BK280.out 2).trans rfl; have hcz7_3 : w6.cell? ⟨gb280, 3, none⟩ = some (.int .i64 0) := (kcl BK280.out 3).trans rfl; have hcz7_4 : w6.cell? ⟨gb280, 4, none⟩ = some (.string (⟨#[]⟩ : ByteArray)) := (kcl BK280.out 4).trans rfl; have hcz7_5 : w6.cell? ⟨gb280, 5, none⟩ = some (.string (⟨#[]⟩ : ByteArray)) := (kcl BK280.out 5).trans rfl; have hcz7_6 : w6.cell? ⟨gb280, 6, none⟩ = some (.int .i64 0) := (kcl BK280.out 6).trans rfl; have hfz7_0 := kfr BK280.out 0; have hfz7_1 := kfr BK280.out 1; have hfz7_2 := kfr BK280.out 2; have hfz7_3 := kfr BK280.out 3; have hfz7_4 := kfr BK280.out 4; have hfz7_5 := kfr BK280.out 5; have hfz7_6 := kfr BK280.out 6))
  (try simp only [Act.put, List.setIfInBounds_toArray, List.set_cons_zero, List.set_cons_succ])
  go_cut [0] (fun v0 wc => ∃ (kq : Nat) (x0_2 : Bool), v0 = .bool x0_2 ∧ Aside0 (armoirelaw24_awake.j0 kq x0_2 = some r) ∧ Aside0 (kq ≤ k) ∧ Aside0 (wc.heap[gb280]? = some (.cells #[.int .i64 t272, .int .i64 t273, .string t274, .int .i64 t275, .string t276, .string t277, .int .i64 t278] 26 (0, 0))) ∧ Aside0 (Below w.heap.size w wc))
  case first =>
    have H := HC3.out
    clear HC3
    by_cases c8 : (t271.size : Int) = 6
    rotate_left
    · rw [if_neg c8] at H
      have c8b0 : ((t271.size : Int) == 6) = false := beq_eq_false_iff_ne.mpr c8
      have c8b1 : ((t271.size : Int) != 6) = true := bne_iff_ne.mpr c8
      (first | rw [c8b0] | rw [c8b1] | (simp only [i64_w, i32_w]; rw [c8b0]) | (simp only [i64_w, i32_w]; rw [c8b1]) | skip)
      have H' := Aside0.mk H
      clear H
      go_wp2
      go_meet
      case rel => exact ⟨_, (false), (by first | rfl | (simp; done) | (simp [*]; done) | exact emp1_ _ | exact (emp1_ _).symm | exact emp2_ _ | exact (emp2_ _).symm), H', ⟨by first | omega | exact Nat.le_refl _⟩, ⟨by (with_reducible repeat (first | refine kdn ?_ _ | refine kdw ?_ | refine kal ?_ _)); refine kpt (cs := #[.int .i64 t272, .int .i64 t273, .string t274, .int .i64 t275, .string t276, .string t277, .int .i64 0]) ?_ 6 _ rfl; (with_reducible repeat (first | refine kdn ?_ _ | refine kdw ?_ | refine kal ?_ _)); refine kpt (cs := #[.int .i64 t272, .int .i64 t273, .string t274, .int .i64 t275, .string t276, .string (⟨#[]⟩ : ByteArray), .int .i64 0]) ?_ 5 _ rfl; (with_reducible repeat (first | refine kdn ?_ _ | refine kdw ?_ | refine kal ?_ _)); refine kpt (cs := #[.int .i64 t272, .int .i64 t273, .string t274, .int .i64 t275, .string (⟨#[]⟩ : ByteArray), .string (⟨#[]⟩ : ByteArray), .int .i64 0]) ?_ 4 _ rfl; (with_reducible repeat (first | refine kdn ?_ _ | refine kdw ?_ | refine kal ?_ _)); refine kpt (cs := #[.int .i64 t272, .int .i64 t273, .string t274, .int .i64 0, .string (⟨#[]⟩ : ByteArray), .string (⟨#[]⟩ : ByteArray), .int .i64 0]) ?_ 3 _ rfl; (with_reducible repeat (first | refine kdn ?_ _ | refine kdw ?_ | refine kal ?_ _)); refine kpt (cs := #[.int .i64 t272, .int .i64 t273, .string (⟨#[]⟩ : ByteArray), .int .i64 0, .string (⟨#[]⟩ : ByteArray), .string (⟨#[]⟩ : ByteArray), .int .i64 0]) ?_ 2 _ rfl; (with_reducible repeat (first | refine kdn ?_ _ | refine kdw ?_ | refine kal ?_ _)); refine kpt (cs := #[.int .i64 t272, .int .i64 0, .string (⟨#[]⟩ : ByteArray), .int .i64 0, .string (⟨#[]⟩ : ByteArray), .string (⟨#[]⟩ : ByteArray), .int .i64 0]) ?_ 1 _ rfl; (with_reducible repeat (first | refine kdn ?_ _ | refine kdw ?_ | refine kal ?_ _)); refine kpt (cs := #[.int .i64 0, .int .i64 0, .string (⟨#[]⟩ : ByteArray), .int .i64 0, .string (⟨#[]⟩ : ByteArray), .string (⟨#[]⟩ : ByteArray), .int .i64 0]) ?_ 0 _ rfl; (with_reducible repeat (first | refine kdn ?_ _ | refine kdw ?_ | refine kal ?_ _)); exact BK280.out⟩, ⟨by repeat (first | (with_reducible first | exact HB.out | apply bal | apply bdn | apply bd1 | refine bst ?_ GE280.out) | exact HB.out)⟩⟩
    rw [if_pos c8] at H
    have c8b0 : ((t271.size : Int) == 6) = true := beq_iff_eq.mpr c8
    have c8b1 : ((t271.size : Int) != 6) = false := bne_eq_false_iff_eq.mpr c8
    clear c8
    (first | rw [c8b0] | rw [c8b1] | (simp only [i64_w, i32_w]; rw [c8b0]) | (simp only [i64_w, i32_w]; rw [c8b1]) | skip)
    by_cases c9 : 4 ≤ (t271.size : Int)
    rotate_left
    · rw [if_neg c9] at H
      exact absurd H (by simp)
    rw [if_pos c9] at H
    have c9b0 := eq_true c9
    have c9b1 : decide (4 ≤ (t271.size : Int)) = true := decide_eq_true c9
    clear c9
    by_cases c10 : (t271.extract 4 t271.size).toList = ([1, 1] : List UInt8)
    rotate_left
    · rw [if_neg c10] at H
      have c10b0 : ((t271.extract 4 t271.size).toList == ([1, 1] : List UInt8)) = false := beq_eq_false_iff_ne.mpr c10
      have c10b1 : ((t271.extract 4 t271.size).toList != ([1, 1] : List UInt8)) = true := bne_iff_ne.mpr c10
      have H' := Aside0.mk H
      clear H
      go_wp2
      go_meet
      case rel => exact ⟨_, (false), (by first | rfl | (simp; done) | (simp [*]; done) | exact emp1_ _ | exact (emp1_ _).symm | exact emp2_ _ | exact (emp2_ _).symm), H', ⟨by first | omega | exact Nat.le_refl _⟩, ⟨by (with_reducible repeat (first | refine kdn ?_ _ | refine kdw ?_ | refine kal ?_ _)); refine kpt (cs := #[.int .i64 t272, .int .i64 t273, .string t274, .int .i64 t275, .string t276, .string t277, .int .i64 0]) ?_ 6 _ rfl; (with_reducible repeat (first | refine kdn ?_ _ | refine kdw ?_ | refine kal ?_ _)); refine kpt (cs := #[.int .i64 t272, .int .i64 t273, .string t274, .int .i64 t275, .string t276, .string (⟨#[]⟩ : ByteArray), .int .i64 0]) ?_ 5 _ rfl; (with_reducible repeat (first | refine kdn ?_ _ | refine kdw ?_ | refine kal ?_ _)); refine kpt (cs := #[.int .i64 t272, .int .i64 t273, .string t274, .int .i64 t275, .string (⟨#[]⟩ : ByteArray), .string (⟨#[]⟩ : ByteArray), .int .i64 0]) ?_ 4 _ rfl; (with_reducible repeat (first | refine kdn ?_ _ | refine kdw ?_ | refine kal ?_ _)); refine kpt (cs := #[.int .i64 t272, .int .i64 t273, .string t274, .int .i64 0, .string (⟨#[]⟩ : ByteArray), .string (⟨#[]⟩ : ByteArray), .int .i64 0]) ?_ 3 _ rfl; (with_reducible repeat (first | refine kdn ?_ _ | refine kdw ?_ | refine kal ?_ _)); refine kpt (cs := #[.int .i64 t272, .int .i64 t273, .string (⟨#[]⟩ : ByteArray), .int .i64 0, .string (⟨#[]⟩ : ByteArray), .string (⟨#[]⟩ : ByteArray), .int .i64 0]) ?_ 2 _ rfl; (with_reducible repeat (first | refine kdn ?_ _ | refine kdw ?_ | refine kal ?_ _)); refine kpt (cs := #[.int .i64 t272, .int .i64 0, .string (⟨#[]⟩ : ByteArray), .int .i64 0, .string (⟨#[]⟩ : ByteArray), .string (⟨#[]⟩ : ByteArray), .int .i64 0]) ?_ 1 _ rfl; (with_reducible repeat (first | refine kdn ?_ _ | refine kdw ?_ | refine kal ?_ _)); refine kpt (cs := #[.int .i64 0, .int .i64 0, .string (⟨#[]⟩ : ByteArray), .int .i64 0, .string (⟨#[]⟩ : ByteArray), .string (⟨#[]⟩ : ByteArray), .int .i64 0]) ?_ 0 _ rfl; (with_reducible repeat (first | refine kdn ?_ _ | refine kdw ?_ | refine kal ?_ _)); exact BK280.out⟩, ⟨by repeat (first | (with_reducible first | exact HB.out | apply bal | apply bdn | apply bd1 | refine bst ?_ GE280.out) | exact HB.out)⟩⟩
    rw [if_pos c10] at H
    have c10b0 : ((t271.extract 4 t271.size).toList == ([1, 1] : List UInt8)) = true := beq_iff_eq.mpr c10
    have c10b1 : ((t271.extract 4 t271.size).toList != ([1, 1] : List UInt8)) = false := bne_eq_false_iff_eq.mpr c10
    clear c10
    by_cases c11 : t272 = 1
    rotate_left
    · rw [if_neg c11] at H
      have c11b0 : (t272 == 1) = false := beq_eq_false_iff_ne.mpr c11
      have c11b1 : (t272 != 1) = true := bne_iff_ne.mpr c11
      have H' := Aside0.mk H
      clear H
      have hcz17_0 : w6.cell? ⟨gb280, 0, none⟩ = some (.int .i64 0) := (kcl BK280.out 0).trans rfl
      have hcz17_1 : w6.cell? ⟨gb280, 1, none⟩ = some (.int .i64 0) := (kcl BK280.out 1).trans rfl
      have hcz17_2 : w6.cell? ⟨gb280, 2, none⟩ = some (.string (⟨#[]⟩ : ByteArray)) := (kcl BK280.out 2).trans rfl
      have hcz17_3 : w6.cell? ⟨gb280, 3, none⟩ = some (.int .i64 0) := (kcl BK280.out 3).trans rfl
      have hcz17_4 : w6.cell? ⟨gb280, 4, none⟩ = some (.string (⟨#[]⟩ : ByteArray)) := (kcl BK280.out 4).trans rfl
      have hcz17_5 : w6.cell? ⟨gb280, 5, none⟩ = some (.string (⟨#[]⟩ : ByteArray)) := (kcl BK280.out 5).trans rfl
      have hcz17_6 : w6.cell? ⟨gb280, 6, none⟩ = some (.int .i64 0) := (kcl BK280.out 6).trans rfl
      have hfz17_0 := kfr BK280.out 0
      have hfz17_1 := kfr BK280.out 1
      have hfz17_2 := kfr BK280.out 2
      have hfz17_3 := kfr BK280.out 3
      have hfz17_4 := kfr BK280.out 4
      have hfz17_5 := kfr BK280.out 5
      have hfz17_6 := kfr BK280.out 6
      go_wp2
      go_meet
      case rel => exact ⟨_, (false), (by first | rfl | (simp; done) | (simp [*]; done) | exact emp1_ _ | exact (emp1_ _).symm | exact emp2_ _ | exact (emp2_ _).symm), H', ⟨by first | omega | exact Nat.le_refl _⟩, ⟨by (with_reducible repeat (first | refine kdn ?_ _ | refine kdw ?_ | refine kal ?_ _)); refine kpt (cs := #[.int .i64 t272, .int .i64 t273, .string t274, .int .i64 t275, .string t276, .string t277, .int .i64 0]) ?_ 6 _ rfl; (with_reducible repeat (first | refine kdn ?_ _ | refine kdw ?_ | refine kal ?_ _)); refine kpt (cs := #[.int .i64 t272, .int .i64 t273, .string t274, .int .i64 t275, .string t276, .string (⟨#[]⟩ : ByteArray), .int .i64 0]) ?_ 5 _ rfl; (with_reducible repeat (first | refine kdn ?_ _ | refine kdw ?_ | refine kal ?_ _)); refine kpt (cs := #[.int .i64 t272, .int .i64 t273, .string t274, .int .i64 t275, .string (⟨#[]⟩ : ByteArray), .string (⟨#[]⟩ : ByteArray), .int .i64 0]) ?_ 4 _ rfl; (with_reducible repeat (first | refine kdn ?_ _ | refine kdw ?_ | refine kal ?_ _)); refine kpt (cs := #[.int .i64 t272, .int .i64 t273, .string t274, .int .i64 0, .string (⟨#[]⟩ : ByteArray), .string (⟨#[]⟩ : ByteArray), .int .i64 0]) ?_ 3 _ rfl; (with_reducible repeat (first | refine kdn ?_ _ | refine kdw ?_ | refine kal ?_ _)); refine kpt (cs := #[.int .i64 t272, .int .i64 t273, .string (⟨#[]⟩ : ByteArray), .int .i64 0, .string (⟨#[]⟩ : ByteArray), .string (⟨#[]⟩ : ByteArray), .int .i64 0]) ?_ 2 _ rfl; (with_reducible repeat (first | refine kdn ?_ _ | refine kdw ?_ | refine kal ?_ _)); refine kpt (cs := #[.int .i64 t272, .int .i64 0, .string (⟨#[]⟩ : ByteArray), .int .i64 0, .string (⟨#[]⟩ : ByteArray), .string (⟨#[]⟩ : ByteArray), .int .i64 0]) ?_ 1 _ rfl; (with_reducible repeat (first | refine kdn ?_ _ | refine kdw ?_ | refine kal ?_ _)); refine kpt (cs := #[.int .i64 0, .int .i64 0, .string (⟨#[]⟩ : ByteArray), .int .i64 0, .string (⟨#[]⟩ : ByteArray), .string (⟨#[]⟩ : ByteArray), .int .i64 0]) ?_ 0 _ rfl; (with_reducible repeat (first | refine kdn ?_ _ | refine kdw ?_ | refine kal ?_ _)); exact BK280.out⟩, ⟨by repeat (first | (with_reducible first | exact HB.out | apply bal | apply bdn | apply bd1 | refine bst ?_ GE280.out) | exact HB.out)⟩⟩
    rw [if_pos c11] at H
    have c11b0 : (t272 == 1) = true := beq_iff_eq.mpr c11
    have c11b1 : (t272 != 1) = false := bne_eq_false_iff_eq.mpr c11
    clear c11
    by_cases c12 : t279 = 0
    rotate_left
    · rw [if_neg c12] at H
      have c12b0 : (t279 == 0) = false := beq_eq_false_iff_ne.mpr c12
      have c12b1 : (t279 != 0) = true := bne_iff_ne.mpr c12
      have H' := Aside0.mk H
      clear H
      have hcz16_0 : w6.cell? ⟨gb280, 0, none⟩ = some (.int .i64 0) := (kcl BK280.out 0).trans rfl
      have hcz16_1 : w6.cell? ⟨gb280, 1, none⟩ = some (.int .i64 0) := (kcl BK280.out 1).trans rfl
      have hcz16_2 : w6.cell? ⟨gb280, 2, none⟩ = some (.string (⟨#[]⟩ : ByteArray)) := (kcl BK280.out 2).trans rfl
      have hcz16_3 : w6.cell? ⟨gb280, 3, none⟩ = some (.int .i64 0) := (kcl BK280.out 3).trans rfl
      have hcz16_4 : w6.cell? ⟨gb280, 4, none⟩ = some (.string (⟨#[]⟩ : ByteArray)) := (kcl BK280.out 4).trans rfl
      have hcz16_5 : w6.cell? ⟨gb280, 5, none⟩ = some (.string (⟨#[]⟩ : ByteArray)) := (kcl BK280.out 5).trans rfl
      have hcz16_6 : w6.cell? ⟨gb280, 6, none⟩ = some (.int .i64 0) := (kcl BK280.out 6).trans rfl
      have hfz16_0 := kfr BK280.out 0
      have hfz16_1 := kfr BK280.out 1
      have hfz16_2 := kfr BK280.out 2
      have hfz16_3 := kfr BK280.out 3
      have hfz16_4 := kfr BK280.out 4
      have hfz16_5 := kfr BK280.out 5
      have hfz16_6 := kfr BK280.out 6
      go_wp2
      go_meet
      case rel => exact ⟨_, (false), (by first | rfl | (simp; done) | (simp [*]; done) | exact emp1_ _ | exact (emp1_ _).symm | exact emp2_ _ | exact (emp2_ _).symm), H', ⟨by first | omega | exact Nat.le_refl _⟩, ⟨by (with_reducible repeat (first | refine kdn ?_ _ | refine kdw ?_ | refine kal ?_ _)); refine kpt (cs := #[.int .i64 t272, .int .i64 t273, .string t274, .int .i64 t275, .string t276, .string t277, .int .i64 0]) ?_ 6 _ rfl; (with_reducible repeat (first | refine kdn ?_ _ | refine kdw ?_ | refine kal ?_ _)); refine kpt (cs := #[.int .i64 t272, .int .i64 t273, .string t274, .int .i64 t275, .string t276, .string (⟨#[]⟩ : ByteArray), .int .i64 0]) ?_ 5 _ rfl; (with_reducible repeat (first | refine kdn ?_ _ | refine kdw ?_ | refine kal ?_ _)); refine kpt (cs := #[.int .i64 t272, .int .i64 t273, .string t274, .int .i64 t275, .string (⟨#[]⟩ : ByteArray), .string (⟨#[]⟩ : ByteArray), .int .i64 0]) ?_ 4 _ rfl; (with_reducible repeat (first | refine kdn ?_ _ | refine kdw ?_ | refine kal ?_ _)); refine kpt (cs := #[.int .i64 t272, .int .i64 t273, .string t274, .int .i64 0, .string (⟨#[]⟩ : ByteArray), .string (⟨#[]⟩ : ByteArray), .int .i64 0]) ?_ 3 _ rfl; (with_reducible repeat (first | refine kdn ?_ _ | refine kdw ?_ | refine kal ?_ _)); refine kpt (cs := #[.int .i64 t272, .int .i64 t273, .string (⟨#[]⟩ : ByteArray), .int .i64 0, .string (⟨#[]⟩ : ByteArray), .string (⟨#[]⟩ : ByteArray), .int .i64 0]) ?_ 2 _ rfl; (with_reducible repeat (first | refine kdn ?_ _ | refine kdw ?_ | refine kal ?_ _)); refine kpt (cs := #[.int .i64 t272, .int .i64 0, .string (⟨#[]⟩ : ByteArray), .int .i64 0, .string (⟨#[]⟩ : ByteArray), .string (⟨#[]⟩ : ByteArray), .int .i64 0]) ?_ 1 _ rfl; (with_reducible repeat (first | refine kdn ?_ _ | refine kdw ?_ | refine kal ?_ _)); refine kpt (cs := #[.int .i64 0, .int .i64 0, .string (⟨#[]⟩ : ByteArray), .int .i64 0, .string (⟨#[]⟩ : ByteArray), .string (⟨#[]⟩ : ByteArray), .int .i64 0]) ?_ 0 _ rfl; (with_reducible repeat (first | refine kdn ?_ _ | refine kdw ?_ | refine kal ?_ _)); exact BK280.out⟩, ⟨by repeat (first | (with_reducible first | exact HB.out | apply bal | apply bdn | apply bd1 | refine bst ?_ GE280.out) | exact HB.out)⟩⟩
    rw [if_pos c12] at H
    have c12b0 : (t279 == 0) = true := beq_iff_eq.mpr c12
    have c12b1 : (t279 != 0) = false := bne_eq_false_iff_eq.mpr c12
    clear c12
    replace H := Option.bind_eq_some_iff.mp H
    obtain ⟨t281, A130, H⟩ := H
    replace H : (armoirelaw24_awake.j0 k (t281 == 6)) = some r := H
    have A13 := Aside0.mk A130
    clear A130
    have H' := Aside0.mk H
    clear H
    have hcz14_0 : w6.cell? ⟨gb280, 0, none⟩ = some (.int .i64 0) := (kcl BK280.out 0).trans rfl
    have hcz14_1 : w6.cell? ⟨gb280, 1, none⟩ = some (.int .i64 0) := (kcl BK280.out 1).trans rfl
    have hcz14_2 : w6.cell? ⟨gb280, 2, none⟩ = some (.string (⟨#[]⟩ : ByteArray)) := (kcl BK280.out 2).trans rfl
    have hcz14_3 : w6.cell? ⟨gb280, 3, none⟩ = some (.int .i64 0) := (kcl BK280.out 3).trans rfl
    have hcz14_4 : w6.cell? ⟨gb280, 4, none⟩ = some (.string (⟨#[]⟩ : ByteArray)) := (kcl BK280.out 4).trans rfl
    have hcz14_5 : w6.cell? ⟨gb280, 5, none⟩ = some (.string (⟨#[]⟩ : ByteArray)) := (kcl BK280.out 5).trans rfl
    have hcz14_6 : w6.cell? ⟨gb280, 6, none⟩ = some (.int .i64 0) := (kcl BK280.out 6).trans rfl
    have hfz14_0 := kfr BK280.out 0
    have hfz14_1 := kfr BK280.out 1
    have hfz14_2 := kfr BK280.out 2
    have hfz14_3 := kfr BK280.out 3
    have hfz14_4 := kfr BK280.out 4
    have hfz14_5 := kfr BK280.out 5
    have hfz14_6 := kfr BK280.out 6
    go_wp2_with (first | (go_at_call 10; (with_reducible refine (frame_Request_Check.calls k 0 0 (⟨#[]⟩ : ByteArray) 0 (⟨#[]⟩ : ByteArray) (⟨#[]⟩ : ByteArray) 0 t281 _ A13.out).mono ?_); rintro e w15 ⟨rfl, hb⟩; have n0_ := Aside0.mk (kbl (g := gb280) (o := .cells #[.int .i64 t272, .int .i64 t273, .string t274, .int .i64 t275, .string t276, .string t277, .int .i64 t278] 26 (0, 0)) (by (with_reducible repeat (first | refine kdn ?_ _ | refine kdw ?_ | refine kal ?_ _)); refine kpt (cs := #[.int .i64 t272, .int .i64 t273, .string t274, .int .i64 t275, .string t276, .string t277, .int .i64 0]) ?_ 6 _ rfl; (with_reducible repeat (first | refine kdn ?_ _ | refine kdw ?_ | refine kal ?_ _)); refine kpt (cs := #[.int .i64 t272, .int .i64 t273, .string t274, .int .i64 t275, .string t276, .string (⟨#[]⟩ : ByteArray), .int .i64 0]) ?_ 5 _ rfl; (with_reducible repeat (first | refine kdn ?_ _ | refine kdw ?_ | refine kal ?_ _)); refine kpt (cs := #[.int .i64 t272, .int .i64 t273, .string t274, .int .i64 t275, .string (⟨#[]⟩ : ByteArray), .string (⟨#[]⟩ : ByteArray), .int .i64 0]) ?_ 4 _ rfl; (with_reducible repeat (first | refine kdn ?_ _ | refine kdw ?_ | refine kal ?_ _)); refine kpt (cs := #[.int .i64 t272, .int .i64 t273, .string t274, .int .i64 0, .string (⟨#[]⟩ : ByteArray), .string (⟨#[]⟩ : ByteArray), .int .i64 0]) ?_ 3 _ rfl; (with_reducible repeat (first | refine kdn ?_ _ | refine kdw ?_ | refine kal ?_ _)); refine kpt (cs := #[.int .i64 t272, .int .i64 t273, .string (⟨#[]⟩ : ByteArray), .int .i64 0, .string (⟨#[]⟩ : ByteArray), .string (⟨#[]⟩ : ByteArray), .int .i64 0]) ?_ 2 _ rfl; (with_reducible repeat (first | refine kdn ?_ _ | refine kdw ?_ | refine kal ?_ _)); refine kpt (cs := #[.int .i64 t272, .int .i64 0, .string (⟨#[]⟩ : ByteArray), .int .i64 0, .string (⟨#[]⟩ : ByteArray), .string (⟨#[]⟩ : ByteArray), .int .i64 0]) ?_ 1 _ rfl; (with_reducible repeat (first | refine kdn ?_ _ | refine kdw ?_ | refine kal ?_ _)); refine kpt (cs := #[.int .i64 0, .int .i64 0, .string (⟨#[]⟩ : ByteArray), .int .i64 0, .string (⟨#[]⟩ : ByteArray), .string (⟨#[]⟩ : ByteArray), .int .i64 0]) ?_ 0 _ rfl; (with_reducible repeat (first | refine kdn ?_ _ | refine kdw ?_ | refine kal ?_ _)); exact BK280.out) hb); have n1_ := Aside0.mk (bsp (by repeat (first | (with_reducible first | exact HB.out | apply bal | apply bdn | apply bd1 | refine bst ?_ GE280.out) | exact HB.out)) hb); clear BK280; clear HB; have BK280 := n0_; have HB := n1_; clear n0_ n1_; (try clear hb); (try clear hb2); (try clear hk); (try clear hi)))
    go_meet
    case rel => exact ⟨_, ((t281 == 6)), (by first | rfl | (simp; done) | (simp [*]; done) | exact emp1_ _ | exact (emp1_ _).symm | exact emp2_ _ | exact (emp2_ _).symm), H', ⟨by first | omega | exact Nat.le_refl _⟩, ⟨by (with_reducible repeat (first | refine kdn ?_ _ | refine kdw ?_ | refine kal ?_ _)); exact BK280.out⟩, ⟨by repeat (first | (with_reducible first | exact HB.out | apply bal | apply bdn | apply bd1 | refine bst ?_ GE280.out) | exact HB.out)⟩⟩
  clear HC3
  try clear c1
  try clear p2
  try clear c8
  try clear c8b0
  try clear c8b1
  try clear c9
  try clear c9b0
  try clear c9b1
  try clear c10
  try clear c10b0
  try clear c10b1
  try clear c11
  try clear c11b0
  try clear c11b1
  try clear c12
  try clear c12b0
  try clear c12b1
  try clear c13
  try clear c14
  try clear hcz14_0
  try clear hcz14_1
  try clear hcz14_2
  try clear hcz14_3
  try clear hcz14_4
  try clear hcz14_5
  try clear hcz14_6
  try clear hcz16_0
  try clear hcz16_1
  try clear hcz16_2
  try clear hcz16_3
  try clear hcz16_4
  try clear hcz16_5
  try clear hcz16_6
  try clear hcz17_0
  try clear hcz17_1
  try clear hcz17_2
  try clear hcz17_3
  try clear hcz17_4
  try clear hcz17_5
  try clear hcz17_6
  try clear hcz7_0
  try clear hcz7_1
  try clear hcz7_2
  try clear hcz7_3
  try clear hcz7_4
  try clear hcz7_5
  try clear hcz7_6
  try clear hfz14_0
  try clear hfz14_1
  try clear hfz14_2
  try clear hfz14_3
  try clear hfz14_4
  try clear hfz14_5
  try clear hfz14_6
  try clear hfz16_0
  try clear hfz16_1
  try clear hfz16_2
  try clear hfz16_3
  try clear hfz16_4
  try clear hfz16_5
  try clear hfz16_6
  try clear hfz17_0
  try clear hfz17_1
  try clear hfz17_2
  try clear hfz17_3
  try clear hfz17_4
  try clear hfz17_5
  try clear hfz17_6
  try clear hfz7_0
  try clear hfz7_1
  try clear hfz7_2
  try clear hfz7_3
  try clear hfz7_4
  try clear hfz7_5
  try clear hfz7_6
  obtain ⟨kq, x0_2, rfl, HA, HJ2, BK280, HB⟩ := hcut
  cases kq with
  | zero => exact absurd HA.out (by simp [armoirelaw24_awake.j0])
  | succ kj2 =>
    have H := HA.out
    clear HA
    simp only [armoirelaw24_awake.j0] at H
    obtain rfl := Option.some.inj H
    go_wp2
    go_ret
    exact ⟨by first | rfl | (simp [errW_none, errW_some] <;> rfl) | (simp [*, errW_none, errW_some] <;> rfl), by repeat (first | (with_reducible first | exact HB.out | apply bal | apply bdn | apply bd1 | refine bst ?_ GE280.out) | exact HB.out)⟩
end Go.Proofs.Ytkkkmbgflflcnaa.PA

namespace Go.Proofs.Ytkkkmbgflflcnaa.PA
open Go.Proofs.Ytkkkmbgflflcnaa.PL
open Go.RowKit Go.Proofs.YtkkkmbgflflcnaaW.PrintWords Go.Proofs.YtkkkmbgflflcnaaW.PrintLast Go.Proofs.YtkkkmbgflflcnaaW.PrintMore
attribute [local go_sem] max2_int min2_int max_two min_two max_three min_three max_four min_four
set_option linter.unusedVariables false
set_option linter.unusedSimpArgs false
theorem eqA34 (d : Nat) (w : World) (x0 y0 : Int) (x1 y1 : ByteArray) (x2 y2 : ByteArray) (x3 y3 : Int) :
    (Op.equalIn (d + 2) 34 (.agg #[.int .i64 x0, .string x1, .string x2, .int .i64 x3]) (.agg #[.int .i64 y0, .string y1, .string y2, .int .i64 y3])).run Try.prog w = .ok (x0 == y0 && (x1.toList == y1.toList && (x2.toList == y2.toList && (x3 == y3)))) w := by
  refine eqA_of Try.underlying34 (by kernel_rfl) ?_
  refine eqf_cons (by rfl) (by go_simp; rfl) (by go_simp; rfl) (by go_simp) ?_
  refine eqf_cons (by rfl) (by go_simp; rfl) (by go_simp; rfl) (by go_simp) ?_
  refine eqf_cons (by rfl) (by go_simp; rfl) (by go_simp; rfl) (by go_simp) ?_
  exact eqf_last (by rfl) (by go_simp; rfl) (by go_simp; rfl) (by go_simp)
end Go.Proofs.Ytkkkmbgflflcnaa.PA

