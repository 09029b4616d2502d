import Derived.Test.YtkkkmbgflflcnaaQPxPAx1
import Derived.Test.YtkkkmbgflflcnaaQPxPAx14
import Derived.Test.YtkkkmbgflflcnaaQPxPAx21
namespace Go.Proofs.Ytkkkmbgflflcnaa.PA
open Go.Proofs.Ytkkkmbgflflcnaa.PL
open Go.RowKit Go.Proofs.YtkkkmbgflflcnaaW.PrintWords Go.Proofs.YtkkkmbgflflcnaaW.PrintLast Go.Proofs.YtkkkmbgflflcnaaW.PrintMore
attribute [local go_sem] max2_int min2_int max_two min_two max_three min_three max_four min_four
set_option linter.unusedVariables false
set_option linter.unusedSimpArgs false
attribute [local go_sem high] eqA51
def method_Result_Put.f (a0_0 : Int) (a0_1 : ByteArray) (a0_2 : Int) (s1_0 : ByteArray) : Option (ByteArray) := (codec_Out_N.f s1_0 (([a0_0] : List Int))).bind fun t419 => ((codec_Out_S.f t419 (([a0_1] : List ByteArray))).bind fun t423 => ((codec_Out_I.f t423 (([a0_2] : List Int))).bind fun t427 => (some t427)))
def method_Result_Put.T1 : Bool × List (List Nat × List Nat) := (true, [([], []), ([], []), ([1], [1]), ([2], [2]), ([0, 3], [0, 3]), ([], []), ([5], [5]), ([6], [6]), ([4, 7, 4], [4, 7]), ([], []), ([9], [9]), ([10], [10]), ([8, 11, 8], [8, 11])])
def method_Result_Put.B1 : List Nat := [0, 0, 2, 6, 15, 0, 32, 96, 255, 0, 512, 1536, 4095]
theorem method_Result_Put.tab1 : rtab .any (opsOf Try.f54 1) = method_Result_Put.T1 := by kernel_rfl
theorem method_Result_Put.bits1 : waitsOk method_Result_Put.T1.2 method_Result_Put.B1 = true := by kernel_rfl
set_option maxHeartbeats 2000000 in
set_option maxRecDepth 100000 in
theorem method_Result_Put.calls (a0_0 : Int) (a0_1 : ByteArray) (a0_2 : Int) (g : Nat) (s1_0 : ByteArray) (r : ByteArray) (w0 w : World) (hI : IsS78 w0 w g s1_0) (hB : Below w0.heap.size w0 w) (h : method_Result_Put.f a0_0 a0_1 a0_2 s1_0 = some r) :
    Calls Try.prog 54 #[.agg #[.int .i64 a0_0, .string a0_1, .int .i64 a0_2], .pointer (some ⟨g, 0, none⟩)] w fun e w' => e = .returned (.tuple #[]) ∧ IsS78 w0 w' g r ∧ Below w0.heap.size w0 w' ∧ KeepT w w' [78, 5] := by
  have hu51 := Try.underlying51
  have HI1 := Aside0.mk hI
  have HK := Aside0.mk (KeepT.refl w [78, 5])
  have HL := Aside0.mk hB.size
  clear hI
  have HW0 := Aside0.mk hB.size
  have HB := Aside0.mk hB
  clear hB
  have H : ((codec_Out_N.f s1_0 (([a0_0] : List Int))).bind fun t419 => ((codec_Out_S.f t419 (([a0_1] : List ByteArray))).bind fun t423 => ((codec_Out_I.f t423 (([a0_2] : List Int))).bind fun t427 => (some t427)))) = some r := h
  clear h
  obtain ⟨y416, hy416⟩ : ∃ y_ : List Int, y_ = (([a0_0] : List Int)) := ⟨_, rfl⟩
  replace H : ((codec_Out_N.f s1_0 y416).bind fun t419 => ((codec_Out_S.f t419 (([a0_1] : List ByteArray))).bind fun t423 => ((codec_Out_I.f t423 (([a0_2] : List Int))).bind fun t427 => (some t427)))) = some r := by first | (rw [hy416]; with_reducible exact H) | (have H2_ := (Option.bind_some _ _).symm.trans H; rw [hy416]; with_reducible exact H2_) | (have H2_ := (Option.bind_some _ _).symm.trans H; with_reducible exact H2_) | with_reducible exact H | (rw [hy416]; exact H) | exact H
  have Ny416 := Aside0.mk hy416
  clear hy416
  replace H := Option.bind_eq_some_iff.mp H
  obtain ⟨t419, A30, H⟩ := H
  replace H : ((codec_Out_S.f t419 (([a0_1] : List ByteArray))).bind fun t423 => ((codec_Out_I.f t423 (([a0_2] : List Int))).bind fun t427 => (some t427))) = some r := H
  have A3 := Aside0.mk A30
  clear A30
  obtain ⟨y420, hy420⟩ : ∃ y_ : List ByteArray, y_ = (([a0_1] : List ByteArray)) := ⟨_, rfl⟩
  replace H : ((codec_Out_S.f t419 y420).bind fun t423 => ((codec_Out_I.f t423 (([a0_2] : List Int))).bind fun t427 => (some t427))) = some r := by first | (rw [hy420]; with_reducible exact H) | (have H2_ := (Option.bind_some _ _).symm.trans H; rw [hy420]; with_reducible exact H2_) | (have H2_ := (Option.bind_some _ _).symm.trans H; with_reducible exact H2_) | with_reducible exact H | (rw [hy420]; exact H) | exact H
  have Ny420 := Aside0.mk hy420
  clear hy420
  replace H := Option.bind_eq_some_iff.mp H
  obtain ⟨t423, A40, H⟩ := H
  replace H : ((codec_Out_I.f t423 (([a0_2] : List Int))).bind fun t427 => (some t427)) = some r := H
  have A4 := Aside0.mk A40
  clear A40
  obtain ⟨y424, hy424⟩ : ∃ y_ : List Int, y_ = (([a0_2] : List Int)) := ⟨_, rfl⟩
  replace H : ((codec_Out_I.f t423 y424).bind fun t427 => (some t427)) = some r := by first | (rw [hy424]; with_reducible exact H) | (have H2_ := (Option.bind_some _ _).symm.trans H; rw [hy424]; with_reducible exact H2_) | (have H2_ := (Option.bind_some _ _).symm.trans H; with_reducible exact H2_) | with_reducible exact H | (rw [hy424]; exact H) | exact H
  have Ny424 := Aside0.mk hy424
  clear hy424
  replace H := Option.bind_eq_some_iff.mp H
  obtain ⟨t427, A50, H⟩ := H
  replace H : (some t427) = some r := H
  have A5 := Aside0.mk A50
  clear A50
  obtain rfl := Option.some.inj H
  go_enter Try.func54, Try.ntmps54
  try go_wp2_with (first | ((with_reducible refine gds (N := 2) rfl ?_); refine bev ?hg (N := 2) ?hd (cs := #[.int .i64 a0_0, .string a0_1, .int .i64 a0_2]) (t := 51) ?hr ?_; (case hd => rfl); (case hg => rfl); (case hr => first | (go_simp; done) | (go_simp; rfl)); intro gb415 hg w6 hbox hb; have n0_ := Aside0.mk (IsS78.below (by repeat (first | (with_reducible first | exact HI1.out | apply IsS78.alloc | apply IsS78.drewN | apply IsS78.drew | apply IsS78.set_0) | exact HI1.out)) hb); have n1_ := Aside0.mk (KeepT.trans (by repeat (first | (with_reducible first | exact HK.out | fail | apply etn | apply etw | apply eta) | exact HK.out)) (KeepT.of_below hb)); have n2_ := Aside0.mk (bsp (by repeat (first | (with_reducible first | exact HB.out | apply bal | apply bdn | apply bd1 | refine bst ?_ (IsS78.ge HI1.out)) | exact HB.out)) hb); have n3_ := Aside0.mk (hbox); have n4_ := Aside0.mk ((by rw [hg]; exact (KeepT.size (w := w) (ts := [78, 5]) (by repeat (first | (with_reducible first | exact HK.out | fail | apply etn | apply etw | apply eta) | exact HK.out))) : w.heap.size ≤ gb415)); have n5_ := Aside0.mk ((Nat.le_trans HW0.out (by rw [hg]; exact (KeepT.size (w := w) (ts := [78, 5]) (by repeat (first | (with_reducible first | exact HK.out | fail | apply etn | apply etw | apply eta) | exact HK.out))) : w.heap.size ≤ gb415) : w0.heap.size ≤ gb415)); have n6_ := Aside0.mk ((by rw [hg]; exact Nat.ne_of_lt (IsS78.lt (show IsS78 w0 _ g s1_0 from by repeat (first | (with_reducible first | exact HI1.out | apply IsS78.alloc | apply IsS78.drewN | apply IsS78.drew | apply IsS78.set_0) | exact HI1.out))) : g ≠ gb415)); have n7_ := Aside0.mk ((by rw [hg]; exact Nat.ne_of_gt (IsS78.lt (show IsS78 w0 _ g s1_0 from by repeat (first | (with_reducible first | exact HI1.out | apply IsS78.alloc | apply IsS78.drewN | apply IsS78.drew | apply IsS78.set_0) | exact HI1.out))) : gb415 ≠ g)); clear HI1; clear HK; clear HB; have HI1 := n0_; have HK := n1_; have HB := n2_; have BK415 := n3_; have GW415 := n4_; have GE415 := n5_; have NB1_415 := n6_; have NB415_1 := n7_; clear n0_ n1_ n2_ n3_ n4_ n5_ n6_ n7_; clear hb hbox hg))
  have n0_ := Aside0.mk (kdw BK415.out)
  have n1_ := Aside0.mk (IsS78.drew HI1.out)
  have n2_ := Aside0.mk (etw HK.out)
  have n3_ := Aside0.mk (bd1 HB.out)
  clear BK415
  clear HI1
  clear HK
  clear HB
  have BK415 := n0_
  have HI1 := n1_
  have HK := n2_
  have HB := n3_
  clear n0_ n1_ n2_ n3_
  refine start_ (n := 13) (S := fun w' => True) (ds := []) #[false,false,false,false,false,false,false,false,false,false,false,false,false] (by kernel_rfl) rfl rfl trivial (fun hHeld => ?_); refine with_tabW method_Result_Put.tab1 method_Result_Put.bits1 (fun HT_ HW_ => ?_)
  generalize w6.drew = w7 at BK415 HI1 HK HB hHeld ⊢
  refine pure_ (i := 0) (N := some 4) (v := ?_) (a' := ?_) (bA 13 1) rfl rfl (any_of HT_.out (by kernel_rfl)) (fun _ _ _ h => h) (Or.inl ⟨by rfl, ?_⟩) ?_ ?_
  rotate_left; (intro w'; go_simp; with_reducible rfl); rotate_left; (simp only [Act.put, List.setIfInBounds_toArray, List.set_cons_zero, List.set_cons_succ, i64_w, i32_w]; rfl)
  refine pure_ (i := 1) (N := some 5) (v := ?_) (a' := ?_) (bA 13 3) rfl rfl (any_of HT_.out (by kernel_rfl)) (fun _ _ _ h => h) (Or.inl ⟨by rfl, ?_⟩) ?_ ?_
  rotate_left; (intro w'; go_simp; with_reducible rfl); rotate_left; (simp only [Act.put, List.setIfInBounds_toArray, List.set_cons_zero, List.set_cons_succ, i64_w, i32_w]; rfl)
  refine pure_ (i := 5) (N := some 9) (v := ?_) (a' := ?_) (bA 13 35) rfl rfl (any_of HT_.out (by kernel_rfl)) (fun _ _ _ h => h) (Or.inl ⟨by rfl, ?_⟩) ?_ ?_
  rotate_left; (intro w'; go_simp; with_reducible rfl); rotate_left; (simp only [Act.put, List.setIfInBounds_toArray, List.set_cons_zero, List.set_cons_succ, i64_w, i32_w]; rfl)
  refine pure_ (i := 9) (N := some 13) (v := ?_) (a' := ?_) (bA 13 547) rfl rfl (any_of HT_.out (by kernel_rfl)) (fun _ _ _ h => h) (Or.inl ⟨by rfl, ?_⟩) ?_ ?_
  rotate_left; (intro w'; go_simp; with_reducible rfl); rotate_left; (simp only [Act.put, List.setIfInBounds_toArray, List.set_cons_zero, List.set_cons_succ, i64_w, i32_w]; rfl)
  refine inv_at [2, 3, 4, 6, 7, 8, 10, 11, 12] (fun a0_ b a w' => ∃ (v417 : Value) (v421 : Value) (v425 : Value), a = putSel a0_ b [(2, 6, .int .i64 a0_0), (3, 7, v417), (4, 8, .pointer (some ⟨g, 0, none⟩)), (6, 10, .string a0_1), (7, 11, v421), (8, 12, .pointer (some ⟨g, 0, none⟩)), (10, 14, .int .i64 a0_2), (11, 15, v425), (12, 16, .pointer (some ⟨g, 0, none⟩))] ∧ (w'.heap[gb415]? = some (.cells #[.int .i64 a0_0, .string a0_1, .int .i64 a0_2] 51 (0, 0))) ∧ (b 4 = false → IsS78 w0 w' g s1_0) ∧ (KeepT w w' [78, 5]) ∧ (Below w0.heap.size w0 w') ∧ (b 3 = true → Kd.R (Kd.int .i64) 3 w' w.heap.size (fun _ => True) v417 y416) ∧ (b 4 = true → b 8 = false → IsS78 w0 w' g t419) ∧ (b 7 = true → Kd.R Kd.string 9 w' w.heap.size (fun _ => True) v421 y420) ∧ (b 8 = true → b 12 = false → IsS78 w0 w' g t423) ∧ (b 11 = true → Kd.R (Kd.int .i64) 2 w' w.heap.size (fun _ => True) v425 y424) ∧ (b 12 = true → IsS78 w0 w' g t427)) HT_.out HW_.out (by kernel_rfl) (by kernel_rfl) ?_ ?_ ?_
  · exact ⟨.bool false, .bool false, .bool false, by simp only [putSel, Bool.false_eq_true, if_false], BK415.out, fun _ => HI1.out, HK.out, HB.out, fun h_ => absurd h_ (by decide), fun h_ => absurd h_ (by decide), fun h_ => absurd h_ (by decide), fun h_ => absurd h_ (by decide), fun h_ => absurd h_ (by decide), fun h_ => absurd h_ (by decide)⟩
  · skip
    clear BK415 HB HI1 HK
    refine steps_cons ?_ ?_
    · rintro b a w' ⟨v417, v421, v425, ha, Q_BK415, Q_HI1, Q_HK, Q_HB, Q_HO418, Q_HI1_e4, Q_HO422, Q_HI1_e8, Q_HO426, Q_HI1_e12⟩ hb_ hon hoff
      refine ⟨_, rfl, fun K hK => ?_⟩
      have e5 : a.tmps[5]? = some (.pointer (some ⟨gb415, 0, none⟩)) := by rw [ha]; exact (putSel_off rfl).trans rfl
      replace ha := Aside0.mk ha
      have BK415 := Aside0.mk Q_BK415
      have HI1 := Aside0.mk (Q_HI1 (hoff 4 (by kernel_rfl)))
      have HK := Aside0.mk Q_HK
      have HB := Aside0.mk Q_HB
      have hc0_ : w'.cell? ⟨gb415, 0, none⟩ = some (.int .i64 a0_0) := (kcl BK415.out 0).trans rfl
      have hc1_ : w'.cell? ⟨gb415, 1, none⟩ = some (.string a0_1) := (kcl BK415.out 1).trans rfl
      have hc2_ : w'.cell? ⟨gb415, 2, none⟩ = some (.int .i64 a0_2) := (kcl BK415.out 2).trans rfl
      refine value_ (w1 := w') (v := .int .i64 a0_0) (by rfl) rfl ?_ ?_
      · go_simp
        (try simp only [i64_w])
        try rfl
      refine hK.out _ _ ⟨v417, v421, v425, (by rw [ha.out]; exact putSel_upk 0 hb_ rfl rfl rfl), Q_BK415, Q_HI1, Q_HK, Q_HB, fun h0_ => absurd ((hoff 3 (by kernel_rfl)).symm.trans h0_) (by decide), fun h0_ _ => absurd ((hoff 4 (by kernel_rfl)).symm.trans h0_) (by decide), Q_HO422, fun h0_ _ => absurd ((hoff 8 (by kernel_rfl)).symm.trans h0_) (by decide), Q_HO426, fun h0_ => absurd ((hoff 12 (by kernel_rfl)).symm.trans h0_) (by decide)⟩
    refine steps_cons ?_ ?_
    · rintro b a w' ⟨v417, v421, v425, ha, Q_BK415, Q_HI1, Q_HK, Q_HB, Q_HO418, Q_HI1_e4, Q_HO422, Q_HI1_e8, Q_HO426, Q_HI1_e12⟩ hb_ hon hoff
      refine ⟨_, rfl, fun K hK => ?_⟩
      have e6 : a.tmps[6]? = some (.int .i64 a0_0) := by rw [ha]; exact putSel_on (e := (2, 6, .int .i64 a0_0)) 0 rfl rfl (hon 2 (by kernel_rfl)) rfl
      replace ha := Aside0.mk ha
      have BK415 := Aside0.mk Q_BK415
      have HI1 := Aside0.mk (Q_HI1 (hoff 4 (by kernel_rfl)))
      have HK := Aside0.mk Q_HK
      have HB := Aside0.mk Q_HB
      refine Kd.R_lit_step (Kd.int .i64) _ 3 ?hg (N := 7) ?hd (xs := ([a0_0] : List Int)) (inner := [.int .i64 a0_0]) (ok := fun _ => True) (okp := fun _ => True) ?hr ?hp (fun _ hk => hk) trivial (Below.refl _ _) (Nat.le_refl _) (by simp) ?_; (case hd => rfl); (case hg => rfl); (case hr => first | (go_simp; done) | (go_simp; rfl)); (case hp => exact (Reps.one (show Kd.M (Kd.int .i64) _ _ _ a0_0 [.int .i64 a0_0] from rfl) (Reps.none _ _)))
      intro v417 w8 ho9 hb hg_ hnew_
      clear hg_ hnew_
      (first | rw [← Ny416.out] at ho9 | (simp only [Int.reduceToNat] at ho9; rw [← Ny416.out] at ho9))
      have n0_ := Aside0.mk (Kd.R_lower ho9 (KeepT.size (w := w) (ts := [78, 5]) (by repeat (first | (with_reducible first | exact HK.out | fail | apply etn | apply etw | apply eta | refine keepT_far ?_ GW415.out _) | exact HK.out))))
      have n1_ := Aside0.mk (IsS78.below (by repeat (first | (with_reducible first | exact HI1.out | apply IsS78.alloc | apply IsS78.drewN | apply IsS78.drew | apply IsS78.set_0 | refine IsS78.farT (p := ⟨gb415, _, none⟩) (t2 := 51) ?_ ?_ (by decide) (by decide) _ | exact OutT.mk BK415.out | refine OutT.set ?_ _ _ _) | exact HI1.out)) hb)
      have n2_ := Aside0.mk (kbl (g := gb415) (o := .cells #[.int .i64 a0_0, .string a0_1, .int .i64 a0_2] 51 (0, 0)) (by (with_reducible repeat (first | refine kdn ?_ _ | refine kdw ?_ | refine kal ?_ _)); exact BK415.out) hb)
      have n3_ := Aside0.mk (KeepT.trans (by repeat (first | (with_reducible first | exact HK.out | fail | apply etn | apply etw | apply eta | refine keepT_far ?_ GW415.out _) | exact HK.out)) (KeepT.of_below hb))
      have n4_ := Aside0.mk (bsp (by repeat (first | (with_reducible first | exact HB.out | apply bal | apply bdn | apply bd1 | refine bst ?_ (IsS78.ge HI1.out) | refine bst ?_ GE415.out) | exact HB.out)) hb)
      have z_HO422 := fun (h0_ : b 7 = true) => (show Kd.R Kd.string 9 w8 w.heap.size (fun _ => True) v421 y420 from by first | exact (Kd.R_below (by (with_reducible repeat (first | apply Kd.R_alloc | apply Kd.R_drewN | apply Kd.R_drew)); exact (Q_HO422 h0_)) hb) | exact Kd.R_mono (Kd.R_below (by (with_reducible repeat (first | apply Kd.R_alloc | apply Kd.R_drewN | apply Kd.R_drew)); exact (Q_HO422 h0_)) hb) (fun _ h_ => by first | trivial | exact h_ | exact h_.1))
      have z_HO426 := fun (h0_ : b 11 = true) => (show Kd.R (Kd.int .i64) 2 w8 w.heap.size (fun _ => True) v425 y424 from by first | exact (Kd.R_below (by (with_reducible repeat (first | apply Kd.R_alloc | apply Kd.R_drewN | apply Kd.R_drew)); exact (Q_HO426 h0_)) hb) | exact Kd.R_mono (Kd.R_below (by (with_reducible repeat (first | apply Kd.R_alloc | apply Kd.R_drewN | apply Kd.R_drew)); exact (Q_HO426 h0_)) hb) (fun _ h_ => by first | trivial | exact h_ | exact h_.1))
      clear HI1
      clear BK415
      clear HK
      clear HB
      have HO418 := n0_
      have HI1 := n1_
      have BK415 := n2_
      have HK := n3_
      have HB := n4_
      clear n0_ n1_ n2_ n3_ n4_
      clear hb ho9
      refine hK.out _ _ ⟨v417, v421, v425, (by rw [ha.out]; exact putSel_upk 1 hb_ rfl rfl rfl), (by (with_reducible repeat (first | refine kdn ?_ _ | refine kdw ?_ | refine kal ?_ _)); exact BK415.out), fun _ => (by repeat (first | (with_reducible first | exact HI1.out | apply IsS78.alloc | apply IsS78.drewN | apply IsS78.drew | apply IsS78.set_0 | refine IsS78.farT (p := ⟨gb415, _, none⟩) (t2 := 51) ?_ ?_ (by decide) (by decide) _ | exact OutT.mk BK415.out | refine OutT.set ?_ _ _ _) | exact HI1.out)), (by repeat (first | (with_reducible first | exact HK.out | fail | apply etn | apply etw | apply eta | refine keepT_far ?_ GW415.out _) | exact HK.out)), (by repeat (first | (with_reducible first | exact HB.out | apply bal | apply bdn | apply bd1 | refine bst ?_ (IsS78.ge HI1.out) | refine bst ?_ GE415.out) | exact HB.out)), fun _ => (by (with_reducible repeat (first | apply Kd.R_alloc | apply Kd.R_drewN | apply Kd.R_drew)); exact HO418.out), fun h0_ _ => absurd ((hoff 4 (by kernel_rfl)).symm.trans h0_) (by decide), z_HO422, fun h0_ _ => absurd ((hoff 8 (by kernel_rfl)).symm.trans h0_) (by decide), z_HO426, fun h0_ => absurd ((hoff 12 (by kernel_rfl)).symm.trans h0_) (by decide)⟩
    refine steps_cons ?_ ?_
    · rintro b a w' ⟨v417, v421, v425, ha, Q_BK415, Q_HI1, Q_HK, Q_HB, Q_HO418, Q_HI1_e4, Q_HO422, Q_HI1_e8, Q_HO426, Q_HI1_e12⟩ hb_ hon hoff
      refine ⟨_, rfl, fun K hK => ?_⟩
      have e4 : a.tmps[4]? = some (.pointer (some ⟨g, 0, none⟩)) := by rw [ha]; exact (putSel_off rfl).trans rfl
      have e7 : a.tmps[7]? = some (v417) := by rw [ha]; exact putSel_on (e := (3, 7, v417)) 1 rfl rfl (hon 3 (by kernel_rfl)) rfl
      replace ha := Aside0.mk ha
      have BK415 := Aside0.mk Q_BK415
      have HI1 := Aside0.mk (Q_HI1 hb_)
      have HK := Aside0.mk Q_HK
      have HB := Aside0.mk Q_HB
      have HO418 := Aside0.mk (Q_HO418 (hon 3 (by kernel_rfl)))
      obtain ⟨Ao11, co11, eo11⟩ := Kd.R_slice HO418.out
      (first | subst eo11 | (injection eo11 with f1_ f2_ f3_; have f4_ := f1_.symm; have f5_ := f3_.symm; clear f1_ f2_ f3_; subst f4_; subst f5_))
      refine goes_ Try.func38 (by kernel_rfl) rfl #[.pointer (some ⟨g, 0, none⟩), .slice Ao11 y416.length co11] (by rfl) rfl rfl (by (try simp only [List.map_toArray, List.map_cons, List.map_nil]); first | done | rfl | (simp only [List.length_drop, List.length_take]; rfl) | (simp only [Act.eval, Array.getD_eq_getD_getElem?, Option.getD_some, *]; done) | (simp only [Array.mk.injEq, List.cons.injEq, Value.int.injEq, true_and, and_true]; first | omega | (simp [IntKind.wrap, IntKind.bits, IntKind.signed]; omega))) ?_
      with_reducible refine (codec_Out_N.calls g s1_0 _ _ y416 t419 w0 _ ?side1 ?side2 ?side3 ?side4 ?side5 A3.out).mono ?_
      (case side1 => repeat (first | (with_reducible first | exact HI1.out | apply IsS78.alloc | apply IsS78.drewN | apply IsS78.drew | apply IsS78.set_0 | refine IsS78.farT (p := ⟨gb415, _, none⟩) (t2 := 51) ?_ ?_ (by decide) (by decide) _ | exact OutT.mk BK415.out | refine OutT.set ?_ _ _ _) | exact HI1.out))
      (case side2 => repeat (first | (with_reducible first | exact HB.out | apply bal | apply bdn | apply bd1 | refine bst ?_ (IsS78.ge HI1.out) | refine bst ?_ GE415.out) | exact HB.out))
      (case side3 => repeat (first | exact (Kd.R_reads' HO418.out).2.2 | (with_reducible refine Kd.C_alloc ?_ _) | (with_reducible refine Kd.C_drewN ?_ _) | (with_reducible refine Kd.C_drew ?_)))
      (case side4 => exact (Kd.R_reads' HO418.out).2.1)
      (case side5 => exact fun W_ hk_ => (Kd.R_reads' (KeepT.R (by (with_reducible repeat (first | apply Kd.R_alloc | apply Kd.R_drewN | apply Kd.R_drew)); exact HO418.out) hk_ (by decide))).2.2)
      rintro e w12 ⟨rfl, hi, hb, hk⟩
      refine ⟨_, rfl, ?_⟩
      have n0_ := Aside0.mk (KeepT.oblk (g := gb415) (o := .cells #[.int .i64 a0_0, .string a0_1, .int .i64 a0_2] 51 (0, 0)) (by (with_reducible repeat (first | refine kdn ?_ _ | refine kdw ?_ | refine kal ?_ _)); exact BK415.out) hk (by intro _ _ _ h_; cases h_; decide))
      have n1_ := Aside0.mk (KeepT.R (by (with_reducible repeat (first | apply Kd.R_alloc | apply Kd.R_drewN | apply Kd.R_drew)); exact HO418.out) hk (by decide))
      have n2_ := Aside0.mk (KeepT.trans (by repeat (first | (with_reducible first | exact HK.out | fail | apply etn | apply etw | apply eta | refine keepT_far ?_ GW415.out _) | exact HK.out)) hk)
      have n3_ := Aside0.mk (hb)
      have n4_ := Aside0.mk (hi)
      have z_HO422 := fun (h0_ : b 7 = true) => (show Kd.R Kd.string 9 w12 w.heap.size (fun _ => True) v421 y420 from by first | exact (KeepT.R (by (with_reducible repeat (first | apply Kd.R_alloc | apply Kd.R_drewN | apply Kd.R_drew)); exact (Q_HO422 h0_)) hk (by decide)) | exact Kd.R_mono (KeepT.R (by (with_reducible repeat (first | apply Kd.R_alloc | apply Kd.R_drewN | apply Kd.R_drew)); exact (Q_HO422 h0_)) hk (by decide)) (fun _ h_ => by first | trivial | exact h_ | exact h_.1))
      have z_HO426 := fun (h0_ : b 11 = true) => (show Kd.R (Kd.int .i64) 2 w12 w.heap.size (fun _ => True) v425 y424 from by first | exact (KeepT.R (by (with_reducible repeat (first | apply Kd.R_alloc | apply Kd.R_drewN | apply Kd.R_drew)); exact (Q_HO426 h0_)) hk (by decide)) | exact Kd.R_mono (KeepT.R (by (with_reducible repeat (first | apply Kd.R_alloc | apply Kd.R_drewN | apply Kd.R_drew)); exact (Q_HO426 h0_)) hk (by decide)) (fun _ h_ => by first | trivial | exact h_ | exact h_.1))
      clear BK415
      clear HO418
      clear HK
      clear HB
      clear HI1
      have BK415 := n0_
      have HO418 := n1_
      have HK := n2_
      have HB := n3_
      have HI1 := n4_
      clear n0_ n1_ n2_ n3_ n4_
      (try clear hb)
      (try clear hb2)
      (try clear hk)
      (try clear hi)
      refine hK.out _ _ ⟨.slice Ao11 y416.length co11, v421, v425, (by rw [ha.out]; exact putSel_upk 2 hb_ rfl rfl rfl), (by (with_reducible repeat (first | refine kdn ?_ _ | refine kdw ?_ | refine kal ?_ _)); exact BK415.out), fun h0_ => absurd ((up_self b 4).symm.trans h0_) (by decide), (by repeat (first | (with_reducible first | exact HK.out | fail | apply etn | apply etw | apply eta | refine keepT_far ?_ GW415.out _) | exact HK.out)), (by repeat (first | (with_reducible first | exact HB.out | apply bal | apply bdn | apply bd1 | refine bst ?_ (IsS78.ge HI1.out) | refine bst ?_ GE415.out) | exact HB.out)), fun _ => (by (with_reducible repeat (first | apply Kd.R_alloc | apply Kd.R_drewN | apply Kd.R_drew)); exact HO418.out), fun _ _ => (by repeat (first | (with_reducible first | exact HI1.out | apply IsS78.alloc | apply IsS78.drewN | apply IsS78.drew | apply IsS78.set_0 | refine IsS78.farT (p := ⟨gb415, _, none⟩) (t2 := 51) ?_ ?_ (by decide) (by decide) _ | exact OutT.mk BK415.out | refine OutT.set ?_ _ _ _) | exact HI1.out)), z_HO422, fun h0_ _ => absurd ((hoff 8 (by kernel_rfl)).symm.trans h0_) (by decide), z_HO426, fun h0_ => absurd ((hoff 12 (by kernel_rfl)).symm.trans h0_) (by decide)⟩
    refine steps_cons ?_ ?_
    · rintro b a w' ⟨v417, v421, v425, ha, Q_BK415, Q_HI1, Q_HK, Q_HB, Q_HO418, Q_HI1_e4, Q_HO422, Q_HI1_e8, Q_HO426, Q_HI1_e12⟩ hb_ hon hoff
      refine ⟨_, rfl, fun K hK => ?_⟩
      have e9 : a.tmps[9]? = some (.pointer (some ⟨gb415, 1, none⟩)) := by rw [ha]; exact (putSel_off rfl).trans rfl
      replace ha := Aside0.mk ha
      have BK415 := Aside0.mk Q_BK415
      have HK := Aside0.mk Q_HK
      have HB := Aside0.mk Q_HB
      have hc0_ : w'.cell? ⟨gb415, 0, none⟩ = some (.int .i64 a0_0) := (kcl BK415.out 0).trans rfl
      have hc1_ : w'.cell? ⟨gb415, 1, none⟩ = some (.string a0_1) := (kcl BK415.out 1).trans rfl
      have hc2_ : w'.cell? ⟨gb415, 2, none⟩ = some (.int .i64 a0_2) := (kcl BK415.out 2).trans rfl
      refine value_ (w1 := w') (v := .string a0_1) (by rfl) rfl ?_ ?_
      · go_simp
        (try simp only [i64_w])
        try rfl
      refine hK.out _ _ ⟨v417, v421, v425, (by rw [ha.out]; exact putSel_upk 3 hb_ rfl rfl rfl), Q_BK415, Q_HI1, Q_HK, Q_HB, Q_HO418, Q_HI1_e4, fun h0_ => absurd ((hoff 7 (by kernel_rfl)).symm.trans h0_) (by decide), fun h0_ _ => absurd ((hoff 8 (by kernel_rfl)).symm.trans h0_) (by decide), Q_HO426, fun h0_ => absurd ((hoff 12 (by kernel_rfl)).symm.trans h0_) (by decide)⟩
    refine steps_cons ?_ ?_
    · rintro b a w' ⟨v417, v421, v425, ha, Q_BK415, Q_HI1, Q_HK, Q_HB, Q_HO418, Q_HI1_e4, Q_HO422, Q_HI1_e8, Q_HO426, Q_HI1_e12⟩ hb_ hon hoff
      refine ⟨_, rfl, fun K hK => ?_⟩
      have e10 : a.tmps[10]? = some (.string a0_1) := by rw [ha]; exact putSel_on (e := (6, 10, .string a0_1)) 3 rfl rfl (hon 6 (by kernel_rfl)) rfl
      replace ha := Aside0.mk ha
      have BK415 := Aside0.mk Q_BK415
      have HK := Aside0.mk Q_HK
      have HB := Aside0.mk Q_HB
      refine Kd.R_lit_step Kd.string _ 9 ?hg (N := 11) ?hd (xs := ([a0_1] : List ByteArray)) (inner := [.string a0_1]) (ok := fun _ => True) (okp := fun _ => True) ?hr ?hp (fun _ hk => hk) trivial (Below.refl _ _) (Nat.le_refl _) (by simp) ?_; (case hd => rfl); (case hg => rfl); (case hr => first | (go_simp; done) | (go_simp; rfl)); (case hp => exact (Reps.one (show Kd.M Kd.string _ _ _ a0_1 [.string a0_1] from rfl) (Reps.none _ _)))
      intro v421 w8 ho9 hb hg_ hnew_
      clear hg_ hnew_
      (first | rw [← Ny420.out] at ho9 | (simp only [Int.reduceToNat] at ho9; rw [← Ny420.out] at ho9))
      have n0_ := Aside0.mk (Kd.R_lower ho9 (KeepT.size (w := w) (ts := [78, 5]) (by repeat (first | (with_reducible first | exact HK.out | fail | apply etn | apply etw | apply eta | refine keepT_far ?_ GW415.out _) | exact HK.out))))
      have n2_ := Aside0.mk (kbl (g := gb415) (o := .cells #[.int .i64 a0_0, .string a0_1, .int .i64 a0_2] 51 (0, 0)) (by (with_reducible repeat (first | refine kdn ?_ _ | refine kdw ?_ | refine kal ?_ _)); exact BK415.out) hb)
      have n3_ := Aside0.mk (KeepT.trans (by repeat (first | (with_reducible first | exact HK.out | fail | apply etn | apply etw | apply eta | refine keepT_far ?_ GW415.out _) | exact HK.out)) (KeepT.of_below hb))
      have n4_ := Aside0.mk (bsp (by repeat (first | (with_reducible first | exact HB.out | apply bal | apply bdn | apply bd1 | refine bst ?_ GE415.out) | exact HB.out)) hb)
      have z_HI1 := fun (h0_ : b 4 = false) => (show IsS78 w0 w8 g s1_0 from by first | exact (IsS78.below (by repeat (first | (with_reducible first | exact (Q_HI1 h0_) | apply IsS78.alloc | apply IsS78.drewN | apply IsS78.drew | apply IsS78.set_0 | refine IsS78.farT (p := ⟨gb415, _, none⟩) (t2 := 51) ?_ ?_ (by decide) (by decide) _ | exact OutT.mk BK415.out | refine OutT.set ?_ _ _ _) | exact (Q_HI1 h0_))) hb))
      have z_HO418 := fun (h0_ : b 3 = true) => (show Kd.R (Kd.int .i64) 3 w8 w.heap.size (fun _ => True) v417 y416 from by first | exact (Kd.R_below (by (with_reducible repeat (first | apply Kd.R_alloc | apply Kd.R_drewN | apply Kd.R_drew)); exact (Q_HO418 h0_)) hb) | exact Kd.R_mono (Kd.R_below (by (with_reducible repeat (first | apply Kd.R_alloc | apply Kd.R_drewN | apply Kd.R_drew)); exact (Q_HO418 h0_)) hb) (fun _ h_ => by first | trivial | exact h_ | exact h_.1))
      have z_HI1_e4 := fun (h0_ : b 4 = true) (h1_ : b 8 = false) => (show IsS78 w0 w8 g t419 from by first | exact (IsS78.below (by repeat (first | (with_reducible first | exact (Q_HI1_e4 h0_ h1_) | apply IsS78.alloc | apply IsS78.drewN | apply IsS78.drew | apply IsS78.set_0 | refine IsS78.farT (p := ⟨gb415, _, none⟩) (t2 := 51) ?_ ?_ (by decide) (by decide) _ | exact OutT.mk BK415.out | refine OutT.set ?_ _ _ _) | exact (Q_HI1_e4 h0_ h1_))) hb))
      have z_HO426 := fun (h0_ : b 11 = true) => (show Kd.R (Kd.int .i64) 2 w8 w.heap.size (fun _ => True) v425 y424 from by first | exact (Kd.R_below (by (with_reducible repeat (first | apply Kd.R_alloc | apply Kd.R_drewN | apply Kd.R_drew)); exact (Q_HO426 h0_)) hb) | exact Kd.R_mono (Kd.R_below (by (with_reducible repeat (first | apply Kd.R_alloc | apply Kd.R_drewN | apply Kd.R_drew)); exact (Q_HO426 h0_)) hb) (fun _ h_ => by first | trivial | exact h_ | exact h_.1))
      clear BK415
      clear HK
      clear HB
      have HO422 := n0_
      have BK415 := n2_
      have HK := n3_
      have HB := n4_
      clear n0_ n2_ n3_ n4_
      clear hb ho9
      refine hK.out _ _ ⟨v417, v421, v425, (by rw [ha.out]; exact putSel_upk 4 hb_ rfl rfl rfl), (by (with_reducible repeat (first | refine kdn ?_ _ | refine kdw ?_ | refine kal ?_ _)); exact BK415.out), z_HI1, (by repeat (first | (with_reducible first | exact HK.out | fail | apply etn | apply etw | apply eta | refine keepT_far ?_ GW415.out _) | exact HK.out)), (by repeat (first | (with_reducible first | exact HB.out | apply bal | apply bdn | apply bd1 | refine bst ?_ GE415.out) | exact HB.out)), z_HO418, z_HI1_e4, fun _ => (by (with_reducible repeat (first | apply Kd.R_alloc | apply Kd.R_drewN | apply Kd.R_drew)); exact HO422.out), fun h0_ _ => absurd ((hoff 8 (by kernel_rfl)).symm.trans h0_) (by decide), z_HO426, fun h0_ => absurd ((hoff 12 (by kernel_rfl)).symm.trans h0_) (by decide)⟩
    refine steps_cons ?_ ?_
    · rintro b a w' ⟨v417, v421, v425, ha, Q_BK415, Q_HI1, Q_HK, Q_HB, Q_HO418, Q_HI1_e4, Q_HO422, Q_HI1_e8, Q_HO426, Q_HI1_e12⟩ hb_ hon hoff
      refine ⟨_, rfl, fun K hK => ?_⟩
      have e8 : a.tmps[8]? = some (.pointer (some ⟨g, 0, none⟩)) := by rw [ha]; exact putSel_on (e := (4, 8, .pointer (some ⟨g, 0, none⟩))) 2 rfl rfl (hon 4 (by kernel_rfl)) rfl
      have e11 : a.tmps[11]? = some (v421) := by rw [ha]; exact putSel_on (e := (7, 11, v421)) 4 rfl rfl (hon 7 (by kernel_rfl)) rfl
      replace ha := Aside0.mk ha
      have BK415 := Aside0.mk Q_BK415
      have HK := Aside0.mk Q_HK
      have HB := Aside0.mk Q_HB
      have HO418 := Aside0.mk (Q_HO418 (hon 3 (by kernel_rfl)))
      have HI1 := Aside0.mk (Q_HI1_e4 (hon 4 (by kernel_rfl)) hb_)
      have HO422 := Aside0.mk (Q_HO422 (hon 7 (by kernel_rfl)))
      obtain ⟨Ao15, co15, eo15⟩ := Kd.R_slice HO422.out
      (first | subst eo15 | (injection eo15 with f1_ f2_ f3_; have f4_ := f1_.symm; have f5_ := f3_.symm; clear f1_ f2_ f3_; subst f4_; subst f5_))
      refine goes_ Try.func39 (by kernel_rfl) rfl #[.pointer (some ⟨g, 0, none⟩), .slice Ao15 y420.length co15] (by rfl) rfl rfl (by (try simp only [List.map_toArray, List.map_cons, List.map_nil]); first | done | rfl | (simp only [List.length_drop, List.length_take]; rfl) | (simp only [Act.eval, Array.getD_eq_getD_getElem?, Option.getD_some, *]; done) | (simp only [Array.mk.injEq, List.cons.injEq, Value.int.injEq, true_and, and_true]; first | omega | (simp [IntKind.wrap, IntKind.bits, IntKind.signed]; omega))) ?_
      with_reducible refine (codec_Out_S.calls g t419 _ _ y420 t423 w0 _ ?side1 ?side2 ?side3 ?side4 ?side5 A4.out).mono ?_
      (case side1 => repeat (first | (with_reducible first | exact HI1.out | apply IsS78.alloc | apply IsS78.drewN | apply IsS78.drew | apply IsS78.set_0 | refine IsS78.farT (p := ⟨gb415, _, none⟩) (t2 := 51) ?_ ?_ (by decide) (by decide) _ | exact OutT.mk BK415.out | refine OutT.set ?_ _ _ _) | exact HI1.out))
      (case side2 => repeat (first | (with_reducible first | exact HB.out | apply bal | apply bdn | apply bd1 | refine bst ?_ (IsS78.ge HI1.out) | refine bst ?_ GE415.out) | exact HB.out))
      (case side3 => repeat (first | exact (Kd.R_reads' HO422.out).2.2 | (with_reducible refine Kd.C_alloc ?_ _) | (with_reducible refine Kd.C_drewN ?_ _) | (with_reducible refine Kd.C_drew ?_)))
      (case side4 => exact (Kd.R_reads' HO422.out).2.1)
      (case side5 => exact fun W_ hk_ => (Kd.R_reads' (KeepT.R (by (with_reducible repeat (first | apply Kd.R_alloc | apply Kd.R_drewN | apply Kd.R_drew)); exact HO422.out) hk_ (by decide))).2.2)
      rintro e w16 ⟨rfl, hi, hb, hk⟩
      refine ⟨_, rfl, ?_⟩
      have n0_ := Aside0.mk (KeepT.oblk (g := gb415) (o := .cells #[.int .i64 a0_0, .string a0_1, .int .i64 a0_2] 51 (0, 0)) (by (with_reducible repeat (first | refine kdn ?_ _ | refine kdw ?_ | refine kal ?_ _)); exact BK415.out) hk (by intro _ _ _ h_; cases h_; decide))
      have n1_ := Aside0.mk (KeepT.R (by (with_reducible repeat (first | apply Kd.R_alloc | apply Kd.R_drewN | apply Kd.R_drew)); exact HO418.out) hk (by decide))
      have n2_ := Aside0.mk (KeepT.R (by (with_reducible repeat (first | apply Kd.R_alloc | apply Kd.R_drewN | apply Kd.R_drew)); exact HO422.out) hk (by decide))
      have n3_ := Aside0.mk (KeepT.trans (by repeat (first | (with_reducible first | exact HK.out | fail | apply etn | apply etw | apply eta | refine keepT_far ?_ GW415.out _) | exact HK.out)) hk)
      have n4_ := Aside0.mk (hb)
      have n5_ := Aside0.mk (hi)
      have z_HO426 := fun (h0_ : b 11 = true) => (show Kd.R (Kd.int .i64) 2 w16 w.heap.size (fun _ => True) v425 y424 from by first | exact (KeepT.R (by (with_reducible repeat (first | apply Kd.R_alloc | apply Kd.R_drewN | apply Kd.R_drew)); exact (Q_HO426 h0_)) hk (by decide)) | exact Kd.R_mono (KeepT.R (by (with_reducible repeat (first | apply Kd.R_alloc | apply Kd.R_drewN | apply Kd.R_drew)); exact (Q_HO426 h0_)) hk (by decide)) (fun _ h_ => by first | trivial | exact h_ | exact h_.1))
      clear BK415
      clear HO418
      clear HO422
      clear HK
      clear HB
      clear HI1
      have BK415 := n0_
      have HO418 := n1_
      have HO422 := n2_
      have HK := n3_
      have HB := n4_
      have HI1 := n5_
      clear n0_ n1_ n2_ n3_ n4_ n5_
      (try clear hb)
      (try clear hb2)
      (try clear hk)
      (try clear hi)
      refine hK.out _ _ ⟨v417, .slice Ao15 y420.length co15, v425, (by rw [ha.out]; exact putSel_upk 5 hb_ rfl rfl rfl), (by (with_reducible repeat (first | refine kdn ?_ _ | refine kdw ?_ | refine kal ?_ _)); exact BK415.out), fun h0_ => absurd ((hon 4 (by kernel_rfl)).symm.trans h0_) (by decide), (by repeat (first | (with_reducible first | exact HK.out | fail | apply etn | apply etw | apply eta | refine keepT_far ?_ GW415.out _) | exact HK.out)), (by repeat (first | (with_reducible first | exact HB.out | apply bal | apply bdn | apply bd1 | refine bst ?_ (IsS78.ge HI1.out) | refine bst ?_ GE415.out) | exact HB.out)), fun _ => (by (with_reducible repeat (first | apply Kd.R_alloc | apply Kd.R_drewN | apply Kd.R_drew)); exact HO418.out), fun _ h1_ => absurd ((up_self b 8).symm.trans h1_) (by decide), fun _ => (by (with_reducible repeat (first | apply Kd.R_alloc | apply Kd.R_drewN | apply Kd.R_drew)); exact HO422.out), fun _ _ => (by repeat (first | (with_reducible first | exact HI1.out | apply IsS78.alloc | apply IsS78.drewN | apply IsS78.drew | apply IsS78.set_0 | refine IsS78.farT (p := ⟨gb415, _, none⟩) (t2 := 51) ?_ ?_ (by decide) (by decide) _ | exact OutT.mk BK415.out | refine OutT.set ?_ _ _ _) | exact HI1.out)), z_HO426, fun h0_ => absurd ((hoff 12 (by kernel_rfl)).symm.trans h0_) (by decide)⟩
    refine steps_cons ?_ ?_
    · rintro b a w' ⟨v417, v421, v425, ha, Q_BK415, Q_HI1, Q_HK, Q_HB, Q_HO418, Q_HI1_e4, Q_HO422, Q_HI1_e8, Q_HO426, Q_HI1_e12⟩ hb_ hon hoff
      refine ⟨_, rfl, fun K hK => ?_⟩
      have e13 : a.tmps[13]? = some (.pointer (some ⟨gb415, 2, none⟩)) := by rw [ha]; exact (putSel_off rfl).trans rfl
      replace ha := Aside0.mk ha
      have BK415 := Aside0.mk Q_BK415
      have HK := Aside0.mk Q_HK
      have HB := Aside0.mk Q_HB
      have hc0_ : w'.cell? ⟨gb415, 0, none⟩ = some (.int .i64 a0_0) := (kcl BK415.out 0).trans rfl
      have hc1_ : w'.cell? ⟨gb415, 1, none⟩ = some (.string a0_1) := (kcl BK415.out 1).trans rfl
      have hc2_ : w'.cell? ⟨gb415, 2, none⟩ = some (.int .i64 a0_2) := (kcl BK415.out 2).trans rfl
      refine value_ (w1 := w') (v := .int .i64 a0_2) (by rfl) rfl ?_ ?_
      · go_simp
        (try simp only [i64_w])
        try rfl
      refine hK.out _ _ ⟨v417, v421, v425, (by rw [ha.out]; exact putSel_upk 6 hb_ rfl rfl rfl), Q_BK415, Q_HI1, Q_HK, Q_HB, Q_HO418, Q_HI1_e4, Q_HO422, Q_HI1_e8, fun h0_ => absurd ((hoff 11 (by kernel_rfl)).symm.trans h0_) (by decide), fun h0_ => absurd ((hoff 12 (by kernel_rfl)).symm.trans h0_) (by decide)⟩
    refine steps_cons ?_ ?_
    · rintro b a w' ⟨v417, v421, v425, ha, Q_BK415, Q_HI1, Q_HK, Q_HB, Q_HO418, Q_HI1_e4, Q_HO422, Q_HI1_e8, Q_HO426, Q_HI1_e12⟩ hb_ hon hoff
      refine ⟨_, rfl, fun K hK => ?_⟩
      have e14 : a.tmps[14]? = some (.int .i64 a0_2) := by rw [ha]; exact putSel_on (e := (10, 14, .int .i64 a0_2)) 6 rfl rfl (hon 10 (by kernel_rfl)) rfl
      replace ha := Aside0.mk ha
      have BK415 := Aside0.mk Q_BK415
      have HK := Aside0.mk Q_HK
      have HB := Aside0.mk Q_HB
      refine Kd.R_lit_step (Kd.int .i64) _ 2 ?hg (N := 15) ?hd (xs := ([a0_2] : List Int)) (inner := [.int .i64 a0_2]) (ok := fun _ => True) (okp := fun _ => True) ?hr ?hp (fun _ hk => hk) trivial (Below.refl _ _) (Nat.le_refl _) (by simp) ?_; (case hd => rfl); (case hg => rfl); (case hr => first | (go_simp; done) | (go_simp; rfl)); (case hp => exact (Reps.one (show Kd.M (Kd.int .i64) _ _ _ a0_2 [.int .i64 a0_2] from rfl) (Reps.none _ _)))
      intro v425 w8 ho9 hb hg_ hnew_
      clear hg_ hnew_
      (first | rw [← Ny424.out] at ho9 | (simp only [Int.reduceToNat] at ho9; rw [← Ny424.out] at ho9))
      have n0_ := Aside0.mk (Kd.R_lower ho9 (KeepT.size (w := w) (ts := [78, 5]) (by repeat (first | (with_reducible first | exact HK.out | fail | apply etn | apply etw | apply eta | refine keepT_far ?_ GW415.out _) | exact HK.out))))
      have n2_ := Aside0.mk (kbl (g := gb415) (o := .cells #[.int .i64 a0_0, .string a0_1, .int .i64 a0_2] 51 (0, 0)) (by (with_reducible repeat (first | refine kdn ?_ _ | refine kdw ?_ | refine kal ?_ _)); exact BK415.out) hb)
      have n3_ := Aside0.mk (KeepT.trans (by repeat (first | (with_reducible first | exact HK.out | fail | apply etn | apply etw | apply eta | refine keepT_far ?_ GW415.out _) | exact HK.out)) (KeepT.of_below hb))
      have n4_ := Aside0.mk (bsp (by repeat (first | (with_reducible first | exact HB.out | apply bal | apply bdn | apply bd1 | refine bst ?_ GE415.out) | exact HB.out)) hb)
      have z_HI1 := fun (h0_ : b 4 = false) => (show IsS78 w0 w8 g s1_0 from by first | exact (IsS78.below (by repeat (first | (with_reducible first | exact (Q_HI1 h0_) | apply IsS78.alloc | apply IsS78.drewN | apply IsS78.drew | apply IsS78.set_0 | refine IsS78.farT (p := ⟨gb415, _, none⟩) (t2 := 51) ?_ ?_ (by decide) (by decide) _ | exact OutT.mk BK415.out | refine OutT.set ?_ _ _ _) | exact (Q_HI1 h0_))) hb))
      have z_HO418 := fun (h0_ : b 3 = true) => (show Kd.R (Kd.int .i64) 3 w8 w.heap.size (fun _ => True) v417 y416 from by first | exact (Kd.R_below (by (with_reducible repeat (first | apply Kd.R_alloc | apply Kd.R_drewN | apply Kd.R_drew)); exact (Q_HO418 h0_)) hb) | exact Kd.R_mono (Kd.R_below (by (with_reducible repeat (first | apply Kd.R_alloc | apply Kd.R_drewN | apply Kd.R_drew)); exact (Q_HO418 h0_)) hb) (fun _ h_ => by first | trivial | exact h_ | exact h_.1))
      have z_HI1_e4 := fun (h0_ : b 4 = true) (h1_ : b 8 = false) => (show IsS78 w0 w8 g t419 from by first | exact (IsS78.below (by repeat (first | (with_reducible first | exact (Q_HI1_e4 h0_ h1_) | apply IsS78.alloc | apply IsS78.drewN | apply IsS78.drew | apply IsS78.set_0 | refine IsS78.farT (p := ⟨gb415, _, none⟩) (t2 := 51) ?_ ?_ (by decide) (by decide) _ | exact OutT.mk BK415.out | refine OutT.set ?_ _ _ _) | exact (Q_HI1_e4 h0_ h1_))) hb))
      have z_HO422 := fun (h0_ : b 7 = true) => (show Kd.R Kd.string 9 w8 w.heap.size (fun _ => True) v421 y420 from by first | exact (Kd.R_below (by (with_reducible repeat (first | apply Kd.R_alloc | apply Kd.R_drewN | apply Kd.R_drew)); exact (Q_HO422 h0_)) hb) | exact Kd.R_mono (Kd.R_below (by (with_reducible repeat (first | apply Kd.R_alloc | apply Kd.R_drewN | apply Kd.R_drew)); exact (Q_HO422 h0_)) hb) (fun _ h_ => by first | trivial | exact h_ | exact h_.1))
      have z_HI1_e8 := fun (h0_ : b 8 = true) (h1_ : b 12 = false) => (show IsS78 w0 w8 g t423 from by first | exact (IsS78.below (by repeat (first | (with_reducible first | exact (Q_HI1_e8 h0_ h1_) | apply IsS78.alloc | apply IsS78.drewN | apply IsS78.drew | apply IsS78.set_0 | refine IsS78.farT (p := ⟨gb415, _, none⟩) (t2 := 51) ?_ ?_ (by decide) (by decide) _ | exact OutT.mk BK415.out | refine OutT.set ?_ _ _ _) | exact (Q_HI1_e8 h0_ h1_))) hb))
      clear BK415
      clear HK
      clear HB
      have HO426 := n0_
      have BK415 := n2_
      have HK := n3_
      have HB := n4_
      clear n0_ n2_ n3_ n4_
      clear hb ho9
      refine hK.out _ _ ⟨v417, v421, v425, (by rw [ha.out]; exact putSel_upk 7 hb_ rfl rfl rfl), (by (with_reducible repeat (first | refine kdn ?_ _ | refine kdw ?_ | refine kal ?_ _)); exact BK415.out), z_HI1, (by repeat (first | (with_reducible first | exact HK.out | fail | apply etn | apply etw | apply eta | refine keepT_far ?_ GW415.out _) | exact HK.out)), (by repeat (first | (with_reducible first | exact HB.out | apply bal | apply bdn | apply bd1 | refine bst ?_ GE415.out) | exact HB.out)), z_HO418, z_HI1_e4, z_HO422, z_HI1_e8, fun _ => (by (with_reducible repeat (first | apply Kd.R_alloc | apply Kd.R_drewN | apply Kd.R_drew)); exact HO426.out), fun h0_ => absurd ((hoff 12 (by kernel_rfl)).symm.trans h0_) (by decide)⟩
    refine steps_cons ?_ ?_
    · rintro b a w' ⟨v417, v421, v425, ha, Q_BK415, Q_HI1, Q_HK, Q_HB, Q_HO418, Q_HI1_e4, Q_HO422, Q_HI1_e8, Q_HO426, Q_HI1_e12⟩ hb_ hon hoff
      refine ⟨_, rfl, fun K hK => ?_⟩
      have e12 : a.tmps[12]? = some (.pointer (some ⟨g, 0, none⟩)) := by rw [ha]; exact putSel_on (e := (8, 12, .pointer (some ⟨g, 0, none⟩))) 5 rfl rfl (hon 8 (by kernel_rfl)) rfl
      have e15 : a.tmps[15]? = some (v425) := by rw [ha]; exact putSel_on (e := (11, 15, v425)) 7 rfl rfl (hon 11 (by kernel_rfl)) rfl
      replace ha := Aside0.mk ha
      have BK415 := Aside0.mk Q_BK415
      have HK := Aside0.mk Q_HK
      have HB := Aside0.mk Q_HB
      have HO418 := Aside0.mk (Q_HO418 (hon 3 (by kernel_rfl)))
      have HO422 := Aside0.mk (Q_HO422 (hon 7 (by kernel_rfl)))
      have HI1 := Aside0.mk (Q_HI1_e8 (hon 8 (by kernel_rfl)) hb_)
      have HO426 := Aside0.mk (Q_HO426 (hon 11 (by kernel_rfl)))
      obtain ⟨Ao19, co19, eo19⟩ := Kd.R_slice HO426.out
      (first | subst eo19 | (injection eo19 with f1_ f2_ f3_; have f4_ := f1_.symm; have f5_ := f3_.symm; clear f1_ f2_ f3_; subst f4_; subst f5_))
      refine goes_ Try.func68 (by kernel_rfl) rfl #[.pointer (some ⟨g, 0, none⟩), .slice Ao19 y424.length co19] (by rfl) rfl rfl (by (try simp only [List.map_toArray, List.map_cons, List.map_nil]); first | done | rfl | (simp only [List.length_drop, List.length_take]; rfl) | (simp only [Act.eval, Array.getD_eq_getD_getElem?, Option.getD_some, *]; done) | (simp only [Array.mk.injEq, List.cons.injEq, Value.int.injEq, true_and, and_true]; first | omega | (simp [IntKind.wrap, IntKind.bits, IntKind.signed]; omega))) ?_
      with_reducible refine (codec_Out_I.calls g t423 _ _ y424 t427 w0 _ ?side1 ?side2 ?side3 ?side4 ?side5 A5.out).mono ?_
      (case side1 => repeat (first | (with_reducible first | exact HI1.out | apply IsS78.alloc | apply IsS78.drewN | apply IsS78.drew | apply IsS78.set_0 | refine IsS78.farT (p := ⟨gb415, _, none⟩) (t2 := 51) ?_ ?_ (by decide) (by decide) _ | exact OutT.mk BK415.out | refine OutT.set ?_ _ _ _) | exact HI1.out))
      (case side2 => repeat (first | (with_reducible first | exact HB.out | apply bal | apply bdn | apply bd1 | refine bst ?_ (IsS78.ge HI1.out) | refine bst ?_ GE415.out) | exact HB.out))
      (case side3 => repeat (first | exact (Kd.R_reads' HO426.out).2.2 | (with_reducible refine Kd.C_alloc ?_ _) | (with_reducible refine Kd.C_drewN ?_ _) | (with_reducible refine Kd.C_drew ?_)))
      (case side4 => exact (Kd.R_reads' HO426.out).2.1)
      (case side5 => exact fun W_ hk_ => (Kd.R_reads' (KeepT.R (by (with_reducible repeat (first | apply Kd.R_alloc | apply Kd.R_drewN | apply Kd.R_drew)); exact HO426.out) hk_ (by decide))).2.2)
      rintro e w20 ⟨rfl, hi, hb, hk⟩
      refine ⟨_, rfl, ?_⟩
      have n0_ := Aside0.mk (KeepT.oblk (g := gb415) (o := .cells #[.int .i64 a0_0, .string a0_1, .int .i64 a0_2] 51 (0, 0)) (by (with_reducible repeat (first | refine kdn ?_ _ | refine kdw ?_ | refine kal ?_ _)); exact BK415.out) hk (by intro _ _ _ h_; cases h_; decide))
      have n1_ := Aside0.mk (KeepT.R (by (with_reducible repeat (first | apply Kd.R_alloc | apply Kd.R_drewN | apply Kd.R_drew)); exact HO418.out) hk (by decide))
      have n2_ := Aside0.mk (KeepT.R (by (with_reducible repeat (first | apply Kd.R_alloc | apply Kd.R_drewN | apply Kd.R_drew)); exact HO422.out) hk (by decide))
      have n3_ := Aside0.mk (KeepT.R (by (with_reducible repeat (first | apply Kd.R_alloc | apply Kd.R_drewN | apply Kd.R_drew)); exact HO426.out) hk (by decide))
      have n4_ := Aside0.mk (KeepT.trans (by repeat (first | (with_reducible first | exact HK.out | fail | apply etn | apply etw | apply eta | refine keepT_far ?_ GW415.out _) | exact HK.out)) hk)
      have n5_ := Aside0.mk (hb)
      have n6_ := Aside0.mk (hi)
      clear BK415
      clear HO418
      clear HO422
      clear HO426
      clear HK
      clear HB
      clear HI1
      have BK415 := n0_
      have HO418 := n1_
      have HO422 := n2_
      have HO426 := n3_
      have HK := n4_
      have HB := n5_
      have HI1 := n6_
      clear n0_ n1_ n2_ n3_ n4_ n5_ n6_
      (try clear hb)
      (try clear hb2)
      (try clear hk)
      (try clear hi)
      refine hK.out _ _ ⟨v417, v421, .slice Ao19 y424.length co19, (by rw [ha.out]; exact putSel_upk 8 hb_ rfl rfl rfl), (by (with_reducible repeat (first | refine kdn ?_ _ | refine kdw ?_ | refine kal ?_ _)); exact BK415.out), fun h0_ => absurd ((hon 4 (by kernel_rfl)).symm.trans h0_) (by decide), (by repeat (first | (with_reducible first | exact HK.out | fail | apply etn | apply etw | apply eta | refine keepT_far ?_ GW415.out _) | exact HK.out)), (by repeat (first | (with_reducible first | exact HB.out | apply bal | apply bdn | apply bd1 | refine bst ?_ (IsS78.ge HI1.out) | refine bst ?_ GE415.out) | exact HB.out)), fun _ => (by (with_reducible repeat (first | apply Kd.R_alloc | apply Kd.R_drewN | apply Kd.R_drew)); exact HO418.out), fun _ h1_ => absurd ((hon 8 (by kernel_rfl)).symm.trans h1_) (by decide), fun _ => (by (with_reducible repeat (first | apply Kd.R_alloc | apply Kd.R_drewN | apply Kd.R_drew)); exact HO422.out), fun _ h1_ => absurd ((up_self b 12).symm.trans h1_) (by decide), fun _ => (by (with_reducible repeat (first | apply Kd.R_alloc | apply Kd.R_drewN | apply Kd.R_drew)); exact HO426.out), fun _ => (by repeat (first | (with_reducible first | exact HI1.out | apply IsS78.alloc | apply IsS78.drewN | apply IsS78.drew | apply IsS78.set_0 | refine IsS78.farT (p := ⟨gb415, _, none⟩) (t2 := 51) ?_ ?_ (by decide) (by decide) _ | exact OutT.mk BK415.out | refine OutT.set ?_ _ _ _) | exact HI1.out))⟩
    exact steps_nil
  rintro b a w20 hall ⟨v417, v421, v425, ha, Q_BK415, Q_HI1, Q_HK, Q_HB, Q_HO418, Q_HI1_e4, Q_HO422, Q_HI1_e8, Q_HO426, Q_HI1_e12⟩
  clear BK415 HB HI1 HK
  have hb2_ := hall 2 (by kernel_rfl)
  have hb3_ := hall 3 (by kernel_rfl)
  have hb4_ := hall 4 (by kernel_rfl)
  have hb6_ := hall 6 (by kernel_rfl)
  have hb7_ := hall 7 (by kernel_rfl)
  have hb8_ := hall 8 (by kernel_rfl)
  have hb10_ := hall 10 (by kernel_rfl)
  have hb11_ := hall 11 (by kernel_rfl)
  have hb12_ := hall 12 (by kernel_rfl)
  subst ha
  simp only [putSel, hb2_, hb3_, hb4_, hb6_, hb7_, hb8_, hb10_, hb11_, hb12_, if_true, Act.put, List.setIfInBounds_toArray, List.set_cons_zero, List.set_cons_succ]
  have BK415 := Aside0.mk Q_BK415
  clear Q_BK415
  clear Q_HI1
  have HK := Aside0.mk Q_HK
  clear Q_HK
  have HB := Aside0.mk Q_HB
  clear Q_HB
  have HO418 := Aside0.mk (Q_HO418 hb3_)
  clear Q_HO418
  clear Q_HI1_e4
  have HO422 := Aside0.mk (Q_HO422 hb7_)
  clear Q_HO422
  clear Q_HI1_e8
  have HO426 := Aside0.mk (Q_HO426 hb11_)
  clear Q_HO426
  have HI1 := Aside0.mk (Q_HI1_e12 hb12_)
  clear Q_HI1_e12
  clear hall hb2_ hb3_ hb4_ hb6_ hb7_ hb8_ hb10_ hb11_ hb12_
  try go_wp2
  first | go_end0 | ((try simp only [Exit.inBlock, Exit.then]); refine bodyPost_ret (results_none rfl _ _ _) rfl ?_)
  exact ⟨by first | rfl | (simp [errW_none, errW_some] <;> rfl) | (simp [*, errW_none, errW_some] <;> rfl), by repeat (first | (with_reducible first | exact HI1.out | apply IsS78.alloc | apply IsS78.drewN | apply IsS78.drew | apply IsS78.set_0 | refine IsS78.farT (p := ⟨gb415, _, none⟩) (t2 := 51) ?_ ?_ (by decide) (by decide) _ | exact OutT.mk BK415.out | refine OutT.set ?_ _ _ _) | exact HI1.out), by repeat (first | (with_reducible first | exact HB.out | apply bal | apply bdn | apply bd1 | refine bst ?_ (IsS78.ge HI1.out) | refine bst ?_ GE415.out) | exact HB.out), by repeat (first | (with_reducible first | exact HK.out | fail | apply etn | apply etw | apply eta | refine keepT_far ?_ GW415.out _) | exact HK.out)⟩
def frame_Reply_Text.f (k : Nat) (a0_0 : Int) (a0_1 : Int) (a0_2 : Int) (a0_3 : ByteArray) (a0_4 : Int) : Option (ByteArray) := (codec_Out_N.f (⟨#[]⟩ : ByteArray) (([a0_0, a0_1] : List Int))).bind fun t433 => (if (!(a0_2 == 0) || (!(a0_3.toList == ([] : List UInt8)) || (!(a0_4 == 0)))) = true then ((method_Result_Put.f a0_2 a0_3 a0_4 t433).bind fun t434 => ((codec_Out_Text.f t434).bind fun bt435 => ((frame_seal.f k bt435.1).bind fun t437 => (some t437)))) else ((codec_Out_Text.f t433).bind fun bt438 => ((frame_seal.f k bt438.1).bind fun t440 => (some t440))))
set_option maxHeartbeats 2000000 in
set_option maxRecDepth 100000 in
theorem frame_Reply_Text.calls (k : Nat) (a0_0 : Int) (a0_1 : Int) (a0_2 : Int) (a0_3 : ByteArray) (a0_4 : Int) (r : ByteArray) (w : World) (h : frame_Reply_Text.f k a0_0 a0_1 a0_2 a0_3 a0_4 = some r) :
    Calls Try.prog 22 #[.agg #[.int .i64 a0_0, .int .i64 a0_1, .int .i64 a0_2, .string a0_3, .int .i64 a0_4]] w fun e w' => e = .returned (.string r) ∧ Below w.heap.size w w' := by
  have hu53 := Try.underlying53
  have hu78 := Try.underlying78
  have hu51 := Try.underlying51
  have HB := Aside0.mk (Below.refl w.heap.size w)
  have H : ((codec_Out_N.f (⟨#[]⟩ : ByteArray) (([a0_0, a0_1] : List Int))).bind fun t433 => (if (!(a0_2 == 0) || (!(a0_3.toList == ([] : List UInt8)) || (!(a0_4 == 0)))) = true then ((method_Result_Put.f a0_2 a0_3 a0_4 t433).bind fun t434 => ((codec_Out_Text.f t434).bind fun bt435 => ((frame_seal.f k bt435.1).bind fun t437 => (some t437)))) else ((codec_Out_Text.f t433).bind fun bt438 => ((frame_seal.f k bt438.1).bind fun t440 => (some t440))))) = some r := h
  clear h
  obtain ⟨y430, hy430⟩ : ∃ y_ : List Int, y_ = (([a0_0, a0_1] : List Int)) := ⟨_, rfl⟩
  replace H : ((codec_Out_N.f (⟨#[]⟩ : ByteArray) y430).bind fun t433 => (if (!(a0_2 == 0) || (!(a0_3.toList == ([] : List UInt8)) || (!(a0_4 == 0)))) = true then ((method_Result_Put.f a0_2 a0_3 a0_4 t433).bind fun t434 => ((codec_Out_Text.f t434).bind fun bt435 => ((frame_seal.f k bt435.1).bind fun t437 => (some t437)))) else ((codec_Out_Text.f t433).bind fun bt438 => ((frame_seal.f k bt438.1).bind fun t440 => (some t440))))) = some r := by first | (rw [hy430]; with_reducible exact H) | (have H2_ := (Option.bind_some _ _).symm.trans H; rw [hy430]; with_reducible exact H2_) | (have H2_ := (Option.bind_some _ _).symm.trans H; with_reducible exact H2_) | with_reducible exact H | (rw [hy430]; exact H) | exact H
  have Ny430 := Aside0.mk hy430
  clear hy430
  replace H := Option.bind_eq_some_iff.mp H
  obtain ⟨t433, A20, H⟩ := H
  replace H : (if (!(a0_2 == 0) || (!(a0_3.toList == ([] : List UInt8)) || (!(a0_4 == 0)))) = true then ((method_Result_Put.f a0_2 a0_3 a0_4 t433).bind fun t434 => ((codec_Out_Text.f t434).bind fun bt435 => ((frame_seal.f k bt435.1).bind fun t437 => (some t437)))) else ((codec_Out_Text.f t433).bind fun bt438 => ((frame_seal.f k bt438.1).bind fun t440 => (some t440)))) = some r := H
  have A2 := Aside0.mk A20
  clear A20
  by_cases c3 : (!(a0_2 == 0) || (!(a0_3.toList == ([] : List UInt8)) || (!(a0_4 == 0)))) = true
  rotate_left
  · rw [if_neg c3] at H
    have c3b0 : (!(a0_2 == 0) || (!(a0_3.toList == ([] : List UInt8)) || (!(a0_4 == 0)))) = false := by simpa using c3
    (try (have c3b1 : (!(a0_2 == 0) || (!a0_3.toList.isEmpty || (!(a0_4 == 0)))) = false := by simpa using c3))
    clear c3
    replace H := Option.bind_eq_some_iff.mp H
    obtain ⟨⟨t438, t439⟩, A190, H⟩ := H
    replace H : ((frame_seal.f k t438).bind fun t440 => (some t440)) = some r := H
    have A19 := Aside0.mk A190
    clear A190
    replace H := Option.bind_eq_some_iff.mp H
    obtain ⟨t440, A200, H⟩ := H
    replace H : (some t440) = some r := H
    have A20 := Aside0.mk A200
    clear A200
    obtain rfl := Option.some.inj H
    go_enter Try.func22, Try.ntmps22
    go_wp2_with (first | ((with_reducible refine gds (N := 1) rfl ?_); refine bev ?hg (N := 1) ?hd (cs := #[.int .i64 a0_0, .int .i64 a0_1, .int .i64 a0_2, .string a0_3, .int .i64 a0_4]) (t := 53) ?hr ?_; (case hd => rfl); (case hg => rfl); (case hr => first | (go_simp; done) | (go_simp; rfl)); intro gb428 hg w21 hbox hb; have n0_ := Aside0.mk (bsp (by repeat (first | (with_reducible first | exact HB.out | apply bal | apply bdn | apply bd1) | exact HB.out)) hb); have n1_ := Aside0.mk (hbox); have n2_ := Aside0.mk ((by rw [hg]; exact (bsz (by repeat (first | (with_reducible first | exact HB.out | apply bal | apply bdn | apply bd1) | exact HB.out))) : w.heap.size ≤ gb428)); have n3_ := Aside0.mk ((by rw [hg]; exact (bsz (by repeat (first | (with_reducible first | exact HB.out | apply bal | apply bdn | apply bd1) | exact HB.out))) : w.heap.size ≤ gb428)); clear HB; have HB := n0_; have BK428 := n1_; have GW428 := n2_; have GE428 := n3_; clear n0_ n1_ n2_ n3_; clear hb hbox hg) | ((with_reducible refine gds (N := 3) rfl ?_); refine bev ?hg (N := 3) ?hd (cs := #[.slice none 0 0]) (t := 78) ?hr ?_; (case hd => rfl); (case hg => rfl); (case hr => first | (go_simp; done) | (go_simp; rfl)); intro gb429 hg w22 hbox hb; have n0_ := Aside0.mk (kbl (g := gb428) (o := .cells #[.int .i64 a0_0, .int .i64 a0_1, .int .i64 a0_2, .string a0_3, .int .i64 a0_4] 53 (0, 0)) (by (with_reducible repeat (first | refine kdn ?_ _ | refine kdw ?_ | refine kal ?_ _)); exact BK428.out) hb); have n1_ := Aside0.mk (bsp (by repeat (first | (with_reducible first | exact HB.out | apply bal | apply bdn | apply bd1 | refine bst ?_ GE428.out) | exact HB.out)) hb); have n2_ := Aside0.mk (hbox); have n3_ := Aside0.mk ((by rw [hg]; exact (bsz (by repeat (first | (with_reducible first | exact HB.out | apply bal | apply bdn | apply bd1 | refine bst ?_ GE428.out) | exact HB.out))) : w.heap.size ≤ gb429)); have n4_ := Aside0.mk ((by rw [hg]; exact (bsz (by repeat (first | (with_reducible first | exact HB.out | apply bal | apply bdn | apply bd1 | refine bst ?_ GE428.out) | exact HB.out))) : w.heap.size ≤ gb429)); have n5_ := Aside0.mk ((by rw [hg]; exact Nat.ne_of_lt (blk_lt (g := gb428) (o := .cells #[.int .i64 a0_0, .int .i64 a0_1, .int .i64 a0_2, .string a0_3, .int .i64 a0_4] 53 (0, 0)) (by (with_reducible repeat (first | refine kdn ?_ _ | refine kdw ?_ | refine kal ?_ _)); exact BK428.out)) : gb428 ≠ gb429)); have n6_ := Aside0.mk ((by rw [hg]; exact Nat.ne_of_gt (blk_lt (g := gb428) (o := .cells #[.int .i64 a0_0, .int .i64 a0_1, .int .i64 a0_2, .string a0_3, .int .i64 a0_4] 53 (0, 0)) (by (with_reducible repeat (first | refine kdn ?_ _ | refine kdw ?_ | refine kal ?_ _)); exact BK428.out)) : gb429 ≠ gb428)); have n7_ := Aside0.mk ((IsS78.box hbox (by rw [hg]; exact (bsz (by repeat (first | (with_reducible first | exact HB.out | apply bal | apply bdn | apply bd1 | refine bst ?_ GE428.out) | exact HB.out))) : w.heap.size ≤ gb429) : IsS78 w w22 gb429 (⟨#[]⟩ : ByteArray))); clear BK428; clear HB; have BK428 := n0_; have HB := n1_; have BK429 := n2_; have GW429 := n3_; have GE429 := n4_; have NB428_429 := n5_; have NB429_428 := n6_; have HI429 := n7_; clear n0_ n1_ n2_ n3_ n4_ n5_ n6_ n7_; clear hb hbox hg; have hnb23 := NB428_429.out; have hnc23 := NB429_428.out; have hcz24_0 : w22.cell? ⟨gb428, 0, none⟩ = some (.int .i64 a0_0) := (kcl BK428.out 0).trans rfl; have hcz24_1 : w22.cell? ⟨gb428, 1, none⟩ = some (.int .i64 a0_1) := (kcl BK428.out 1).trans rfl; have hcz24_2 : w22.cell? ⟨gb428, 2, none⟩ = some (.int .i64 a0_2) := (kcl BK428.out 2).trans rfl; have hcz24_3 : w22.cell? ⟨gb428, 3, none⟩ = some (.string a0_3) := (kcl BK428.out 3).trans rfl; have hcz24_4 : w22.cell? ⟨gb428, 4, none⟩ = some (.int .i64 a0_4) := (kcl BK428.out 4).trans rfl; have hfz24_0 := kfr BK428.out 0; have hfz24_1 := kfr BK428.out 1; have hfz24_2 := kfr BK428.out 2; have hfz24_3 := kfr BK428.out 3; have hfz24_4 := kfr BK428.out 4) | ((with_reducible refine gds (N := 8) rfl ?_); refine Kd.R_lit (Kd.int .i64) _ 3 ?hg (N := 8) ?hd (xs := ([a0_0, a0_1] : List Int)) (inner := [.int .i64 a0_0, .int .i64 a0_1]) (ok := fun _ => True) (okp := fun _ => True) ?hr ?hp (fun _ hk => hk) trivial (Below.refl _ _) (Nat.le_refl _) (by simp) ?_; (case hd => rfl); (case hg => rfl); (case hr => first | (go_simp; done) | (go_simp; rfl)); (case hp => exact (Reps.one (show Kd.M (Kd.int .i64) _ _ _ a0_0 [.int .i64 a0_0] from rfl) (Reps.one (show Kd.M (Kd.int .i64) _ _ _ a0_1 [.int .i64 a0_1] from rfl) (Reps.none _ _)))); intro v431 w25 ho26 hb hg_ hnew_; clear hg_ hnew_; (first | rw [← Ny430.out] at ho26 | (simp only [Int.reduceToNat] at ho26; rw [← Ny430.out] at ho26)); have n0_ := Aside0.mk (Kd.R_lower ho26 (bsz (by repeat (first | (with_reducible first | exact HB.out | apply bal | apply bdn | apply bd1 | refine bst ?_ (IsS78.ge HI429.out) | refine bst ?_ GE428.out) | exact HB.out)))); have n1_ := Aside0.mk (kbl (g := gb428) (o := .cells #[.int .i64 a0_0, .int .i64 a0_1, .int .i64 a0_2, .string a0_3, .int .i64 a0_4] 53 (0, 0)) (by (with_reducible repeat (first | refine kdn ?_ _ | refine kdw ?_ | refine kal ?_ _)); exact BK428.out) hb); have n2_ := Aside0.mk (IsS78.below (by repeat (first | (with_reducible first | exact HI429.out | apply IsS78.alloc | apply IsS78.drewN | apply IsS78.drew | apply IsS78.set_0 | refine IsS78.farT (p := ⟨gb428, _, none⟩) (t2 := 53) ?_ ?_ (by decide) (by decide) _ | exact OutT.mk BK428.out | refine OutT.set ?_ _ _ _) | exact HI429.out)) hb); have n3_ := Aside0.mk (bsp (by repeat (first | (with_reducible first | exact HB.out | apply bal | apply bdn | apply bd1 | refine bst ?_ (IsS78.ge HI429.out) | refine bst ?_ GE428.out) | exact HB.out)) hb); clear BK428; clear HI429; clear HB; have HO432 := n0_; have BK428 := n1_; have HI429 := n2_; have HB := n3_; clear n0_ n1_ n2_ n3_; clear hb ho26; obtain ⟨Ao27, co27, eo27⟩ := Kd.R_slice HO432.out; subst eo27) | ((with_reducible refine gcl (f := 38) rfl ?_); refine gl_ (some 9) rfl rfl Try.func38 (by kernel_rfl) rfl #[.pointer (some ⟨gb429, 0, none⟩), .slice Ao27 y430.length co27] rfl (by (try simp only [List.map_toArray, List.map_cons, List.map_nil]); first | done | rfl | (simp only [List.length_drop, List.length_take]; rfl)) ?_; (with_reducible refine (codec_Out_N.calls gb429 (⟨#[]⟩ : ByteArray) _ _ y430 t433 w _ ?side1 ?side2 ?side3 ?side4 ?side5 A2.out).mono ?_); (case side1 => repeat (first | (with_reducible first | exact HI429.out | apply IsS78.alloc | apply IsS78.drewN | apply IsS78.drew | apply IsS78.set_0 | refine IsS78.farT (p := ⟨gb428, _, none⟩) (t2 := 53) ?_ ?_ (by decide) (by decide) _ | exact OutT.mk BK428.out | refine OutT.set ?_ _ _ _) | exact HI429.out)); (case side2 => repeat (first | (with_reducible first | exact HB.out | apply bal | apply bdn | apply bd1 | refine bst ?_ (IsS78.ge HI429.out) | refine bst ?_ GE428.out) | exact HB.out)); (case side3 => repeat (first | exact (Kd.R_reads' HO432.out).2.2 | (with_reducible refine Kd.C_alloc ?_ _) | (with_reducible refine Kd.C_drewN ?_ _) | (with_reducible refine Kd.C_drew ?_))); (case side4 => exact (Kd.R_reads' HO432.out).2.1); (case side5 => exact fun W_ hk_ => (Kd.R_reads' (KeepT.R (by (with_reducible repeat (first | apply Kd.R_alloc | apply Kd.R_drewN | apply Kd.R_drew)); exact HO432.out) hk_ (by decide))).2.2); rintro e w28 ⟨rfl, hi, hb, hk⟩; refine ⟨_, rfl, ?_⟩; have n0_ := Aside0.mk (KeepT.oblk (g := gb428) (o := .cells #[.int .i64 a0_0, .int .i64 a0_1, .int .i64 a0_2, .string a0_3, .int .i64 a0_4] 53 (0, 0)) (by (with_reducible repeat (first | refine kdn ?_ _ | refine kdw ?_ | refine kal ?_ _)); exact BK428.out) hk (by intro _ _ _ h_; cases h_; decide)); have n1_ := Aside0.mk (KeepT.R (by (with_reducible repeat (first | apply Kd.R_alloc | apply Kd.R_drewN | apply Kd.R_drew)); exact HO432.out) hk (by decide)); have n2_ := Aside0.mk (hb); have n3_ := Aside0.mk (hi); clear BK428; clear HO432; clear HB; clear HI429; have BK428 := n0_; have HO432 := n1_; have HB := n2_; have HI429 := n3_; clear n0_ n1_ n2_ n3_; (try clear hb); (try clear hb2); (try clear hk); (try clear hi); have hcz29_0 : w28.cell? ⟨gb428, 0, none⟩ = some (.int .i64 a0_0) := (kcl BK428.out 0).trans rfl; have hcz29_1 : w28.cell? ⟨gb428, 1, none⟩ = some (.int .i64 a0_1) := (kcl BK428.out 1).trans rfl; have hcz29_2 : w28.cell? ⟨gb428, 2, none⟩ = some (.int .i64 a0_2) := (kcl BK428.out 2).trans rfl; have hcz29_3 : w28.cell? ⟨gb428, 3, none⟩ = some (.string a0_3) := (kcl BK428.out 3).trans rfl; have hcz29_4 : w28.cell? ⟨gb428, 4, none⟩ = some (.int .i64 a0_4) := (kcl BK428.out 4).trans rfl; have hfz29_0 := kfr BK428.out 0; have hfz29_1 := kfr BK428.out 1; have hfz29_2 := kfr BK428.out 2; have hfz29_3 := kfr BK428.out 3; have hfz29_4 := kfr BK428.out 4) | ((with_reducible refine gcl (f := 42) rfl ?_); refine gl_ (some 17) rfl rfl Try.func42 (by kernel_rfl) rfl #[.pointer (some ⟨gb429, 0, none⟩)] rfl (by (try simp only [List.map_toArray, List.map_cons, List.map_nil]); first | done | rfl | (simp only [List.length_drop, List.length_take]; rfl)) ?_; (with_reducible refine (codec_Out_Text.calls gb429 t433 t438 t439 w _ ?side1 ?side2 A19.out).mono ?_); (case side1 => repeat (first | (with_reducible first | exact HI429.out | apply IsS78.alloc | apply IsS78.drewN | apply IsS78.drew | apply IsS78.set_0 | refine IsS78.farT (p := ⟨gb428, _, none⟩) (t2 := 53) ?_ ?_ (by decide) (by decide) _ | exact OutT.mk BK428.out | refine OutT.set ?_ _ _ _) | exact HI429.out)); (case side2 => repeat (first | (with_reducible first | exact HB.out | apply bal | apply bdn | apply bd1 | refine bst ?_ (IsS78.ge HI429.out) | refine bst ?_ GE428.out) | exact HB.out)); rintro e w30 ⟨rfl, hi, hb, hk⟩; refine ⟨_, rfl, ?_⟩; have n0_ := Aside0.mk (KeepT.oblk (g := gb428) (o := .cells #[.int .i64 a0_0, .int .i64 a0_1, .int .i64 a0_2, .string a0_3, .int .i64 a0_4] 53 (0, 0)) (by (with_reducible repeat (first | refine kdn ?_ _ | refine kdw ?_ | refine kal ?_ _)); exact BK428.out) hk (by intro _ _ _ h_; cases h_; decide)); have n1_ := Aside0.mk (KeepT.R (by (with_reducible repeat (first | apply Kd.R_alloc | apply Kd.R_drewN | apply Kd.R_drew)); exact HO432.out) hk (by decide)); have n2_ := Aside0.mk (hb); have n3_ := Aside0.mk (hi); clear BK428; clear HO432; clear HB; clear HI429; have BK428 := n0_; have HO432 := n1_; have HB := n2_; have HI429 := n3_; clear n0_ n1_ n2_ n3_; (try clear hb); (try clear hb2); (try clear hk); (try clear hi)) | ((with_reducible refine gcl (f := 41) rfl ?_); refine gl_ (some 18) rfl rfl Try.func41 (by kernel_rfl) rfl #[.string t438] rfl (by (try simp only [List.map_toArray, List.map_cons, List.map_nil]); first | done | rfl | (simp only [List.length_drop, List.length_take]; rfl)) ?_; (with_reducible refine (frame_seal.calls k t438 t440 _ A20.out).mono ?_); rintro e w31 ⟨rfl, hb⟩; refine ⟨_, rfl, ?_⟩; have n0_ := Aside0.mk (Kd.R_below (by (with_reducible repeat (first | apply Kd.R_alloc | apply Kd.R_drewN | apply Kd.R_drew)); exact HO432.out) hb); have n1_ := Aside0.mk (kbl (g := gb428) (o := .cells #[.int .i64 a0_0, .int .i64 a0_1, .int .i64 a0_2, .string a0_3, .int .i64 a0_4] 53 (0, 0)) (by (with_reducible repeat (first | refine kdn ?_ _ | refine kdw ?_ | refine kal ?_ _)); exact BK428.out) hb); have n2_ := Aside0.mk (IsS78.below (by repeat (first | (with_reducible first | exact HI429.out | apply IsS78.alloc | apply IsS78.drewN | apply IsS78.drew | apply IsS78.set_0 | refine IsS78.farT (p := ⟨gb428, _, none⟩) (t2 := 53) ?_ ?_ (by decide) (by decide) _ | exact OutT.mk BK428.out | refine OutT.set ?_ _ _ _) | exact HI429.out)) hb); have n3_ := Aside0.mk (bsp (by repeat (first | (with_reducible first | exact HB.out | apply bal | apply bdn | apply bd1 | refine bst ?_ (IsS78.ge HI429.out) | refine bst ?_ GE428.out) | exact HB.out)) hb); clear HO432; clear BK428; clear HI429; clear HB; have HO432 := n0_; have BK428 := n1_; have HI429 := n2_; have HB := n3_; clear n0_ n1_ n2_ n3_; (try clear hb); (try clear hb2); (try clear hk); (try clear hi)))
    go_ret
    exact ⟨by first | rfl | (simp [errW_none, errW_some] <;> rfl) | (simp [*, errW_none, errW_some] <;> rfl), by repeat (first | (with_reducible first | exact HB.out | apply bal | apply bdn | apply bd1 | refine bst ?_ (IsS78.ge HI429.out) | refine bst ?_ GE428.out) | exact HB.out)⟩
  rw [if_pos c3] at H
  have c3b0 : (!(a0_2 == 0) || (!(a0_3.toList == ([] : List UInt8)) || (!(a0_4 == 0)))) = true := c3
  (try (have c3b1 : (!(a0_2 == 0) || (!a0_3.toList.isEmpty || (!(a0_4 == 0)))) = true := by simpa using c3))
  clear c3
  replace H := Option.bind_eq_some_iff.mp H
  obtain ⟨t434, A40, H⟩ := H
  replace H : ((codec_Out_Text.f t434).bind fun bt435 => ((frame_seal.f k bt435.1).bind fun t437 => (some t437))) = some r := H
  have A4 := Aside0.mk A40
  clear A40
  replace H := Option.bind_eq_some_iff.mp H
  obtain ⟨⟨t435, t436⟩, A50, H⟩ := H
  replace H : ((frame_seal.f k t435).bind fun t437 => (some t437)) = some r := H
  have A5 := Aside0.mk A50
  clear A50
  replace H := Option.bind_eq_some_iff.mp H
  obtain ⟨t437, A60, H⟩ := H
  replace H : (some t437) = some r := H
  have A6 := Aside0.mk A60
  clear A60
  obtain rfl := Option.some.inj H
  go_enter Try.func22, Try.ntmps22
  go_wp2_with (first | ((with_reducible refine gds (N := 1) rfl ?_); refine bev ?hg (N := 1) ?hd (cs := #[.int .i64 a0_0, .int .i64 a0_1, .int .i64 a0_2, .string a0_3, .int .i64 a0_4]) (t := 53) ?hr ?_; (case hd => rfl); (case hg => rfl); (case hr => first | (go_simp; done) | (go_simp; rfl)); intro gb428 hg w7 hbox hb; have n0_ := Aside0.mk (bsp (by repeat (first | (with_reducible first | exact HB.out | apply bal | apply bdn | apply bd1) | exact HB.out)) hb); have n1_ := Aside0.mk (hbox); have n2_ := Aside0.mk ((by rw [hg]; exact (bsz (by repeat (first | (with_reducible first | exact HB.out | apply bal | apply bdn | apply bd1) | exact HB.out))) : w.heap.size ≤ gb428)); have n3_ := Aside0.mk ((by rw [hg]; exact (bsz (by repeat (first | (with_reducible first | exact HB.out | apply bal | apply bdn | apply bd1) | exact HB.out))) : w.heap.size ≤ gb428)); clear HB; have HB := n0_; have BK428 := n1_; have GW428 := n2_; have GE428 := n3_; clear n0_ n1_ n2_ n3_; clear hb hbox hg) | ((with_reducible refine gds (N := 3) rfl ?_); refine bev ?hg (N := 3) ?hd (cs := #[.slice none 0 0]) (t := 78) ?hr ?_; (case hd => rfl); (case hg => rfl); (case hr => first | (go_simp; done) | (go_simp; rfl)); intro gb429 hg w8 hbox hb; have n0_ := Aside0.mk (kbl (g := gb428) (o := .cells #[.int .i64 a0_0, .int .i64 a0_1, .int .i64 a0_2, .string a0_3, .int .i64 a0_4] 53 (0, 0)) (by (with_reducible repeat (first | refine kdn ?_ _ | refine kdw ?_ | refine kal ?_ _)); exact BK428.out) hb); have n1_ := Aside0.mk (bsp (by repeat (first | (with_reducible first | exact HB.out | apply bal | apply bdn | apply bd1 | refine bst ?_ GE428.out) | exact HB.out)) hb); have n2_ := Aside0.mk (hbox); have n3_ := Aside0.mk ((by rw [hg]; exact (bsz (by repeat (first | (with_reducible first | exact HB.out | apply bal | apply bdn | apply bd1 | refine bst ?_ GE428.out) | exact HB.out))) : w.heap.size ≤ gb429)); have n4_ := Aside0.mk ((by rw [hg]; exact (bsz (by repeat (first | (with_reducible first | exact HB.out | apply bal | apply bdn | apply bd1 | refine bst ?_ GE428.out) | exact HB.out))) : w.heap.size ≤ gb429)); have n5_ := Aside0.mk ((by rw [hg]; exact Nat.ne_of_lt (blk_lt (g := gb428) (o := .cells #[.int .i64 a0_0, .int .i64 a0_1, .int .i64 a0_2, .string a0_3, .int .i64 a0_4] 53 (0, 0)) (by (with_reducible repeat (first | refine kdn ?_ _ | refine kdw ?_ | refine kal ?_ _)); exact BK428.out)) : gb428 ≠ gb429)); have n6_ := Aside0.mk ((by rw [hg]; exact Nat.ne_of_gt (blk_lt (g := gb428) (o := .cells #[.int .i64 a0_0, .int .i64 a0_1, .int .i64 a0_2, .string a0_3, .int .i64 a0_4] 53 (0, 0)) (by (with_reducible repeat (first | refine kdn ?_ _ | refine kdw ?_ | refine kal ?_ _)); exact BK428.out)) : gb429 ≠ gb428)); have n7_ := Aside0.mk ((IsS78.box hbox (by rw [hg]; exact (bsz (by repeat (first | (with_reducible first | exact HB.out | apply bal | apply bdn | apply bd1 | refine bst ?_ GE428.out) | exact HB.out))) : w.heap.size ≤ gb429) : IsS78 w w8 gb429 (⟨#[]⟩ : ByteArray))); clear BK428; clear HB; have BK428 := n0_; have HB := n1_; have BK429 := n2_; have GW429 := n3_; have GE429 := n4_; have NB428_429 := n5_; have NB429_428 := n6_; have HI429 := n7_; clear n0_ n1_ n2_ n3_ n4_ n5_ n6_ n7_; clear hb hbox hg; have hnb9 := NB428_429.out; have hnc9 := NB429_428.out; have hcz10_0 : w8.cell? ⟨gb428, 0, none⟩ = some (.int .i64 a0_0) := (kcl BK428.out 0).trans rfl; have hcz10_1 : w8.cell? ⟨gb428, 1, none⟩ = some (.int .i64 a0_1) := (kcl BK428.out 1).trans rfl; have hcz10_2 : w8.cell? ⟨gb428, 2, none⟩ = some (.int .i64 a0_2) := (kcl BK428.out 2).trans rfl; have hcz10_3 : w8.cell? ⟨gb428, 3, none⟩ = some (.string a0_3) := (kcl BK428.out 3).trans rfl; have hcz10_4 : w8.cell? ⟨gb428, 4, none⟩ = some (.int .i64 a0_4) := (kcl BK428.out 4).trans rfl; have hfz10_0 := kfr BK428.out 0; have hfz10_1 := kfr BK428.out 1; have hfz10_2 := kfr BK428.out 2; have hfz10_3 := kfr BK428.out 3; have hfz10_4 := kfr BK428.out 4) | ((with_reducible refine gds (N := 8) rfl ?_); refine Kd.R_lit (Kd.int .i64) _ 3 ?hg (N := 8) ?hd (xs := ([a0_0, a0_1] : List Int)) (inner := [.int .i64 a0_0, .int .i64 a0_1]) (ok := fun _ => True) (okp := fun _ => True) ?hr ?hp (fun _ hk => hk) trivial (Below.refl _ _) (Nat.le_refl _) (by simp) ?_; (case hd => rfl); (case hg => rfl); (case hr => first | (go_simp; done) | (go_simp; rfl)); (case hp => exact (Reps.one (show Kd.M (Kd.int .i64) _ _ _ a0_0 [.int .i64 a0_0] from rfl) (Reps.one (show Kd.M (Kd.int .i64) _ _ _ a0_1 [.int .i64 a0_1] from rfl) (Reps.none _ _)))); intro v431 w11 ho12 hb hg_ hnew_; clear hg_ hnew_; (first | rw [← Ny430.out] at ho12 | (simp only [Int.reduceToNat] at ho12; rw [← Ny430.out] at ho12)); have n0_ := Aside0.mk (Kd.R_lower ho12 (bsz (by repeat (first | (with_reducible first | exact HB.out | apply bal | apply bdn | apply bd1 | refine bst ?_ (IsS78.ge HI429.out) | refine bst ?_ GE428.out) | exact HB.out)))); have n1_ := Aside0.mk (kbl (g := gb428) (o := .cells #[.int .i64 a0_0, .int .i64 a0_1, .int .i64 a0_2, .string a0_3, .int .i64 a0_4] 53 (0, 0)) (by (with_reducible repeat (first | refine kdn ?_ _ | refine kdw ?_ | refine kal ?_ _)); exact BK428.out) hb); have n2_ := Aside0.mk (IsS78.below (by repeat (first | (with_reducible first | exact HI429.out | apply IsS78.alloc | apply IsS78.drewN | apply IsS78.drew | apply IsS78.set_0 | refine IsS78.farT (p := ⟨gb428, _, none⟩) (t2 := 53) ?_ ?_ (by decide) (by decide) _ | exact OutT.mk BK428.out | refine OutT.set ?_ _ _ _) | exact HI429.out)) hb); have n3_ := Aside0.mk (bsp (by repeat (first | (with_reducible first | exact HB.out | apply bal | apply bdn | apply bd1 | refine bst ?_ (IsS78.ge HI429.out) | refine bst ?_ GE428.out) | exact HB.out)) hb); clear BK428; clear HI429; clear HB; have HO432 := n0_; have BK428 := n1_; have HI429 := n2_; have HB := n3_; clear n0_ n1_ n2_ n3_; clear hb ho12; obtain ⟨Ao13, co13, eo13⟩ := Kd.R_slice HO432.out; subst eo13) | ((with_reducible refine gcl (f := 38) rfl ?_); refine gl_ (some 9) rfl rfl Try.func38 (by kernel_rfl) rfl #[.pointer (some ⟨gb429, 0, none⟩), .slice Ao13 y430.length co13] rfl (by (try simp only [List.map_toArray, List.map_cons, List.map_nil]); first | done | rfl | (simp only [List.length_drop, List.length_take]; rfl)) ?_; (with_reducible refine (codec_Out_N.calls gb429 (⟨#[]⟩ : ByteArray) _ _ y430 t433 w _ ?side1 ?side2 ?side3 ?side4 ?side5 A2.out).mono ?_); (case side1 => repeat (first | (with_reducible first | exact HI429.out | apply IsS78.alloc | apply IsS78.drewN | apply IsS78.drew | apply IsS78.set_0 | refine IsS78.farT (p := ⟨gb428, _, none⟩) (t2 := 53) ?_ ?_ (by decide) (by decide) _ | exact OutT.mk BK428.out | refine OutT.set ?_ _ _ _) | exact HI429.out)); (case side2 => repeat (first | (with_reducible first | exact HB.out | apply bal | apply bdn | apply bd1 | refine bst ?_ (IsS78.ge HI429.out) | refine bst ?_ GE428.out) | exact HB.out)); (case side3 => repeat (first | exact (Kd.R_reads' HO432.out).2.2 | (with_reducible refine Kd.C_alloc ?_ _) | (with_reducible refine Kd.C_drewN ?_ _) | (with_reducible refine Kd.C_drew ?_))); (case side4 => exact (Kd.R_reads' HO432.out).2.1); (case side5 => exact fun W_ hk_ => (Kd.R_reads' (KeepT.R (by (with_reducible repeat (first | apply Kd.R_alloc | apply Kd.R_drewN | apply Kd.R_drew)); exact HO432.out) hk_ (by decide))).2.2); rintro e w14 ⟨rfl, hi, hb, hk⟩; refine ⟨_, rfl, ?_⟩; have n0_ := Aside0.mk (KeepT.oblk (g := gb428) (o := .cells #[.int .i64 a0_0, .int .i64 a0_1, .int .i64 a0_2, .string a0_3, .int .i64 a0_4] 53 (0, 0)) (by (with_reducible repeat (first | refine kdn ?_ _ | refine kdw ?_ | refine kal ?_ _)); exact BK428.out) hk (by intro _ _ _ h_; cases h_; decide)); have n1_ := Aside0.mk (KeepT.R (by (with_reducible repeat (first | apply Kd.R_alloc | apply Kd.R_drewN | apply Kd.R_drew)); exact HO432.out) hk (by decide)); have n2_ := Aside0.mk (hb); have n3_ := Aside0.mk (hi); clear BK428; clear HO432; clear HB; clear HI429; have BK428 := n0_; have HO432 := n1_; have HB := n2_; have HI429 := n3_; clear n0_ n1_ n2_ n3_; (try clear hb); (try clear hb2); (try clear hk); (try clear hi); have hcz15_0 : w14.cell? ⟨gb428, 0, none⟩ = some (.int .i64 a0_0) := (kcl BK428.out 0).trans rfl; have hcz15_1 : w14.cell? ⟨gb428, 1, none⟩ = some (.int .i64 a0_1) := (kcl BK428.out 1).trans rfl; have hcz15_2 : w14.cell? ⟨gb428, 2, none⟩ = some (.int .i64 a0_2) := (kcl BK428.out 2).trans rfl; have hcz15_3 : w14.cell? ⟨gb428, 3, none⟩ = some (.string a0_3) := (kcl BK428.out 3).trans rfl; have hcz15_4 : w14.cell? ⟨gb428, 4, none⟩ = some (.int .i64 a0_4) := (kcl BK428.out 4).trans rfl; have hfz15_0 := kfr BK428.out 0; have hfz15_1 := kfr BK428.out 1; have hfz15_2 := kfr BK428.out 2; have hfz15_3 := kfr BK428.out 3; have hfz15_4 := kfr BK428.out 4) | ((with_reducible refine gcl (f := 54) rfl ?_); refine gl_ (some 16) rfl rfl Try.func54 (by kernel_rfl) rfl #[.agg #[.int .i64 a0_2, .string a0_3, .int .i64 a0_4], .pointer (some ⟨gb429, 0, none⟩)] rfl (by (try simp only [List.map_toArray, List.map_cons, List.map_nil]); first | done | rfl | (simp only [List.length_drop, List.length_take]; rfl)) ?_; (with_reducible refine (method_Result_Put.calls a0_2 a0_3 a0_4 gb429 t433 t434 w _ ?side1 ?side2 A4.out).mono ?_); (case side1 => repeat (first | (with_reducible first | exact HI429.out | apply IsS78.alloc | apply IsS78.drewN | apply IsS78.drew | apply IsS78.set_0 | refine IsS78.farT (p := ⟨gb428, _, none⟩) (t2 := 53) ?_ ?_ (by decide) (by decide) _ | exact OutT.mk BK428.out | refine OutT.set ?_ _ _ _) | exact HI429.out)); (case side2 => repeat (first | (with_reducible first | exact HB.out | apply bal | apply bdn | apply bd1 | refine bst ?_ (IsS78.ge HI429.out) | refine bst ?_ GE428.out) | exact HB.out)); rintro e w16 ⟨rfl, hi, hb, hk⟩; refine ⟨_, rfl, ?_⟩; have n0_ := Aside0.mk (KeepT.oblk (g := gb428) (o := .cells #[.int .i64 a0_0, .int .i64 a0_1, .int .i64 a0_2, .string a0_3, .int .i64 a0_4] 53 (0, 0)) (by (with_reducible repeat (first | refine kdn ?_ _ | refine kdw ?_ | refine kal ?_ _)); exact BK428.out) hk (by intro _ _ _ h_; cases h_; decide)); have n1_ := Aside0.mk (KeepT.R (by (with_reducible repeat (first | apply Kd.R_alloc | apply Kd.R_drewN | apply Kd.R_drew)); exact HO432.out) hk (by decide)); have n2_ := Aside0.mk (hb); have n3_ := Aside0.mk (hi); clear BK428; clear HO432; clear HB; clear HI429; have BK428 := n0_; have HO432 := n1_; have HB := n2_; have HI429 := n3_; clear n0_ n1_ n2_ n3_; (try clear hb); (try clear hb2); (try clear hk); (try clear hi)) | ((with_reducible refine gcl (f := 42) rfl ?_); refine gl_ (some 17) rfl rfl Try.func42 (by kernel_rfl) rfl #[.pointer (some ⟨gb429, 0, none⟩)] rfl (by (try simp only [List.map_toArray, List.map_cons, List.map_nil]); first | done | rfl | (simp only [List.length_drop, List.length_take]; rfl)) ?_; (with_reducible refine (codec_Out_Text.calls gb429 t434 t435 t436 w _ ?side1 ?side2 A5.out).mono ?_); (case side1 => repeat (first | (with_reducible first | exact HI429.out | apply IsS78.alloc | apply IsS78.drewN | apply IsS78.drew | apply IsS78.set_0 | refine IsS78.farT (p := ⟨gb428, _, none⟩) (t2 := 53) ?_ ?_ (by decide) (by decide) _ | exact OutT.mk BK428.out | refine OutT.set ?_ _ _ _) | exact HI429.out)); (case side2 => repeat (first | (with_reducible first | exact HB.out | apply bal | apply bdn | apply bd1 | refine bst ?_ (IsS78.ge HI429.out) | refine bst ?_ GE428.out) | exact HB.out)); rintro e w17 ⟨rfl, hi, hb, hk⟩; refine ⟨_, rfl, ?_⟩; have n0_ := Aside0.mk (KeepT.oblk (g := gb428) (o := .cells #[.int .i64 a0_0, .int .i64 a0_1, .int .i64 a0_2, .string a0_3, .int .i64 a0_4] 53 (0, 0)) (by (with_reducible repeat (first | refine kdn ?_ _ | refine kdw ?_ | refine kal ?_ _)); exact BK428.out) hk (by intro _ _ _ h_; cases h_; decide)); have n1_ := Aside0.mk (KeepT.R (by (with_reducible repeat (first | apply Kd.R_alloc | apply Kd.R_drewN | apply Kd.R_drew)); exact HO432.out) hk (by decide)); have n2_ := Aside0.mk (hb); have n3_ := Aside0.mk (hi); clear BK428; clear HO432; clear HB; clear HI429; have BK428 := n0_; have HO432 := n1_; have HB := n2_; have HI429 := n3_; clear n0_ n1_ n2_ n3_; (try clear hb); (try clear hb2); (try clear hk); (try clear hi)) | ((with_reducible refine gcl (f := 41) rfl ?_); refine gl_ (some 18) rfl rfl Try.func41 (by kernel_rfl) rfl #[.string t435] rfl (by (try simp only [List.map_toArray, List.map_cons, List.map_nil]); first | done | rfl | (simp only [List.length_drop, List.length_take]; rfl)) ?_; (with_reducible refine (frame_seal.calls k t435 t437 _ A6.out).mono ?_); rintro e w18 ⟨rfl, hb⟩; refine ⟨_, rfl, ?_⟩; have n0_ := Aside0.mk (Kd.R_below (by (with_reducible repeat (first | apply Kd.R_alloc | apply Kd.R_drewN | apply Kd.R_drew)); exact HO432.out) hb); have n1_ := Aside0.mk (kbl (g := gb428) (o := .cells #[.int .i64 a0_0, .int .i64 a0_1, .int .i64 a0_2, .string a0_3, .int .i64 a0_4] 53 (0, 0)) (by (with_reducible repeat (first | refine kdn ?_ _ | refine kdw ?_ | refine kal ?_ _)); exact BK428.out) hb); have n2_ := Aside0.mk (IsS78.below (by repeat (first | (with_reducible first | exact HI429.out | apply IsS78.alloc | apply IsS78.drewN | apply IsS78.drew | apply IsS78.set_0 | refine IsS78.farT (p := ⟨gb428, _, none⟩) (t2 := 53) ?_ ?_ (by decide) (by decide) _ | exact OutT.mk BK428.out | refine OutT.set ?_ _ _ _) | exact HI429.out)) hb); have n3_ := Aside0.mk (bsp (by repeat (first | (with_reducible first | exact HB.out | apply bal | apply bdn | apply bd1 | refine bst ?_ (IsS78.ge HI429.out) | refine bst ?_ GE428.out) | exact HB.out)) hb); clear HO432; clear BK428; clear HI429; clear HB; have HO432 := n0_; have BK428 := n1_; have HI429 := n2_; have HB := n3_; clear n0_ n1_ n2_ n3_; (try clear hb); (try clear hb2); (try clear hk); (try clear hi)))
  go_ret
  exact ⟨by first | rfl | (simp [errW_none, errW_some] <;> rfl) | (simp [*, errW_none, errW_some] <;> rfl), by repeat (first | (with_reducible first | exact HB.out | apply bal | apply bdn | apply bd1 | refine bst ?_ (IsS78.ge HI429.out) | refine bst ?_ GE428.out) | exact HB.out)⟩
def frame_Reply_Check.j0 : Nat → Bool → Int → Int → Int → ByteArray → Int → Option (Int)
  | 0, _, _, _, _, _, _ => none
  | k + 1, x3, x442000, x442001, x442002, x442003, x442004 => if x3 = true then (some 4) else (if (!(x442002 == 0) || (!(x442003.toList == ([] : List UInt8)) || (!(x442004 == 0)))) = true then ((method_Result_Check.f k x442002 x442003 x442004).bind fun t442 => (some t442)) else (some 0))
def frame_Reply_Check.f (k : Nat) (a0_0 : Int) (a0_1 : Int) (a0_2 : Int) (a0_3 : ByteArray) (a0_4 : Int) : Option (Int) := if a0_0 < 0 then (frame_Reply_Check.j0 k true a0_0 a0_1 a0_2 a0_3 a0_4) else (if a0_0 > 19 then (frame_Reply_Check.j0 k true a0_0 a0_1 a0_2 a0_3 a0_4) else (if a0_1 < 0 then (frame_Reply_Check.j0 k true a0_0 a0_1 a0_2 a0_3 a0_4) else (frame_Reply_Check.j0 k (decide (a0_1 > 1099511627776)) a0_0 a0_1 a0_2 a0_3 a0_4)))
set_option maxHeartbeats 2000000 in
set_option maxRecDepth 100000 in
theorem frame_Reply_Check.calls (k : Nat) (a0_0 : Int) (a0_1 : Int) (a0_2 : Int) (a0_3 : ByteArray) (a0_4 : Int) (r : Int) (w : World) (h : frame_Reply_Check.f k a0_0 a0_1 a0_2 a0_3 a0_4 = some r) :
    Calls Try.prog 23 #[.agg #[.int .i64 a0_0, .int .i64 a0_1, .int .i64 a0_2, .string a0_3, .int .i64 a0_4]] w fun e w' => e = .returned (.int .i64 r) ∧ Below w.heap.size w w' := by
  have hu53 := Try.underlying53
  have hu51 := Try.underlying51
  have HB := Aside0.mk (Below.refl w.heap.size w)
  have H : (if a0_0 < 0 then (frame_Reply_Check.j0 k true a0_0 a0_1 a0_2 a0_3 a0_4) else (if a0_0 > 19 then (frame_Reply_Check.j0 k true a0_0 a0_1 a0_2 a0_3 a0_4) else (if a0_1 < 0 then (frame_Reply_Check.j0 k true a0_0 a0_1 a0_2 a0_3 a0_4) else (frame_Reply_Check.j0 k (decide (a0_1 > 1099511627776)) a0_0 a0_1 a0_2 a0_3 a0_4)))) = some r := h
  clear h
  have HC2 := Aside0.mk H
  clear H
  go_enter Try.func23, Try.ntmps23
  go_upto_region 1 with (first | ((with_reducible refine gds (N := 1) rfl ?_); refine bev ?hg (N := 1) ?hd (cs := #[.int .i64 a0_0, .int .i64 a0_1, .int .i64 a0_2, .string a0_3, .int .i64 a0_4]) (t := 53) ?hr ?_; (case hd => rfl); (case hg => rfl); (case hr => first | (go_simp; done) | (go_simp; rfl)); intro gb441 hg w3 hbox hb; have n0_ := Aside0.mk (bsp (by repeat (first | (with_reducible first | exact HB.out | apply bal | apply bdn | apply bd1) | exact HB.out)) hb); have n1_ := Aside0.mk (hbox); have n2_ := Aside0.mk ((by rw [hg]; exact (bsz (by repeat (first | (with_reducible first | exact HB.out | apply bal | apply bdn | apply bd1) | exact HB.out))) : w.heap.size ≤ gb441)); have n3_ := Aside0.mk ((by rw [hg]; exact (bsz (by repeat (first | (with_reducible first | exact HB.out | apply bal | apply bdn | apply bd1) | exact HB.out))) : w.heap.size ≤ gb441)); clear HB; have HB := n0_; have BK441 := n1_; have GW441 := n2_; have GE441 := n3_; clear n0_ n1_ n2_ n3_; clear hb hbox hg))
  (try simp only [Act.put, List.setIfInBounds_toArray, List.set_cons_zero, List.set_cons_succ])
  go_cut [3] (fun v3 wc => ∃ (kq : Nat) (x3_1 : Bool), v3 = .bool x3_1 ∧ Aside0 (frame_Reply_Check.j0 kq x3_1 a0_0 a0_1 a0_2 a0_3 a0_4 = some r) ∧ Aside0 (kq ≤ k) ∧ Aside0 (wc.heap[gb441]? = some (.cells #[.int .i64 a0_0, .int .i64 a0_1, .int .i64 a0_2, .string a0_3, .int .i64 a0_4] 53 (0, 0))) ∧ Aside0 (Below w.heap.size w wc))
  case first =>
    have H := HC2.out
    clear HC2
    by_cases c4 : a0_0 < 0
    · rw [if_pos c4] at H
      have c4b0 : decide (a0_0 < 0) = true := decide_eq_true c4
      clear c4
      (first | rw [c4b0] | (simp only [i64_w, i32_w]; rw [c4b0]) | skip)
      have H' := Aside0.mk H
      clear H
      have hcz5_0 : w3.cell? ⟨gb441, 0, none⟩ = some (.int .i64 a0_0) := (kcl BK441.out 0).trans rfl
      have hcz5_1 : w3.cell? ⟨gb441, 1, none⟩ = some (.int .i64 a0_1) := (kcl BK441.out 1).trans rfl
      have hcz5_2 : w3.cell? ⟨gb441, 2, none⟩ = some (.int .i64 a0_2) := (kcl BK441.out 2).trans rfl
      have hcz5_3 : w3.cell? ⟨gb441, 3, none⟩ = some (.string a0_3) := (kcl BK441.out 3).trans rfl
      have hcz5_4 : w3.cell? ⟨gb441, 4, none⟩ = some (.int .i64 a0_4) := (kcl BK441.out 4).trans rfl
      have hfz5_0 := kfr BK441.out 0
      have hfz5_1 := kfr BK441.out 1
      have hfz5_2 := kfr BK441.out 2
      have hfz5_3 := kfr BK441.out 3
      have hfz5_4 := kfr BK441.out 4
      go_wp2
      go_meet
      case rel => exact ⟨_, (true), (by first | rfl | (simp; done) | (simp [*]; done) | exact emp1_ _ | exact (emp1_ _).symm | exact emp2_ _ | exact (emp2_ _).symm), H', ⟨by first | omega | exact Nat.le_refl _⟩, ⟨by (with_reducible repeat (first | refine kdn ?_ _ | refine kdw ?_ | refine kal ?_ _)); exact BK441.out⟩, ⟨by repeat (first | (with_reducible first | exact HB.out | apply bal | apply bdn | apply bd1 | refine bst ?_ GE441.out) | exact HB.out)⟩⟩
    rw [if_neg c4] at H
    have c4b0 : decide (a0_0 < 0) = false := decide_eq_false c4
    clear c4
    (first | rw [c4b0] | (simp only [i64_w, i32_w]; rw [c4b0]) | skip)
    by_cases c6 : a0_0 > 19
    · rw [if_pos c6] at H
      have c6b0 : decide (19 < a0_0) = true := decide_eq_true c6
      clear c6
      have H' := Aside0.mk H
      clear H
      have hcz7_0 : w3.cell? ⟨gb441, 0, none⟩ = some (.int .i64 a0_0) := (kcl BK441.out 0).trans rfl
      have hcz7_1 : w3.cell? ⟨gb441, 1, none⟩ = some (.int .i64 a0_1) := (kcl BK441.out 1).trans rfl
      have hcz7_2 : w3.cell? ⟨gb441, 2, none⟩ = some (.int .i64 a0_2) := (kcl BK441.out 2).trans rfl
      have hcz7_3 : w3.cell? ⟨gb441, 3, none⟩ = some (.string a0_3) := (kcl BK441.out 3).trans rfl
      have hcz7_4 : w3.cell? ⟨gb441, 4, none⟩ = some (.int .i64 a0_4) := (kcl BK441.out 4).trans rfl
      have hfz7_0 := kfr BK441.out 0
      have hfz7_1 := kfr BK441.out 1
      have hfz7_2 := kfr BK441.out 2
      have hfz7_3 := kfr BK441.out 3
      have hfz7_4 := kfr BK441.out 4
      go_wp2
      go_meet
      case rel => exact ⟨_, (true), (by first | rfl | (simp; done) | (simp [*]; done) | exact emp1_ _ | exact (emp1_ _).symm | exact emp2_ _ | exact (emp2_ _).symm), H', ⟨by first | omega | exact Nat.le_refl _⟩, ⟨by (with_reducible repeat (first | refine kdn ?_ _ | refine kdw ?_ | refine kal ?_ _)); exact BK441.out⟩, ⟨by repeat (first | (with_reducible first | exact HB.out | apply bal | apply bdn | apply bd1 | refine bst ?_ GE441.out) | exact HB.out)⟩⟩
    rw [if_neg c6] at H
    have c6b0 : decide (19 < a0_0) = false := decide_eq_false c6
    clear c6
    by_cases c8 : a0_1 < 0
    · rw [if_pos c8] at H
      have c8b0 : decide (a0_1 < 0) = true := decide_eq_true c8
      clear c8
      have H' := Aside0.mk H
      clear H
      have hcz9_0 : w3.cell? ⟨gb441, 0, none⟩ = some (.int .i64 a0_0) := (kcl BK441.out 0).trans rfl
      have hcz9_1 : w3.cell? ⟨gb441, 1, none⟩ = some (.int .i64 a0_1) := (kcl BK441.out 1).trans rfl
      have hcz9_2 : w3.cell? ⟨gb441, 2, none⟩ = some (.int .i64 a0_2) := (kcl BK441.out 2).trans rfl
      have hcz9_3 : w3.cell? ⟨gb441, 3, none⟩ = some (.string a0_3) := (kcl BK441.out 3).trans rfl
      have hcz9_4 : w3.cell? ⟨gb441, 4, none⟩ = some (.int .i64 a0_4) := (kcl BK441.out 4).trans rfl
      have hfz9_0 := kfr BK441.out 0
      have hfz9_1 := kfr BK441.out 1
      have hfz9_2 := kfr BK441.out 2
      have hfz9_3 := kfr BK441.out 3
      have hfz9_4 := kfr BK441.out 4
      go_wp2
      go_meet
      case rel => exact ⟨_, (true), (by first | rfl | (simp; done) | (simp [*]; done) | exact emp1_ _ | exact (emp1_ _).symm | exact emp2_ _ | exact (emp2_ _).symm), H', ⟨by first | omega | exact Nat.le_refl _⟩, ⟨by (with_reducible repeat (first | refine kdn ?_ _ | refine kdw ?_ | refine kal ?_ _)); exact BK441.out⟩, ⟨by repeat (first | (with_reducible first | exact HB.out | apply bal | apply bdn | apply bd1 | refine bst ?_ GE441.out) | exact HB.out)⟩⟩
    rw [if_neg c8] at H
    have c8b0 : decide (a0_1 < 0) = false := decide_eq_false c8
    clear c8
    have H' := Aside0.mk H
    clear H
    have hcz10_0 : w3.cell? ⟨gb441, 0, none⟩ = some (.int .i64 a0_0) := (kcl BK441.out 0).trans rfl
    have hcz10_1 : w3.cell? ⟨gb441, 1, none⟩ = some (.int .i64 a0_1) := (kcl BK441.out 1).trans rfl
    have hcz10_2 : w3.cell? ⟨gb441, 2, none⟩ = some (.int .i64 a0_2) := (kcl BK441.out 2).trans rfl
    have hcz10_3 : w3.cell? ⟨gb441, 3, none⟩ = some (.string a0_3) := (kcl BK441.out 3).trans rfl
    have hcz10_4 : w3.cell? ⟨gb441, 4, none⟩ = some (.int .i64 a0_4) := (kcl BK441.out 4).trans rfl
    have hfz10_0 := kfr BK441.out 0
    have hfz10_1 := kfr BK441.out 1
    have hfz10_2 := kfr BK441.out 2
    have hfz10_3 := kfr BK441.out 3
    have hfz10_4 := kfr BK441.out 4
    go_wp2
    go_meet
    case rel => exact ⟨_, (decide (a0_1 > 1099511627776)), (by first | rfl | (simp; done) | (simp [*]; done) | exact emp1_ _ | exact (emp1_ _).symm | exact emp2_ _ | exact (emp2_ _).symm), H', ⟨by first | omega | exact Nat.le_refl _⟩, ⟨by (with_reducible repeat (first | refine kdn ?_ _ | refine kdw ?_ | refine kal ?_ _)); exact BK441.out⟩, ⟨by repeat (first | (with_reducible first | exact HB.out | apply bal | apply bdn | apply bd1 | refine bst ?_ GE441.out) | exact HB.out)⟩⟩
  clear HC2
  try clear c2
  try clear p2
  try clear c4
  try clear c4b0
  try clear c6
  try clear c6b0
  try clear c8
  try clear c8b0
  try clear hcz10_0
  try clear hcz10_1
  try clear hcz10_2
  try clear hcz10_3
  try clear hcz10_4
  try clear hcz5_0
  try clear hcz5_1
  try clear hcz5_2
  try clear hcz5_3
  try clear hcz5_4
  try clear hcz7_0
  try clear hcz7_1
  try clear hcz7_2
  try clear hcz7_3
  try clear hcz7_4
  try clear hcz9_0
  try clear hcz9_1
  try clear hcz9_2
  try clear hcz9_3
  try clear hcz9_4
  try clear hfz10_0
  try clear hfz10_1
  try clear hfz10_2
  try clear hfz10_3
  try clear hfz10_4
  try clear hfz5_0
  try clear hfz5_1
  try clear hfz5_2
  try clear hfz5_3
  try clear hfz5_4
  try clear hfz7_0
  try clear hfz7_1
  try clear hfz7_2
  try clear hfz7_3
  try clear hfz7_4
  try clear hfz9_0
  try clear hfz9_1
  try clear hfz9_2
  try clear hfz9_3
  try clear hfz9_4
  obtain ⟨kq, x3_1, rfl, HA, HJ1, BK441, HB⟩ := hcut
  cases kq with
  | zero => exact absurd HA.out (by simp [frame_Reply_Check.j0])
  | succ kj1 =>
    have H := HA.out
    clear HA
    simp only [frame_Reply_Check.j0] at H
    by_cases c11 : x3_1 = true
    · subst c11
      have H1 : (some 4) = some r := by rw [if_pos rfl] at H; exact H
      clear H
      have H := H1
      clear H1
      obtain rfl := Option.some.inj H
      go_wp2
      go_ret
      exact ⟨by first | rfl | (simp [errW_none, errW_some] <;> rfl) | (simp [*, errW_none, errW_some] <;> rfl), by repeat (first | (with_reducible first | exact HB.out | apply bal | apply bdn | apply bd1 | refine bst ?_ GE441.out) | exact HB.out)⟩
    replace c11 := Bool.eq_false_iff.mpr c11
    subst c11
    have H1 : (if (!(a0_2 == 0) || (!(a0_3.toList == ([] : List UInt8)) || (!(a0_4 == 0)))) = true then ((method_Result_Check.f kj1 a0_2 a0_3 a0_4).bind fun t442 => (some t442)) else (some 0)) = some r := by rw [if_neg (show ¬ (false = true) by decide)] at H; exact H
    clear H
    have H := H1
    clear H1
    by_cases c12 : (!(a0_2 == 0) || (!(a0_3.toList == ([] : List UInt8)) || (!(a0_4 == 0)))) = true
    rotate_left
    · rw [if_neg c12] at H
      have c12b0 : (!(a0_2 == 0) || (!(a0_3.toList == ([] : List UInt8)) || (!(a0_4 == 0)))) = false := by simpa using c12
      (try (have c12b1 : (!(a0_2 == 0) || (!a0_3.toList.isEmpty || (!(a0_4 == 0)))) = false := by simpa using c12))
      clear c12
      obtain rfl := Option.some.inj H
      have hcz16_0 : wc.cell? ⟨gb441, 0, none⟩ = some (.int .i64 a0_0) := (kcl BK441.out 0).trans rfl
      have hcz16_1 : wc.cell? ⟨gb441, 1, none⟩ = some (.int .i64 a0_1) := (kcl BK441.out 1).trans rfl
      have hcz16_2 : wc.cell? ⟨gb441, 2, none⟩ = some (.int .i64 a0_2) := (kcl BK441.out 2).trans rfl
      have hcz16_3 : wc.cell? ⟨gb441, 3, none⟩ = some (.string a0_3) := (kcl BK441.out 3).trans rfl
      have hcz16_4 : wc.cell? ⟨gb441, 4, none⟩ = some (.int .i64 a0_4) := (kcl BK441.out 4).trans rfl
      have hfz16_0 := kfr BK441.out 0
      have hfz16_1 := kfr BK441.out 1
      have hfz16_2 := kfr BK441.out 2
      have hfz16_3 := kfr BK441.out 3
      have hfz16_4 := kfr BK441.out 4
      go_wp2
      go_ret
      exact ⟨by first | rfl | (simp [errW_none, errW_some] <;> rfl) | (simp [*, errW_none, errW_some] <;> rfl), by repeat (first | (with_reducible first | exact HB.out | apply bal | apply bdn | apply bd1 | refine bst ?_ GE441.out) | exact HB.out)⟩
    rw [if_pos c12] at H
    have c12b0 : (!(a0_2 == 0) || (!(a0_3.toList == ([] : List UInt8)) || (!(a0_4 == 0)))) = true := c12
    (try (have c12b1 : (!(a0_2 == 0) || (!a0_3.toList.isEmpty || (!(a0_4 == 0)))) = true := by simpa using c12))
    clear c12
    replace H := Option.bind_eq_some_iff.mp H
    obtain ⟨t442, A130, H⟩ := H
    replace H : (some t442) = some r := H
    have A13 := Aside0.mk A130
    clear A130
    obtain rfl := Option.some.inj H
    have hcz14_0 : wc.cell? ⟨gb441, 0, none⟩ = some (.int .i64 a0_0) := (kcl BK441.out 0).trans rfl
    have hcz14_1 : wc.cell? ⟨gb441, 1, none⟩ = some (.int .i64 a0_1) := (kcl BK441.out 1).trans rfl
    have hcz14_2 : wc.cell? ⟨gb441, 2, none⟩ = some (.int .i64 a0_2) := (kcl BK441.out 2).trans rfl
    have hcz14_3 : wc.cell? ⟨gb441, 3, none⟩ = some (.string a0_3) := (kcl BK441.out 3).trans rfl
    have hcz14_4 : wc.cell? ⟨gb441, 4, none⟩ = some (.int .i64 a0_4) := (kcl BK441.out 4).trans rfl
    have hfz14_0 := kfr BK441.out 0
    have hfz14_1 := kfr BK441.out 1
    have hfz14_2 := kfr BK441.out 2
    have hfz14_3 := kfr BK441.out 3
    have hfz14_4 := kfr BK441.out 4
    go_wp2_with (first | ((with_reducible refine gcl (f := 55) rfl ?_); refine gl_ (some 29) rfl rfl Try.func55 (by kernel_rfl) rfl #[.agg #[.int .i64 a0_2, .string a0_3, .int .i64 a0_4]] rfl (by (try simp only [List.map_toArray, List.map_cons, List.map_nil]); first | done | rfl | (simp only [List.length_drop, List.length_take]; rfl)) ?_; (with_reducible refine (method_Result_Check.calls kj1 a0_2 a0_3 a0_4 t442 _ A13.out).mono ?_); rintro e w15 ⟨rfl, hb⟩; refine ⟨_, rfl, ?_⟩; have n0_ := Aside0.mk (kbl (g := gb441) (o := .cells #[.int .i64 a0_0, .int .i64 a0_1, .int .i64 a0_2, .string a0_3, .int .i64 a0_4] 53 (0, 0)) (by (with_reducible repeat (first | refine kdn ?_ _ | refine kdw ?_ | refine kal ?_ _)); exact BK441.out) hb); have n1_ := Aside0.mk (bsp (by repeat (first | (with_reducible first | exact HB.out | apply bal | apply bdn | apply bd1 | refine bst ?_ GE441.out) | exact HB.out)) hb); clear BK441; clear HB; have BK441 := n0_; have HB := n1_; clear n0_ n1_; (try clear hb); (try clear hb2); (try clear hk); (try clear hi)))
    go_ret
    exact ⟨by first | rfl | (simp [errW_none, errW_some] <;> rfl) | (simp [*, errW_none, errW_some] <;> rfl), by repeat (first | (with_reducible first | exact HB.out | apply bal | apply bdn | apply bd1 | refine bst ?_ GE441.out) | exact HB.out)⟩
end Go.Proofs.Ytkkkmbgflflcnaa.PA

