import Derived.Test.YtkkkmbgflflcnaaQSxPSx6
import Derived.Test.YtkkkmbgflflcnaaQSxPSx4
import Derived.Test.YtkkkmbgflflcnaaQSxPSx10
namespace Go.Proofs.Ytkkkmbgflflcnaa.PS
open Go.Proofs.Ytkkkmbgflflcnaa.PL
open Go.RowKit Go.Proofs.YtkkkmbgflflcnaaW.PrintWords Go.Proofs.YtkkkmbgflflcnaaW.PrintLast Go.Proofs.YtkkkmbgflflcnaaW.PrintMore
attribute [local go_sem] max2_int min2_int max_two min_two max_three min_three max_four min_four
set_option linter.unusedVariables false
set_option linter.unusedSimpArgs false
attribute [local go_sem high] eqA51
def method_Result_Put.f (a0_0 : Int) (a0_1 : ByteArray) (a0_2 : Int) (s1_0 : ByteArray) : Option (ByteArray) := (codec_Out_N.f s1_0 (([a0_0] : List Int))).bind fun t444 => ((codec_Out_S.f t444 (([a0_1] : List ByteArray))).bind fun t448 => ((codec_Out_I.f t448 (([a0_2] : List Int))).bind fun t452 => (some t452)))
def method_Result_Put.T1 : Bool × List (List Nat × List Nat) := (true, [([], []), ([], []), ([1], [1]), ([2], [2]), ([0, 3], [0, 3]), ([], []), ([5], [5]), ([6], [6]), ([4, 7, 4], [4, 7]), ([], []), ([9], [9]), ([10], [10]), ([8, 11, 8], [8, 11])])
def method_Result_Put.B1 : List Nat := [0, 0, 2, 6, 15, 0, 32, 96, 255, 0, 512, 1536, 4095]
theorem method_Result_Put.tab1 : rtab .any (opsOf Try.f54 1) = method_Result_Put.T1 := by kernel_rfl
theorem method_Result_Put.bits1 : waitsOk method_Result_Put.T1.2 method_Result_Put.B1 = true := by kernel_rfl
set_option maxHeartbeats 2000000 in
set_option maxRecDepth 100000 in
theorem method_Result_Put.calls (a0_0 : Int) (a0_1 : ByteArray) (a0_2 : Int) (g : Nat) (s1_0 : ByteArray) (r : ByteArray) (w0 w : World) (hI : IsS78 w0 w g s1_0) (hB : Below w0.heap.size w0 w) (h : method_Result_Put.f a0_0 a0_1 a0_2 s1_0 = some r) :
    Calls Try.prog 54 #[.agg #[.int .i64 a0_0, .string a0_1, .int .i64 a0_2], .pointer (some ⟨g, 0, none⟩)] w fun e w' => e = .returned (.tuple #[]) ∧ IsS78 w0 w' g r ∧ Below w0.heap.size w0 w' ∧ KeepT w w' [78, 5] := by
  have hu51 := Try.underlying51
  have HI1 := Aside0.mk hI
  have HK := Aside0.mk (KeepT.refl w [78, 5])
  have HL := Aside0.mk hB.size
  clear hI
  have HW0 := Aside0.mk hB.size
  have HB := Aside0.mk hB
  clear hB
  have H : ((codec_Out_N.f s1_0 (([a0_0] : List Int))).bind fun t444 => ((codec_Out_S.f t444 (([a0_1] : List ByteArray))).bind fun t448 => ((codec_Out_I.f t448 (([a0_2] : List Int))).bind fun t452 => (some t452)))) = some r := h
  clear h
  obtain ⟨y441, hy441⟩ : ∃ y_ : List Int, y_ = (([a0_0] : List Int)) := ⟨_, rfl⟩
  replace H : ((codec_Out_N.f s1_0 y441).bind fun t444 => ((codec_Out_S.f t444 (([a0_1] : List ByteArray))).bind fun t448 => ((codec_Out_I.f t448 (([a0_2] : List Int))).bind fun t452 => (some t452)))) = some r := by first | (rw [hy441]; with_reducible exact H) | (have H2_ := (Option.bind_some _ _).symm.trans H; rw [hy441]; with_reducible exact H2_) | (have H2_ := (Option.bind_some _ _).symm.trans H; with_reducible exact H2_) | with_reducible exact H | (rw [hy441]; exact H) | exact H
  have Ny441 := Aside0.mk hy441
  clear hy441
  replace H := Option.bind_eq_some_iff.mp H
  obtain ⟨t444, A30, H⟩ := H
  replace H : ((codec_Out_S.f t444 (([a0_1] : List ByteArray))).bind fun t448 => ((codec_Out_I.f t448 (([a0_2] : List Int))).bind fun t452 => (some t452))) = some r := H
  have A3 := Aside0.mk A30
  clear A30
  obtain ⟨y445, hy445⟩ : ∃ y_ : List ByteArray, y_ = (([a0_1] : List ByteArray)) := ⟨_, rfl⟩
  replace H : ((codec_Out_S.f t444 y445).bind fun t448 => ((codec_Out_I.f t448 (([a0_2] : List Int))).bind fun t452 => (some t452))) = some r := by first | (rw [hy445]; with_reducible exact H) | (have H2_ := (Option.bind_some _ _).symm.trans H; rw [hy445]; with_reducible exact H2_) | (have H2_ := (Option.bind_some _ _).symm.trans H; with_reducible exact H2_) | with_reducible exact H | (rw [hy445]; exact H) | exact H
  have Ny445 := Aside0.mk hy445
  clear hy445
  replace H := Option.bind_eq_some_iff.mp H
  obtain ⟨t448, A40, H⟩ := H
  replace H : ((codec_Out_I.f t448 (([a0_2] : List Int))).bind fun t452 => (some t452)) = some r := H
  have A4 := Aside0.mk A40
  clear A40
  obtain ⟨y449, hy449⟩ : ∃ y_ : List Int, y_ = (([a0_2] : List Int)) := ⟨_, rfl⟩
  replace H : ((codec_Out_I.f t448 y449).bind fun t452 => (some t452)) = some r := by first | (rw [hy449]; with_reducible exact H) | (have H2_ := (Option.bind_some _ _).symm.trans H; rw [hy449]; with_reducible exact H2_) | (have H2_ := (Option.bind_some _ _).symm.trans H; with_reducible exact H2_) | with_reducible exact H | (rw [hy449]; exact H) | exact H
  have Ny449 := Aside0.mk hy449
  clear hy449
  replace H := Option.bind_eq_some_iff.mp H
  obtain ⟨t452, A50, H⟩ := H
  replace H : (some t452) = some r := H
  have A5 := Aside0.mk A50
  clear A50
  obtain rfl := Option.some.inj H
  go_enter Try.func54, Try.ntmps54
  try go_wp2_with (first | ((with_reducible refine gds (N := 2) rfl ?_); refine bev ?hg (N := 2) ?hd (cs := #[.int .i64 a0_0, .string a0_1, .int .i64 a0_2]) (t := 51) ?hr ?_; (case hd => rfl); (case hg => rfl); (case hr => first | (go_simp; done) | (go_simp; rfl)); intro gb440 hg w6 hbox hb; have n0_ := Aside0.mk (IsS78.below (by repeat (first | (with_reducible first | exact HI1.out | apply IsS78.alloc | apply IsS78.drewN | apply IsS78.drew | apply IsS78.set_0) | exact HI1.out)) hb); have n1_ := Aside0.mk (KeepT.trans (by repeat (first | (with_reducible first | exact HK.out | fail | apply etn | apply etw | apply eta) | exact HK.out)) (KeepT.of_below hb)); have n2_ := Aside0.mk (bsp (by repeat (first | (with_reducible first | exact HB.out | apply bal | apply bdn | apply bd1 | refine bst ?_ (IsS78.ge HI1.out)) | exact HB.out)) hb); have n3_ := Aside0.mk (hbox); have n4_ := Aside0.mk ((by rw [hg]; exact (KeepT.size (w := w) (ts := [78, 5]) (by repeat (first | (with_reducible first | exact HK.out | fail | apply etn | apply etw | apply eta) | exact HK.out))) : w.heap.size ≤ gb440)); have n5_ := Aside0.mk ((Nat.le_trans HW0.out (by rw [hg]; exact (KeepT.size (w := w) (ts := [78, 5]) (by repeat (first | (with_reducible first | exact HK.out | fail | apply etn | apply etw | apply eta) | exact HK.out))) : w.heap.size ≤ gb440) : w0.heap.size ≤ gb440)); have n6_ := Aside0.mk ((by rw [hg]; exact Nat.ne_of_lt (IsS78.lt (show IsS78 w0 _ g s1_0 from by repeat (first | (with_reducible first | exact HI1.out | apply IsS78.alloc | apply IsS78.drewN | apply IsS78.drew | apply IsS78.set_0) | exact HI1.out))) : g ≠ gb440)); have n7_ := Aside0.mk ((by rw [hg]; exact Nat.ne_of_gt (IsS78.lt (show IsS78 w0 _ g s1_0 from by repeat (first | (with_reducible first | exact HI1.out | apply IsS78.alloc | apply IsS78.drewN | apply IsS78.drew | apply IsS78.set_0) | exact HI1.out))) : gb440 ≠ g)); clear HI1; clear HK; clear HB; have HI1 := n0_; have HK := n1_; have HB := n2_; have BK440 := n3_; have GW440 := n4_; have GE440 := n5_; have NB1_440 := n6_; have NB440_1 := n7_; clear n0_ n1_ n2_ n3_ n4_ n5_ n6_ n7_; clear hb hbox hg))
  have n0_ := Aside0.mk (kdw BK440.out)
  have n1_ := Aside0.mk (IsS78.drew HI1.out)
  have n2_ := Aside0.mk (etw HK.out)
  have n3_ := Aside0.mk (bd1 HB.out)
  clear BK440
  clear HI1
  clear HK
  clear HB
  have BK440 := n0_
  have HI1 := n1_
  have HK := n2_
  have HB := n3_
  clear n0_ n1_ n2_ n3_
  refine start_ (n := 13) (S := fun w' => True) (ds := []) #[false,false,false,false,false,false,false,false,false,false,false,false,false] (by kernel_rfl) rfl rfl trivial (fun hHeld => ?_); refine with_tabW method_Result_Put.tab1 method_Result_Put.bits1 (fun HT_ HW_ => ?_)
  generalize w6.drew = w7 at BK440 HI1 HK HB hHeld ⊢
  refine pure_ (i := 0) (N := some 4) (v := ?_) (a' := ?_) (bA 13 1) rfl rfl (any_of HT_.out (by kernel_rfl)) (fun _ _ _ h => h) (Or.inl ⟨by rfl, ?_⟩) ?_ ?_
  rotate_left; (intro w'; go_simp; with_reducible rfl); rotate_left; (simp only [Act.put, List.setIfInBounds_toArray, List.set_cons_zero, List.set_cons_succ, i64_w, i32_w]; rfl)
  refine pure_ (i := 1) (N := some 5) (v := ?_) (a' := ?_) (bA 13 3) rfl rfl (any_of HT_.out (by kernel_rfl)) (fun _ _ _ h => h) (Or.inl ⟨by rfl, ?_⟩) ?_ ?_
  rotate_left; (intro w'; go_simp; with_reducible rfl); rotate_left; (simp only [Act.put, List.setIfInBounds_toArray, List.set_cons_zero, List.set_cons_succ, i64_w, i32_w]; rfl)
  refine pure_ (i := 5) (N := some 9) (v := ?_) (a' := ?_) (bA 13 35) rfl rfl (any_of HT_.out (by kernel_rfl)) (fun _ _ _ h => h) (Or.inl ⟨by rfl, ?_⟩) ?_ ?_
  rotate_left; (intro w'; go_simp; with_reducible rfl); rotate_left; (simp only [Act.put, List.setIfInBounds_toArray, List.set_cons_zero, List.set_cons_succ, i64_w, i32_w]; rfl)
  refine pure_ (i := 9) (N := some 13) (v := ?_) (a' := ?_) (bA 13 547) rfl rfl (any_of HT_.out (by kernel_rfl)) (fun _ _ _ h => h) (Or.inl ⟨by rfl, ?_⟩) ?_ ?_
  rotate_left; (intro w'; go_simp; with_reducible rfl); rotate_left; (simp only [Act.put, List.setIfInBounds_toArray, List.set_cons_zero, List.set_cons_succ, i64_w, i32_w]; rfl)
  refine inv_at [2, 3, 4, 6, 7, 8, 10, 11, 12] (fun a0_ b a w' => ∃ (v442 : Value) (v446 : Value) (v450 : Value), a = putSel a0_ b [(2, 6, .int .i64 a0_0), (3, 7, v442), (4, 8, .pointer (some ⟨g, 0, none⟩)), (6, 10, .string a0_1), (7, 11, v446), (8, 12, .pointer (some ⟨g, 0, none⟩)), (10, 14, .int .i64 a0_2), (11, 15, v450), (12, 16, .pointer (some ⟨g, 0, none⟩))] ∧ (w'.heap[gb440]? = some (.cells #[.int .i64 a0_0, .string a0_1, .int .i64 a0_2] 51 (0, 0))) ∧ (b 4 = false → IsS78 w0 w' g s1_0) ∧ (KeepT w w' [78, 5]) ∧ (Below w0.heap.size w0 w') ∧ (b 3 = true → Kd.R (Kd.int .i64) 3 w' w.heap.size (fun _ => True) v442 y441) ∧ (b 4 = true → b 8 = false → IsS78 w0 w' g t444) ∧ (b 7 = true → Kd.R Kd.string 9 w' w.heap.size (fun _ => True) v446 y445) ∧ (b 8 = true → b 12 = false → IsS78 w0 w' g t448) ∧ (b 11 = true → Kd.R (Kd.int .i64) 2 w' w.heap.size (fun _ => True) v450 y449) ∧ (b 12 = true → IsS78 w0 w' g t452)) HT_.out HW_.out (by kernel_rfl) (by kernel_rfl) ?_ ?_ ?_
  · exact ⟨.bool false, .bool false, .bool false, by simp only [putSel, Bool.false_eq_true, if_false], BK440.out, fun _ => HI1.out, HK.out, HB.out, fun h_ => absurd h_ (by decide), fun h_ => absurd h_ (by decide), fun h_ => absurd h_ (by decide), fun h_ => absurd h_ (by decide), fun h_ => absurd h_ (by decide), fun h_ => absurd h_ (by decide)⟩
  · skip
    clear BK440 HB HI1 HK
    refine steps_cons ?_ ?_
    · rintro b a w' ⟨v442, v446, v450, ha, Q_BK440, Q_HI1, Q_HK, Q_HB, Q_HO443, Q_HI1_e4, Q_HO447, Q_HI1_e8, Q_HO451, Q_HI1_e12⟩ hb_ hon hoff
      refine ⟨_, rfl, fun K hK => ?_⟩
      have e5 : a.tmps[5]? = some (.pointer (some ⟨gb440, 0, none⟩)) := by rw [ha]; exact (putSel_off rfl).trans rfl
      replace ha := Aside0.mk ha
      have BK440 := Aside0.mk Q_BK440
      have HI1 := Aside0.mk (Q_HI1 (hoff 4 (by kernel_rfl)))
      have HK := Aside0.mk Q_HK
      have HB := Aside0.mk Q_HB
      have hc0_ : w'.cell? ⟨gb440, 0, none⟩ = some (.int .i64 a0_0) := (kcl BK440.out 0).trans rfl
      have hc1_ : w'.cell? ⟨gb440, 1, none⟩ = some (.string a0_1) := (kcl BK440.out 1).trans rfl
      have hc2_ : w'.cell? ⟨gb440, 2, none⟩ = some (.int .i64 a0_2) := (kcl BK440.out 2).trans rfl
      refine value_ (w1 := w') (v := .int .i64 a0_0) (by rfl) rfl ?_ ?_
      · go_simp
        (try simp only [i64_w])
        try rfl
      refine hK.out _ _ ⟨v442, v446, v450, (by rw [ha.out]; exact putSel_upk 0 hb_ rfl rfl rfl), Q_BK440, Q_HI1, Q_HK, Q_HB, fun h0_ => absurd ((hoff 3 (by kernel_rfl)).symm.trans h0_) (by decide), fun h0_ _ => absurd ((hoff 4 (by kernel_rfl)).symm.trans h0_) (by decide), Q_HO447, fun h0_ _ => absurd ((hoff 8 (by kernel_rfl)).symm.trans h0_) (by decide), Q_HO451, fun h0_ => absurd ((hoff 12 (by kernel_rfl)).symm.trans h0_) (by decide)⟩
    refine steps_cons ?_ ?_
    · rintro b a w' ⟨v442, v446, v450, ha, Q_BK440, Q_HI1, Q_HK, Q_HB, Q_HO443, Q_HI1_e4, Q_HO447, Q_HI1_e8, Q_HO451, Q_HI1_e12⟩ hb_ hon hoff
      refine ⟨_, rfl, fun K hK => ?_⟩
      have e6 : a.tmps[6]? = some (.int .i64 a0_0) := by rw [ha]; exact putSel_on (e := (2, 6, .int .i64 a0_0)) 0 rfl rfl (hon 2 (by kernel_rfl)) rfl
      replace ha := Aside0.mk ha
      have BK440 := Aside0.mk Q_BK440
      have HI1 := Aside0.mk (Q_HI1 (hoff 4 (by kernel_rfl)))
      have HK := Aside0.mk Q_HK
      have HB := Aside0.mk Q_HB
      refine Kd.R_lit_step (Kd.int .i64) _ 3 ?hg (N := 7) ?hd (xs := ([a0_0] : List Int)) (inner := [.int .i64 a0_0]) (ok := fun _ => True) (okp := fun _ => True) ?hr ?hp (fun _ hk => hk) trivial (Below.refl _ _) (Nat.le_refl _) (by simp) ?_; (case hd => rfl); (case hg => rfl); (case hr => first | (go_simp; done) | (go_simp; rfl)); (case hp => exact (Reps.one (show Kd.M (Kd.int .i64) _ _ _ a0_0 [.int .i64 a0_0] from rfl) (Reps.none _ _)))
      intro v442 w8 ho9 hb hg_ hnew_
      clear hg_ hnew_
      (first | rw [← Ny441.out] at ho9 | (simp only [Int.reduceToNat] at ho9; rw [← Ny441.out] at ho9))
      have n0_ := Aside0.mk (Kd.R_lower ho9 (KeepT.size (w := w) (ts := [78, 5]) (by repeat (first | (with_reducible first | exact HK.out | fail | apply etn | apply etw | apply eta | refine keepT_far ?_ GW440.out _) | exact HK.out))))
      have n1_ := Aside0.mk (IsS78.below (by repeat (first | (with_reducible first | exact HI1.out | apply IsS78.alloc | apply IsS78.drewN | apply IsS78.drew | apply IsS78.set_0 | refine IsS78.farT (p := ⟨gb440, _, none⟩) (t2 := 51) ?_ ?_ (by decide) (by decide) _ | exact OutT.mk BK440.out | refine OutT.set ?_ _ _ _) | exact HI1.out)) hb)
      have n2_ := Aside0.mk (kbl (g := gb440) (o := .cells #[.int .i64 a0_0, .string a0_1, .int .i64 a0_2] 51 (0, 0)) bk_ hb)
      have n3_ := Aside0.mk (KeepT.trans (by repeat (first | (with_reducible first | exact HK.out | fail | apply etn | apply etw | apply eta | refine keepT_far ?_ GW440.out _) | exact HK.out)) (KeepT.of_below hb))
      have n4_ := Aside0.mk (bsp (by repeat (first | (with_reducible first | exact HB.out | apply bal | apply bdn | apply bd1 | refine bst ?_ (IsS78.ge HI1.out) | refine bst ?_ GE440.out) | exact HB.out)) hb)
      have z_HO447 := fun (h0_ : b 7 = true) => (show Kd.R Kd.string 9 w8 w.heap.size (fun _ => True) v446 y445 from by first | exact (Kd.R_below (by (with_reducible repeat (first | apply Kd.R_alloc | apply Kd.R_drewN | apply Kd.R_drew)); exact (Q_HO447 h0_)) hb) | exact Kd.R_mono (Kd.R_below (by (with_reducible repeat (first | apply Kd.R_alloc | apply Kd.R_drewN | apply Kd.R_drew)); exact (Q_HO447 h0_)) hb) (fun _ h_ => by first | trivial | exact h_ | exact h_.1))
      have z_HO451 := fun (h0_ : b 11 = true) => (show Kd.R (Kd.int .i64) 2 w8 w.heap.size (fun _ => True) v450 y449 from by first | exact (Kd.R_below (by (with_reducible repeat (first | apply Kd.R_alloc | apply Kd.R_drewN | apply Kd.R_drew)); exact (Q_HO451 h0_)) hb) | exact Kd.R_mono (Kd.R_below (by (with_reducible repeat (first | apply Kd.R_alloc | apply Kd.R_drewN | apply Kd.R_drew)); exact (Q_HO451 h0_)) hb) (fun _ h_ => by first | trivial | exact h_ | exact h_.1))
      clear HI1
      clear BK440
      clear HK
      clear HB
      have HO443 := n0_
      have HI1 := n1_
      have BK440 := n2_
      have HK := n3_
      have HB := n4_
      clear n0_ n1_ n2_ n3_ n4_
      clear hb ho9
      refine hK.out _ _ ⟨v442, v446, v450, (by rw [ha.out]; exact putSel_upk 1 hb_ rfl rfl rfl), bk_, fun _ => (by repeat (first | (with_reducible first | exact HI1.out | apply IsS78.alloc | apply IsS78.drewN | apply IsS78.drew | apply IsS78.set_0 | refine IsS78.farT (p := ⟨gb440, _, none⟩) (t2 := 51) ?_ ?_ (by decide) (by decide) _ | exact OutT.mk BK440.out | refine OutT.set ?_ _ _ _) | exact HI1.out)), (by repeat (first | (with_reducible first | exact HK.out | fail | apply etn | apply etw | apply eta | refine keepT_far ?_ GW440.out _) | exact HK.out)), (by repeat (first | (with_reducible first | exact HB.out | apply bal | apply bdn | apply bd1 | refine bst ?_ (IsS78.ge HI1.out) | refine bst ?_ GE440.out) | exact HB.out)), fun _ => (by (with_reducible repeat (first | apply Kd.R_alloc | apply Kd.R_drewN | apply Kd.R_drew)); exact HO443.out), fun h0_ _ => absurd ((hoff 4 (by kernel_rfl)).symm.trans h0_) (by decide), z_HO447, fun h0_ _ => absurd ((hoff 8 (by kernel_rfl)).symm.trans h0_) (by decide), z_HO451, fun h0_ => absurd ((hoff 12 (by kernel_rfl)).symm.trans h0_) (by decide)⟩
    refine steps_cons ?_ ?_
    · rintro b a w' ⟨v442, v446, v450, ha, Q_BK440, Q_HI1, Q_HK, Q_HB, Q_HO443, Q_HI1_e4, Q_HO447, Q_HI1_e8, Q_HO451, Q_HI1_e12⟩ hb_ hon hoff
      refine ⟨_, rfl, fun K hK => ?_⟩
      have e4 : a.tmps[4]? = some (.pointer (some ⟨g, 0, none⟩)) := by rw [ha]; exact (putSel_off rfl).trans rfl
      have e7 : a.tmps[7]? = some (v442) := by rw [ha]; exact putSel_on (e := (3, 7, v442)) 1 rfl rfl (hon 3 (by kernel_rfl)) rfl
      replace ha := Aside0.mk ha
      have BK440 := Aside0.mk Q_BK440
      have HI1 := Aside0.mk (Q_HI1 hb_)
      have HK := Aside0.mk Q_HK
      have HB := Aside0.mk Q_HB
      have HO443 := Aside0.mk (Q_HO443 (hon 3 (by kernel_rfl)))
      obtain ⟨Ao11, co11, eo11⟩ := Kd.R_slice HO443.out
      (first | subst eo11 | (injection eo11 with f1_ f2_ f3_; have f4_ := f1_.symm; have f5_ := f3_.symm; clear f1_ f2_ f3_; subst f4_; subst f5_))
      refine goes_ Try.func38 (by kernel_rfl) rfl #[.pointer (some ⟨g, 0, none⟩), .slice Ao11 y441.length co11] (by rfl) rfl rfl (by (try simp only [List.map_toArray, List.map_cons, List.map_nil]); first | done | rfl | (simp only [List.length_drop, List.length_take]; rfl) | (simp only [Act.eval, Array.getD_eq_getD_getElem?, Option.getD_some, *]; done) | (simp only [Array.mk.injEq, List.cons.injEq, Value.int.injEq, true_and, and_true]; first | omega | (simp [IntKind.wrap, IntKind.bits, IntKind.signed]; omega))) ?_
      with_reducible refine (codec_Out_N.calls g s1_0 _ _ y441 t444 w0 _ ?side1 ?side2 ?side3 ?side4 ?side5 A3.out).mono ?_
      (case side1 => repeat (first | (with_reducible first | exact HI1.out | apply IsS78.alloc | apply IsS78.drewN | apply IsS78.drew | apply IsS78.set_0 | refine IsS78.farT (p := ⟨gb440, _, none⟩) (t2 := 51) ?_ ?_ (by decide) (by decide) _ | exact OutT.mk BK440.out | refine OutT.set ?_ _ _ _) | exact HI1.out))
      (case side2 => repeat (first | (with_reducible first | exact HB.out | apply bal | apply bdn | apply bd1 | refine bst ?_ (IsS78.ge HI1.out) | refine bst ?_ GE440.out) | exact HB.out))
      (case side3 => repeat (first | exact (Kd.R_reads' HO443.out).2.2 | (with_reducible refine Kd.C_alloc ?_ _) | (with_reducible refine Kd.C_drewN ?_ _) | (with_reducible refine Kd.C_drew ?_)))
      (case side4 => exact (Kd.R_reads' HO443.out).2.1)
      (case side5 => exact fun W_ hk_ => (Kd.R_reads' (KeepT.R (by (with_reducible repeat (first | apply Kd.R_alloc | apply Kd.R_drewN | apply Kd.R_drew)); exact HO443.out) hk_ (by decide))).2.2)
      rintro e w12 ⟨rfl, hi, hb, hk⟩
      refine ⟨_, rfl, ?_⟩
      have n0_ := Aside0.mk (KeepT.oblk (g := gb440) (o := .cells #[.int .i64 a0_0, .string a0_1, .int .i64 a0_2] 51 (0, 0)) bk_ hk (by intro _ _ _ h_; cases h_; decide))
      have n1_ := Aside0.mk (KeepT.R (by (with_reducible repeat (first | apply Kd.R_alloc | apply Kd.R_drewN | apply Kd.R_drew)); exact HO443.out) hk (by decide))
      have n2_ := Aside0.mk (KeepT.trans (by repeat (first | (with_reducible first | exact HK.out | fail | apply etn | apply etw | apply eta | refine keepT_far ?_ GW440.out _) | exact HK.out)) hk)
      have n3_ := Aside0.mk (hb)
      have n4_ := Aside0.mk (hi)
      have z_HO447 := fun (h0_ : b 7 = true) => (show Kd.R Kd.string 9 w12 w.heap.size (fun _ => True) v446 y445 from by first | exact (KeepT.R (by (with_reducible repeat (first | apply Kd.R_alloc | apply Kd.R_drewN | apply Kd.R_drew)); exact (Q_HO447 h0_)) hk (by decide)) | exact Kd.R_mono (KeepT.R (by (with_reducible repeat (first | apply Kd.R_alloc | apply Kd.R_drewN | apply Kd.R_drew)); exact (Q_HO447 h0_)) hk (by decide)) (fun _ h_ => by first | trivial | exact h_ | exact h_.1))
      have z_HO451 := fun (h0_ : b 11 = true) => (show Kd.R (Kd.int .i64) 2 w12 w.heap.size (fun _ => True) v450 y449 from by first | exact (KeepT.R (by (with_reducible repeat (first | apply Kd.R_alloc | apply Kd.R_drewN | apply Kd.R_drew)); exact (Q_HO451 h0_)) hk (by decide)) | exact Kd.R_mono (KeepT.R (by (with_reducible repeat (first | apply Kd.R_alloc | apply Kd.R_drewN | apply Kd.R_drew)); exact (Q_HO451 h0_)) hk (by decide)) (fun _ h_ => by first | trivial | exact h_ | exact h_.1))
      clear BK440
      clear HO443
      clear HK
      clear HB
      clear HI1
      have BK440 := n0_
      have HO443 := n1_
      have HK := n2_
      have HB := n3_
      have HI1 := n4_
      clear n0_ n1_ n2_ n3_ n4_
      (try clear hb)
      (try clear hb2)
      (try clear hk)
      (try clear hi)
      refine hK.out _ _ ⟨.slice Ao11 y441.length co11, v446, v450, (by rw [ha.out]; exact putSel_upk 2 hb_ rfl rfl rfl), bk_, fun h0_ => absurd ((up_self b 4).symm.trans h0_) (by decide), (by repeat (first | (with_reducible first | exact HK.out | fail | apply etn | apply etw | apply eta | refine keepT_far ?_ GW440.out _) | exact HK.out)), (by repeat (first | (with_reducible first | exact HB.out | apply bal | apply bdn | apply bd1 | refine bst ?_ (IsS78.ge HI1.out) | refine bst ?_ GE440.out) | exact HB.out)), fun _ => (by (with_reducible repeat (first | apply Kd.R_alloc | apply Kd.R_drewN | apply Kd.R_drew)); exact HO443.out), fun _ _ => (by repeat (first | (with_reducible first | exact HI1.out | apply IsS78.alloc | apply IsS78.drewN | apply IsS78.drew | apply IsS78.set_0 | refine IsS78.farT (p := ⟨gb440, _, none⟩) (t2 := 51) ?_ ?_ (by decide) (by decide) _ | exact OutT.mk BK440.out | refine OutT.set ?_ _ _ _) | exact HI1.out)), z_HO447, fun h0_ _ => absurd ((hoff 8 (by kernel_rfl)).symm.trans h0_) (by decide), z_HO451, fun h0_ => absurd ((hoff 12 (by kernel_rfl)).symm.trans h0_) (by decide)⟩
    refine steps_cons ?_ ?_
    · rintro b a w' ⟨v442, v446, v450, ha, Q_BK440, Q_HI1, Q_HK, Q_HB, Q_HO443, Q_HI1_e4, Q_HO447, Q_HI1_e8, Q_HO451, Q_HI1_e12⟩ hb_ hon hoff
      refine ⟨_, rfl, fun K hK => ?_⟩
      have e9 : a.tmps[9]? = some (.pointer (some ⟨gb440, 1, none⟩)) := by rw [ha]; exact (putSel_off rfl).trans rfl
      replace ha := Aside0.mk ha
      have BK440 := Aside0.mk Q_BK440
      have HK := Aside0.mk Q_HK
      have HB := Aside0.mk Q_HB
      have hc0_ : w'.cell? ⟨gb440, 0, none⟩ = some (.int .i64 a0_0) := (kcl BK440.out 0).trans rfl
      have hc1_ : w'.cell? ⟨gb440, 1, none⟩ = some (.string a0_1) := (kcl BK440.out 1).trans rfl
      have hc2_ : w'.cell? ⟨gb440, 2, none⟩ = some (.int .i64 a0_2) := (kcl BK440.out 2).trans rfl
      refine value_ (w1 := w') (v := .string a0_1) (by rfl) rfl ?_ ?_
      · go_simp
        (try simp only [i64_w])
        try rfl
      refine hK.out _ _ ⟨v442, v446, v450, (by rw [ha.out]; exact putSel_upk 3 hb_ rfl rfl rfl), Q_BK440, Q_HI1, Q_HK, Q_HB, Q_HO443, Q_HI1_e4, fun h0_ => absurd ((hoff 7 (by kernel_rfl)).symm.trans h0_) (by decide), fun h0_ _ => absurd ((hoff 8 (by kernel_rfl)).symm.trans h0_) (by decide), Q_HO451, fun h0_ => absurd ((hoff 12 (by kernel_rfl)).symm.trans h0_) (by decide)⟩
    refine steps_cons ?_ ?_
    · rintro b a w' ⟨v442, v446, v450, ha, Q_BK440, Q_HI1, Q_HK, Q_HB, Q_HO443, Q_HI1_e4, Q_HO447, Q_HI1_e8, Q_HO451, Q_HI1_e12⟩ hb_ hon hoff
      refine ⟨_, rfl, fun K hK => ?_⟩
      have e10 : a.tmps[10]? = some (.string a0_1) := by rw [ha]; exact putSel_on (e := (6, 10, .string a0_1)) 3 rfl rfl (hon 6 (by kernel_rfl)) rfl
      replace ha := Aside0.mk ha
      have BK440 := Aside0.mk Q_BK440
      have HK := Aside0.mk Q_HK
      have HB := Aside0.mk Q_HB
      refine Kd.R_lit_step Kd.string _ 9 ?hg (N := 11) ?hd (xs := ([a0_1] : List ByteArray)) (inner := [.string a0_1]) (ok := fun _ => True) (okp := fun _ => True) ?hr ?hp (fun _ hk => hk) trivial (Below.refl _ _) (Nat.le_refl _) (by simp) ?_; (case hd => rfl); (case hg => rfl); (case hr => first | (go_simp; done) | (go_simp; rfl)); (case hp => exact (Reps.one (show Kd.M Kd.string _ _ _ a0_1 [.string a0_1] from rfl) (Reps.none _ _)))
      intro v446 w8 ho9 hb hg_ hnew_
      clear hg_ hnew_
      (first | rw [← Ny445.out] at ho9 | (simp only [Int.reduceToNat] at ho9; rw [← Ny445.out] at ho9))
      have n0_ := Aside0.mk (Kd.R_lower ho9 (KeepT.size (w := w) (ts := [78, 5]) (by repeat (first | (with_reducible first | exact HK.out | fail | apply etn | apply etw | apply eta | refine keepT_far ?_ GW440.out _) | exact HK.out))))
      have n2_ := Aside0.mk (kbl (g := gb440) (o := .cells #[.int .i64 a0_0, .string a0_1, .int .i64 a0_2] 51 (0, 0)) bk_ hb)
      have n3_ := Aside0.mk (KeepT.trans (by repeat (first | (with_reducible first | exact HK.out | fail | apply etn | apply etw | apply eta | refine keepT_far ?_ GW440.out _) | exact HK.out)) (KeepT.of_below hb))
      have n4_ := Aside0.mk (bsp bl_ hb)
      have z_HI1 := fun (h0_ : b 4 = false) => (show IsS78 w0 w8 g s1_0 from by first | exact (IsS78.below (by repeat (first | (with_reducible first | exact (Q_HI1 h0_) | apply IsS78.alloc | apply IsS78.drewN | apply IsS78.drew | apply IsS78.set_0 | refine IsS78.farT (p := ⟨gb440, _, none⟩) (t2 := 51) ?_ ?_ (by decide) (by decide) _ | exact OutT.mk BK440.out | refine OutT.set ?_ _ _ _) | exact (Q_HI1 h0_))) hb))
      have z_HO443 := fun (h0_ : b 3 = true) => (show Kd.R (Kd.int .i64) 3 w8 w.heap.size (fun _ => True) v442 y441 from by first | exact (Kd.R_below (by (with_reducible repeat (first | apply Kd.R_alloc | apply Kd.R_drewN | apply Kd.R_drew)); exact (Q_HO443 h0_)) hb) | exact Kd.R_mono (Kd.R_below (by (with_reducible repeat (first | apply Kd.R_alloc | apply Kd.R_drewN | apply Kd.R_drew)); exact (Q_HO443 h0_)) hb) (fun _ h_ => by first | trivial | exact h_ | exact h_.1))
      have z_HI1_e4 := fun (h0_ : b 4 = true) (h1_ : b 8 = false) => (show IsS78 w0 w8 g t444 from by first | exact (IsS78.below (by repeat (first | (with_reducible first | exact (Q_HI1_e4 h0_ h1_) | apply IsS78.alloc | apply IsS78.drewN | apply IsS78.drew | apply IsS78.set_0 | refine IsS78.farT (p := ⟨gb440, _, none⟩) (t2 := 51) ?_ ?_ (by decide) (by decide) _ | exact OutT.mk BK440.out | refine OutT.set ?_ _ _ _) | exact (Q_HI1_e4 h0_ h1_))) hb))
      have z_HO451 := fun (h0_ : b 11 = true) => (show Kd.R (Kd.int .i64) 2 w8 w.heap.size (fun _ => True) v450 y449 from by first | exact (Kd.R_below (by (with_reducible repeat (first | apply Kd.R_alloc | apply Kd.R_drewN | apply Kd.R_drew)); exact (Q_HO451 h0_)) hb) | exact Kd.R_mono (Kd.R_below (by (with_reducible repeat (first | apply Kd.R_alloc | apply Kd.R_drewN | apply Kd.R_drew)); exact (Q_HO451 h0_)) hb) (fun _ h_ => by first | trivial | exact h_ | exact h_.1))
      clear BK440
      clear HK
      clear HB
      have HO447 := n0_
      have BK440 := n2_
      have HK := n3_
      have HB := n4_
      clear n0_ n2_ n3_ n4_
      clear hb ho9
      refine hK.out _ _ ⟨v442, v446, v450, (by rw [ha.out]; exact putSel_upk 4 hb_ rfl rfl rfl), bk_, z_HI1, (by repeat (first | (with_reducible first | exact HK.out | fail | apply etn | apply etw | apply eta | refine keepT_far ?_ GW440.out _) | exact HK.out)), bl_, z_HO443, z_HI1_e4, fun _ => (by (with_reducible repeat (first | apply Kd.R_alloc | apply Kd.R_drewN | apply Kd.R_drew)); exact HO447.out), fun h0_ _ => absurd ((hoff 8 (by kernel_rfl)).symm.trans h0_) (by decide), z_HO451, fun h0_ => absurd ((hoff 12 (by kernel_rfl)).symm.trans h0_) (by decide)⟩
    refine steps_cons ?_ ?_
    · rintro b a w' ⟨v442, v446, v450, ha, Q_BK440, Q_HI1, Q_HK, Q_HB, Q_HO443, Q_HI1_e4, Q_HO447, Q_HI1_e8, Q_HO451, Q_HI1_e12⟩ hb_ hon hoff
      refine ⟨_, rfl, fun K hK => ?_⟩
      have e8 : a.tmps[8]? = some (.pointer (some ⟨g, 0, none⟩)) := by rw [ha]; exact putSel_on (e := (4, 8, .pointer (some ⟨g, 0, none⟩))) 2 rfl rfl (hon 4 (by kernel_rfl)) rfl
      have e11 : a.tmps[11]? = some (v446) := by rw [ha]; exact putSel_on (e := (7, 11, v446)) 4 rfl rfl (hon 7 (by kernel_rfl)) rfl
      replace ha := Aside0.mk ha
      have BK440 := Aside0.mk Q_BK440
      have HK := Aside0.mk Q_HK
      have HB := Aside0.mk Q_HB
      have HO443 := Aside0.mk (Q_HO443 (hon 3 (by kernel_rfl)))
      have HI1 := Aside0.mk (Q_HI1_e4 (hon 4 (by kernel_rfl)) hb_)
      have HO447 := Aside0.mk (Q_HO447 (hon 7 (by kernel_rfl)))
      obtain ⟨Ao15, co15, eo15⟩ := Kd.R_slice HO447.out
      (first | subst eo15 | (injection eo15 with f1_ f2_ f3_; have f4_ := f1_.symm; have f5_ := f3_.symm; clear f1_ f2_ f3_; subst f4_; subst f5_))
      refine goes_ Try.func39 (by kernel_rfl) rfl #[.pointer (some ⟨g, 0, none⟩), .slice Ao15 y445.length co15] (by rfl) rfl rfl (by (try simp only [List.map_toArray, List.map_cons, List.map_nil]); first | done | rfl | (simp only [List.length_drop, List.length_take]; rfl) | (simp only [Act.eval, Array.getD_eq_getD_getElem?, Option.getD_some, *]; done) | (simp only [Array.mk.injEq, List.cons.injEq, Value.int.injEq, true_and, and_true]; first | omega | (simp [IntKind.wrap, IntKind.bits, IntKind.signed]; omega))) ?_
      with_reducible refine (codec_Out_S.calls g t444 _ _ y445 t448 w0 _ ?side1 ?side2 ?side3 ?side4 ?side5 A4.out).mono ?_
      (case side1 => repeat (first | (with_reducible first | exact HI1.out | apply IsS78.alloc | apply IsS78.drewN | apply IsS78.drew | apply IsS78.set_0 | refine IsS78.farT (p := ⟨gb440, _, none⟩) (t2 := 51) ?_ ?_ (by decide) (by decide) _ | exact OutT.mk BK440.out | refine OutT.set ?_ _ _ _) | exact HI1.out))
      (case side2 => repeat (first | (with_reducible first | exact HB.out | apply bal | apply bdn | apply bd1 | refine bst ?_ (IsS78.ge HI1.out) | refine bst ?_ GE440.out) | exact HB.out))
      (case side3 => repeat (first | exact (Kd.R_reads' HO447.out).2.2 | (with_reducible refine Kd.C_alloc ?_ _) | (with_reducible refine Kd.C_drewN ?_ _) | (with_reducible refine Kd.C_drew ?_)))
      (case side4 => exact (Kd.R_reads' HO447.out).2.1)
      (case side5 => exact fun W_ hk_ => (Kd.R_reads' (KeepT.R (by (with_reducible repeat (first | apply Kd.R_alloc | apply Kd.R_drewN | apply Kd.R_drew)); exact HO447.out) hk_ (by decide))).2.2)
      rintro e w16 ⟨rfl, hi, hb, hk⟩
      refine ⟨_, rfl, ?_⟩
      have n0_ := Aside0.mk (KeepT.oblk (g := gb440) (o := .cells #[.int .i64 a0_0, .string a0_1, .int .i64 a0_2] 51 (0, 0)) bk_ hk (by intro _ _ _ h_; cases h_; decide))
      have n1_ := Aside0.mk (KeepT.R (by (with_reducible repeat (first | apply Kd.R_alloc | apply Kd.R_drewN | apply Kd.R_drew)); exact HO443.out) hk (by decide))
      have n2_ := Aside0.mk (KeepT.R (by (with_reducible repeat (first | apply Kd.R_alloc | apply Kd.R_drewN | apply Kd.R_drew)); exact HO447.out) hk (by decide))
      have n3_ := Aside0.mk (KeepT.trans (by repeat (first | (with_reducible first | exact HK.out | fail | apply etn | apply etw | apply eta | refine keepT_far ?_ GW440.out _) | exact HK.out)) hk)
      have n4_ := Aside0.mk (hb)
      have n5_ := Aside0.mk (hi)
      have z_HO451 := fun (h0_ : b 11 = true) => (show Kd.R (Kd.int .i64) 2 w16 w.heap.size (fun _ => True) v450 y449 from by first | exact (KeepT.R (by (with_reducible repeat (first | apply Kd.R_alloc | apply Kd.R_drewN | apply Kd.R_drew)); exact (Q_HO451 h0_)) hk (by decide)) | exact Kd.R_mono (KeepT.R (by (with_reducible repeat (first | apply Kd.R_alloc | apply Kd.R_drewN | apply Kd.R_drew)); exact (Q_HO451 h0_)) hk (by decide)) (fun _ h_ => by first | trivial | exact h_ | exact h_.1))
      clear BK440
      clear HO443
      clear HO447
      clear HK
      clear HB
      clear HI1
      have BK440 := n0_
      have HO443 := n1_
      have HO447 := n2_
      have HK := n3_
      have HB := n4_
      have HI1 := n5_
      clear n0_ n1_ n2_ n3_ n4_ n5_
      (try clear hb)
      (try clear hb2)
      (try clear hk)
      (try clear hi)
      refine hK.out _ _ ⟨v442, .slice Ao15 y445.length co15, v450, (by rw [ha.out]; exact putSel_upk 5 hb_ rfl rfl rfl), bk_, fun h0_ => absurd ((hon 4 (by kernel_rfl)).symm.trans h0_) (by decide), (by repeat (first | (with_reducible first | exact HK.out | fail | apply etn | apply etw | apply eta | refine keepT_far ?_ GW440.out _) | exact HK.out)), (by repeat (first | (with_reducible first | exact HB.out | apply bal | apply bdn | apply bd1 | refine bst ?_ (IsS78.ge HI1.out) | refine bst ?_ GE440.out) | exact HB.out)), fun _ => (by (with_reducible repeat (first | apply Kd.R_alloc | apply Kd.R_drewN | apply Kd.R_drew)); exact HO443.out), fun _ h1_ => absurd ((up_self b 8).symm.trans h1_) (by decide), fun _ => (by (with_reducible repeat (first | apply Kd.R_alloc | apply Kd.R_drewN | apply Kd.R_drew)); exact HO447.out), fun _ _ => (by repeat (first | (with_reducible first | exact HI1.out | apply IsS78.alloc | apply IsS78.drewN | apply IsS78.drew | apply IsS78.set_0 | refine IsS78.farT (p := ⟨gb440, _, none⟩) (t2 := 51) ?_ ?_ (by decide) (by decide) _ | exact OutT.mk BK440.out | refine OutT.set ?_ _ _ _) | exact HI1.out)), z_HO451, fun h0_ => absurd ((hoff 12 (by kernel_rfl)).symm.trans h0_) (by decide)⟩
    refine steps_cons ?_ ?_
    · rintro b a w' ⟨v442, v446, v450, ha, Q_BK440, Q_HI1, Q_HK, Q_HB, Q_HO443, Q_HI1_e4, Q_HO447, Q_HI1_e8, Q_HO451, Q_HI1_e12⟩ hb_ hon hoff
      refine ⟨_, rfl, fun K hK => ?_⟩
      have e13 : a.tmps[13]? = some (.pointer (some ⟨gb440, 2, none⟩)) := by rw [ha]; exact (putSel_off rfl).trans rfl
      replace ha := Aside0.mk ha
      have BK440 := Aside0.mk Q_BK440
      have HK := Aside0.mk Q_HK
      have HB := Aside0.mk Q_HB
      have hc0_ : w'.cell? ⟨gb440, 0, none⟩ = some (.int .i64 a0_0) := (kcl BK440.out 0).trans rfl
      have hc1_ : w'.cell? ⟨gb440, 1, none⟩ = some (.string a0_1) := (kcl BK440.out 1).trans rfl
      have hc2_ : w'.cell? ⟨gb440, 2, none⟩ = some (.int .i64 a0_2) := (kcl BK440.out 2).trans rfl
      refine value_ (w1 := w') (v := .int .i64 a0_2) (by rfl) rfl ?_ ?_
      · go_simp
        (try simp only [i64_w])
        try rfl
      refine hK.out _ _ ⟨v442, v446, v450, (by rw [ha.out]; exact putSel_upk 6 hb_ rfl rfl rfl), Q_BK440, Q_HI1, Q_HK, Q_HB, Q_HO443, Q_HI1_e4, Q_HO447, Q_HI1_e8, fun h0_ => absurd ((hoff 11 (by kernel_rfl)).symm.trans h0_) (by decide), fun h0_ => absurd ((hoff 12 (by kernel_rfl)).symm.trans h0_) (by decide)⟩
    refine steps_cons ?_ ?_
    · rintro b a w' ⟨v442, v446, v450, ha, Q_BK440, Q_HI1, Q_HK, Q_HB, Q_HO443, Q_HI1_e4, Q_HO447, Q_HI1_e8, Q_HO451, Q_HI1_e12⟩ hb_ hon hoff
      refine ⟨_, rfl, fun K hK => ?_⟩
      have e14 : a.tmps[14]? = some (.int .i64 a0_2) := by rw [ha]; exact putSel_on (e := (10, 14, .int .i64 a0_2)) 6 rfl rfl (hon 10 (by kernel_rfl)) rfl
      replace ha := Aside0.mk ha
      have BK440 := Aside0.mk Q_BK440
      have HK := Aside0.mk Q_HK
      have HB := Aside0.mk Q_HB
      refine Kd.R_lit_step (Kd.int .i64) _ 2 ?hg (N := 15) ?hd (xs := ([a0_2] : List Int)) (inner := [.int .i64 a0_2]) (ok := fun _ => True) (okp := fun _ => True) ?hr ?hp (fun _ hk => hk) trivial (Below.refl _ _) (Nat.le_refl _) (by simp) ?_; (case hd => rfl); (case hg => rfl); (case hr => first | (go_simp; done) | (go_simp; rfl)); (case hp => exact (Reps.one (show Kd.M (Kd.int .i64) _ _ _ a0_2 [.int .i64 a0_2] from rfl) (Reps.none _ _)))
      intro v450 w8 ho9 hb hg_ hnew_
      clear hg_ hnew_
      (first | rw [← Ny449.out] at ho9 | (simp only [Int.reduceToNat] at ho9; rw [← Ny449.out] at ho9))
      have n0_ := Aside0.mk (Kd.R_lower ho9 (KeepT.size (w := w) (ts := [78, 5]) (by repeat (first | (with_reducible first | exact HK.out | fail | apply etn | apply etw | apply eta | refine keepT_far ?_ GW440.out _) | exact HK.out))))
      have n2_ := Aside0.mk (kbl (g := gb440) (o := .cells #[.int .i64 a0_0, .string a0_1, .int .i64 a0_2] 51 (0, 0)) bk_ hb)
      have n3_ := Aside0.mk (KeepT.trans (by repeat (first | (with_reducible first | exact HK.out | fail | apply etn | apply etw | apply eta | refine keepT_far ?_ GW440.out _) | exact HK.out)) (KeepT.of_below hb))
      have n4_ := Aside0.mk (bsp bl_ hb)
      have z_HI1 := fun (h0_ : b 4 = false) => (show IsS78 w0 w8 g s1_0 from by first | exact (IsS78.below (by repeat (first | (with_reducible first | exact (Q_HI1 h0_) | apply IsS78.alloc | apply IsS78.drewN | apply IsS78.drew | apply IsS78.set_0 | refine IsS78.farT (p := ⟨gb440, _, none⟩) (t2 := 51) ?_ ?_ (by decide) (by decide) _ | exact OutT.mk BK440.out | refine OutT.set ?_ _ _ _) | exact (Q_HI1 h0_))) hb))
      have z_HO443 := fun (h0_ : b 3 = true) => (show Kd.R (Kd.int .i64) 3 w8 w.heap.size (fun _ => True) v442 y441 from by first | exact (Kd.R_below (by (with_reducible repeat (first | apply Kd.R_alloc | apply Kd.R_drewN | apply Kd.R_drew)); exact (Q_HO443 h0_)) hb) | exact Kd.R_mono (Kd.R_below (by (with_reducible repeat (first | apply Kd.R_alloc | apply Kd.R_drewN | apply Kd.R_drew)); exact (Q_HO443 h0_)) hb) (fun _ h_ => by first | trivial | exact h_ | exact h_.1))
      have z_HI1_e4 := fun (h0_ : b 4 = true) (h1_ : b 8 = false) => (show IsS78 w0 w8 g t444 from by first | exact (IsS78.below (by repeat (first | (with_reducible first | exact (Q_HI1_e4 h0_ h1_) | apply IsS78.alloc | apply IsS78.drewN | apply IsS78.drew | apply IsS78.set_0 | refine IsS78.farT (p := ⟨gb440, _, none⟩) (t2 := 51) ?_ ?_ (by decide) (by decide) _ | exact OutT.mk BK440.out | refine OutT.set ?_ _ _ _) | exact (Q_HI1_e4 h0_ h1_))) hb))
      have z_HO447 := fun (h0_ : b 7 = true) => (show Kd.R Kd.string 9 w8 w.heap.size (fun _ => True) v446 y445 from by first | exact (Kd.R_below (by (with_reducible repeat (first | apply Kd.R_alloc | apply Kd.R_drewN | apply Kd.R_drew)); exact (Q_HO447 h0_)) hb) | exact Kd.R_mono (Kd.R_below (by (with_reducible repeat (first | apply Kd.R_alloc | apply Kd.R_drewN | apply Kd.R_drew)); exact (Q_HO447 h0_)) hb) (fun _ h_ => by first | trivial | exact h_ | exact h_.1))
      have z_HI1_e8 := fun (h0_ : b 8 = true) (h1_ : b 12 = false) => (show IsS78 w0 w8 g t448 from by first | exact (IsS78.below (by repeat (first | (with_reducible first | exact (Q_HI1_e8 h0_ h1_) | apply IsS78.alloc | apply IsS78.drewN | apply IsS78.drew | apply IsS78.set_0 | refine IsS78.farT (p := ⟨gb440, _, none⟩) (t2 := 51) ?_ ?_ (by decide) (by decide) _ | exact OutT.mk BK440.out | refine OutT.set ?_ _ _ _) | exact (Q_HI1_e8 h0_ h1_))) hb))
      clear BK440
      clear HK
      clear HB
      have HO451 := n0_
      have BK440 := n2_
      have HK := n3_
      have HB := n4_
      clear n0_ n2_ n3_ n4_
      clear hb ho9
      refine hK.out _ _ ⟨v442, v446, v450, (by rw [ha.out]; exact putSel_upk 7 hb_ rfl rfl rfl), bk_, z_HI1, (by repeat (first | (with_reducible first | exact HK.out | fail | apply etn | apply etw | apply eta | refine keepT_far ?_ GW440.out _) | exact HK.out)), bl_, z_HO443, z_HI1_e4, z_HO447, z_HI1_e8, fun _ => (by (with_reducible repeat (first | apply Kd.R_alloc | apply Kd.R_drewN | apply Kd.R_drew)); exact HO451.out), fun h0_ => absurd ((hoff 12 (by kernel_rfl)).symm.trans h0_) (by decide)⟩
    refine steps_cons ?_ ?_
    · rintro b a w' ⟨v442, v446, v450, ha, Q_BK440, Q_HI1, Q_HK, Q_HB, Q_HO443, Q_HI1_e4, Q_HO447, Q_HI1_e8, Q_HO451, Q_HI1_e12⟩ hb_ hon hoff
      refine ⟨_, rfl, fun K hK => ?_⟩
      have e12 : a.tmps[12]? = some (.pointer (some ⟨g, 0, none⟩)) := by rw [ha]; exact putSel_on (e := (8, 12, .pointer (some ⟨g, 0, none⟩))) 5 rfl rfl (hon 8 (by kernel_rfl)) rfl
      have e15 : a.tmps[15]? = some (v450) := by rw [ha]; exact putSel_on (e := (11, 15, v450)) 7 rfl rfl (hon 11 (by kernel_rfl)) rfl
      replace ha := Aside0.mk ha
      have BK440 := Aside0.mk Q_BK440
      have HK := Aside0.mk Q_HK
      have HB := Aside0.mk Q_HB
      have HO443 := Aside0.mk (Q_HO443 (hon 3 (by kernel_rfl)))
      have HO447 := Aside0.mk (Q_HO447 (hon 7 (by kernel_rfl)))
      have HI1 := Aside0.mk (Q_HI1_e8 (hon 8 (by kernel_rfl)) hb_)
      have HO451 := Aside0.mk (Q_HO451 (hon 11 (by kernel_rfl)))
      obtain ⟨Ao19, co19, eo19⟩ := Kd.R_slice HO451.out
      (first | subst eo19 | (injection eo19 with f1_ f2_ f3_; have f4_ := f1_.symm; have f5_ := f3_.symm; clear f1_ f2_ f3_; subst f4_; subst f5_))
      refine goes_ Try.func68 (by kernel_rfl) rfl #[.pointer (some ⟨g, 0, none⟩), .slice Ao19 y449.length co19] (by rfl) rfl rfl (by (try simp only [List.map_toArray, List.map_cons, List.map_nil]); first | done | rfl | (simp only [List.length_drop, List.length_take]; rfl) | (simp only [Act.eval, Array.getD_eq_getD_getElem?, Option.getD_some, *]; done) | (simp only [Array.mk.injEq, List.cons.injEq, Value.int.injEq, true_and, and_true]; first | omega | (simp [IntKind.wrap, IntKind.bits, IntKind.signed]; omega))) ?_
      with_reducible refine (codec_Out_I.calls g t448 _ _ y449 t452 w0 _ ?side1 ?side2 ?side3 ?side4 ?side5 A5.out).mono ?_
      (case side1 => repeat (first | (with_reducible first | exact HI1.out | apply IsS78.alloc | apply IsS78.drewN | apply IsS78.drew | apply IsS78.set_0 | refine IsS78.farT (p := ⟨gb440, _, none⟩) (t2 := 51) ?_ ?_ (by decide) (by decide) _ | exact OutT.mk BK440.out | refine OutT.set ?_ _ _ _) | exact HI1.out))
      (case side2 => repeat (first | (with_reducible first | exact HB.out | apply bal | apply bdn | apply bd1 | refine bst ?_ (IsS78.ge HI1.out) | refine bst ?_ GE440.out) | exact HB.out))
      (case side3 => repeat (first | exact (Kd.R_reads' HO451.out).2.2 | (with_reducible refine Kd.C_alloc ?_ _) | (with_reducible refine Kd.C_drewN ?_ _) | (with_reducible refine Kd.C_drew ?_)))
      (case side4 => exact (Kd.R_reads' HO451.out).2.1)
      (case side5 => exact fun W_ hk_ => (Kd.R_reads' (KeepT.R (by (with_reducible repeat (first | apply Kd.R_alloc | apply Kd.R_drewN | apply Kd.R_drew)); exact HO451.out) hk_ (by decide))).2.2)
      rintro e w20 ⟨rfl, hi, hb, hk⟩
      refine ⟨_, rfl, ?_⟩
      have n0_ := Aside0.mk (KeepT.oblk (g := gb440) (o := .cells #[.int .i64 a0_0, .string a0_1, .int .i64 a0_2] 51 (0, 0)) bk_ hk (by intro _ _ _ h_; cases h_; decide))
      have n1_ := Aside0.mk (KeepT.R (by (with_reducible repeat (first | apply Kd.R_alloc | apply Kd.R_drewN | apply Kd.R_drew)); exact HO443.out) hk (by decide))
      have n2_ := Aside0.mk (KeepT.R (by (with_reducible repeat (first | apply Kd.R_alloc | apply Kd.R_drewN | apply Kd.R_drew)); exact HO447.out) hk (by decide))
      have n3_ := Aside0.mk (KeepT.R (by (with_reducible repeat (first | apply Kd.R_alloc | apply Kd.R_drewN | apply Kd.R_drew)); exact HO451.out) hk (by decide))
      have n4_ := Aside0.mk (KeepT.trans (by repeat (first | (with_reducible first | exact HK.out | fail | apply etn | apply etw | apply eta | refine keepT_far ?_ GW440.out _) | exact HK.out)) hk)
      have n5_ := Aside0.mk (hb)
      have n6_ := Aside0.mk (hi)
      clear BK440
      clear HO443
      clear HO447
      clear HO451
      clear HK
      clear HB
      clear HI1
      have BK440 := n0_
      have HO443 := n1_
      have HO447 := n2_
      have HO451 := n3_
      have HK := n4_
      have HB := n5_
      have HI1 := n6_
      clear n0_ n1_ n2_ n3_ n4_ n5_ n6_
      (try clear hb)
      (try clear hb2)
      (try clear hk)
      (try clear hi)
      refine hK.out _ _ ⟨v442, v446, .slice Ao19 y449.length co19, (by rw [ha.out]; exact putSel_upk 8 hb_ rfl rfl rfl), bk_, fun h0_ => absurd ((hon 4 (by kernel_rfl)).symm.trans h0_) (by decide), (by repeat (first | (with_reducible first | exact HK.out | fail | apply etn | apply etw | apply eta | refine keepT_far ?_ GW440.out _) | exact HK.out)), (by repeat (first | (with_reducible first | exact HB.out | apply bal | apply bdn | apply bd1 | refine bst ?_ (IsS78.ge HI1.out) | refine bst ?_ GE440.out) | exact HB.out)), fun _ => (by (with_reducible repeat (first | apply Kd.R_alloc | apply Kd.R_drewN | apply Kd.R_drew)); exact HO443.out), fun _ h1_ => absurd ((hon 8 (by kernel_rfl)).symm.trans h1_) (by decide), fun _ => (by (with_reducible repeat (first | apply Kd.R_alloc | apply Kd.R_drewN | apply Kd.R_drew)); exact HO447.out), fun _ h1_ => absurd ((up_self b 12).symm.trans h1_) (by decide), fun _ => (by (with_reducible repeat (first | apply Kd.R_alloc | apply Kd.R_drewN | apply Kd.R_drew)); exact HO451.out), fun _ => (by repeat (first | (with_reducible first | exact HI1.out | apply IsS78.alloc | apply IsS78.drewN | apply IsS78.drew | apply IsS78.set_0 | refine IsS78.farT (p := ⟨gb440, _, none⟩) (t2 := 51) ?_ ?_ (by decide) (by decide) _ | exact OutT.mk BK440.out | refine OutT.set ?_ _ _ _) | exact HI1.out))⟩
    exact steps_nil
  rintro b a w20 hall ⟨v442, v446, v450, ha, Q_BK440, Q_HI1, Q_HK, Q_HB, Q_HO443, Q_HI1_e4, Q_HO447, Q_HI1_e8, Q_HO451, Q_HI1_e12⟩
  clear BK440 HB HI1 HK
  have hb2_ := hall 2 (by kernel_rfl)
  have hb3_ := hall 3 (by kernel_rfl)
  have hb4_ := hall 4 (by kernel_rfl)
  have hb6_ := hall 6 (by kernel_rfl)
  have hb7_ := hall 7 (by kernel_rfl)
  have hb8_ := hall 8 (by kernel_rfl)
  have hb10_ := hall 10 (by kernel_rfl)
  have hb11_ := hall 11 (by kernel_rfl)
  have hb12_ := hall 12 (by kernel_rfl)
  subst ha
  simp only [putSel, hb2_, hb3_, hb4_, hb6_, hb7_, hb8_, hb10_, hb11_, hb12_, if_true, Act.put, List.setIfInBounds_toArray, List.set_cons_zero, List.set_cons_succ]
  have BK440 := Aside0.mk Q_BK440
  clear Q_BK440
  clear Q_HI1
  have HK := Aside0.mk Q_HK
  clear Q_HK
  have HB := Aside0.mk Q_HB
  clear Q_HB
  have HO443 := Aside0.mk (Q_HO443 hb3_)
  clear Q_HO443
  clear Q_HI1_e4
  have HO447 := Aside0.mk (Q_HO447 hb7_)
  clear Q_HO447
  clear Q_HI1_e8
  have HO451 := Aside0.mk (Q_HO451 hb11_)
  clear Q_HO451
  have HI1 := Aside0.mk (Q_HI1_e12 hb12_)
  clear Q_HI1_e12
  clear hall hb2_ hb3_ hb4_ hb6_ hb7_ hb8_ hb10_ hb11_ hb12_
  try go_wp2
  first | go_end0 | ((try simp only [Exit.inBlock, Exit.then]); refine bodyPost_ret (results_none rfl _ _ _) rfl ?_)
  exact ⟨er_, by repeat (first | (with_reducible first | exact HI1.out | apply IsS78.alloc | apply IsS78.drewN | apply IsS78.drew | apply IsS78.set_0 | refine IsS78.farT (p := ⟨gb440, _, none⟩) (t2 := 51) ?_ ?_ (by decide) (by decide) _ | exact OutT.mk BK440.out | refine OutT.set ?_ _ _ _) | exact HI1.out), by repeat (first | (with_reducible first | exact HB.out | apply bal | apply bdn | apply bd1 | refine bst ?_ (IsS78.ge HI1.out) | refine bst ?_ GE440.out) | exact HB.out), by repeat (first | (with_reducible first | exact HK.out | fail | apply etn | apply etw | apply eta | refine keepT_far ?_ GW440.out _) | exact HK.out)⟩
def frame_Reply_Text.f (k : Nat) (a0_0 : Int) (a0_1 : Int) (a0_2 : Int) (a0_3 : ByteArray) (a0_4 : Int) : Option (ByteArray) := (codec_Out_N.f (⟨#[]⟩ : ByteArray) (([a0_0, a0_1] : List Int))).bind fun t458 => (if (!(a0_2 == 0) || (!(a0_3.toList == ([] : List UInt8)) || (!(a0_4 == 0)))) = true then ((method_Result_Put.f a0_2 a0_3 a0_4 t458).bind fun t459 => ((codec_Out_Text.f t459).bind fun bt460 => ((frame_seal.f k bt460.1).bind fun t462 => (some t462)))) else ((codec_Out_Text.f t458).bind fun bt463 => ((frame_seal.f k bt463.1).bind fun t465 => (some t465))))
set_option maxHeartbeats 2000000 in
set_option maxRecDepth 100000 in
theorem frame_Reply_Text.calls (k : Nat) (a0_0 : Int) (a0_1 : Int) (a0_2 : Int) (a0_3 : ByteArray) (a0_4 : Int) (r : ByteArray) (w : World) (h : frame_Reply_Text.f k a0_0 a0_1 a0_2 a0_3 a0_4 = some r) :
    Calls Try.prog 22 #[.agg #[.int .i64 a0_0, .int .i64 a0_1, .int .i64 a0_2, .string a0_3, .int .i64 a0_4]] w fun e w' => e = .returned (.string r) ∧ Below w.heap.size w w' := by
  have hu53 := Try.underlying53
  have hu78 := Try.underlying78
  have hu51 := Try.underlying51
  have HB := Aside0.mk (Below.refl w.heap.size w)
  have H : ((codec_Out_N.f (⟨#[]⟩ : ByteArray) (([a0_0, a0_1] : List Int))).bind fun t458 => (if (!(a0_2 == 0) || (!(a0_3.toList == ([] : List UInt8)) || (!(a0_4 == 0)))) = true then ((method_Result_Put.f a0_2 a0_3 a0_4 t458).bind fun t459 => ((codec_Out_Text.f t459).bind fun bt460 => ((frame_seal.f k bt460.1).bind fun t462 => (some t462)))) else ((codec_Out_Text.f t458).bind fun bt463 => ((frame_seal.f k bt463.1).bind fun t465 => (some t465))))) = some r := h
  clear h
  obtain ⟨y455, hy455⟩ : ∃ y_ : List Int, y_ = (([a0_0, a0_1] : List Int)) := ⟨_, rfl⟩
  replace H : ((codec_Out_N.f (⟨#[]⟩ : ByteArray) y455).bind fun t458 => (if (!(a0_2 == 0) || (!(a0_3.toList == ([] : List UInt8)) || (!(a0_4 == 0)))) = true then ((method_Result_Put.f a0_2 a0_3 a0_4 t458).bind fun t459 => ((codec_Out_Text.f t459).bind fun bt460 => ((frame_seal.f k bt460.1).bind fun t462 => (some t462)))) else ((codec_Out_Text.f t458).bind fun bt463 => ((frame_seal.f k bt463.1).bind fun t465 => (some t465))))) = some r := by first | (rw [hy455]; with_reducible exact H) | (have H2_ := (Option.bind_some _ _).symm.trans H; rw [hy455]; with_reducible exact H2_) | (have H2_ := (Option.bind_some _ _).symm.trans H; with_reducible exact H2_) | with_reducible exact H | (rw [hy455]; exact H) | exact H
  have Ny455 := Aside0.mk hy455
  clear hy455
  replace H := Option.bind_eq_some_iff.mp H
  obtain ⟨t458, A20, H⟩ := H
  replace H : (if (!(a0_2 == 0) || (!(a0_3.toList == ([] : List UInt8)) || (!(a0_4 == 0)))) = true then ((method_Result_Put.f a0_2 a0_3 a0_4 t458).bind fun t459 => ((codec_Out_Text.f t459).bind fun bt460 => ((frame_seal.f k bt460.1).bind fun t462 => (some t462)))) else ((codec_Out_Text.f t458).bind fun bt463 => ((frame_seal.f k bt463.1).bind fun t465 => (some t465)))) = some r := H
  have A2 := Aside0.mk A20
  clear A20
  have HS3 := Aside0.mk H
  clear H
  go_enter Try.func22, Try.ntmps22
  go_upto_if 13 with (first | ((with_reducible refine gds (N := 1) rfl ?_); refine bev ?hg (N := 1) ?hd (cs := #[.int .i64 a0_0, .int .i64 a0_1, .int .i64 a0_2, .string a0_3, .int .i64 a0_4]) (t := 53) ?hr ?_; (case hd => rfl); (case hg => rfl); (case hr => first | (go_simp; done) | (go_simp; rfl)); intro gb453 hg w4 hbox hb; have n0_ := Aside0.mk (bsp bl_ hb); have n1_ := Aside0.mk (hbox); have n2_ := Aside0.mk ((by rw [hg]; exact bsz bl_ : w.heap.size ≤ gb453)); have n3_ := Aside0.mk ((by rw [hg]; exact bsz bl_ : w.heap.size ≤ gb453)); clear HB; have HB := n0_; have BK453 := n1_; have GW453 := n2_; have GE453 := n3_; clear n0_ n1_ n2_ n3_; clear hb hbox hg) | ((with_reducible refine gds (N := 3) rfl ?_); refine bev ?hg (N := 3) ?hd (cs := #[.slice none 0 0]) (t := 78) ?hr ?_; (case hd => rfl); (case hg => rfl); (case hr => first | (go_simp; done) | (go_simp; rfl)); intro gb454 hg w5 hbox hb; have n0_ := Aside0.mk (kbl (g := gb453) (o := .cells #[.int .i64 a0_0, .int .i64 a0_1, .int .i64 a0_2, .string a0_3, .int .i64 a0_4] 53 (0, 0)) bk_ hb); have n1_ := Aside0.mk (bsp bl_ hb); have n2_ := Aside0.mk (hbox); have n3_ := Aside0.mk ((by rw [hg]; exact bsz bl_ : w.heap.size ≤ gb454)); have n4_ := Aside0.mk ((by rw [hg]; exact bsz bl_ : w.heap.size ≤ gb454)); have n5_ := Aside0.mk ((by rw [hg]; exact Nat.ne_of_lt (blk_lt (g := gb453) (o := .cells #[.int .i64 a0_0, .int .i64 a0_1, .int .i64 a0_2, .string a0_3, .int .i64 a0_4] 53 (0, 0)) bk_) : gb453 ≠ gb454)); have n6_ := Aside0.mk ((by rw [hg]; exact Nat.ne_of_gt (blk_lt (g := gb453) (o := .cells #[.int .i64 a0_0, .int .i64 a0_1, .int .i64 a0_2, .string a0_3, .int .i64 a0_4] 53 (0, 0)) bk_) : gb454 ≠ gb453)); have n7_ := Aside0.mk ((IsS78.box hbox (by rw [hg]; exact bsz bl_ : w.heap.size ≤ gb454) : IsS78 w w5 gb454 (⟨#[]⟩ : ByteArray))); clear BK453; clear HB; have BK453 := n0_; have HB := n1_; have BK454 := n2_; have GW454 := n3_; have GE454 := n4_; have NB453_454 := n5_; have NB454_453 := n6_; have HI454 := n7_; clear n0_ n1_ n2_ n3_ n4_ n5_ n6_ n7_; clear hb hbox hg; have hnb6 := NB453_454.out; have hnc6 := NB454_453.out; have hcz7 := bc5 BK453.out) | ((with_reducible refine gds (N := 8) rfl ?_); refine Kd.R_lit (Kd.int .i64) _ 3 ?hg (N := 8) ?hd (xs := ([a0_0, a0_1] : List Int)) (inner := [.int .i64 a0_0, .int .i64 a0_1]) (ok := fun _ => True) (okp := fun _ => True) ?hr ?hp (fun _ hk => hk) trivial (Below.refl _ _) (Nat.le_refl _) (by simp) ?_; (case hd => rfl); (case hg => rfl); (case hr => first | (go_simp; done) | (go_simp; rfl)); (case hp => exact (Reps.one (show Kd.M (Kd.int .i64) _ _ _ a0_0 [.int .i64 a0_0] from rfl) (Reps.one (show Kd.M (Kd.int .i64) _ _ _ a0_1 [.int .i64 a0_1] from rfl) (Reps.none _ _)))); intro v456 w8 ho9 hb hg_ hnew_; clear hg_ hnew_; (first | rw [← Ny455.out] at ho9 | (simp only [Int.reduceToNat] at ho9; rw [← Ny455.out] at ho9)); have n0_ := Aside0.mk (Kd.R_lower ho9 (bsz (by repeat (first | (with_reducible first | exact HB.out | apply bal | apply bdn | apply bd1 | refine bst ?_ (IsS78.ge HI454.out) | refine bst ?_ GE453.out) | exact HB.out)))); have n1_ := Aside0.mk (kbl (g := gb453) (o := .cells #[.int .i64 a0_0, .int .i64 a0_1, .int .i64 a0_2, .string a0_3, .int .i64 a0_4] 53 (0, 0)) bk_ hb); have n2_ := Aside0.mk (IsS78.below (by repeat (first | (with_reducible first | exact HI454.out | apply IsS78.alloc | apply IsS78.drewN | apply IsS78.drew | apply IsS78.set_0 | refine IsS78.farT (p := ⟨gb453, _, none⟩) (t2 := 53) ?_ ?_ (by decide) (by decide) _ | exact OutT.mk BK453.out | refine OutT.set ?_ _ _ _) | exact HI454.out)) hb); have n3_ := Aside0.mk (bsp (by repeat (first | (with_reducible first | exact HB.out | apply bal | apply bdn | apply bd1 | refine bst ?_ (IsS78.ge HI454.out) | refine bst ?_ GE453.out) | exact HB.out)) hb); clear BK453; clear HI454; clear HB; have HO457 := n0_; have BK453 := n1_; have HI454 := n2_; have HB := n3_; clear n0_ n1_ n2_ n3_; clear hb ho9; obtain ⟨Ao10, co10, eo10⟩ := Kd.R_slice HO457.out; subst eo10) | ((with_reducible refine gcl (f := 38) rfl ?_); refine gl_ (some 9) rfl rfl Try.func38 (by kernel_rfl) rfl #[.pointer (some ⟨gb454, 0, none⟩), .slice Ao10 y455.length co10] rfl ar_ ?_; (with_reducible refine (codec_Out_N.calls gb454 (⟨#[]⟩ : ByteArray) _ _ y455 t458 w _ ?side1 ?side2 ?side3 ?side4 ?side5 A2.out).mono ?_); (case side1 => repeat (first | (with_reducible first | exact HI454.out | apply IsS78.alloc | apply IsS78.drewN | apply IsS78.drew | apply IsS78.set_0 | refine IsS78.farT (p := ⟨gb453, _, none⟩) (t2 := 53) ?_ ?_ (by decide) (by decide) _ | exact OutT.mk BK453.out | refine OutT.set ?_ _ _ _) | exact HI454.out)); (case side2 => repeat (first | (with_reducible first | exact HB.out | apply bal | apply bdn | apply bd1 | refine bst ?_ (IsS78.ge HI454.out) | refine bst ?_ GE453.out) | exact HB.out)); (case side3 => repeat (first | exact (Kd.R_reads' HO457.out).2.2 | (with_reducible refine Kd.C_alloc ?_ _) | (with_reducible refine Kd.C_drewN ?_ _) | (with_reducible refine Kd.C_drew ?_))); (case side4 => exact (Kd.R_reads' HO457.out).2.1); (case side5 => exact fun W_ hk_ => (Kd.R_reads' (KeepT.R (by (with_reducible repeat (first | apply Kd.R_alloc | apply Kd.R_drewN | apply Kd.R_drew)); exact HO457.out) hk_ (by decide))).2.2); rintro e w11 ⟨rfl, hi, hb, hk⟩; refine ⟨_, rfl, ?_⟩; have n0_ := Aside0.mk (KeepT.oblk (g := gb453) (o := .cells #[.int .i64 a0_0, .int .i64 a0_1, .int .i64 a0_2, .string a0_3, .int .i64 a0_4] 53 (0, 0)) bk_ hk (by intro _ _ _ h_; cases h_; decide)); have n1_ := Aside0.mk (KeepT.R (by (with_reducible repeat (first | apply Kd.R_alloc | apply Kd.R_drewN | apply Kd.R_drew)); exact HO457.out) hk (by decide)); have n2_ := Aside0.mk (hb); have n3_ := Aside0.mk (hi); clear BK453; clear HO457; clear HB; clear HI454; have BK453 := n0_; have HO457 := n1_; have HB := n2_; have HI454 := n3_; clear n0_ n1_ n2_ n3_; (try clear hb); (try clear hb2); (try clear hk); (try clear hi); have hcz12 := bc5 BK453.out))
  (try simp only [Act.put, List.setIfInBounds_toArray, List.set_cons_zero, List.set_cons_succ])
  have H := HS3.out
  clear HS3
  by_cases c13 : (!(a0_2 == 0) || (!(a0_3.toList == ([] : List UInt8)) || (!(a0_4 == 0)))) = true
  rotate_left
  · rw [if_neg c13] at H
    have c13b0 : (!(a0_2 == 0) || (!(a0_3.toList == ([] : List UInt8)) || (!(a0_4 == 0)))) = false := by simpa using c13
    (try (have c13b1 : (!(a0_2 == 0) || (!a0_3.toList.isEmpty || (!(a0_4 == 0)))) = false := by simpa using c13))
    clear c13
    (first | rw [c13b0] | rw [c13b1] | (simp only [i64_w, i32_w]; rw [c13b0]) | (simp only [i64_w, i32_w]; rw [c13b1]) | rw [c13b2] | skip)
    replace H := Option.bind_eq_some_iff.mp H
    obtain ⟨⟨t463, t464⟩, A220, H⟩ := H
    replace H : ((frame_seal.f k t463).bind fun t465 => (some t465)) = some r := H
    have A22 := Aside0.mk A220
    clear A220
    replace H := Option.bind_eq_some_iff.mp H
    obtain ⟨t465, A230, H⟩ := H
    replace H : (some t465) = some r := H
    have A23 := Aside0.mk A230
    clear A230
    obtain rfl := Option.some.inj H
    go_wp2_with (first | ((with_reducible refine gcl (f := 42) rfl ?_); refine gl_ (some 17) rfl rfl Try.func42 (by kernel_rfl) rfl #[.pointer (some ⟨gb454, 0, none⟩)] rfl ar_ ?_; (with_reducible refine (codec_Out_Text.calls gb454 t458 t463 t464 w _ ?side1 ?side2 A22.out).mono ?_); (case side1 => repeat (first | (with_reducible first | exact HI454.out | apply IsS78.alloc | apply IsS78.drewN | apply IsS78.drew | apply IsS78.set_0 | refine IsS78.farT (p := ⟨gb453, _, none⟩) (t2 := 53) ?_ ?_ (by decide) (by decide) _ | exact OutT.mk BK453.out | refine OutT.set ?_ _ _ _) | exact HI454.out)); (case side2 => repeat (first | (with_reducible first | exact HB.out | apply bal | apply bdn | apply bd1 | refine bst ?_ (IsS78.ge HI454.out) | refine bst ?_ GE453.out) | exact HB.out)); rintro e w24 ⟨rfl, hi, hb, hk⟩; refine ⟨_, rfl, ?_⟩; have n0_ := Aside0.mk (KeepT.oblk (g := gb453) (o := .cells #[.int .i64 a0_0, .int .i64 a0_1, .int .i64 a0_2, .string a0_3, .int .i64 a0_4] 53 (0, 0)) bk_ hk (by intro _ _ _ h_; cases h_; decide)); have n1_ := Aside0.mk (KeepT.R (by (with_reducible repeat (first | apply Kd.R_alloc | apply Kd.R_drewN | apply Kd.R_drew)); exact HO457.out) hk (by decide)); have n2_ := Aside0.mk (hb); have n3_ := Aside0.mk (hi); clear BK453; clear HO457; clear HB; clear HI454; have BK453 := n0_; have HO457 := n1_; have HB := n2_; have HI454 := n3_; clear n0_ n1_ n2_ n3_; (try clear hb); (try clear hb2); (try clear hk); (try clear hi)) | ((with_reducible refine gcl (f := 41) rfl ?_); refine gl_ (some 18) rfl rfl Try.func41 (by kernel_rfl) rfl #[.string t463] rfl ar_ ?_; (with_reducible refine (frame_seal.calls k t463 t465 _ A23.out).mono ?_); rintro e w25 ⟨rfl, hb⟩; refine ⟨_, rfl, ?_⟩; have n0_ := Aside0.mk (Kd.R_below (by (with_reducible repeat (first | apply Kd.R_alloc | apply Kd.R_drewN | apply Kd.R_drew)); exact HO457.out) hb); have n1_ := Aside0.mk (kbl (g := gb453) (o := .cells #[.int .i64 a0_0, .int .i64 a0_1, .int .i64 a0_2, .string a0_3, .int .i64 a0_4] 53 (0, 0)) bk_ hb); have n2_ := Aside0.mk (IsS78.below (by repeat (first | (with_reducible first | exact HI454.out | apply IsS78.alloc | apply IsS78.drewN | apply IsS78.drew | apply IsS78.set_0 | refine IsS78.farT (p := ⟨gb453, _, none⟩) (t2 := 53) ?_ ?_ (by decide) (by decide) _ | exact OutT.mk BK453.out | refine OutT.set ?_ _ _ _) | exact HI454.out)) hb); have n3_ := Aside0.mk (bsp (by repeat (first | (with_reducible first | exact HB.out | apply bal | apply bdn | apply bd1 | refine bst ?_ (IsS78.ge HI454.out) | refine bst ?_ GE453.out) | exact HB.out)) hb); clear HO457; clear BK453; clear HI454; clear HB; have HO457 := n0_; have BK453 := n1_; have HI454 := n2_; have HB := n3_; clear n0_ n1_ n2_ n3_; (try clear hb); (try clear hb2); (try clear hk); (try clear hi)))
    go_ret
    exact ⟨er_, by repeat (first | (with_reducible first | exact HB.out | apply bal | apply bdn | apply bd1 | refine bst ?_ (IsS78.ge HI454.out) | refine bst ?_ GE453.out) | exact HB.out)⟩
  rw [if_pos c13] at H
  have c13b0 : (!(a0_2 == 0) || (!(a0_3.toList == ([] : List UInt8)) || (!(a0_4 == 0)))) = true := c13
  (try (have c13b1 : (!(a0_2 == 0) || (!a0_3.toList.isEmpty || (!(a0_4 == 0)))) = true := by simpa using c13))
  clear c13
  (first | rw [c13b0] | rw [c13b1] | (simp only [i64_w, i32_w]; rw [c13b0]) | (simp only [i64_w, i32_w]; rw [c13b1]) | rw [c13b2] | skip)
  replace H := Option.bind_eq_some_iff.mp H
  obtain ⟨t459, A140, H⟩ := H
  replace H : ((codec_Out_Text.f t459).bind fun bt460 => ((frame_seal.f k bt460.1).bind fun t462 => (some t462))) = some r := H
  have A14 := Aside0.mk A140
  clear A140
  replace H := Option.bind_eq_some_iff.mp H
  obtain ⟨⟨t460, t461⟩, A150, H⟩ := H
  replace H : ((frame_seal.f k t460).bind fun t462 => (some t462)) = some r := H
  have A15 := Aside0.mk A150
  clear A150
  replace H := Option.bind_eq_some_iff.mp H
  obtain ⟨t462, A160, H⟩ := H
  replace H : (some t462) = some r := H
  have A16 := Aside0.mk A160
  clear A160
  obtain rfl := Option.some.inj H
  have hnb17 := NB453_454.out
  have hnc17 := NB454_453.out
  have hcz18 := bc5 BK453.out
  go_wp2_with (first | ((with_reducible refine gcl (f := 54) rfl ?_); refine gl_ (some 16) rfl rfl Try.func54 (by kernel_rfl) rfl #[.agg #[.int .i64 a0_2, .string a0_3, .int .i64 a0_4], .pointer (some ⟨gb454, 0, none⟩)] rfl ar_ ?_; (with_reducible refine (method_Result_Put.calls a0_2 a0_3 a0_4 gb454 t458 t459 w _ ?side1 ?side2 A14.out).mono ?_); (case side1 => repeat (first | (with_reducible first | exact HI454.out | apply IsS78.alloc | apply IsS78.drewN | apply IsS78.drew | apply IsS78.set_0 | refine IsS78.farT (p := ⟨gb453, _, none⟩) (t2 := 53) ?_ ?_ (by decide) (by decide) _ | exact OutT.mk BK453.out | refine OutT.set ?_ _ _ _) | exact HI454.out)); (case side2 => repeat (first | (with_reducible first | exact HB.out | apply bal | apply bdn | apply bd1 | refine bst ?_ (IsS78.ge HI454.out) | refine bst ?_ GE453.out) | exact HB.out)); rintro e w19 ⟨rfl, hi, hb, hk⟩; refine ⟨_, rfl, ?_⟩; have n0_ := Aside0.mk (KeepT.oblk (g := gb453) (o := .cells #[.int .i64 a0_0, .int .i64 a0_1, .int .i64 a0_2, .string a0_3, .int .i64 a0_4] 53 (0, 0)) bk_ hk (by intro _ _ _ h_; cases h_; decide)); have n1_ := Aside0.mk (KeepT.R (by (with_reducible repeat (first | apply Kd.R_alloc | apply Kd.R_drewN | apply Kd.R_drew)); exact HO457.out) hk (by decide)); have n2_ := Aside0.mk (hb); have n3_ := Aside0.mk (hi); clear BK453; clear HO457; clear HB; clear HI454; have BK453 := n0_; have HO457 := n1_; have HB := n2_; have HI454 := n3_; clear n0_ n1_ n2_ n3_; (try clear hb); (try clear hb2); (try clear hk); (try clear hi)) | ((with_reducible refine gcl (f := 42) rfl ?_); refine gl_ (some 17) rfl rfl Try.func42 (by kernel_rfl) rfl #[.pointer (some ⟨gb454, 0, none⟩)] rfl ar_ ?_; (with_reducible refine (codec_Out_Text.calls gb454 t459 t460 t461 w _ ?side1 ?side2 A15.out).mono ?_); (case side1 => repeat (first | (with_reducible first | exact HI454.out | apply IsS78.alloc | apply IsS78.drewN | apply IsS78.drew | apply IsS78.set_0 | refine IsS78.farT (p := ⟨gb453, _, none⟩) (t2 := 53) ?_ ?_ (by decide) (by decide) _ | exact OutT.mk BK453.out | refine OutT.set ?_ _ _ _) | exact HI454.out)); (case side2 => repeat (first | (with_reducible first | exact HB.out | apply bal | apply bdn | apply bd1 | refine bst ?_ (IsS78.ge HI454.out) | refine bst ?_ GE453.out) | exact HB.out)); rintro e w20 ⟨rfl, hi, hb, hk⟩; refine ⟨_, rfl, ?_⟩; have n0_ := Aside0.mk (KeepT.oblk (g := gb453) (o := .cells #[.int .i64 a0_0, .int .i64 a0_1, .int .i64 a0_2, .string a0_3, .int .i64 a0_4] 53 (0, 0)) bk_ hk (by intro _ _ _ h_; cases h_; decide)); have n1_ := Aside0.mk (KeepT.R (by (with_reducible repeat (first | apply Kd.R_alloc | apply Kd.R_drewN | apply Kd.R_drew)); exact HO457.out) hk (by decide)); have n2_ := Aside0.mk (hb); have n3_ := Aside0.mk (hi); clear BK453; clear HO457; clear HB; clear HI454; have BK453 := n0_; have HO457 := n1_; have HB := n2_; have HI454 := n3_; clear n0_ n1_ n2_ n3_; (try clear hb); (try clear hb2); (try clear hk); (try clear hi)) | ((with_reducible refine gcl (f := 41) rfl ?_); refine gl_ (some 18) rfl rfl Try.func41 (by kernel_rfl) rfl #[.string t460] rfl ar_ ?_; (with_reducible refine (frame_seal.calls k t460 t462 _ A16.out).mono ?_); rintro e w21 ⟨rfl, hb⟩; refine ⟨_, rfl, ?_⟩; have n0_ := Aside0.mk (Kd.R_below (by (with_reducible repeat (first | apply Kd.R_alloc | apply Kd.R_drewN | apply Kd.R_drew)); exact HO457.out) hb); have n1_ := Aside0.mk (kbl (g := gb453) (o := .cells #[.int .i64 a0_0, .int .i64 a0_1, .int .i64 a0_2, .string a0_3, .int .i64 a0_4] 53 (0, 0)) bk_ hb); have n2_ := Aside0.mk (IsS78.below (by repeat (first | (with_reducible first | exact HI454.out | apply IsS78.alloc | apply IsS78.drewN | apply IsS78.drew | apply IsS78.set_0 | refine IsS78.farT (p := ⟨gb453, _, none⟩) (t2 := 53) ?_ ?_ (by decide) (by decide) _ | exact OutT.mk BK453.out | refine OutT.set ?_ _ _ _) | exact HI454.out)) hb); have n3_ := Aside0.mk (bsp (by repeat (first | (with_reducible first | exact HB.out | apply bal | apply bdn | apply bd1 | refine bst ?_ (IsS78.ge HI454.out) | refine bst ?_ GE453.out) | exact HB.out)) hb); clear HO457; clear BK453; clear HI454; clear HB; have HO457 := n0_; have BK453 := n1_; have HI454 := n2_; have HB := n3_; clear n0_ n1_ n2_ n3_; (try clear hb); (try clear hb2); (try clear hk); (try clear hi)))
  go_ret
  exact ⟨er_, by repeat (first | (with_reducible first | exact HB.out | apply bal | apply bdn | apply bd1 | refine bst ?_ (IsS78.ge HI454.out) | refine bst ?_ GE453.out) | exact HB.out)⟩
end Go.Proofs.Ytkkkmbgflflcnaa.PS

