import Derived.Test.YtkoojbkkkpljoaaQReaPAx0
import Derived.Test.YtkoojbkkkpljoaaQReaPAx5
import Derived.Test.YtkoojbkkkpljoaaQReaPAx6
namespace Go.Proofs.Ytkoojbkkkpljoaa.PA
open Go.Proofs.Ytkoojbkkkpljoaa.PL
open Go.RowKit Go.Proofs.YtkoojbkkkpljoaaW.PrintWords Go.Proofs.YtkoojbkkkpljoaaW.PrintLast Go.Proofs.YtkoojbkkkpljoaaW.PrintMore
attribute [local go_sem] max2_int min2_int max_two min_two max_three min_three max_four min_four
set_option linter.unusedVariables false
set_option linter.unusedSimpArgs false
def method_Call_Put.f (a0_0 : Int) (a0_1 : ByteArray) (a0_2 : ByteArray) (a0_3 : Int) (s1_0 : ByteArray) : Option (ByteArray) := (codec_Out_N.f s1_0 (([a0_0] : List Int))).bind fun t135 => ((codec_Out_S.f t135 (([a0_1, a0_2] : List ByteArray))).bind fun t139 => ((codec_Out_I.f t139 (([a0_3] : List Int))).bind fun t143 => (some t143)))
def method_Call_Put.T1 : Bool × List (List Nat × List Nat) := (true, [([], []), ([], []), ([1], [1]), ([2], [2]), ([0, 3], [0, 3]), ([], []), ([5], [5]), ([], []), ([7], [7]), ([6, 8], [6, 8]), ([4, 9, 4], [4, 9]), ([], []), ([11], [11]), ([12], [12]), ([10, 13, 10], [10, 13])])
def method_Call_Put.B1 : List Nat := [0, 0, 2, 6, 15, 0, 32, 0, 128, 480, 1023, 0, 2048, 6144, 16383]
theorem method_Call_Put.tab1 : rtab .any (opsOf Try.f23 1) = method_Call_Put.T1 := by kernel_rfl
theorem method_Call_Put.bits1 : waitsOk method_Call_Put.T1.2 method_Call_Put.B1 = true := by kernel_rfl
set_option maxHeartbeats 2000000 in
set_option maxRecDepth 100000 in
theorem method_Call_Put.calls (a0_0 : Int) (a0_1 : ByteArray) (a0_2 : ByteArray) (a0_3 : Int) (g : Nat) (s1_0 : ByteArray) (r : ByteArray) (w0 w : World) (hI : IsS50 w0 w g s1_0) (hB : Below w0.heap.size w0 w) (h : method_Call_Put.f a0_0 a0_1 a0_2 a0_3 s1_0 = some r) :
    Calls Try.prog 23 #[.agg #[.int .i64 a0_0, .string a0_1, .string a0_2, .int .i64 a0_3], .pointer (some ⟨g, 0, none⟩)] w fun e w' => e = .returned (.tuple #[]) ∧ IsS50 w0 w' g r ∧ Below w0.heap.size w0 w' ∧ KeepT w w' [50, 5] := by
  have hu27 := Try.underlying27
  have HI1 := Aside0.mk hI
  have HK := Aside0.mk (KeepT.refl w [50, 5])
  have HL := Aside0.mk hB.size
  clear hI
  have HW0 := Aside0.mk hB.size
  have HB := Aside0.mk hB
  clear hB
  have H : ((codec_Out_N.f s1_0 (([a0_0] : List Int))).bind fun t135 => ((codec_Out_S.f t135 (([a0_1, a0_2] : List ByteArray))).bind fun t139 => ((codec_Out_I.f t139 (([a0_3] : List Int))).bind fun t143 => (some t143)))) = some r := h
  clear h
  obtain ⟨y132, hy132⟩ : ∃ y_ : List Int, y_ = (([a0_0] : List Int)) := ⟨_, rfl⟩
  replace H : ((codec_Out_N.f s1_0 y132).bind fun t135 => ((codec_Out_S.f t135 (([a0_1, a0_2] : List ByteArray))).bind fun t139 => ((codec_Out_I.f t139 (([a0_3] : List Int))).bind fun t143 => (some t143)))) = some r := by first | (rw [hy132]; with_reducible exact H) | (have H2_ := (Option.bind_some _ _).symm.trans H; rw [hy132]; with_reducible exact H2_) | (have H2_ := (Option.bind_some _ _).symm.trans H; with_reducible exact H2_) | with_reducible exact H | (rw [hy132]; exact H) | exact H
  have Ny132 := Aside0.mk hy132
  clear hy132
  replace H := Option.bind_eq_some_iff.mp H
  obtain ⟨t135, A30, H⟩ := H
  replace H : ((codec_Out_S.f t135 (([a0_1, a0_2] : List ByteArray))).bind fun t139 => ((codec_Out_I.f t139 (([a0_3] : List Int))).bind fun t143 => (some t143))) = some r := H
  have A3 := Aside0.mk A30
  clear A30
  obtain ⟨y136, hy136⟩ : ∃ y_ : List ByteArray, y_ = (([a0_1, a0_2] : List ByteArray)) := ⟨_, rfl⟩
  replace H : ((codec_Out_S.f t135 y136).bind fun t139 => ((codec_Out_I.f t139 (([a0_3] : List Int))).bind fun t143 => (some t143))) = some r := by first | (rw [hy136]; with_reducible exact H) | (have H2_ := (Option.bind_some _ _).symm.trans H; rw [hy136]; with_reducible exact H2_) | (have H2_ := (Option.bind_some _ _).symm.trans H; with_reducible exact H2_) | with_reducible exact H | (rw [hy136]; exact H) | exact H
  have Ny136 := Aside0.mk hy136
  clear hy136
  replace H := Option.bind_eq_some_iff.mp H
  obtain ⟨t139, A40, H⟩ := H
  replace H : ((codec_Out_I.f t139 (([a0_3] : List Int))).bind fun t143 => (some t143)) = some r := H
  have A4 := Aside0.mk A40
  clear A40
  obtain ⟨y140, hy140⟩ : ∃ y_ : List Int, y_ = (([a0_3] : List Int)) := ⟨_, rfl⟩
  replace H : ((codec_Out_I.f t139 y140).bind fun t143 => (some t143)) = some r := by first | (rw [hy140]; with_reducible exact H) | (have H2_ := (Option.bind_some _ _).symm.trans H; rw [hy140]; with_reducible exact H2_) | (have H2_ := (Option.bind_some _ _).symm.trans H; with_reducible exact H2_) | with_reducible exact H | (rw [hy140]; exact H) | exact H
  have Ny140 := Aside0.mk hy140
  clear hy140
  replace H := Option.bind_eq_some_iff.mp H
  obtain ⟨t143, A50, H⟩ := H
  replace H : (some t143) = some r := H
  have A5 := Aside0.mk A50
  clear A50
  obtain rfl := Option.some.inj H
  go_enter Try.func23, Try.ntmps23
  try go_wp2_with (first | ((with_reducible refine gds (N := 2) rfl ?_); refine bev ?hg (N := 2) ?hd (cs := #[.int .i64 a0_0, .string a0_1, .string a0_2, .int .i64 a0_3]) (t := 27) ?hr ?_; (case hd => rfl); (case hg => rfl); (case hr => first | (go_simp; done) | (go_simp; rfl)); intro gb131 hg w6 hbox hb; have n0_ := Aside0.mk (IsS50.below (by repeat (first | (with_reducible first | exact HI1.out | apply IsS50.alloc | apply IsS50.drewN | apply IsS50.drew | apply IsS50.set_0) | exact HI1.out)) hb); have n1_ := Aside0.mk (KeepT.trans (by repeat (first | (with_reducible first | exact HK.out | fail | apply etn | apply etw | apply eta) | exact HK.out)) (KeepT.of_below hb)); have n2_ := Aside0.mk (bsp (by repeat (first | (with_reducible first | exact HB.out | apply bal | apply bdn | apply bd1 | refine bst ?_ (IsS50.ge HI1.out)) | exact HB.out)) hb); have n3_ := Aside0.mk (hbox); have n4_ := Aside0.mk ((by rw [hg]; exact (KeepT.size (w := w) (ts := [50, 5]) (by repeat (first | (with_reducible first | exact HK.out | fail | apply etn | apply etw | apply eta) | exact HK.out))) : w.heap.size ≤ gb131)); have n5_ := Aside0.mk ((Nat.le_trans HW0.out (by rw [hg]; exact (KeepT.size (w := w) (ts := [50, 5]) (by repeat (first | (with_reducible first | exact HK.out | fail | apply etn | apply etw | apply eta) | exact HK.out))) : w.heap.size ≤ gb131) : w0.heap.size ≤ gb131)); have n6_ := Aside0.mk ((by rw [hg]; exact Nat.ne_of_lt (IsS50.lt (show IsS50 w0 _ g s1_0 from by repeat (first | (with_reducible first | exact HI1.out | apply IsS50.alloc | apply IsS50.drewN | apply IsS50.drew | apply IsS50.set_0) | exact HI1.out))) : g ≠ gb131)); have n7_ := Aside0.mk ((by rw [hg]; exact Nat.ne_of_gt (IsS50.lt (show IsS50 w0 _ g s1_0 from by repeat (first | (with_reducible first | exact HI1.out | apply IsS50.alloc | apply IsS50.drewN | apply IsS50.drew | apply IsS50.set_0) | exact HI1.out))) : gb131 ≠ g)); clear HI1; clear HK; clear HB; have HI1 := n0_; have HK := n1_; have HB := n2_; have BK131 := n3_; have GW131 := n4_; have GE131 := n5_; have NB1_131 := n6_; have NB131_1 := n7_; clear n0_ n1_ n2_ n3_ n4_ n5_ n6_ n7_; clear hb hbox hg))
  have n0_ := Aside0.mk (kdw BK131.out)
  have n1_ := Aside0.mk (IsS50.drew HI1.out)
  have n2_ := Aside0.mk (etw HK.out)
  have n3_ := Aside0.mk (bd1 HB.out)
  clear BK131
  clear HI1
  clear HK
  clear HB
  have BK131 := n0_
  have HI1 := n1_
  have HK := n2_
  have HB := n3_
  clear n0_ n1_ n2_ n3_
  refine start_ (n := 15) (S := fun w' => True) (ds := []) #[false,false,false,false,false,false,false,false,false,false,false,false,false,false,false] (by kernel_rfl) rfl rfl trivial (fun hHeld => ?_); refine with_tabW method_Call_Put.tab1 method_Call_Put.bits1 (fun HT_ HW_ => ?_)
  generalize w6.drew = w7 at BK131 HI1 HK HB hHeld ⊢
  refine pure_ (i := 0) (N := some 4) (v := ?_) (a' := ?_) (bA 15 1) rfl rfl (any_of HT_.out (by kernel_rfl)) (fun _ _ _ h => h) (Or.inl ⟨by rfl, ?_⟩) ?_ ?_
  rotate_left; (intro w'; go_simp; with_reducible rfl); rotate_left; (simp only [Act.put, List.setIfInBounds_toArray, List.set_cons_zero, List.set_cons_succ, i64_w, i32_w]; rfl)
  refine pure_ (i := 1) (N := some 5) (v := ?_) (a' := ?_) (bA 15 3) rfl rfl (any_of HT_.out (by kernel_rfl)) (fun _ _ _ h => h) (Or.inl ⟨by rfl, ?_⟩) ?_ ?_
  rotate_left; (intro w'; go_simp; with_reducible rfl); rotate_left; (simp only [Act.put, List.setIfInBounds_toArray, List.set_cons_zero, List.set_cons_succ, i64_w, i32_w]; rfl)
  refine pure_ (i := 5) (N := some 9) (v := ?_) (a' := ?_) (bA 15 35) rfl rfl (any_of HT_.out (by kernel_rfl)) (fun _ _ _ h => h) (Or.inl ⟨by rfl, ?_⟩) ?_ ?_
  rotate_left; (intro w'; go_simp; with_reducible rfl); rotate_left; (simp only [Act.put, List.setIfInBounds_toArray, List.set_cons_zero, List.set_cons_succ, i64_w, i32_w]; rfl)
  refine pure_ (i := 7) (N := some 11) (v := ?_) (a' := ?_) (bA 15 163) rfl rfl (any_of HT_.out (by kernel_rfl)) (fun _ _ _ h => h) (Or.inl ⟨by rfl, ?_⟩) ?_ ?_
  rotate_left; (intro w'; go_simp; with_reducible rfl); rotate_left; (simp only [Act.put, List.setIfInBounds_toArray, List.set_cons_zero, List.set_cons_succ, i64_w, i32_w]; rfl)
  refine pure_ (i := 11) (N := some 15) (v := ?_) (a' := ?_) (bA 15 2211) rfl rfl (any_of HT_.out (by kernel_rfl)) (fun _ _ _ h => h) (Or.inl ⟨by rfl, ?_⟩) ?_ ?_
  rotate_left; (intro w'; go_simp; with_reducible rfl); rotate_left; (simp only [Act.put, List.setIfInBounds_toArray, List.set_cons_zero, List.set_cons_succ, i64_w, i32_w]; rfl)
  refine inv_at [2, 3, 4, 6, 8, 9, 10, 12, 13, 14] (fun a0_ b a w' => ∃ (v133 : Value) (v137 : Value) (v141 : Value), a = putSel a0_ b [(2, 6, .int .i64 a0_0), (3, 7, v133), (4, 8, .pointer (some ⟨g, 0, none⟩)), (6, 10, .string a0_1), (8, 12, .string a0_2), (9, 13, v137), (10, 14, .pointer (some ⟨g, 0, none⟩)), (12, 16, .int .i64 a0_3), (13, 17, v141), (14, 18, .pointer (some ⟨g, 0, none⟩))] ∧ (w'.heap[gb131]? = some (.cells #[.int .i64 a0_0, .string a0_1, .string a0_2, .int .i64 a0_3] 27 (0, 0))) ∧ (b 4 = false → IsS50 w0 w' g s1_0) ∧ (KeepT w w' [50, 5]) ∧ (Below w0.heap.size w0 w') ∧ (b 3 = true → Kd.R (Kd.int .i64) 3 w' w.heap.size (fun _ => True) v133 y132) ∧ (b 4 = true → b 10 = false → IsS50 w0 w' g t135) ∧ (b 9 = true → Kd.R Kd.string 9 w' w.heap.size (fun _ => True) v137 y136) ∧ (b 10 = true → b 14 = false → IsS50 w0 w' g t139) ∧ (b 13 = true → Kd.R (Kd.int .i64) 2 w' w.heap.size (fun _ => True) v141 y140) ∧ (b 14 = true → IsS50 w0 w' g t143)) HT_.out HW_.out (by kernel_rfl) (by kernel_rfl) ?_ ?_ ?_
  · exact ⟨.bool false, .bool false, .bool false, by simp only [putSel, Bool.false_eq_true, if_false], BK131.out, fun _ => HI1.out, HK.out, HB.out, fun h_ => absurd h_ (by decide), fun h_ => absurd h_ (by decide), fun h_ => absurd h_ (by decide), fun h_ => absurd h_ (by decide), fun h_ => absurd h_ (by decide), fun h_ => absurd h_ (by decide)⟩
  · skip
    clear BK131 HB HI1 HK
    refine steps_cons ?_ ?_
    · rintro b a w' ⟨v133, v137, v141, ha, Q_BK131, Q_HI1, Q_HK, Q_HB, Q_HO134, Q_HI1_e4, Q_HO138, Q_HI1_e10, Q_HO142, Q_HI1_e14⟩ hb_ hon hoff
      refine ⟨_, rfl, fun K hK => ?_⟩
      have e5 : a.tmps[5]? = some (.pointer (some ⟨gb131, 0, none⟩)) := by rw [ha]; exact (putSel_off rfl).trans rfl
      replace ha := Aside0.mk ha
      have BK131 := Aside0.mk Q_BK131
      have HI1 := Aside0.mk (Q_HI1 (hoff 4 (by kernel_rfl)))
      have HK := Aside0.mk Q_HK
      have HB := Aside0.mk Q_HB
      have hc0_ : w'.cell? ⟨gb131, 0, none⟩ = some (.int .i64 a0_0) := (kcl BK131.out 0).trans rfl
      have hc1_ : w'.cell? ⟨gb131, 1, none⟩ = some (.string a0_1) := (kcl BK131.out 1).trans rfl
      have hc2_ : w'.cell? ⟨gb131, 2, none⟩ = some (.string a0_2) := (kcl BK131.out 2).trans rfl
      have hc3_ : w'.cell? ⟨gb131, 3, none⟩ = some (.int .i64 a0_3) := (kcl BK131.out 3).trans rfl
      refine value_ (w1 := w') (v := .int .i64 a0_0) (by rfl) rfl ?_ ?_
      · go_simp
        (try simp only [i64_w])
        try rfl
      refine hK.out _ _ ⟨v133, v137, v141, (by rw [ha.out]; exact putSel_upk 0 hb_ rfl rfl rfl), Q_BK131, Q_HI1, Q_HK, Q_HB, fun h0_ => absurd ((hoff 3 (by kernel_rfl)).symm.trans h0_) (by decide), fun h0_ _ => absurd ((hoff 4 (by kernel_rfl)).symm.trans h0_) (by decide), Q_HO138, fun h0_ _ => absurd ((hoff 10 (by kernel_rfl)).symm.trans h0_) (by decide), Q_HO142, fun h0_ => absurd ((hoff 14 (by kernel_rfl)).symm.trans h0_) (by decide)⟩
    refine steps_cons ?_ ?_
    · rintro b a w' ⟨v133, v137, v141, ha, Q_BK131, Q_HI1, Q_HK, Q_HB, Q_HO134, Q_HI1_e4, Q_HO138, Q_HI1_e10, Q_HO142, Q_HI1_e14⟩ hb_ hon hoff
      refine ⟨_, rfl, fun K hK => ?_⟩
      have e6 : a.tmps[6]? = some (.int .i64 a0_0) := by rw [ha]; exact putSel_on (e := (2, 6, .int .i64 a0_0)) 0 rfl rfl (hon 2 (by kernel_rfl)) rfl
      replace ha := Aside0.mk ha
      have BK131 := Aside0.mk Q_BK131
      have HI1 := Aside0.mk (Q_HI1 (hoff 4 (by kernel_rfl)))
      have HK := Aside0.mk Q_HK
      have HB := Aside0.mk Q_HB
      refine Kd.R_lit_step (Kd.int .i64) _ 3 ?hg (N := 7) ?hd (xs := ([a0_0] : List Int)) (inner := [.int .i64 a0_0]) (ok := fun _ => True) (okp := fun _ => True) ?hr ?hp (fun _ hk => hk) trivial (Below.refl _ _) (Nat.le_refl _) (by simp) ?_; (case hd => rfl); (case hg => rfl); (case hr => first | (go_simp; done) | (go_simp; rfl)); (case hp => exact (Reps.one (show Kd.M (Kd.int .i64) _ _ _ a0_0 [.int .i64 a0_0] from rfl) (Reps.none _ _)))
      intro v133 w8 ho9 hb hg_ hnew_
      clear hg_ hnew_
      (first | rw [← Ny132.out] at ho9 | (simp only [Int.reduceToNat] at ho9; rw [← Ny132.out] at ho9))
      have n0_ := Aside0.mk (Kd.R_lower ho9 (KeepT.size (w := w) (ts := [50, 5]) (by repeat (first | (with_reducible first | exact HK.out | fail | apply etn | apply etw | apply eta | refine keepT_far ?_ GW131.out _) | exact HK.out))))
      have n1_ := Aside0.mk (IsS50.below (by repeat (first | (with_reducible first | exact HI1.out | apply IsS50.alloc | apply IsS50.drewN | apply IsS50.drew | apply IsS50.set_0 | refine IsS50.farT (p := ⟨gb131, _, none⟩) (t2 := 27) ?_ ?_ (by decide) (by decide) _ | exact OutT.mk BK131.out | refine OutT.set ?_ _ _ _) | exact HI1.out)) hb)
      have n2_ := Aside0.mk (kbl (g := gb131) (o := .cells #[.int .i64 a0_0, .string a0_1, .string a0_2, .int .i64 a0_3] 27 (0, 0)) (by (with_reducible repeat (first | refine kdn ?_ _ | refine kdw ?_ | refine kal ?_ _)); exact BK131.out) hb)
      have n3_ := Aside0.mk (KeepT.trans (by repeat (first | (with_reducible first | exact HK.out | fail | apply etn | apply etw | apply eta | refine keepT_far ?_ GW131.out _) | exact HK.out)) (KeepT.of_below hb))
      have n4_ := Aside0.mk (bsp (by repeat (first | (with_reducible first | exact HB.out | apply bal | apply bdn | apply bd1 | refine bst ?_ (IsS50.ge HI1.out) | refine bst ?_ GE131.out) | exact HB.out)) hb)
      have z_HO138 := fun (h0_ : b 9 = true) => (show Kd.R Kd.string 9 w8 w.heap.size (fun _ => True) v137 y136 from by first | exact (Kd.R_below (by (with_reducible repeat (first | apply Kd.R_alloc | apply Kd.R_drewN | apply Kd.R_drew)); exact (Q_HO138 h0_)) hb) | exact Kd.R_mono (Kd.R_below (by (with_reducible repeat (first | apply Kd.R_alloc | apply Kd.R_drewN | apply Kd.R_drew)); exact (Q_HO138 h0_)) hb) (fun _ h_ => by first | trivial | exact h_ | exact h_.1))
      have z_HO142 := fun (h0_ : b 13 = true) => (show Kd.R (Kd.int .i64) 2 w8 w.heap.size (fun _ => True) v141 y140 from by first | exact (Kd.R_below (by (with_reducible repeat (first | apply Kd.R_alloc | apply Kd.R_drewN | apply Kd.R_drew)); exact (Q_HO142 h0_)) hb) | exact Kd.R_mono (Kd.R_below (by (with_reducible repeat (first | apply Kd.R_alloc | apply Kd.R_drewN | apply Kd.R_drew)); exact (Q_HO142 h0_)) hb) (fun _ h_ => by first | trivial | exact h_ | exact h_.1))
      clear HI1
      clear BK131
      clear HK
      clear HB
      have HO134 := n0_
      have HI1 := n1_
      have BK131 := n2_
      have HK := n3_
      have HB := n4_
      clear n0_ n1_ n2_ n3_ n4_
      clear hb ho9
      refine hK.out _ _ ⟨v133, v137, v141, (by rw [ha.out]; exact putSel_upk 1 hb_ rfl rfl rfl), (by (with_reducible repeat (first | refine kdn ?_ _ | refine kdw ?_ | refine kal ?_ _)); exact BK131.out), fun _ => (by repeat (first | (with_reducible first | exact HI1.out | apply IsS50.alloc | apply IsS50.drewN | apply IsS50.drew | apply IsS50.set_0 | refine IsS50.farT (p := ⟨gb131, _, none⟩) (t2 := 27) ?_ ?_ (by decide) (by decide) _ | exact OutT.mk BK131.out | refine OutT.set ?_ _ _ _) | exact HI1.out)), (by repeat (first | (with_reducible first | exact HK.out | fail | apply etn | apply etw | apply eta | refine keepT_far ?_ GW131.out _) | exact HK.out)), (by repeat (first | (with_reducible first | exact HB.out | apply bal | apply bdn | apply bd1 | refine bst ?_ (IsS50.ge HI1.out) | refine bst ?_ GE131.out) | exact HB.out)), fun _ => (by (with_reducible repeat (first | apply Kd.R_alloc | apply Kd.R_drewN | apply Kd.R_drew)); exact HO134.out), fun h0_ _ => absurd ((hoff 4 (by kernel_rfl)).symm.trans h0_) (by decide), z_HO138, fun h0_ _ => absurd ((hoff 10 (by kernel_rfl)).symm.trans h0_) (by decide), z_HO142, fun h0_ => absurd ((hoff 14 (by kernel_rfl)).symm.trans h0_) (by decide)⟩
    refine steps_cons ?_ ?_
    · rintro b a w' ⟨v133, v137, v141, ha, Q_BK131, Q_HI1, Q_HK, Q_HB, Q_HO134, Q_HI1_e4, Q_HO138, Q_HI1_e10, Q_HO142, Q_HI1_e14⟩ hb_ hon hoff
      refine ⟨_, rfl, fun K hK => ?_⟩
      have e4 : a.tmps[4]? = some (.pointer (some ⟨g, 0, none⟩)) := by rw [ha]; exact (putSel_off rfl).trans rfl
      have e7 : a.tmps[7]? = some (v133) := by rw [ha]; exact putSel_on (e := (3, 7, v133)) 1 rfl rfl (hon 3 (by kernel_rfl)) rfl
      replace ha := Aside0.mk ha
      have BK131 := Aside0.mk Q_BK131
      have HI1 := Aside0.mk (Q_HI1 hb_)
      have HK := Aside0.mk Q_HK
      have HB := Aside0.mk Q_HB
      have HO134 := Aside0.mk (Q_HO134 (hon 3 (by kernel_rfl)))
      obtain ⟨Ao11, co11, eo11⟩ := Kd.R_slice HO134.out
      (first | subst eo11 | (injection eo11 with f1_ f2_ f3_; have f4_ := f1_.symm; have f5_ := f3_.symm; clear f1_ f2_ f3_; subst f4_; subst f5_))
      refine goes_ Try.func42 (by kernel_rfl) rfl #[.pointer (some ⟨g, 0, none⟩), .slice Ao11 y132.length co11] (by rfl) rfl rfl (by (try simp only [List.map_toArray, List.map_cons, List.map_nil]); first | done | rfl | (simp only [List.length_drop, List.length_take]; rfl) | (simp only [Act.eval, Array.getD_eq_getD_getElem?, Option.getD_some, *]; done) | (simp only [Array.mk.injEq, List.cons.injEq, Value.int.injEq, true_and, and_true]; first | omega | (simp [IntKind.wrap, IntKind.bits, IntKind.signed]; omega))) ?_
      with_reducible refine (codec_Out_N.calls g s1_0 _ _ y132 t135 w0 _ ?side1 ?side2 ?side3 ?side4 ?side5 A3.out).mono ?_
      (case side1 => repeat (first | (with_reducible first | exact HI1.out | apply IsS50.alloc | apply IsS50.drewN | apply IsS50.drew | apply IsS50.set_0 | refine IsS50.farT (p := ⟨gb131, _, none⟩) (t2 := 27) ?_ ?_ (by decide) (by decide) _ | exact OutT.mk BK131.out | refine OutT.set ?_ _ _ _) | exact HI1.out))
      (case side2 => repeat (first | (with_reducible first | exact HB.out | apply bal | apply bdn | apply bd1 | refine bst ?_ (IsS50.ge HI1.out) | refine bst ?_ GE131.out) | exact HB.out))
      (case side3 => repeat (first | exact (Kd.R_reads' HO134.out).2.2 | (with_reducible refine Kd.C_alloc ?_ _) | (with_reducible refine Kd.C_drewN ?_ _) | (with_reducible refine Kd.C_drew ?_)))
      (case side4 => exact (Kd.R_reads' HO134.out).2.1)
      (case side5 => exact fun W_ hk_ => (Kd.R_reads' (KeepT.R (by (with_reducible repeat (first | apply Kd.R_alloc | apply Kd.R_drewN | apply Kd.R_drew)); exact HO134.out) hk_ (by decide))).2.2)
      rintro e w12 ⟨rfl, hi, hb, hk⟩
      refine ⟨_, rfl, ?_⟩
      have n0_ := Aside0.mk (KeepT.oblk (g := gb131) (o := .cells #[.int .i64 a0_0, .string a0_1, .string a0_2, .int .i64 a0_3] 27 (0, 0)) (by (with_reducible repeat (first | refine kdn ?_ _ | refine kdw ?_ | refine kal ?_ _)); exact BK131.out) hk (by intro _ _ _ h_; cases h_; decide))
      have n1_ := Aside0.mk (KeepT.R (by (with_reducible repeat (first | apply Kd.R_alloc | apply Kd.R_drewN | apply Kd.R_drew)); exact HO134.out) hk (by decide))
      have n2_ := Aside0.mk (KeepT.trans (by repeat (first | (with_reducible first | exact HK.out | fail | apply etn | apply etw | apply eta | refine keepT_far ?_ GW131.out _) | exact HK.out)) hk)
      have n3_ := Aside0.mk (hb)
      have n4_ := Aside0.mk (hi)
      have z_HO138 := fun (h0_ : b 9 = true) => (show Kd.R Kd.string 9 w12 w.heap.size (fun _ => True) v137 y136 from by first | exact (KeepT.R (by (with_reducible repeat (first | apply Kd.R_alloc | apply Kd.R_drewN | apply Kd.R_drew)); exact (Q_HO138 h0_)) hk (by decide)) | exact Kd.R_mono (KeepT.R (by (with_reducible repeat (first | apply Kd.R_alloc | apply Kd.R_drewN | apply Kd.R_drew)); exact (Q_HO138 h0_)) hk (by decide)) (fun _ h_ => by first | trivial | exact h_ | exact h_.1))
      have z_HO142 := fun (h0_ : b 13 = true) => (show Kd.R (Kd.int .i64) 2 w12 w.heap.size (fun _ => True) v141 y140 from by first | exact (KeepT.R (by (with_reducible repeat (first | apply Kd.R_alloc | apply Kd.R_drewN | apply Kd.R_drew)); exact (Q_HO142 h0_)) hk (by decide)) | exact Kd.R_mono (KeepT.R (by (with_reducible repeat (first | apply Kd.R_alloc | apply Kd.R_drewN | apply Kd.R_drew)); exact (Q_HO142 h0_)) hk (by decide)) (fun _ h_ => by first | trivial | exact h_ | exact h_.1))
      clear BK131
      clear HO134
      clear HK
      clear HB
      clear HI1
      have BK131 := n0_
      have HO134 := n1_
      have HK := n2_
      have HB := n3_
      have HI1 := n4_
      clear n0_ n1_ n2_ n3_ n4_
      (try clear hb)
      (try clear hb2)
      (try clear hk)
      (try clear hi)
      refine hK.out _ _ ⟨.slice Ao11 y132.length co11, v137, v141, (by rw [ha.out]; exact putSel_upk 2 hb_ rfl rfl rfl), (by (with_reducible repeat (first | refine kdn ?_ _ | refine kdw ?_ | refine kal ?_ _)); exact BK131.out), fun h0_ => absurd ((up_self b 4).symm.trans h0_) (by decide), (by repeat (first | (with_reducible first | exact HK.out | fail | apply etn | apply etw | apply eta | refine keepT_far ?_ GW131.out _) | exact HK.out)), (by repeat (first | (with_reducible first | exact HB.out | apply bal | apply bdn | apply bd1 | refine bst ?_ (IsS50.ge HI1.out) | refine bst ?_ GE131.out) | exact HB.out)), fun _ => (by (with_reducible repeat (first | apply Kd.R_alloc | apply Kd.R_drewN | apply Kd.R_drew)); exact HO134.out), fun _ _ => (by repeat (first | (with_reducible first | exact HI1.out | apply IsS50.alloc | apply IsS50.drewN | apply IsS50.drew | apply IsS50.set_0 | refine IsS50.farT (p := ⟨gb131, _, none⟩) (t2 := 27) ?_ ?_ (by decide) (by decide) _ | exact OutT.mk BK131.out | refine OutT.set ?_ _ _ _) | exact HI1.out)), z_HO138, fun h0_ _ => absurd ((hoff 10 (by kernel_rfl)).symm.trans h0_) (by decide), z_HO142, fun h0_ => absurd ((hoff 14 (by kernel_rfl)).symm.trans h0_) (by decide)⟩
    refine steps_cons ?_ ?_
    · rintro b a w' ⟨v133, v137, v141, ha, Q_BK131, Q_HI1, Q_HK, Q_HB, Q_HO134, Q_HI1_e4, Q_HO138, Q_HI1_e10, Q_HO142, Q_HI1_e14⟩ hb_ hon hoff
      refine ⟨_, rfl, fun K hK => ?_⟩
      have e9 : a.tmps[9]? = some (.pointer (some ⟨gb131, 1, none⟩)) := by rw [ha]; exact (putSel_off rfl).trans rfl
      replace ha := Aside0.mk ha
      have BK131 := Aside0.mk Q_BK131
      have HK := Aside0.mk Q_HK
      have HB := Aside0.mk Q_HB
      have hc0_ : w'.cell? ⟨gb131, 0, none⟩ = some (.int .i64 a0_0) := (kcl BK131.out 0).trans rfl
      have hc1_ : w'.cell? ⟨gb131, 1, none⟩ = some (.string a0_1) := (kcl BK131.out 1).trans rfl
      have hc2_ : w'.cell? ⟨gb131, 2, none⟩ = some (.string a0_2) := (kcl BK131.out 2).trans rfl
      have hc3_ : w'.cell? ⟨gb131, 3, none⟩ = some (.int .i64 a0_3) := (kcl BK131.out 3).trans rfl
      refine value_ (w1 := w') (v := .string a0_1) (by rfl) rfl ?_ ?_
      · go_simp
        (try simp only [i64_w])
        try rfl
      refine hK.out _ _ ⟨v133, v137, v141, (by rw [ha.out]; exact putSel_upk 3 hb_ rfl rfl rfl), Q_BK131, Q_HI1, Q_HK, Q_HB, Q_HO134, Q_HI1_e4, fun h0_ => absurd ((hoff 9 (by kernel_rfl)).symm.trans h0_) (by decide), fun h0_ _ => absurd ((hoff 10 (by kernel_rfl)).symm.trans h0_) (by decide), Q_HO142, fun h0_ => absurd ((hoff 14 (by kernel_rfl)).symm.trans h0_) (by decide)⟩
    refine steps_cons ?_ ?_
    · rintro b a w' ⟨v133, v137, v141, ha, Q_BK131, Q_HI1, Q_HK, Q_HB, Q_HO134, Q_HI1_e4, Q_HO138, Q_HI1_e10, Q_HO142, Q_HI1_e14⟩ hb_ hon hoff
      refine ⟨_, rfl, fun K hK => ?_⟩
      have e11 : a.tmps[11]? = some (.pointer (some ⟨gb131, 2, none⟩)) := by rw [ha]; exact (putSel_off rfl).trans rfl
      replace ha := Aside0.mk ha
      have BK131 := Aside0.mk Q_BK131
      have HK := Aside0.mk Q_HK
      have HB := Aside0.mk Q_HB
      have hc0_ : w'.cell? ⟨gb131, 0, none⟩ = some (.int .i64 a0_0) := (kcl BK131.out 0).trans rfl
      have hc1_ : w'.cell? ⟨gb131, 1, none⟩ = some (.string a0_1) := (kcl BK131.out 1).trans rfl
      have hc2_ : w'.cell? ⟨gb131, 2, none⟩ = some (.string a0_2) := (kcl BK131.out 2).trans rfl
      have hc3_ : w'.cell? ⟨gb131, 3, none⟩ = some (.int .i64 a0_3) := (kcl BK131.out 3).trans rfl
      refine value_ (w1 := w') (v := .string a0_2) (by rfl) rfl ?_ ?_
      · go_simp
        (try simp only [i64_w])
        try rfl
      refine hK.out _ _ ⟨v133, v137, v141, (by rw [ha.out]; exact putSel_upk 4 hb_ rfl rfl rfl), Q_BK131, Q_HI1, Q_HK, Q_HB, Q_HO134, Q_HI1_e4, fun h0_ => absurd ((hoff 9 (by kernel_rfl)).symm.trans h0_) (by decide), fun h0_ _ => absurd ((hoff 10 (by kernel_rfl)).symm.trans h0_) (by decide), Q_HO142, fun h0_ => absurd ((hoff 14 (by kernel_rfl)).symm.trans h0_) (by decide)⟩
    refine steps_cons ?_ ?_
    · rintro b a w' ⟨v133, v137, v141, ha, Q_BK131, Q_HI1, Q_HK, Q_HB, Q_HO134, Q_HI1_e4, Q_HO138, Q_HI1_e10, Q_HO142, Q_HI1_e14⟩ hb_ hon hoff
      refine ⟨_, rfl, fun K hK => ?_⟩
      have e10 : a.tmps[10]? = some (.string a0_1) := by rw [ha]; exact putSel_on (e := (6, 10, .string a0_1)) 3 rfl rfl (hon 6 (by kernel_rfl)) rfl
      have e12 : a.tmps[12]? = some (.string a0_2) := by rw [ha]; exact putSel_on (e := (8, 12, .string a0_2)) 4 rfl rfl (hon 8 (by kernel_rfl)) rfl
      replace ha := Aside0.mk ha
      have BK131 := Aside0.mk Q_BK131
      have HK := Aside0.mk Q_HK
      have HB := Aside0.mk Q_HB
      refine Kd.R_lit_step Kd.string _ 9 ?hg (N := 13) ?hd (xs := ([a0_1, a0_2] : List ByteArray)) (inner := [.string a0_1, .string a0_2]) (ok := fun _ => True) (okp := fun _ => True) ?hr ?hp (fun _ hk => hk) trivial (Below.refl _ _) (Nat.le_refl _) (by simp) ?_; (case hd => rfl); (case hg => rfl); (case hr => first | (go_simp; done) | (go_simp; rfl)); (case hp => exact (Reps.one (show Kd.M Kd.string _ _ _ a0_1 [.string a0_1] from rfl) (Reps.one (show Kd.M Kd.string _ _ _ a0_2 [.string a0_2] from rfl) (Reps.none _ _))))
      intro v137 w8 ho9 hb hg_ hnew_
      clear hg_ hnew_
      (first | rw [← Ny136.out] at ho9 | (simp only [Int.reduceToNat] at ho9; rw [← Ny136.out] at ho9))
      have n0_ := Aside0.mk (Kd.R_lower ho9 (KeepT.size (w := w) (ts := [50, 5]) (by repeat (first | (with_reducible first | exact HK.out | fail | apply etn | apply etw | apply eta | refine keepT_far ?_ GW131.out _) | exact HK.out))))
      have n2_ := Aside0.mk (kbl (g := gb131) (o := .cells #[.int .i64 a0_0, .string a0_1, .string a0_2, .int .i64 a0_3] 27 (0, 0)) (by (with_reducible repeat (first | refine kdn ?_ _ | refine kdw ?_ | refine kal ?_ _)); exact BK131.out) hb)
      have n3_ := Aside0.mk (KeepT.trans (by repeat (first | (with_reducible first | exact HK.out | fail | apply etn | apply etw | apply eta | refine keepT_far ?_ GW131.out _) | exact HK.out)) (KeepT.of_below hb))
      have n4_ := Aside0.mk (bsp (by repeat (first | (with_reducible first | exact HB.out | apply bal | apply bdn | apply bd1 | refine bst ?_ GE131.out) | exact HB.out)) hb)
      have z_HI1 := fun (h0_ : b 4 = false) => (show IsS50 w0 w8 g s1_0 from by first | exact (IsS50.below (by repeat (first | (with_reducible first | exact (Q_HI1 h0_) | apply IsS50.alloc | apply IsS50.drewN | apply IsS50.drew | apply IsS50.set_0 | refine IsS50.farT (p := ⟨gb131, _, none⟩) (t2 := 27) ?_ ?_ (by decide) (by decide) _ | exact OutT.mk BK131.out | refine OutT.set ?_ _ _ _) | exact (Q_HI1 h0_))) hb))
      have z_HO134 := fun (h0_ : b 3 = true) => (show Kd.R (Kd.int .i64) 3 w8 w.heap.size (fun _ => True) v133 y132 from by first | exact (Kd.R_below (by (with_reducible repeat (first | apply Kd.R_alloc | apply Kd.R_drewN | apply Kd.R_drew)); exact (Q_HO134 h0_)) hb) | exact Kd.R_mono (Kd.R_below (by (with_reducible repeat (first | apply Kd.R_alloc | apply Kd.R_drewN | apply Kd.R_drew)); exact (Q_HO134 h0_)) hb) (fun _ h_ => by first | trivial | exact h_ | exact h_.1))
      have z_HI1_e4 := fun (h0_ : b 4 = true) (h1_ : b 10 = false) => (show IsS50 w0 w8 g t135 from by first | exact (IsS50.below (by repeat (first | (with_reducible first | exact (Q_HI1_e4 h0_ h1_) | apply IsS50.alloc | apply IsS50.drewN | apply IsS50.drew | apply IsS50.set_0 | refine IsS50.farT (p := ⟨gb131, _, none⟩) (t2 := 27) ?_ ?_ (by decide) (by decide) _ | exact OutT.mk BK131.out | refine OutT.set ?_ _ _ _) | exact (Q_HI1_e4 h0_ h1_))) hb))
      have z_HO142 := fun (h0_ : b 13 = true) => (show Kd.R (Kd.int .i64) 2 w8 w.heap.size (fun _ => True) v141 y140 from by first | exact (Kd.R_below (by (with_reducible repeat (first | apply Kd.R_alloc | apply Kd.R_drewN | apply Kd.R_drew)); exact (Q_HO142 h0_)) hb) | exact Kd.R_mono (Kd.R_below (by (with_reducible repeat (first | apply Kd.R_alloc | apply Kd.R_drewN | apply Kd.R_drew)); exact (Q_HO142 h0_)) hb) (fun _ h_ => by first | trivial | exact h_ | exact h_.1))
      clear BK131
      clear HK
      clear HB
      have HO138 := n0_
      have BK131 := n2_
      have HK := n3_
      have HB := n4_
      clear n0_ n2_ n3_ n4_
      clear hb ho9
      refine hK.out _ _ ⟨v133, v137, v141, (by rw [ha.out]; exact putSel_upk 5 hb_ rfl rfl rfl), (by (with_reducible repeat (first | refine kdn ?_ _ | refine kdw ?_ | refine kal ?_ _)); exact BK131.out), z_HI1, (by repeat (first | (with_reducible first | exact HK.out | fail | apply etn | apply etw | apply eta | refine keepT_far ?_ GW131.out _) | exact HK.out)), (by repeat (first | (with_reducible first | exact HB.out | apply bal | apply bdn | apply bd1 | refine bst ?_ GE131.out) | exact HB.out)), z_HO134, z_HI1_e4, fun _ => (by (with_reducible repeat (first | apply Kd.R_alloc | apply Kd.R_drewN | apply Kd.R_drew)); exact HO138.out), fun h0_ _ => absurd ((hoff 10 (by kernel_rfl)).symm.trans h0_) (by decide), z_HO142, fun h0_ => absurd ((hoff 14 (by kernel_rfl)).symm.trans h0_) (by decide)⟩
    refine steps_cons ?_ ?_
    · rintro b a w' ⟨v133, v137, v141, ha, Q_BK131, Q_HI1, Q_HK, Q_HB, Q_HO134, Q_HI1_e4, Q_HO138, Q_HI1_e10, Q_HO142, Q_HI1_e14⟩ hb_ hon hoff
      refine ⟨_, rfl, fun K hK => ?_⟩
      have e8 : a.tmps[8]? = some (.pointer (some ⟨g, 0, none⟩)) := by rw [ha]; exact putSel_on (e := (4, 8, .pointer (some ⟨g, 0, none⟩))) 2 rfl rfl (hon 4 (by kernel_rfl)) rfl
      have e13 : a.tmps[13]? = some (v137) := by rw [ha]; exact putSel_on (e := (9, 13, v137)) 5 rfl rfl (hon 9 (by kernel_rfl)) rfl
      replace ha := Aside0.mk ha
      have BK131 := Aside0.mk Q_BK131
      have HK := Aside0.mk Q_HK
      have HB := Aside0.mk Q_HB
      have HO134 := Aside0.mk (Q_HO134 (hon 3 (by kernel_rfl)))
      have HI1 := Aside0.mk (Q_HI1_e4 (hon 4 (by kernel_rfl)) hb_)
      have HO138 := Aside0.mk (Q_HO138 (hon 9 (by kernel_rfl)))
      obtain ⟨Ao15, co15, eo15⟩ := Kd.R_slice HO138.out
      (first | subst eo15 | (injection eo15 with f1_ f2_ f3_; have f4_ := f1_.symm; have f5_ := f3_.symm; clear f1_ f2_ f3_; subst f4_; subst f5_))
      refine goes_ Try.func43 (by kernel_rfl) rfl #[.pointer (some ⟨g, 0, none⟩), .slice Ao15 y136.length co15] (by rfl) rfl rfl (by (try simp only [List.map_toArray, List.map_cons, List.map_nil]); first | done | rfl | (simp only [List.length_drop, List.length_take]; rfl) | (simp only [Act.eval, Array.getD_eq_getD_getElem?, Option.getD_some, *]; done) | (simp only [Array.mk.injEq, List.cons.injEq, Value.int.injEq, true_and, and_true]; first | omega | (simp [IntKind.wrap, IntKind.bits, IntKind.signed]; omega))) ?_
      with_reducible refine (codec_Out_S.calls g t135 _ _ y136 t139 w0 _ ?side1 ?side2 ?side3 ?side4 ?side5 A4.out).mono ?_
      (case side1 => repeat (first | (with_reducible first | exact HI1.out | apply IsS50.alloc | apply IsS50.drewN | apply IsS50.drew | apply IsS50.set_0 | refine IsS50.farT (p := ⟨gb131, _, none⟩) (t2 := 27) ?_ ?_ (by decide) (by decide) _ | exact OutT.mk BK131.out | refine OutT.set ?_ _ _ _) | exact HI1.out))
      (case side2 => repeat (first | (with_reducible first | exact HB.out | apply bal | apply bdn | apply bd1 | refine bst ?_ (IsS50.ge HI1.out) | refine bst ?_ GE131.out) | exact HB.out))
      (case side3 => repeat (first | exact (Kd.R_reads' HO138.out).2.2 | (with_reducible refine Kd.C_alloc ?_ _) | (with_reducible refine Kd.C_drewN ?_ _) | (with_reducible refine Kd.C_drew ?_)))
      (case side4 => exact (Kd.R_reads' HO138.out).2.1)
      (case side5 => exact fun W_ hk_ => (Kd.R_reads' (KeepT.R (by (with_reducible repeat (first | apply Kd.R_alloc | apply Kd.R_drewN | apply Kd.R_drew)); exact HO138.out) hk_ (by decide))).2.2)
      rintro e w16 ⟨rfl, hi, hb, hk⟩
      refine ⟨_, rfl, ?_⟩
      have n0_ := Aside0.mk (KeepT.oblk (g := gb131) (o := .cells #[.int .i64 a0_0, .string a0_1, .string a0_2, .int .i64 a0_3] 27 (0, 0)) (by (with_reducible repeat (first | refine kdn ?_ _ | refine kdw ?_ | refine kal ?_ _)); exact BK131.out) hk (by intro _ _ _ h_; cases h_; decide))
      have n1_ := Aside0.mk (KeepT.R (by (with_reducible repeat (first | apply Kd.R_alloc | apply Kd.R_drewN | apply Kd.R_drew)); exact HO134.out) hk (by decide))
      have n2_ := Aside0.mk (KeepT.R (by (with_reducible repeat (first | apply Kd.R_alloc | apply Kd.R_drewN | apply Kd.R_drew)); exact HO138.out) hk (by decide))
      have n3_ := Aside0.mk (KeepT.trans (by repeat (first | (with_reducible first | exact HK.out | fail | apply etn | apply etw | apply eta | refine keepT_far ?_ GW131.out _) | exact HK.out)) hk)
      have n4_ := Aside0.mk (hb)
      have n5_ := Aside0.mk (hi)
      have z_HO142 := fun (h0_ : b 13 = true) => (show Kd.R (Kd.int .i64) 2 w16 w.heap.size (fun _ => True) v141 y140 from by first | exact (KeepT.R (by (with_reducible repeat (first | apply Kd.R_alloc | apply Kd.R_drewN | apply Kd.R_drew)); exact (Q_HO142 h0_)) hk (by decide)) | exact Kd.R_mono (KeepT.R (by (with_reducible repeat (first | apply Kd.R_alloc | apply Kd.R_drewN | apply Kd.R_drew)); exact (Q_HO142 h0_)) hk (by decide)) (fun _ h_ => by first | trivial | exact h_ | exact h_.1))
      clear BK131
      clear HO134
      clear HO138
      clear HK
      clear HB
      clear HI1
      have BK131 := n0_
      have HO134 := n1_
      have HO138 := n2_
      have HK := n3_
      have HB := n4_
      have HI1 := n5_
      clear n0_ n1_ n2_ n3_ n4_ n5_
      (try clear hb)
      (try clear hb2)
      (try clear hk)
      (try clear hi)
      refine hK.out _ _ ⟨v133, .slice Ao15 y136.length co15, v141, (by rw [ha.out]; exact putSel_upk 6 hb_ rfl rfl rfl), (by (with_reducible repeat (first | refine kdn ?_ _ | refine kdw ?_ | refine kal ?_ _)); exact BK131.out), fun h0_ => absurd ((hon 4 (by kernel_rfl)).symm.trans h0_) (by decide), (by repeat (first | (with_reducible first | exact HK.out | fail | apply etn | apply etw | apply eta | refine keepT_far ?_ GW131.out _) | exact HK.out)), (by repeat (first | (with_reducible first | exact HB.out | apply bal | apply bdn | apply bd1 | refine bst ?_ (IsS50.ge HI1.out) | refine bst ?_ GE131.out) | exact HB.out)), fun _ => (by (with_reducible repeat (first | apply Kd.R_alloc | apply Kd.R_drewN | apply Kd.R_drew)); exact HO134.out), fun _ h1_ => absurd ((up_self b 10).symm.trans h1_) (by decide), fun _ => (by (with_reducible repeat (first | apply Kd.R_alloc | apply Kd.R_drewN | apply Kd.R_drew)); exact HO138.out), fun _ _ => (by repeat (first | (with_reducible first | exact HI1.out | apply IsS50.alloc | apply IsS50.drewN | apply IsS50.drew | apply IsS50.set_0 | refine IsS50.farT (p := ⟨gb131, _, none⟩) (t2 := 27) ?_ ?_ (by decide) (by decide) _ | exact OutT.mk BK131.out | refine OutT.set ?_ _ _ _) | exact HI1.out)), z_HO142, fun h0_ => absurd ((hoff 14 (by kernel_rfl)).symm.trans h0_) (by decide)⟩
    refine steps_cons ?_ ?_
    · rintro b a w' ⟨v133, v137, v141, ha, Q_BK131, Q_HI1, Q_HK, Q_HB, Q_HO134, Q_HI1_e4, Q_HO138, Q_HI1_e10, Q_HO142, Q_HI1_e14⟩ hb_ hon hoff
      refine ⟨_, rfl, fun K hK => ?_⟩
      have e15 : a.tmps[15]? = some (.pointer (some ⟨gb131, 3, none⟩)) := by rw [ha]; exact (putSel_off rfl).trans rfl
      replace ha := Aside0.mk ha
      have BK131 := Aside0.mk Q_BK131
      have HK := Aside0.mk Q_HK
      have HB := Aside0.mk Q_HB
      have hc0_ : w'.cell? ⟨gb131, 0, none⟩ = some (.int .i64 a0_0) := (kcl BK131.out 0).trans rfl
      have hc1_ : w'.cell? ⟨gb131, 1, none⟩ = some (.string a0_1) := (kcl BK131.out 1).trans rfl
      have hc2_ : w'.cell? ⟨gb131, 2, none⟩ = some (.string a0_2) := (kcl BK131.out 2).trans rfl
      have hc3_ : w'.cell? ⟨gb131, 3, none⟩ = some (.int .i64 a0_3) := (kcl BK131.out 3).trans rfl
      refine value_ (w1 := w') (v := .int .i64 a0_3) (by rfl) rfl ?_ ?_
      · go_simp
        (try simp only [i64_w])
        try rfl
      refine hK.out _ _ ⟨v133, v137, v141, (by rw [ha.out]; exact putSel_upk 7 hb_ rfl rfl rfl), Q_BK131, Q_HI1, Q_HK, Q_HB, Q_HO134, Q_HI1_e4, Q_HO138, Q_HI1_e10, fun h0_ => absurd ((hoff 13 (by kernel_rfl)).symm.trans h0_) (by decide), fun h0_ => absurd ((hoff 14 (by kernel_rfl)).symm.trans h0_) (by decide)⟩
    refine steps_cons ?_ ?_
    · rintro b a w' ⟨v133, v137, v141, ha, Q_BK131, Q_HI1, Q_HK, Q_HB, Q_HO134, Q_HI1_e4, Q_HO138, Q_HI1_e10, Q_HO142, Q_HI1_e14⟩ hb_ hon hoff
      refine ⟨_, rfl, fun K hK => ?_⟩
      have e16 : a.tmps[16]? = some (.int .i64 a0_3) := by rw [ha]; exact putSel_on (e := (12, 16, .int .i64 a0_3)) 7 rfl rfl (hon 12 (by kernel_rfl)) rfl
      replace ha := Aside0.mk ha
      have BK131 := Aside0.mk Q_BK131
      have HK := Aside0.mk Q_HK
      have HB := Aside0.mk Q_HB
      refine Kd.R_lit_step (Kd.int .i64) _ 2 ?hg (N := 17) ?hd (xs := ([a0_3] : List Int)) (inner := [.int .i64 a0_3]) (ok := fun _ => True) (okp := fun _ => True) ?hr ?hp (fun _ hk => hk) trivial (Below.refl _ _) (Nat.le_refl _) (by simp) ?_; (case hd => rfl); (case hg => rfl); (case hr => first | (go_simp; done) | (go_simp; rfl)); (case hp => exact (Reps.one (show Kd.M (Kd.int .i64) _ _ _ a0_3 [.int .i64 a0_3] from rfl) (Reps.none _ _)))
      intro v141 w8 ho9 hb hg_ hnew_
      clear hg_ hnew_
      (first | rw [← Ny140.out] at ho9 | (simp only [Int.reduceToNat] at ho9; rw [← Ny140.out] at ho9))
      have n0_ := Aside0.mk (Kd.R_lower ho9 (KeepT.size (w := w) (ts := [50, 5]) (by repeat (first | (with_reducible first | exact HK.out | fail | apply etn | apply etw | apply eta | refine keepT_far ?_ GW131.out _) | exact HK.out))))
      have n2_ := Aside0.mk (kbl (g := gb131) (o := .cells #[.int .i64 a0_0, .string a0_1, .string a0_2, .int .i64 a0_3] 27 (0, 0)) (by (with_reducible repeat (first | refine kdn ?_ _ | refine kdw ?_ | refine kal ?_ _)); exact BK131.out) hb)
      have n3_ := Aside0.mk (KeepT.trans (by repeat (first | (with_reducible first | exact HK.out | fail | apply etn | apply etw | apply eta | refine keepT_far ?_ GW131.out _) | exact HK.out)) (KeepT.of_below hb))
      have n4_ := Aside0.mk (bsp (by repeat (first | (with_reducible first | exact HB.out | apply bal | apply bdn | apply bd1 | refine bst ?_ GE131.out) | exact HB.out)) hb)
      have z_HI1 := fun (h0_ : b 4 = false) => (show IsS50 w0 w8 g s1_0 from by first | exact (IsS50.below (by repeat (first | (with_reducible first | exact (Q_HI1 h0_) | apply IsS50.alloc | apply IsS50.drewN | apply IsS50.drew | apply IsS50.set_0 | refine IsS50.farT (p := ⟨gb131, _, none⟩) (t2 := 27) ?_ ?_ (by decide) (by decide) _ | exact OutT.mk BK131.out | refine OutT.set ?_ _ _ _) | exact (Q_HI1 h0_))) hb))
      have z_HO134 := fun (h0_ : b 3 = true) => (show Kd.R (Kd.int .i64) 3 w8 w.heap.size (fun _ => True) v133 y132 from by first | exact (Kd.R_below (by (with_reducible repeat (first | apply Kd.R_alloc | apply Kd.R_drewN | apply Kd.R_drew)); exact (Q_HO134 h0_)) hb) | exact Kd.R_mono (Kd.R_below (by (with_reducible repeat (first | apply Kd.R_alloc | apply Kd.R_drewN | apply Kd.R_drew)); exact (Q_HO134 h0_)) hb) (fun _ h_ => by first | trivial | exact h_ | exact h_.1))
      have z_HI1_e4 := fun (h0_ : b 4 = true) (h1_ : b 10 = false) => (show IsS50 w0 w8 g t135 from by first | exact (IsS50.below (by repeat (first | (with_reducible first | exact (Q_HI1_e4 h0_ h1_) | apply IsS50.alloc | apply IsS50.drewN | apply IsS50.drew | apply IsS50.set_0 | refine IsS50.farT (p := ⟨gb131, _, none⟩) (t2 := 27) ?_ ?_ (by decide) (by decide) _ | exact OutT.mk BK131.out | refine OutT.set ?_ _ _ _) | exact (Q_HI1_e4 h0_ h1_))) hb))
      have z_HO138 := fun (h0_ : b 9 = true) => (show Kd.R Kd.string 9 w8 w.heap.size (fun _ => True) v137 y136 from by first | exact (Kd.R_below (by (with_reducible repeat (first | apply Kd.R_alloc | apply Kd.R_drewN | apply Kd.R_drew)); exact (Q_HO138 h0_)) hb) | exact Kd.R_mono (Kd.R_below (by (with_reducible repeat (first | apply Kd.R_alloc | apply Kd.R_drewN | apply Kd.R_drew)); exact (Q_HO138 h0_)) hb) (fun _ h_ => by first | trivial | exact h_ | exact h_.1))
      have z_HI1_e10 := fun (h0_ : b 10 = true) (h1_ : b 14 = false) => (show IsS50 w0 w8 g t139 from by first | exact (IsS50.below (by repeat (first | (with_reducible first | exact (Q_HI1_e10 h0_ h1_) | apply IsS50.alloc | apply IsS50.drewN | apply IsS50.drew | apply IsS50.set_0 | refine IsS50.farT (p := ⟨gb131, _, none⟩) (t2 := 27) ?_ ?_ (by decide) (by decide) _ | exact OutT.mk BK131.out | refine OutT.set ?_ _ _ _) | exact (Q_HI1_e10 h0_ h1_))) hb))
      clear BK131
      clear HK
      clear HB
      have HO142 := n0_
      have BK131 := n2_
      have HK := n3_
      have HB := n4_
      clear n0_ n2_ n3_ n4_
      clear hb ho9
      refine hK.out _ _ ⟨v133, v137, v141, (by rw [ha.out]; exact putSel_upk 8 hb_ rfl rfl rfl), (by (with_reducible repeat (first | refine kdn ?_ _ | refine kdw ?_ | refine kal ?_ _)); exact BK131.out), z_HI1, (by repeat (first | (with_reducible first | exact HK.out | fail | apply etn | apply etw | apply eta | refine keepT_far ?_ GW131.out _) | exact HK.out)), (by repeat (first | (with_reducible first | exact HB.out | apply bal | apply bdn | apply bd1 | refine bst ?_ GE131.out) | exact HB.out)), z_HO134, z_HI1_e4, z_HO138, z_HI1_e10, fun _ => (by (with_reducible repeat (first | apply Kd.R_alloc | apply Kd.R_drewN | apply Kd.R_drew)); exact HO142.out), fun h0_ => absurd ((hoff 14 (by kernel_rfl)).symm.trans h0_) (by decide)⟩
    refine steps_cons ?_ ?_
    · rintro b a w' ⟨v133, v137, v141, ha, Q_BK131, Q_HI1, Q_HK, Q_HB, Q_HO134, Q_HI1_e4, Q_HO138, Q_HI1_e10, Q_HO142, Q_HI1_e14⟩ hb_ hon hoff
      refine ⟨_, rfl, fun K hK => ?_⟩
      have e14 : a.tmps[14]? = some (.pointer (some ⟨g, 0, none⟩)) := by rw [ha]; exact putSel_on (e := (10, 14, .pointer (some ⟨g, 0, none⟩))) 6 rfl rfl (hon 10 (by kernel_rfl)) rfl
      have e17 : a.tmps[17]? = some (v141) := by rw [ha]; exact putSel_on (e := (13, 17, v141)) 8 rfl rfl (hon 13 (by kernel_rfl)) rfl
      replace ha := Aside0.mk ha
      have BK131 := Aside0.mk Q_BK131
      have HK := Aside0.mk Q_HK
      have HB := Aside0.mk Q_HB
      have HO134 := Aside0.mk (Q_HO134 (hon 3 (by kernel_rfl)))
      have HO138 := Aside0.mk (Q_HO138 (hon 9 (by kernel_rfl)))
      have HI1 := Aside0.mk (Q_HI1_e10 (hon 10 (by kernel_rfl)) hb_)
      have HO142 := Aside0.mk (Q_HO142 (hon 13 (by kernel_rfl)))
      obtain ⟨Ao19, co19, eo19⟩ := Kd.R_slice HO142.out
      (first | subst eo19 | (injection eo19 with f1_ f2_ f3_; have f4_ := f1_.symm; have f5_ := f3_.symm; clear f1_ f2_ f3_; subst f4_; subst f5_))
      refine goes_ Try.func44 (by kernel_rfl) rfl #[.pointer (some ⟨g, 0, none⟩), .slice Ao19 y140.length co19] (by rfl) rfl rfl (by (try simp only [List.map_toArray, List.map_cons, List.map_nil]); first | done | rfl | (simp only [List.length_drop, List.length_take]; rfl) | (simp only [Act.eval, Array.getD_eq_getD_getElem?, Option.getD_some, *]; done) | (simp only [Array.mk.injEq, List.cons.injEq, Value.int.injEq, true_and, and_true]; first | omega | (simp [IntKind.wrap, IntKind.bits, IntKind.signed]; omega))) ?_
      with_reducible refine (codec_Out_I.calls g t139 _ _ y140 t143 w0 _ ?side1 ?side2 ?side3 ?side4 ?side5 A5.out).mono ?_
      (case side1 => repeat (first | (with_reducible first | exact HI1.out | apply IsS50.alloc | apply IsS50.drewN | apply IsS50.drew | apply IsS50.set_0 | refine IsS50.farT (p := ⟨gb131, _, none⟩) (t2 := 27) ?_ ?_ (by decide) (by decide) _ | exact OutT.mk BK131.out | refine OutT.set ?_ _ _ _) | exact HI1.out))
      (case side2 => repeat (first | (with_reducible first | exact HB.out | apply bal | apply bdn | apply bd1 | refine bst ?_ (IsS50.ge HI1.out) | refine bst ?_ GE131.out) | exact HB.out))
      (case side3 => repeat (first | exact (Kd.R_reads' HO142.out).2.2 | (with_reducible refine Kd.C_alloc ?_ _) | (with_reducible refine Kd.C_drewN ?_ _) | (with_reducible refine Kd.C_drew ?_)))
      (case side4 => exact (Kd.R_reads' HO142.out).2.1)
      (case side5 => exact fun W_ hk_ => (Kd.R_reads' (KeepT.R (by (with_reducible repeat (first | apply Kd.R_alloc | apply Kd.R_drewN | apply Kd.R_drew)); exact HO142.out) hk_ (by decide))).2.2)
      rintro e w20 ⟨rfl, hi, hb, hk⟩
      refine ⟨_, rfl, ?_⟩
      have n0_ := Aside0.mk (KeepT.oblk (g := gb131) (o := .cells #[.int .i64 a0_0, .string a0_1, .string a0_2, .int .i64 a0_3] 27 (0, 0)) (by (with_reducible repeat (first | refine kdn ?_ _ | refine kdw ?_ | refine kal ?_ _)); exact BK131.out) hk (by intro _ _ _ h_; cases h_; decide))
      have n1_ := Aside0.mk (KeepT.R (by (with_reducible repeat (first | apply Kd.R_alloc | apply Kd.R_drewN | apply Kd.R_drew)); exact HO134.out) hk (by decide))
      have n2_ := Aside0.mk (KeepT.R (by (with_reducible repeat (first | apply Kd.R_alloc | apply Kd.R_drewN | apply Kd.R_drew)); exact HO138.out) hk (by decide))
      have n3_ := Aside0.mk (KeepT.R (by (with_reducible repeat (first | apply Kd.R_alloc | apply Kd.R_drewN | apply Kd.R_drew)); exact HO142.out) hk (by decide))
      have n4_ := Aside0.mk (KeepT.trans (by repeat (first | (with_reducible first | exact HK.out | fail | apply etn | apply etw | apply eta | refine keepT_far ?_ GW131.out _) | exact HK.out)) hk)
      have n5_ := Aside0.mk (hb)
      have n6_ := Aside0.mk (hi)
      clear BK131
      clear HO134
      clear HO138
      clear HO142
      clear HK
      clear HB
      clear HI1
      have BK131 := n0_
      have HO134 := n1_
      have HO138 := n2_
      have HO142 := n3_
      have HK := n4_
      have HB := n5_
      have HI1 := n6_
      clear n0_ n1_ n2_ n3_ n4_ n5_ n6_
      (try clear hb)
      (try clear hb2)
      (try clear hk)
      (try clear hi)
      refine hK.out _ _ ⟨v133, v137, .slice Ao19 y140.length co19, (by rw [ha.out]; exact putSel_upk 9 hb_ rfl rfl rfl), (by (with_reducible repeat (first | refine kdn ?_ _ | refine kdw ?_ | refine kal ?_ _)); exact BK131.out), fun h0_ => absurd ((hon 4 (by kernel_rfl)).symm.trans h0_) (by decide), (by repeat (first | (with_reducible first | exact HK.out | fail | apply etn | apply etw | apply eta | refine keepT_far ?_ GW131.out _) | exact HK.out)), (by repeat (first | (with_reducible first | exact HB.out | apply bal | apply bdn | apply bd1 | refine bst ?_ (IsS50.ge HI1.out) | refine bst ?_ GE131.out) | exact HB.out)), fun _ => (by (with_reducible repeat (first | apply Kd.R_alloc | apply Kd.R_drewN | apply Kd.R_drew)); exact HO134.out), fun _ h1_ => absurd ((hon 10 (by kernel_rfl)).symm.trans h1_) (by decide), fun _ => (by (with_reducible repeat (first | apply Kd.R_alloc | apply Kd.R_drewN | apply Kd.R_drew)); exact HO138.out), fun _ h1_ => absurd ((up_self b 14).symm.trans h1_) (by decide), fun _ => (by (with_reducible repeat (first | apply Kd.R_alloc | apply Kd.R_drewN | apply Kd.R_drew)); exact HO142.out), fun _ => (by repeat (first | (with_reducible first | exact HI1.out | apply IsS50.alloc | apply IsS50.drewN | apply IsS50.drew | apply IsS50.set_0 | refine IsS50.farT (p := ⟨gb131, _, none⟩) (t2 := 27) ?_ ?_ (by decide) (by decide) _ | exact OutT.mk BK131.out | refine OutT.set ?_ _ _ _) | exact HI1.out))⟩
    exact steps_nil
  rintro b a w20 hall ⟨v133, v137, v141, ha, Q_BK131, Q_HI1, Q_HK, Q_HB, Q_HO134, Q_HI1_e4, Q_HO138, Q_HI1_e10, Q_HO142, Q_HI1_e14⟩
  clear BK131 HB HI1 HK
  have hb2_ := hall 2 (by kernel_rfl)
  have hb3_ := hall 3 (by kernel_rfl)
  have hb4_ := hall 4 (by kernel_rfl)
  have hb6_ := hall 6 (by kernel_rfl)
  have hb8_ := hall 8 (by kernel_rfl)
  have hb9_ := hall 9 (by kernel_rfl)
  have hb10_ := hall 10 (by kernel_rfl)
  have hb12_ := hall 12 (by kernel_rfl)
  have hb13_ := hall 13 (by kernel_rfl)
  have hb14_ := hall 14 (by kernel_rfl)
  subst ha
  simp only [putSel, hb2_, hb3_, hb4_, hb6_, hb8_, hb9_, hb10_, hb12_, hb13_, hb14_, if_true, Act.put, List.setIfInBounds_toArray, List.set_cons_zero, List.set_cons_succ]
  have BK131 := Aside0.mk Q_BK131
  clear Q_BK131
  clear Q_HI1
  have HK := Aside0.mk Q_HK
  clear Q_HK
  have HB := Aside0.mk Q_HB
  clear Q_HB
  have HO134 := Aside0.mk (Q_HO134 hb3_)
  clear Q_HO134
  clear Q_HI1_e4
  have HO138 := Aside0.mk (Q_HO138 hb9_)
  clear Q_HO138
  clear Q_HI1_e10
  have HO142 := Aside0.mk (Q_HO142 hb13_)
  clear Q_HO142
  have HI1 := Aside0.mk (Q_HI1_e14 hb14_)
  clear Q_HI1_e14
  clear hall hb2_ hb3_ hb4_ hb6_ hb8_ hb9_ hb10_ hb12_ hb13_ hb14_
  try go_wp2
  first | go_end0 | ((try simp only [Exit.inBlock, Exit.then]); refine bodyPost_ret (results_none rfl _ _ _) rfl ?_)
  exact ⟨by first | rfl | (simp [errW_none, errW_some] <;> rfl) | (simp [*, errW_none, errW_some] <;> rfl), by repeat (first | (with_reducible first | exact HI1.out | apply IsS50.alloc | apply IsS50.drewN | apply IsS50.drew | apply IsS50.set_0 | refine IsS50.farT (p := ⟨gb131, _, none⟩) (t2 := 27) ?_ ?_ (by decide) (by decide) _ | exact OutT.mk BK131.out | refine OutT.set ?_ _ _ _) | exact HI1.out), by repeat (first | (with_reducible first | exact HB.out | apply bal | apply bdn | apply bd1 | refine bst ?_ (IsS50.ge HI1.out) | refine bst ?_ GE131.out) | exact HB.out), by repeat (first | (with_reducible first | exact HK.out | fail | apply etn | apply etw | apply eta | refine keepT_far ?_ GW131.out _) | exact HK.out)⟩
def armoirelaw12_awake.f (k : Nat)  : Option (Bool) := (method_Call_Put.f 8 (⟨#[97]⟩ : ByteArray) (⟨#[]⟩ : ByteArray) 0 (⟨#[]⟩ : ByteArray)).bind fun t146 => ((codec_Out_Text.f t146).bind fun bt147 => (if bt147.1.toList = ([1, 8, 1, 1, 97, 0, 0] : List UInt8) then ((method_Call_Check.f k 8 (⟨#[97]⟩ : ByteArray) (⟨#[]⟩ : ByteArray) 0).bind fun t149 => (if t149 = 0 then ((method_Op_Word.f 17).bind fun t150 => (if t150.toList = ([116, 97, 107, 101] : List UInt8) then ((method_Named.f k (⟨#[100, 101, 98, 105, 116]⟩ : ByteArray)).bind fun t151 => (if t151 = 6 then ((method_Op_Kind.f 14).bind fun t152 => (some (t152 == 6))) else (some false))) else (some false))) else (some false))) else (some false)))
set_option maxHeartbeats 2000000 in
set_option maxRecDepth 100000 in
theorem armoirelaw12_awake.calls (k : Nat)  (r : Bool) (w : World) (h : armoirelaw12_awake.f k  = some r) :
    Calls Try.prog 9 #[] w fun e w' => e = .returned (.bool r) ∧ Below w.heap.size w w' := by
  have hu50 := Try.underlying50
  have hu27 := Try.underlying27
  have HB := Aside0.mk (Below.refl w.heap.size w)
  have H : ((method_Call_Put.f 8 (⟨#[97]⟩ : ByteArray) (⟨#[]⟩ : ByteArray) 0 (⟨#[]⟩ : ByteArray)).bind fun t146 => ((codec_Out_Text.f t146).bind fun bt147 => (if bt147.1.toList = ([1, 8, 1, 1, 97, 0, 0] : List UInt8) then ((method_Call_Check.f k 8 (⟨#[97]⟩ : ByteArray) (⟨#[]⟩ : ByteArray) 0).bind fun t149 => (if t149 = 0 then ((method_Op_Word.f 17).bind fun t150 => (if t150.toList = ([116, 97, 107, 101] : List UInt8) then ((method_Named.f k (⟨#[100, 101, 98, 105, 116]⟩ : ByteArray)).bind fun t151 => (if t151 = 6 then ((method_Op_Kind.f 14).bind fun t152 => (some (t152 == 6))) else (some false))) else (some false))) else (some false))) else (some false)))) = some r := h
  clear h
  replace H := Option.bind_eq_some_iff.mp H
  obtain ⟨t146, A10, H⟩ := H
  replace H : ((codec_Out_Text.f t146).bind fun bt147 => (if bt147.1.toList = ([1, 8, 1, 1, 97, 0, 0] : List UInt8) then ((method_Call_Check.f k 8 (⟨#[97]⟩ : ByteArray) (⟨#[]⟩ : ByteArray) 0).bind fun t149 => (if t149 = 0 then ((method_Op_Word.f 17).bind fun t150 => (if t150.toList = ([116, 97, 107, 101] : List UInt8) then ((method_Named.f k (⟨#[100, 101, 98, 105, 116]⟩ : ByteArray)).bind fun t151 => (if t151 = 6 then ((method_Op_Kind.f 14).bind fun t152 => (some (t152 == 6))) else (some false))) else (some false))) else (some false))) else (some false))) = some r := H
  have A1 := Aside0.mk A10
  clear A10
  replace H := Option.bind_eq_some_iff.mp H
  obtain ⟨⟨t147, t148⟩, A20, H⟩ := H
  replace H : (if t147.toList = ([1, 8, 1, 1, 97, 0, 0] : List UInt8) then ((method_Call_Check.f k 8 (⟨#[97]⟩ : ByteArray) (⟨#[]⟩ : ByteArray) 0).bind fun t149 => (if t149 = 0 then ((method_Op_Word.f 17).bind fun t150 => (if t150.toList = ([116, 97, 107, 101] : List UInt8) then ((method_Named.f k (⟨#[100, 101, 98, 105, 116]⟩ : ByteArray)).bind fun t151 => (if t151 = 6 then ((method_Op_Kind.f 14).bind fun t152 => (some (t152 == 6))) else (some false))) else (some false))) else (some false))) else (some false)) = some r := H
  have A2 := Aside0.mk A20
  clear A20
  by_cases c3 : t147.toList = ([1, 8, 1, 1, 97, 0, 0] : List UInt8)
  rotate_left
  · rw [if_neg c3] at H
    have c3b0 : (t147.toList == ([1, 8, 1, 1, 97, 0, 0] : List UInt8)) = false := beq_eq_false_iff_ne.mpr c3
    have c3b1 : (t147.toList != ([1, 8, 1, 1, 97, 0, 0] : List UInt8)) = true := bne_iff_ne.mpr c3
    obtain rfl := Option.some.inj H
    go_enter Try.func9, Try.ntmps9
    go_wp2_with (first | ((with_reducible refine gds (N := 1) rfl ?_); refine bev ?hg (N := 1) ?hd (cs := #[.slice none 0 0]) (t := 50) ?hr ?_; (case hd => rfl); (case hg => rfl); (case hr => first | (go_simp; done) | (go_simp; rfl)); intro gb144 hg w49 hbox hb; have n0_ := Aside0.mk (bsp (by repeat (first | (with_reducible first | exact HB.out | apply bal | apply bdn | apply bd1) | exact HB.out)) hb); have n1_ := Aside0.mk (hbox); have n2_ := Aside0.mk ((by rw [hg]; exact (bsz (by repeat (first | (with_reducible first | exact HB.out | apply bal | apply bdn | apply bd1) | exact HB.out))) : w.heap.size ≤ gb144)); have n3_ := Aside0.mk ((by rw [hg]; exact (bsz (by repeat (first | (with_reducible first | exact HB.out | apply bal | apply bdn | apply bd1) | exact HB.out))) : w.heap.size ≤ gb144)); have n4_ := Aside0.mk ((IsS50.box hbox (by rw [hg]; exact (bsz (by repeat (first | (with_reducible first | exact HB.out | apply bal | apply bdn | apply bd1) | exact HB.out))) : w.heap.size ≤ gb144) : IsS50 w w49 gb144 (⟨#[]⟩ : ByteArray))); clear HB; have HB := n0_; have BK144 := n1_; have GW144 := n2_; have GE144 := n3_; have HI144 := n4_; clear n0_ n1_ n2_ n3_ n4_; clear hb hbox hg) | ((with_reducible refine gds (N := 2) rfl ?_); refine bev ?hg (N := 2) ?hd (cs := #[.int .i64 0, .string (⟨#[]⟩ : ByteArray), .string (⟨#[]⟩ : ByteArray), .int .i64 0]) (t := 27) ?hr ?_; (case hd => rfl); (case hg => rfl); (case hr => first | (go_simp; done) | (go_simp; rfl)); intro gb145 hg w50 hbox hb; have n0_ := Aside0.mk (IsS50.below (by repeat (first | (with_reducible first | exact HI144.out | apply IsS50.alloc | apply IsS50.drewN | apply IsS50.drew | apply IsS50.set_0) | exact HI144.out)) hb); have n1_ := Aside0.mk (bsp (by repeat (first | (with_reducible first | exact HB.out | apply bal | apply bdn | apply bd1 | refine bst ?_ (IsS50.ge HI144.out)) | exact HB.out)) hb); have n2_ := Aside0.mk (hbox); have n3_ := Aside0.mk ((by rw [hg]; exact (bsz (by repeat (first | (with_reducible first | exact HB.out | apply bal | apply bdn | apply bd1 | refine bst ?_ (IsS50.ge HI144.out)) | exact HB.out))) : w.heap.size ≤ gb145)); have n4_ := Aside0.mk ((by rw [hg]; exact (bsz (by repeat (first | (with_reducible first | exact HB.out | apply bal | apply bdn | apply bd1 | refine bst ?_ (IsS50.ge HI144.out)) | exact HB.out))) : w.heap.size ≤ gb145)); have n5_ := Aside0.mk ((by rw [hg]; exact Nat.ne_of_lt (IsS50.lt (show IsS50 w _ gb144 (⟨#[]⟩ : ByteArray) from by repeat (first | (with_reducible first | exact HI144.out | apply IsS50.alloc | apply IsS50.drewN | apply IsS50.drew | apply IsS50.set_0) | exact HI144.out))) : gb144 ≠ gb145)); have n6_ := Aside0.mk ((by rw [hg]; exact Nat.ne_of_gt (IsS50.lt (show IsS50 w _ gb144 (⟨#[]⟩ : ByteArray) from by repeat (first | (with_reducible first | exact HI144.out | apply IsS50.alloc | apply IsS50.drewN | apply IsS50.drew | apply IsS50.set_0) | exact HI144.out))) : gb145 ≠ gb144)); clear HI144; clear HB; have HI144 := n0_; have HB := n1_; have BK145 := n2_; have GW145 := n3_; have GE145 := n4_; have NB144_145 := n5_; have NB145_144 := n6_; clear n0_ n1_ n2_ n3_ n4_ n5_ n6_; clear hb hbox hg; have hnb51 := NB145_144.out; have hnc51 := NB144_145.out; have hcz52_0 : w50.cell? ⟨gb145, 0, none⟩ = some (.int .i64 0) := (kcl BK145.out 0).trans rfl; have hcz52_1 : w50.cell? ⟨gb145, 1, none⟩ = some (.string (⟨#[]⟩ : ByteArray)) := (kcl BK145.out 1).trans rfl; have hcz52_2 : w50.cell? ⟨gb145, 2, none⟩ = some (.string (⟨#[]⟩ : ByteArray)) := (kcl BK145.out 2).trans rfl; have hcz52_3 : w50.cell? ⟨gb145, 3, none⟩ = some (.int .i64 0) := (kcl BK145.out 3).trans rfl; have hfz52_0 := kfr BK145.out 0; have hfz52_1 := kfr BK145.out 1; have hfz52_2 := kfr BK145.out 2; have hfz52_3 := kfr BK145.out 3) | ((with_reducible refine gcl (f := 23) rfl ?_); refine gl_ (some 5) rfl rfl Try.func23 (by kernel_rfl) rfl #[.agg #[.int .i64 8, .string (⟨#[97]⟩ : ByteArray), .string (⟨#[]⟩ : ByteArray), .int .i64 0], .pointer (some ⟨gb144, 0, none⟩)] rfl (by (try simp only [List.map_toArray, List.map_cons, List.map_nil]); first | done | rfl | (simp only [List.length_drop, List.length_take]; rfl)) ?_; (with_reducible refine (method_Call_Put.calls 8 (⟨#[97]⟩ : ByteArray) (⟨#[]⟩ : ByteArray) 0 gb144 (⟨#[]⟩ : ByteArray) t146 w _ ?side1 ?side2 A1.out).mono ?_); (case side1 => repeat (first | (with_reducible first | exact HI144.out | apply IsS50.alloc | apply IsS50.drewN | apply IsS50.drew | apply IsS50.set_0 | refine IsS50.farT (p := ⟨gb145, _, none⟩) (t2 := 27) ?_ ?_ (by decide) (by decide) _ | exact OutT.mk BK145.out | refine OutT.set ?_ _ _ _) | exact HI144.out)); (case side2 => repeat (first | (with_reducible first | exact HB.out | apply bal | apply bdn | apply bd1 | refine bst ?_ (IsS50.ge HI144.out) | refine bst ?_ GE145.out) | exact HB.out)); rintro e w53 ⟨rfl, hi, hb, hk⟩; refine ⟨_, rfl, ?_⟩; have n0_ := Aside0.mk (KeepT.oblk (g := gb145) (o := .cells #[.int .i64 8, .string (⟨#[97]⟩ : ByteArray), .string (⟨#[]⟩ : ByteArray), .int .i64 0] 27 (0, 0)) (by (with_reducible repeat (first | refine kdn ?_ _ | refine kdw ?_ | refine kal ?_ _)); refine kpt (cs := #[.int .i64 8, .string (⟨#[97]⟩ : ByteArray), .string (⟨#[]⟩ : ByteArray), .int .i64 0]) ?_ 3 _ rfl; (with_reducible repeat (first | refine kdn ?_ _ | refine kdw ?_ | refine kal ?_ _)); refine kpt (cs := #[.int .i64 8, .string (⟨#[97]⟩ : ByteArray), .string (⟨#[]⟩ : ByteArray), .int .i64 0]) ?_ 2 _ rfl; (with_reducible repeat (first | refine kdn ?_ _ | refine kdw ?_ | refine kal ?_ _)); refine kpt (cs := #[.int .i64 8, .string (⟨#[]⟩ : ByteArray), .string (⟨#[]⟩ : ByteArray), .int .i64 0]) ?_ 1 _ rfl; (with_reducible repeat (first | refine kdn ?_ _ | refine kdw ?_ | refine kal ?_ _)); refine kpt (cs := #[.int .i64 0, .string (⟨#[]⟩ : ByteArray), .string (⟨#[]⟩ : ByteArray), .int .i64 0]) ?_ 0 _ rfl; (with_reducible repeat (first | refine kdn ?_ _ | refine kdw ?_ | refine kal ?_ _)); exact BK145.out) hk (by intro _ _ _ h_; cases h_; decide)); have n1_ := Aside0.mk (hb); have n2_ := Aside0.mk (hi); clear BK145; clear HB; clear HI144; have BK145 := n0_; have HB := n1_; have HI144 := n2_; clear n0_ n1_ n2_; (try clear hb); (try clear hb2); (try clear hk); (try clear hi)) | ((with_reducible refine gcl (f := 25) rfl ?_); refine gl_ (some 6) rfl rfl Try.func25 (by kernel_rfl) rfl #[.pointer (some ⟨gb144, 0, none⟩)] rfl (by (try simp only [List.map_toArray, List.map_cons, List.map_nil]); first | done | rfl | (simp only [List.length_drop, List.length_take]; rfl)) ?_; (with_reducible refine (codec_Out_Text.calls gb144 t146 t147 t148 w _ ?side1 ?side2 A2.out).mono ?_); (case side1 => repeat (first | (with_reducible first | exact HI144.out | apply IsS50.alloc | apply IsS50.drewN | apply IsS50.drew | apply IsS50.set_0 | refine IsS50.farT (p := ⟨gb145, _, none⟩) (t2 := 27) ?_ ?_ (by decide) (by decide) _ | exact OutT.mk BK145.out | refine OutT.set ?_ _ _ _) | exact HI144.out)); (case side2 => repeat (first | (with_reducible first | exact HB.out | apply bal | apply bdn | apply bd1 | refine bst ?_ (IsS50.ge HI144.out) | refine bst ?_ GE145.out) | exact HB.out)); rintro e w54 ⟨rfl, hi, hb, hk⟩; refine ⟨_, rfl, ?_⟩; have n0_ := Aside0.mk (KeepT.oblk (g := gb145) (o := .cells #[.int .i64 8, .string (⟨#[97]⟩ : ByteArray), .string (⟨#[]⟩ : ByteArray), .int .i64 0] 27 (0, 0)) (by (with_reducible repeat (first | refine kdn ?_ _ | refine kdw ?_ | refine kal ?_ _)); exact BK145.out) hk (by intro _ _ _ h_; cases h_; decide)); have n1_ := Aside0.mk (hb); have n2_ := Aside0.mk (hi); clear BK145; clear HB; clear HI144; have BK145 := n0_; have HB := n1_; have HI144 := n2_; clear n0_ n1_ n2_; (try clear hb); (try clear hb2); (try clear hk); (try clear hi)))
    go_ret
    exact ⟨by first | rfl | (simp [errW_none, errW_some] <;> rfl) | (simp [*, errW_none, errW_some] <;> rfl), by repeat (first | (with_reducible first | exact HB.out | apply bal | apply bdn | apply bd1 | refine bst ?_ (IsS50.ge HI144.out) | refine bst ?_ GE145.out) | exact HB.out)⟩
  rw [if_pos c3] at H
  have c3b0 : (t147.toList == ([1, 8, 1, 1, 97, 0, 0] : List UInt8)) = true := beq_iff_eq.mpr c3
  have c3b1 : (t147.toList != ([1, 8, 1, 1, 97, 0, 0] : List UInt8)) = false := bne_eq_false_iff_eq.mpr c3
  clear c3
  replace H := Option.bind_eq_some_iff.mp H
  obtain ⟨t149, A40, H⟩ := H
  replace H : (if t149 = 0 then ((method_Op_Word.f 17).bind fun t150 => (if t150.toList = ([116, 97, 107, 101] : List UInt8) then ((method_Named.f k (⟨#[100, 101, 98, 105, 116]⟩ : ByteArray)).bind fun t151 => (if t151 = 6 then ((method_Op_Kind.f 14).bind fun t152 => (some (t152 == 6))) else (some false))) else (some false))) else (some false)) = some r := H
  have A4 := Aside0.mk A40
  clear A40
  by_cases c5 : t149 = 0
  rotate_left
  · rw [if_neg c5] at H
    have c5b0 : (t149 == 0) = false := beq_eq_false_iff_ne.mpr c5
    have c5b1 : (t149 != 0) = true := bne_iff_ne.mpr c5
    obtain rfl := Option.some.inj H
    go_enter Try.func9, Try.ntmps9
    go_wp2_with (first | ((with_reducible refine gds (N := 1) rfl ?_); refine bev ?hg (N := 1) ?hd (cs := #[.slice none 0 0]) (t := 50) ?hr ?_; (case hd => rfl); (case hg => rfl); (case hr => first | (go_simp; done) | (go_simp; rfl)); intro gb144 hg w41 hbox hb; have n0_ := Aside0.mk (bsp (by repeat (first | (with_reducible first | exact HB.out | apply bal | apply bdn | apply bd1) | exact HB.out)) hb); have n1_ := Aside0.mk (hbox); have n2_ := Aside0.mk ((by rw [hg]; exact (bsz (by repeat (first | (with_reducible first | exact HB.out | apply bal | apply bdn | apply bd1) | exact HB.out))) : w.heap.size ≤ gb144)); have n3_ := Aside0.mk ((by rw [hg]; exact (bsz (by repeat (first | (with_reducible first | exact HB.out | apply bal | apply bdn | apply bd1) | exact HB.out))) : w.heap.size ≤ gb144)); have n4_ := Aside0.mk ((IsS50.box hbox (by rw [hg]; exact (bsz (by repeat (first | (with_reducible first | exact HB.out | apply bal | apply bdn | apply bd1) | exact HB.out))) : w.heap.size ≤ gb144) : IsS50 w w41 gb144 (⟨#[]⟩ : ByteArray))); clear HB; have HB := n0_; have BK144 := n1_; have GW144 := n2_; have GE144 := n3_; have HI144 := n4_; clear n0_ n1_ n2_ n3_ n4_; clear hb hbox hg) | ((with_reducible refine gds (N := 2) rfl ?_); refine bev ?hg (N := 2) ?hd (cs := #[.int .i64 0, .string (⟨#[]⟩ : ByteArray), .string (⟨#[]⟩ : ByteArray), .int .i64 0]) (t := 27) ?hr ?_; (case hd => rfl); (case hg => rfl); (case hr => first | (go_simp; done) | (go_simp; rfl)); intro gb145 hg w42 hbox hb; have n0_ := Aside0.mk (IsS50.below (by repeat (first | (with_reducible first | exact HI144.out | apply IsS50.alloc | apply IsS50.drewN | apply IsS50.drew | apply IsS50.set_0) | exact HI144.out)) hb); have n1_ := Aside0.mk (bsp (by repeat (first | (with_reducible first | exact HB.out | apply bal | apply bdn | apply bd1 | refine bst ?_ (IsS50.ge HI144.out)) | exact HB.out)) hb); have n2_ := Aside0.mk (hbox); have n3_ := Aside0.mk ((by rw [hg]; exact (bsz (by repeat (first | (with_reducible first | exact HB.out | apply bal | apply bdn | apply bd1 | refine bst ?_ (IsS50.ge HI144.out)) | exact HB.out))) : w.heap.size ≤ gb145)); have n4_ := Aside0.mk ((by rw [hg]; exact (bsz (by repeat (first | (with_reducible first | exact HB.out | apply bal | apply bdn | apply bd1 | refine bst ?_ (IsS50.ge HI144.out)) | exact HB.out))) : w.heap.size ≤ gb145)); have n5_ := Aside0.mk ((by rw [hg]; exact Nat.ne_of_lt (IsS50.lt (show IsS50 w _ gb144 (⟨#[]⟩ : ByteArray) from by repeat (first | (with_reducible first | exact HI144.out | apply IsS50.alloc | apply IsS50.drewN | apply IsS50.drew | apply IsS50.set_0) | exact HI144.out))) : gb144 ≠ gb145)); have n6_ := Aside0.mk ((by rw [hg]; exact Nat.ne_of_gt (IsS50.lt (show IsS50 w _ gb144 (⟨#[]⟩ : ByteArray) from by repeat (first | (with_reducible first | exact HI144.out | apply IsS50.alloc | apply IsS50.drewN | apply IsS50.drew | apply IsS50.set_0) | exact HI144.out))) : gb145 ≠ gb144)); clear HI144; clear HB; have HI144 := n0_; have HB := n1_; have BK145 := n2_; have GW145 := n3_; have GE145 := n4_; have NB144_145 := n5_; have NB145_144 := n6_; clear n0_ n1_ n2_ n3_ n4_ n5_ n6_; clear hb hbox hg; have hnb43 := NB145_144.out; have hnc43 := NB144_145.out; have hcz44_0 : w42.cell? ⟨gb145, 0, none⟩ = some (.int .i64 0) := (kcl BK145.out 0).trans rfl; have hcz44_1 : w42.cell? ⟨gb145, 1, none⟩ = some (.string (⟨#[]⟩ : ByteArray)) := (kcl BK145.out 1).trans rfl; have hcz44_2 : w42.cell? ⟨gb145, 2, none⟩ = some (.string (⟨#[]⟩ : ByteArray)) := (kcl BK145.out 2).trans rfl; have hcz44_3 : w42.cell? ⟨gb145, 3, none⟩ = some (.int .i64 0) := (kcl BK145.out 3).trans rfl; have hfz44_0 := kfr BK145.out 0; have hfz44_1 := kfr BK145.out 1; have hfz44_2 := kfr BK145.out 2; have hfz44_3 := kfr BK145.out 3) | ((with_reducible refine gcl (f := 23) rfl ?_); refine gl_ (some 5) rfl rfl Try.func23 (by kernel_rfl) rfl #[.agg #[.int .i64 8, .string (⟨#[97]⟩ : ByteArray), .string (⟨#[]⟩ : ByteArray), .int .i64 0], .pointer (some ⟨gb144, 0, none⟩)] rfl (by (try simp only [List.map_toArray, List.map_cons, List.map_nil]); first | done | rfl | (simp only [List.length_drop, List.length_take]; rfl)) ?_; (with_reducible refine (method_Call_Put.calls 8 (⟨#[97]⟩ : ByteArray) (⟨#[]⟩ : ByteArray) 0 gb144 (⟨#[]⟩ : ByteArray) t146 w _ ?side1 ?side2 A1.out).mono ?_); (case side1 => repeat (first | (with_reducible first | exact HI144.out | apply IsS50.alloc | apply IsS50.drewN | apply IsS50.drew | apply IsS50.set_0 | refine IsS50.farT (p := ⟨gb145, _, none⟩) (t2 := 27) ?_ ?_ (by decide) (by decide) _ | exact OutT.mk BK145.out | refine OutT.set ?_ _ _ _) | exact HI144.out)); (case side2 => repeat (first | (with_reducible first | exact HB.out | apply bal | apply bdn | apply bd1 | refine bst ?_ (IsS50.ge HI144.out) | refine bst ?_ GE145.out) | exact HB.out)); rintro e w45 ⟨rfl, hi, hb, hk⟩; refine ⟨_, rfl, ?_⟩; have n0_ := Aside0.mk (KeepT.oblk (g := gb145) (o := .cells #[.int .i64 8, .string (⟨#[97]⟩ : ByteArray), .string (⟨#[]⟩ : ByteArray), .int .i64 0] 27 (0, 0)) (by (with_reducible repeat (first | refine kdn ?_ _ | refine kdw ?_ | refine kal ?_ _)); refine kpt (cs := #[.int .i64 8, .string (⟨#[97]⟩ : ByteArray), .string (⟨#[]⟩ : ByteArray), .int .i64 0]) ?_ 3 _ rfl; (with_reducible repeat (first | refine kdn ?_ _ | refine kdw ?_ | refine kal ?_ _)); refine kpt (cs := #[.int .i64 8, .string (⟨#[97]⟩ : ByteArray), .string (⟨#[]⟩ : ByteArray), .int .i64 0]) ?_ 2 _ rfl; (with_reducible repeat (first | refine kdn ?_ _ | refine kdw ?_ | refine kal ?_ _)); refine kpt (cs := #[.int .i64 8, .string (⟨#[]⟩ : ByteArray), .string (⟨#[]⟩ : ByteArray), .int .i64 0]) ?_ 1 _ rfl; (with_reducible repeat (first | refine kdn ?_ _ | refine kdw ?_ | refine kal ?_ _)); refine kpt (cs := #[.int .i64 0, .string (⟨#[]⟩ : ByteArray), .string (⟨#[]⟩ : ByteArray), .int .i64 0]) ?_ 0 _ rfl; (with_reducible repeat (first | refine kdn ?_ _ | refine kdw ?_ | refine kal ?_ _)); exact BK145.out) hk (by intro _ _ _ h_; cases h_; decide)); have n1_ := Aside0.mk (hb); have n2_ := Aside0.mk (hi); clear BK145; clear HB; clear HI144; have BK145 := n0_; have HB := n1_; have HI144 := n2_; clear n0_ n1_ n2_; (try clear hb); (try clear hb2); (try clear hk); (try clear hi)) | ((with_reducible refine gcl (f := 25) rfl ?_); refine gl_ (some 6) rfl rfl Try.func25 (by kernel_rfl) rfl #[.pointer (some ⟨gb144, 0, none⟩)] rfl (by (try simp only [List.map_toArray, List.map_cons, List.map_nil]); first | done | rfl | (simp only [List.length_drop, List.length_take]; rfl)) ?_; (with_reducible refine (codec_Out_Text.calls gb144 t146 t147 t148 w _ ?side1 ?side2 A2.out).mono ?_); (case side1 => repeat (first | (with_reducible first | exact HI144.out | apply IsS50.alloc | apply IsS50.drewN | apply IsS50.drew | apply IsS50.set_0 | refine IsS50.farT (p := ⟨gb145, _, none⟩) (t2 := 27) ?_ ?_ (by decide) (by decide) _ | exact OutT.mk BK145.out | refine OutT.set ?_ _ _ _) | exact HI144.out)); (case side2 => repeat (first | (with_reducible first | exact HB.out | apply bal | apply bdn | apply bd1 | refine bst ?_ (IsS50.ge HI144.out) | refine bst ?_ GE145.out) | exact HB.out)); rintro e w46 ⟨rfl, hi, hb, hk⟩; refine ⟨_, rfl, ?_⟩; have n0_ := Aside0.mk (KeepT.oblk (g := gb145) (o := .cells #[.int .i64 8, .string (⟨#[97]⟩ : ByteArray), .string (⟨#[]⟩ : ByteArray), .int .i64 0] 27 (0, 0)) (by (with_reducible repeat (first | refine kdn ?_ _ | refine kdw ?_ | refine kal ?_ _)); exact BK145.out) hk (by intro _ _ _ h_; cases h_; decide)); have n1_ := Aside0.mk (hb); have n2_ := Aside0.mk (hi); clear BK145; clear HB; clear HI144; have BK145 := n0_; have HB := n1_; have HI144 := n2_; clear n0_ n1_ n2_; (try clear hb); (try clear hb2); (try clear hk); (try clear hi); have hcz47_0 : w46.cell? ⟨gb145, 0, none⟩ = some (.int .i64 8) := (kcl BK145.out 0).trans rfl; have hcz47_1 : w46.cell? ⟨gb145, 1, none⟩ = some (.string (⟨#[97]⟩ : ByteArray)) := (kcl BK145.out 1).trans rfl; have hcz47_2 : w46.cell? ⟨gb145, 2, none⟩ = some (.string (⟨#[]⟩ : ByteArray)) := (kcl BK145.out 2).trans rfl; have hcz47_3 : w46.cell? ⟨gb145, 3, none⟩ = some (.int .i64 0) := (kcl BK145.out 3).trans rfl; have hfz47_0 := kfr BK145.out 0; have hfz47_1 := kfr BK145.out 1; have hfz47_2 := kfr BK145.out 2; have hfz47_3 := kfr BK145.out 3) | (go_at_call 21; (with_reducible refine (method_Call_Check.calls k 8 (⟨#[97]⟩ : ByteArray) (⟨#[]⟩ : ByteArray) 0 t149 _ A4.out).mono ?_); rintro e w48 ⟨rfl, hb⟩; have n0_ := Aside0.mk (IsS50.below (by repeat (first | (with_reducible first | exact HI144.out | apply IsS50.alloc | apply IsS50.drewN | apply IsS50.drew | apply IsS50.set_0 | refine IsS50.farT (p := ⟨gb145, _, none⟩) (t2 := 27) ?_ ?_ (by decide) (by decide) _ | exact OutT.mk BK145.out | refine OutT.set ?_ _ _ _) | exact HI144.out)) hb); have n1_ := Aside0.mk (kbl (g := gb145) (o := .cells #[.int .i64 8, .string (⟨#[97]⟩ : ByteArray), .string (⟨#[]⟩ : ByteArray), .int .i64 0] 27 (0, 0)) (by (with_reducible repeat (first | refine kdn ?_ _ | refine kdw ?_ | refine kal ?_ _)); exact BK145.out) hb); have n2_ := Aside0.mk (bsp (by repeat (first | (with_reducible first | exact HB.out | apply bal | apply bdn | apply bd1 | refine bst ?_ (IsS50.ge HI144.out) | refine bst ?_ GE145.out) | exact HB.out)) hb); clear HI144; clear BK145; clear HB; have HI144 := n0_; have BK145 := n1_; have HB := n2_; clear n0_ n1_ n2_; (try clear hb); (try clear hb2); (try clear hk); (try clear hi)))
    go_ret
    exact ⟨by first | rfl | (simp [errW_none, errW_some] <;> rfl) | (simp [*, errW_none, errW_some] <;> rfl), by repeat (first | (with_reducible first | exact HB.out | apply bal | apply bdn | apply bd1 | refine bst ?_ (IsS50.ge HI144.out) | refine bst ?_ GE145.out) | exact HB.out)⟩
  rw [if_pos c5] at H
  have c5b0 : (t149 == 0) = true := beq_iff_eq.mpr c5
  have c5b1 : (t149 != 0) = false := bne_eq_false_iff_eq.mpr c5
  clear c5
  replace H := Option.bind_eq_some_iff.mp H
  obtain ⟨t150, A60, H⟩ := H
  replace H : (if t150.toList = ([116, 97, 107, 101] : List UInt8) then ((method_Named.f k (⟨#[100, 101, 98, 105, 116]⟩ : ByteArray)).bind fun t151 => (if t151 = 6 then ((method_Op_Kind.f 14).bind fun t152 => (some (t152 == 6))) else (some false))) else (some false)) = some r := H
  have A6 := Aside0.mk A60
  clear A60
  by_cases c7 : t150.toList = ([116, 97, 107, 101] : List UInt8)
  rotate_left
  · rw [if_neg c7] at H
    have c7b0 : (t150.toList == ([116, 97, 107, 101] : List UInt8)) = false := beq_eq_false_iff_ne.mpr c7
    have c7b1 : (t150.toList != ([116, 97, 107, 101] : List UInt8)) = true := bne_iff_ne.mpr c7
    obtain rfl := Option.some.inj H
    go_enter Try.func9, Try.ntmps9
    go_wp2_with (first | ((with_reducible refine gds (N := 1) rfl ?_); refine bev ?hg (N := 1) ?hd (cs := #[.slice none 0 0]) (t := 50) ?hr ?_; (case hd => rfl); (case hg => rfl); (case hr => first | (go_simp; done) | (go_simp; rfl)); intro gb144 hg w32 hbox hb; have n0_ := Aside0.mk (bsp (by repeat (first | (with_reducible first | exact HB.out | apply bal | apply bdn | apply bd1) | exact HB.out)) hb); have n1_ := Aside0.mk (hbox); have n2_ := Aside0.mk ((by rw [hg]; exact (bsz (by repeat (first | (with_reducible first | exact HB.out | apply bal | apply bdn | apply bd1) | exact HB.out))) : w.heap.size ≤ gb144)); have n3_ := Aside0.mk ((by rw [hg]; exact (bsz (by repeat (first | (with_reducible first | exact HB.out | apply bal | apply bdn | apply bd1) | exact HB.out))) : w.heap.size ≤ gb144)); have n4_ := Aside0.mk ((IsS50.box hbox (by rw [hg]; exact (bsz (by repeat (first | (with_reducible first | exact HB.out | apply bal | apply bdn | apply bd1) | exact HB.out))) : w.heap.size ≤ gb144) : IsS50 w w32 gb144 (⟨#[]⟩ : ByteArray))); clear HB; have HB := n0_; have BK144 := n1_; have GW144 := n2_; have GE144 := n3_; have HI144 := n4_; clear n0_ n1_ n2_ n3_ n4_; clear hb hbox hg) | ((with_reducible refine gds (N := 2) rfl ?_); refine bev ?hg (N := 2) ?hd (cs := #[.int .i64 0, .string (⟨#[]⟩ : ByteArray), .string (⟨#[]⟩ : ByteArray), .int .i64 0]) (t := 27) ?hr ?_; (case hd => rfl); (case hg => rfl); (case hr => first | (go_simp; done) | (go_simp; rfl)); intro gb145 hg w33 hbox hb; have n0_ := Aside0.mk (IsS50.below (by repeat (first | (with_reducible first | exact HI144.out | apply IsS50.alloc | apply IsS50.drewN | apply IsS50.drew | apply IsS50.set_0) | exact HI144.out)) hb); have n1_ := Aside0.mk (bsp (by repeat (first | (with_reducible first | exact HB.out | apply bal | apply bdn | apply bd1 | refine bst ?_ (IsS50.ge HI144.out)) | exact HB.out)) hb); have n2_ := Aside0.mk (hbox); have n3_ := Aside0.mk ((by rw [hg]; exact (bsz (by repeat (first | (with_reducible first | exact HB.out | apply bal | apply bdn | apply bd1 | refine bst ?_ (IsS50.ge HI144.out)) | exact HB.out))) : w.heap.size ≤ gb145)); have n4_ := Aside0.mk ((by rw [hg]; exact (bsz (by repeat (first | (with_reducible first | exact HB.out | apply bal | apply bdn | apply bd1 | refine bst ?_ (IsS50.ge HI144.out)) | exact HB.out))) : w.heap.size ≤ gb145)); have n5_ := Aside0.mk ((by rw [hg]; exact Nat.ne_of_lt (IsS50.lt (show IsS50 w _ gb144 (⟨#[]⟩ : ByteArray) from by repeat (first | (with_reducible first | exact HI144.out | apply IsS50.alloc | apply IsS50.drewN | apply IsS50.drew | apply IsS50.set_0) | exact HI144.out))) : gb144 ≠ gb145)); have n6_ := Aside0.mk ((by rw [hg]; exact Nat.ne_of_gt (IsS50.lt (show IsS50 w _ gb144 (⟨#[]⟩ : ByteArray) from by repeat (first | (with_reducible first | exact HI144.out | apply IsS50.alloc | apply IsS50.drewN | apply IsS50.drew | apply IsS50.set_0) | exact HI144.out))) : gb145 ≠ gb144)); clear HI144; clear HB; have HI144 := n0_; have HB := n1_; have BK145 := n2_; have GW145 := n3_; have GE145 := n4_; have NB144_145 := n5_; have NB145_144 := n6_; clear n0_ n1_ n2_ n3_ n4_ n5_ n6_; clear hb hbox hg; have hnb34 := NB145_144.out; have hnc34 := NB144_145.out; have hcz35_0 : w33.cell? ⟨gb145, 0, none⟩ = some (.int .i64 0) := (kcl BK145.out 0).trans rfl; have hcz35_1 : w33.cell? ⟨gb145, 1, none⟩ = some (.string (⟨#[]⟩ : ByteArray)) := (kcl BK145.out 1).trans rfl; have hcz35_2 : w33.cell? ⟨gb145, 2, none⟩ = some (.string (⟨#[]⟩ : ByteArray)) := (kcl BK145.out 2).trans rfl; have hcz35_3 : w33.cell? ⟨gb145, 3, none⟩ = some (.int .i64 0) := (kcl BK145.out 3).trans rfl; have hfz35_0 := kfr BK145.out 0; have hfz35_1 := kfr BK145.out 1; have hfz35_2 := kfr BK145.out 2; have hfz35_3 := kfr BK145.out 3) | ((with_reducible refine gcl (f := 23) rfl ?_); refine gl_ (some 5) rfl rfl Try.func23 (by kernel_rfl) rfl #[.agg #[.int .i64 8, .string (⟨#[97]⟩ : ByteArray), .string (⟨#[]⟩ : ByteArray), .int .i64 0], .pointer (some ⟨gb144, 0, none⟩)] rfl (by (try simp only [List.map_toArray, List.map_cons, List.map_nil]); first | done | rfl | (simp only [List.length_drop, List.length_take]; rfl)) ?_; (with_reducible refine (method_Call_Put.calls 8 (⟨#[97]⟩ : ByteArray) (⟨#[]⟩ : ByteArray) 0 gb144 (⟨#[]⟩ : ByteArray) t146 w _ ?side1 ?side2 A1.out).mono ?_); (case side1 => repeat (first | (with_reducible first | exact HI144.out | apply IsS50.alloc | apply IsS50.drewN | apply IsS50.drew | apply IsS50.set_0 | refine IsS50.farT (p := ⟨gb145, _, none⟩) (t2 := 27) ?_ ?_ (by decide) (by decide) _ | exact OutT.mk BK145.out | refine OutT.set ?_ _ _ _) | exact HI144.out)); (case side2 => repeat (first | (with_reducible first | exact HB.out | apply bal | apply bdn | apply bd1 | refine bst ?_ (IsS50.ge HI144.out) | refine bst ?_ GE145.out) | exact HB.out)); rintro e w36 ⟨rfl, hi, hb, hk⟩; refine ⟨_, rfl, ?_⟩; have n0_ := Aside0.mk (KeepT.oblk (g := gb145) (o := .cells #[.int .i64 8, .string (⟨#[97]⟩ : ByteArray), .string (⟨#[]⟩ : ByteArray), .int .i64 0] 27 (0, 0)) (by (with_reducible repeat (first | refine kdn ?_ _ | refine kdw ?_ | refine kal ?_ _)); refine kpt (cs := #[.int .i64 8, .string (⟨#[97]⟩ : ByteArray), .string (⟨#[]⟩ : ByteArray), .int .i64 0]) ?_ 3 _ rfl; (with_reducible repeat (first | refine kdn ?_ _ | refine kdw ?_ | refine kal ?_ _)); refine kpt (cs := #[.int .i64 8, .string (⟨#[97]⟩ : ByteArray), .string (⟨#[]⟩ : ByteArray), .int .i64 0]) ?_ 2 _ rfl; (with_reducible repeat (first | refine kdn ?_ _ | refine kdw ?_ | refine kal ?_ _)); refine kpt (cs := #[.int .i64 8, .string (⟨#[]⟩ : ByteArray), .string (⟨#[]⟩ : ByteArray), .int .i64 0]) ?_ 1 _ rfl; (with_reducible repeat (first | refine kdn ?_ _ | refine kdw ?_ | refine kal ?_ _)); refine kpt (cs := #[.int .i64 0, .string (⟨#[]⟩ : ByteArray), .string (⟨#[]⟩ : ByteArray), .int .i64 0]) ?_ 0 _ rfl; (with_reducible repeat (first | refine kdn ?_ _ | refine kdw ?_ | refine kal ?_ _)); exact BK145.out) hk (by intro _ _ _ h_; cases h_; decide)); have n1_ := Aside0.mk (hb); have n2_ := Aside0.mk (hi); clear BK145; clear HB; clear HI144; have BK145 := n0_; have HB := n1_; have HI144 := n2_; clear n0_ n1_ n2_; (try clear hb); (try clear hb2); (try clear hk); (try clear hi)) | ((with_reducible refine gcl (f := 25) rfl ?_); refine gl_ (some 6) rfl rfl Try.func25 (by kernel_rfl) rfl #[.pointer (some ⟨gb144, 0, none⟩)] rfl (by (try simp only [List.map_toArray, List.map_cons, List.map_nil]); first | done | rfl | (simp only [List.length_drop, List.length_take]; rfl)) ?_; (with_reducible refine (codec_Out_Text.calls gb144 t146 t147 t148 w _ ?side1 ?side2 A2.out).mono ?_); (case side1 => repeat (first | (with_reducible first | exact HI144.out | apply IsS50.alloc | apply IsS50.drewN | apply IsS50.drew | apply IsS50.set_0 | refine IsS50.farT (p := ⟨gb145, _, none⟩) (t2 := 27) ?_ ?_ (by decide) (by decide) _ | exact OutT.mk BK145.out | refine OutT.set ?_ _ _ _) | exact HI144.out)); (case side2 => repeat (first | (with_reducible first | exact HB.out | apply bal | apply bdn | apply bd1 | refine bst ?_ (IsS50.ge HI144.out) | refine bst ?_ GE145.out) | exact HB.out)); rintro e w37 ⟨rfl, hi, hb, hk⟩; refine ⟨_, rfl, ?_⟩; have n0_ := Aside0.mk (KeepT.oblk (g := gb145) (o := .cells #[.int .i64 8, .string (⟨#[97]⟩ : ByteArray), .string (⟨#[]⟩ : ByteArray), .int .i64 0] 27 (0, 0)) (by (with_reducible repeat (first | refine kdn ?_ _ | refine kdw ?_ | refine kal ?_ _)); exact BK145.out) hk (by intro _ _ _ h_; cases h_; decide)); have n1_ := Aside0.mk (hb); have n2_ := Aside0.mk (hi); clear BK145; clear HB; clear HI144; have BK145 := n0_; have HB := n1_; have HI144 := n2_; clear n0_ n1_ n2_; (try clear hb); (try clear hb2); (try clear hk); (try clear hi); have hcz38_0 : w37.cell? ⟨gb145, 0, none⟩ = some (.int .i64 8) := (kcl BK145.out 0).trans rfl; have hcz38_1 : w37.cell? ⟨gb145, 1, none⟩ = some (.string (⟨#[97]⟩ : ByteArray)) := (kcl BK145.out 1).trans rfl; have hcz38_2 : w37.cell? ⟨gb145, 2, none⟩ = some (.string (⟨#[]⟩ : ByteArray)) := (kcl BK145.out 2).trans rfl; have hcz38_3 : w37.cell? ⟨gb145, 3, none⟩ = some (.int .i64 0) := (kcl BK145.out 3).trans rfl; have hfz38_0 := kfr BK145.out 0; have hfz38_1 := kfr BK145.out 1; have hfz38_2 := kfr BK145.out 2; have hfz38_3 := kfr BK145.out 3) | (go_at_call 21; (with_reducible refine (method_Call_Check.calls k 8 (⟨#[97]⟩ : ByteArray) (⟨#[]⟩ : ByteArray) 0 t149 _ A4.out).mono ?_); rintro e w39 ⟨rfl, hb⟩; have n0_ := Aside0.mk (IsS50.below (by repeat (first | (with_reducible first | exact HI144.out | apply IsS50.alloc | apply IsS50.drewN | apply IsS50.drew | apply IsS50.set_0 | refine IsS50.farT (p := ⟨gb145, _, none⟩) (t2 := 27) ?_ ?_ (by decide) (by decide) _ | exact OutT.mk BK145.out | refine OutT.set ?_ _ _ _) | exact HI144.out)) hb); have n1_ := Aside0.mk (kbl (g := gb145) (o := .cells #[.int .i64 8, .string (⟨#[97]⟩ : ByteArray), .string (⟨#[]⟩ : ByteArray), .int .i64 0] 27 (0, 0)) (by (with_reducible repeat (first | refine kdn ?_ _ | refine kdw ?_ | refine kal ?_ _)); exact BK145.out) hb); have n2_ := Aside0.mk (bsp (by repeat (first | (with_reducible first | exact HB.out | apply bal | apply bdn | apply bd1 | refine bst ?_ (IsS50.ge HI144.out) | refine bst ?_ GE145.out) | exact HB.out)) hb); clear HI144; clear BK145; clear HB; have HI144 := n0_; have BK145 := n1_; have HB := n2_; clear n0_ n1_ n2_; (try clear hb); (try clear hb2); (try clear hk); (try clear hi)) | (go_at_call 10; (with_reducible refine (method_Op_Word.calls 17 t150 _ A6.out).mono ?_); rintro e w40 ⟨rfl, hb⟩; have n0_ := Aside0.mk (IsS50.below (by repeat (first | (with_reducible first | exact HI144.out | apply IsS50.alloc | apply IsS50.drewN | apply IsS50.drew | apply IsS50.set_0 | refine IsS50.farT (p := ⟨gb145, _, none⟩) (t2 := 27) ?_ ?_ (by decide) (by decide) _ | exact OutT.mk BK145.out | refine OutT.set ?_ _ _ _) | exact HI144.out)) hb); have n1_ := Aside0.mk (kbl (g := gb145) (o := .cells #[.int .i64 8, .string (⟨#[97]⟩ : ByteArray), .string (⟨#[]⟩ : ByteArray), .int .i64 0] 27 (0, 0)) (by (with_reducible repeat (first | refine kdn ?_ _ | refine kdw ?_ | refine kal ?_ _)); exact BK145.out) hb); have n2_ := Aside0.mk (bsp (by repeat (first | (with_reducible first | exact HB.out | apply bal | apply bdn | apply bd1 | refine bst ?_ (IsS50.ge HI144.out) | refine bst ?_ GE145.out) | exact HB.out)) hb); clear HI144; clear BK145; clear HB; have HI144 := n0_; have BK145 := n1_; have HB := n2_; clear n0_ n1_ n2_; (try clear hb); (try clear hb2); (try clear hk); (try clear hi)))
    go_ret
    exact ⟨by first | rfl | (simp [errW_none, errW_some] <;> rfl) | (simp [*, errW_none, errW_some] <;> rfl), by repeat (first | (with_reducible first | exact HB.out | apply bal | apply bdn | apply bd1 | refine bst ?_ (IsS50.ge HI144.out) | refine bst ?_ GE145.out) | exact HB.out)⟩
  rw [if_pos c7] at H
  have c7b0 : (t150.toList == ([116, 97, 107, 101] : List UInt8)) = true := beq_iff_eq.mpr c7
  have c7b1 : (t150.toList != ([116, 97, 107, 101] : List UInt8)) = false := bne_eq_false_iff_eq.mpr c7
  clear c7
  replace H := Option.bind_eq_some_iff.mp H
  obtain ⟨t151, A80, H⟩ := H
  replace H : (if t151 = 6 then ((method_Op_Kind.f 14).bind fun t152 => (some (t152 == 6))) else (some false)) = some r := H
  have A8 := Aside0.mk A80
  clear A80
  by_cases c9 : t151 = 6
  rotate_left
  · rw [if_neg c9] at H
    have c9b0 : (t151 == 6) = false := beq_eq_false_iff_ne.mpr c9
    have c9b1 : (t151 != 6) = true := bne_iff_ne.mpr c9
    obtain rfl := Option.some.inj H
    go_enter Try.func9, Try.ntmps9
    go_wp2_with (first | ((with_reducible refine gds (N := 1) rfl ?_); refine bev ?hg (N := 1) ?hd (cs := #[.slice none 0 0]) (t := 50) ?hr ?_; (case hd => rfl); (case hg => rfl); (case hr => first | (go_simp; done) | (go_simp; rfl)); intro gb144 hg w22 hbox hb; have n0_ := Aside0.mk (bsp (by repeat (first | (with_reducible first | exact HB.out | apply bal | apply bdn | apply bd1) | exact HB.out)) hb); have n1_ := Aside0.mk (hbox); have n2_ := Aside0.mk ((by rw [hg]; exact (bsz (by repeat (first | (with_reducible first | exact HB.out | apply bal | apply bdn | apply bd1) | exact HB.out))) : w.heap.size ≤ gb144)); have n3_ := Aside0.mk ((by rw [hg]; exact (bsz (by repeat (first | (with_reducible first | exact HB.out | apply bal | apply bdn | apply bd1) | exact HB.out))) : w.heap.size ≤ gb144)); have n4_ := Aside0.mk ((IsS50.box hbox (by rw [hg]; exact (bsz (by repeat (first | (with_reducible first | exact HB.out | apply bal | apply bdn | apply bd1) | exact HB.out))) : w.heap.size ≤ gb144) : IsS50 w w22 gb144 (⟨#[]⟩ : ByteArray))); clear HB; have HB := n0_; have BK144 := n1_; have GW144 := n2_; have GE144 := n3_; have HI144 := n4_; clear n0_ n1_ n2_ n3_ n4_; clear hb hbox hg) | ((with_reducible refine gds (N := 2) rfl ?_); refine bev ?hg (N := 2) ?hd (cs := #[.int .i64 0, .string (⟨#[]⟩ : ByteArray), .string (⟨#[]⟩ : ByteArray), .int .i64 0]) (t := 27) ?hr ?_; (case hd => rfl); (case hg => rfl); (case hr => first | (go_simp; done) | (go_simp; rfl)); intro gb145 hg w23 hbox hb; have n0_ := Aside0.mk (IsS50.below (by repeat (first | (with_reducible first | exact HI144.out | apply IsS50.alloc | apply IsS50.drewN | apply IsS50.drew | apply IsS50.set_0) | exact HI144.out)) hb); have n1_ := Aside0.mk (bsp (by repeat (first | (with_reducible first | exact HB.out | apply bal | apply bdn | apply bd1 | refine bst ?_ (IsS50.ge HI144.out)) | exact HB.out)) hb); have n2_ := Aside0.mk (hbox); have n3_ := Aside0.mk ((by rw [hg]; exact (bsz (by repeat (first | (with_reducible first | exact HB.out | apply bal | apply bdn | apply bd1 | refine bst ?_ (IsS50.ge HI144.out)) | exact HB.out))) : w.heap.size ≤ gb145)); have n4_ := Aside0.mk ((by rw [hg]; exact (bsz (by repeat (first | (with_reducible first | exact HB.out | apply bal | apply bdn | apply bd1 | refine bst ?_ (IsS50.ge HI144.out)) | exact HB.out))) : w.heap.size ≤ gb145)); have n5_ := Aside0.mk ((by rw [hg]; exact Nat.ne_of_lt (IsS50.lt (show IsS50 w _ gb144 (⟨#[]⟩ : ByteArray) from by repeat (first | (with_reducible first | exact HI144.out | apply IsS50.alloc | apply IsS50.drewN | apply IsS50.drew | apply IsS50.set_0) | exact HI144.out))) : gb144 ≠ gb145)); have n6_ := Aside0.mk ((by rw [hg]; exact Nat.ne_of_gt (IsS50.lt (show IsS50 w _ gb144 (⟨#[]⟩ : ByteArray) from by repeat (first | (with_reducible first | exact HI144.out | apply IsS50.alloc | apply IsS50.drewN | apply IsS50.drew | apply IsS50.set_0) | exact HI144.out))) : gb145 ≠ gb144)); clear HI144; clear HB; have HI144 := n0_; have HB := n1_; have BK145 := n2_; have GW145 := n3_; have GE145 := n4_; have NB144_145 := n5_; have NB145_144 := n6_; clear n0_ n1_ n2_ n3_ n4_ n5_ n6_; clear hb hbox hg; have hnb24 := NB145_144.out; have hnc24 := NB144_145.out; have hcz25_0 : w23.cell? ⟨gb145, 0, none⟩ = some (.int .i64 0) := (kcl BK145.out 0).trans rfl; have hcz25_1 : w23.cell? ⟨gb145, 1, none⟩ = some (.string (⟨#[]⟩ : ByteArray)) := (kcl BK145.out 1).trans rfl; have hcz25_2 : w23.cell? ⟨gb145, 2, none⟩ = some (.string (⟨#[]⟩ : ByteArray)) := (kcl BK145.out 2).trans rfl; have hcz25_3 : w23.cell? ⟨gb145, 3, none⟩ = some (.int .i64 0) := (kcl BK145.out 3).trans rfl; have hfz25_0 := kfr BK145.out 0; have hfz25_1 := kfr BK145.out 1; have hfz25_2 := kfr BK145.out 2; have hfz25_3 := kfr BK145.out 3) | ((with_reducible refine gcl (f := 23) rfl ?_); refine gl_ (some 5) rfl rfl Try.func23 (by kernel_rfl) rfl #[.agg #[.int .i64 8, .string (⟨#[97]⟩ : ByteArray), .string (⟨#[]⟩ : ByteArray), .int .i64 0], .pointer (some ⟨gb144, 0, none⟩)] rfl (by (try simp only [List.map_toArray, List.map_cons, List.map_nil]); first | done | rfl | (simp only [List.length_drop, List.length_take]; rfl)) ?_; (with_reducible refine (method_Call_Put.calls 8 (⟨#[97]⟩ : ByteArray) (⟨#[]⟩ : ByteArray) 0 gb144 (⟨#[]⟩ : ByteArray) t146 w _ ?side1 ?side2 A1.out).mono ?_); (case side1 => repeat (first | (with_reducible first | exact HI144.out | apply IsS50.alloc | apply IsS50.drewN | apply IsS50.drew | apply IsS50.set_0 | refine IsS50.farT (p := ⟨gb145, _, none⟩) (t2 := 27) ?_ ?_ (by decide) (by decide) _ | exact OutT.mk BK145.out | refine OutT.set ?_ _ _ _) | exact HI144.out)); (case side2 => repeat (first | (with_reducible first | exact HB.out | apply bal | apply bdn | apply bd1 | refine bst ?_ (IsS50.ge HI144.out) | refine bst ?_ GE145.out) | exact HB.out)); rintro e w26 ⟨rfl, hi, hb, hk⟩; refine ⟨_, rfl, ?_⟩; have n0_ := Aside0.mk (KeepT.oblk (g := gb145) (o := .cells #[.int .i64 8, .string (⟨#[97]⟩ : ByteArray), .string (⟨#[]⟩ : ByteArray), .int .i64 0] 27 (0, 0)) (by (with_reducible repeat (first | refine kdn ?_ _ | refine kdw ?_ | refine kal ?_ _)); refine kpt (cs := #[.int .i64 8, .string (⟨#[97]⟩ : ByteArray), .string (⟨#[]⟩ : ByteArray), .int .i64 0]) ?_ 3 _ rfl; (with_reducible repeat (first | refine kdn ?_ _ | refine kdw ?_ | refine kal ?_ _)); refine kpt (cs := #[.int .i64 8, .string (⟨#[97]⟩ : ByteArray), .string (⟨#[]⟩ : ByteArray), .int .i64 0]) ?_ 2 _ rfl; (with_reducible repeat (first | refine kdn ?_ _ | refine kdw ?_ | refine kal ?_ _)); refine kpt (cs := #[.int .i64 8, .string (⟨#[]⟩ : ByteArray), .string (⟨#[]⟩ : ByteArray), .int .i64 0]) ?_ 1 _ rfl; (with_reducible repeat (first | refine kdn ?_ _ | refine kdw ?_ | refine kal ?_ _)); refine kpt (cs := #[.int .i64 0, .string (⟨#[]⟩ : ByteArray), .string (⟨#[]⟩ : ByteArray), .int .i64 0]) ?_ 0 _ rfl; (with_reducible repeat (first | refine kdn ?_ _ | refine kdw ?_ | refine kal ?_ _)); exact BK145.out) hk (by intro _ _ _ h_; cases h_; decide)); have n1_ := Aside0.mk (hb); have n2_ := Aside0.mk (hi); clear BK145; clear HB; clear HI144; have BK145 := n0_; have HB := n1_; have HI144 := n2_; clear n0_ n1_ n2_; (try clear hb); (try clear hb2); (try clear hk); (try clear hi)) | ((with_reducible refine gcl (f := 25) rfl ?_); refine gl_ (some 6) rfl rfl Try.func25 (by kernel_rfl) rfl #[.pointer (some ⟨gb144, 0, none⟩)] rfl (by (try simp only [List.map_toArray, List.map_cons, List.map_nil]); first | done | rfl | (simp only [List.length_drop, List.length_take]; rfl)) ?_; (with_reducible refine (codec_Out_Text.calls gb144 t146 t147 t148 w _ ?side1 ?side2 A2.out).mono ?_); (case side1 => repeat (first | (with_reducible first | exact HI144.out | apply IsS50.alloc | apply IsS50.drewN | apply IsS50.drew | apply IsS50.set_0 | refine IsS50.farT (p := ⟨gb145, _, none⟩) (t2 := 27) ?_ ?_ (by decide) (by decide) _ | exact OutT.mk BK145.out | refine OutT.set ?_ _ _ _) | exact HI144.out)); (case side2 => repeat (first | (with_reducible first | exact HB.out | apply bal | apply bdn | apply bd1 | refine bst ?_ (IsS50.ge HI144.out) | refine bst ?_ GE145.out) | exact HB.out)); rintro e w27 ⟨rfl, hi, hb, hk⟩; refine ⟨_, rfl, ?_⟩; have n0_ := Aside0.mk (KeepT.oblk (g := gb145) (o := .cells #[.int .i64 8, .string (⟨#[97]⟩ : ByteArray), .string (⟨#[]⟩ : ByteArray), .int .i64 0] 27 (0, 0)) (by (with_reducible repeat (first | refine kdn ?_ _ | refine kdw ?_ | refine kal ?_ _)); exact BK145.out) hk (by intro _ _ _ h_; cases h_; decide)); have n1_ := Aside0.mk (hb); have n2_ := Aside0.mk (hi); clear BK145; clear HB; clear HI144; have BK145 := n0_; have HB := n1_; have HI144 := n2_; clear n0_ n1_ n2_; (try clear hb); (try clear hb2); (try clear hk); (try clear hi); have hcz28_0 : w27.cell? ⟨gb145, 0, none⟩ = some (.int .i64 8) := (kcl BK145.out 0).trans rfl; have hcz28_1 : w27.cell? ⟨gb145, 1, none⟩ = some (.string (⟨#[97]⟩ : ByteArray)) := (kcl BK145.out 1).trans rfl; have hcz28_2 : w27.cell? ⟨gb145, 2, none⟩ = some (.string (⟨#[]⟩ : ByteArray)) := (kcl BK145.out 2).trans rfl; have hcz28_3 : w27.cell? ⟨gb145, 3, none⟩ = some (.int .i64 0) := (kcl BK145.out 3).trans rfl; have hfz28_0 := kfr BK145.out 0; have hfz28_1 := kfr BK145.out 1; have hfz28_2 := kfr BK145.out 2; have hfz28_3 := kfr BK145.out 3) | (go_at_call 21; (with_reducible refine (method_Call_Check.calls k 8 (⟨#[97]⟩ : ByteArray) (⟨#[]⟩ : ByteArray) 0 t149 _ A4.out).mono ?_); rintro e w29 ⟨rfl, hb⟩; have n0_ := Aside0.mk (IsS50.below (by repeat (first | (with_reducible first | exact HI144.out | apply IsS50.alloc | apply IsS50.drewN | apply IsS50.drew | apply IsS50.set_0 | refine IsS50.farT (p := ⟨gb145, _, none⟩) (t2 := 27) ?_ ?_ (by decide) (by decide) _ | exact OutT.mk BK145.out | refine OutT.set ?_ _ _ _) | exact HI144.out)) hb); have n1_ := Aside0.mk (kbl (g := gb145) (o := .cells #[.int .i64 8, .string (⟨#[97]⟩ : ByteArray), .string (⟨#[]⟩ : ByteArray), .int .i64 0] 27 (0, 0)) (by (with_reducible repeat (first | refine kdn ?_ _ | refine kdw ?_ | refine kal ?_ _)); exact BK145.out) hb); have n2_ := Aside0.mk (bsp (by repeat (first | (with_reducible first | exact HB.out | apply bal | apply bdn | apply bd1 | refine bst ?_ (IsS50.ge HI144.out) | refine bst ?_ GE145.out) | exact HB.out)) hb); clear HI144; clear BK145; clear HB; have HI144 := n0_; have BK145 := n1_; have HB := n2_; clear n0_ n1_ n2_; (try clear hb); (try clear hb2); (try clear hk); (try clear hi)) | (go_at_call 10; (with_reducible refine (method_Op_Word.calls 17 t150 _ A6.out).mono ?_); rintro e w30 ⟨rfl, hb⟩; have n0_ := Aside0.mk (IsS50.below (by repeat (first | (with_reducible first | exact HI144.out | apply IsS50.alloc | apply IsS50.drewN | apply IsS50.drew | apply IsS50.set_0 | refine IsS50.farT (p := ⟨gb145, _, none⟩) (t2 := 27) ?_ ?_ (by decide) (by decide) _ | exact OutT.mk BK145.out | refine OutT.set ?_ _ _ _) | exact HI144.out)) hb); have n1_ := Aside0.mk (kbl (g := gb145) (o := .cells #[.int .i64 8, .string (⟨#[97]⟩ : ByteArray), .string (⟨#[]⟩ : ByteArray), .int .i64 0] 27 (0, 0)) (by (with_reducible repeat (first | refine kdn ?_ _ | refine kdw ?_ | refine kal ?_ _)); exact BK145.out) hb); have n2_ := Aside0.mk (bsp (by repeat (first | (with_reducible first | exact HB.out | apply bal | apply bdn | apply bd1 | refine bst ?_ (IsS50.ge HI144.out) | refine bst ?_ GE145.out) | exact HB.out)) hb); clear HI144; clear BK145; clear HB; have HI144 := n0_; have BK145 := n1_; have HB := n2_; clear n0_ n1_ n2_; (try clear hb); (try clear hb2); (try clear hk); (try clear hi)) | (go_at_call 12; (with_reducible refine (method_Named.calls k (⟨#[100, 101, 98, 105, 116]⟩ : ByteArray) t151 _ A8.out).mono ?_); rintro e w31 ⟨rfl, hb⟩; have n0_ := Aside0.mk (IsS50.below (by repeat (first | (with_reducible first | exact HI144.out | apply IsS50.alloc | apply IsS50.drewN | apply IsS50.drew | apply IsS50.set_0 | refine IsS50.farT (p := ⟨gb145, _, none⟩) (t2 := 27) ?_ ?_ (by decide) (by decide) _ | exact OutT.mk BK145.out | refine OutT.set ?_ _ _ _) | exact HI144.out)) hb); have n1_ := Aside0.mk (kbl (g := gb145) (o := .cells #[.int .i64 8, .string (⟨#[97]⟩ : ByteArray), .string (⟨#[]⟩ : ByteArray), .int .i64 0] 27 (0, 0)) (by (with_reducible repeat (first | refine kdn ?_ _ | refine kdw ?_ | refine kal ?_ _)); exact BK145.out) hb); have n2_ := Aside0.mk (bsp (by repeat (first | (with_reducible first | exact HB.out | apply bal | apply bdn | apply bd1 | refine bst ?_ (IsS50.ge HI144.out) | refine bst ?_ GE145.out) | exact HB.out)) hb); clear HI144; clear BK145; clear HB; have HI144 := n0_; have BK145 := n1_; have HB := n2_; clear n0_ n1_ n2_; (try clear hb); (try clear hb2); (try clear hk); (try clear hi)))
    go_ret
    exact ⟨by first | rfl | (simp [errW_none, errW_some] <;> rfl) | (simp [*, errW_none, errW_some] <;> rfl), by repeat (first | (with_reducible first | exact HB.out | apply bal | apply bdn | apply bd1 | refine bst ?_ (IsS50.ge HI144.out) | refine bst ?_ GE145.out) | exact HB.out)⟩
  rw [if_pos c9] at H
  have c9b0 : (t151 == 6) = true := beq_iff_eq.mpr c9
  have c9b1 : (t151 != 6) = false := bne_eq_false_iff_eq.mpr c9
  clear c9
  replace H := Option.bind_eq_some_iff.mp H
  obtain ⟨t152, A100, H⟩ := H
  replace H : (some (t152 == 6)) = some r := H
  have A10 := Aside0.mk A100
  clear A100
  obtain rfl := Option.some.inj H
  go_enter Try.func9, Try.ntmps9
  go_wp2_with (first | ((with_reducible refine gds (N := 1) rfl ?_); refine bev ?hg (N := 1) ?hd (cs := #[.slice none 0 0]) (t := 50) ?hr ?_; (case hd => rfl); (case hg => rfl); (case hr => first | (go_simp; done) | (go_simp; rfl)); intro gb144 hg w11 hbox hb; have n0_ := Aside0.mk (bsp (by repeat (first | (with_reducible first | exact HB.out | apply bal | apply bdn | apply bd1) | exact HB.out)) hb); have n1_ := Aside0.mk (hbox); have n2_ := Aside0.mk ((by rw [hg]; exact (bsz (by repeat (first | (with_reducible first | exact HB.out | apply bal | apply bdn | apply bd1) | exact HB.out))) : w.heap.size ≤ gb144)); have n3_ := Aside0.mk ((by rw [hg]; exact (bsz (by repeat (first | (with_reducible first | exact HB.out | apply bal | apply bdn | apply bd1) | exact HB.out))) : w.heap.size ≤ gb144)); have n4_ := Aside0.mk ((IsS50.box hbox (by rw [hg]; exact (bsz (by repeat (first | (with_reducible first | exact HB.out | apply bal | apply bdn | apply bd1) | exact HB.out))) : w.heap.size ≤ gb144) : IsS50 w w11 gb144 (⟨#[]⟩ : ByteArray))); clear HB; have HB := n0_; have BK144 := n1_; have GW144 := n2_; have GE144 := n3_; have HI144 := n4_; clear n0_ n1_ n2_ n3_ n4_; clear hb hbox hg) | ((with_reducible refine gds (N := 2) rfl ?_); refine bev ?hg (N := 2) ?hd (cs := #[.int .i64 0, .string (⟨#[]⟩ : ByteArray), .string (⟨#[]⟩ : ByteArray), .int .i64 0]) (t := 27) ?hr ?_; (case hd => rfl); (case hg => rfl); (case hr => first | (go_simp; done) | (go_simp; rfl)); intro gb145 hg w12 hbox hb; have n0_ := Aside0.mk (IsS50.below (by repeat (first | (with_reducible first | exact HI144.out | apply IsS50.alloc | apply IsS50.drewN | apply IsS50.drew | apply IsS50.set_0) | exact HI144.out)) hb); have n1_ := Aside0.mk (bsp (by repeat (first | (with_reducible first | exact HB.out | apply bal | apply bdn | apply bd1 | refine bst ?_ (IsS50.ge HI144.out)) | exact HB.out)) hb); have n2_ := Aside0.mk (hbox); have n3_ := Aside0.mk ((by rw [hg]; exact (bsz (by repeat (first | (with_reducible first | exact HB.out | apply bal | apply bdn | apply bd1 | refine bst ?_ (IsS50.ge HI144.out)) | exact HB.out))) : w.heap.size ≤ gb145)); have n4_ := Aside0.mk ((by rw [hg]; exact (bsz (by repeat (first | (with_reducible first | exact HB.out | apply bal | apply bdn | apply bd1 | refine bst ?_ (IsS50.ge HI144.out)) | exact HB.out))) : w.heap.size ≤ gb145)); have n5_ := Aside0.mk ((by rw [hg]; exact Nat.ne_of_lt (IsS50.lt (show IsS50 w _ gb144 (⟨#[]⟩ : ByteArray) from by repeat (first | (with_reducible first | exact HI144.out | apply IsS50.alloc | apply IsS50.drewN | apply IsS50.drew | apply IsS50.set_0) | exact HI144.out))) : gb144 ≠ gb145)); have n6_ := Aside0.mk ((by rw [hg]; exact Nat.ne_of_gt (IsS50.lt (show IsS50 w _ gb144 (⟨#[]⟩ : ByteArray) from by repeat (first | (with_reducible first | exact HI144.out | apply IsS50.alloc | apply IsS50.drewN | apply IsS50.drew | apply IsS50.set_0) | exact HI144.out))) : gb145 ≠ gb144)); clear HI144; clear HB; have HI144 := n0_; have HB := n1_; have BK145 := n2_; have GW145 := n3_; have GE145 := n4_; have NB144_145 := n5_; have NB145_144 := n6_; clear n0_ n1_ n2_ n3_ n4_ n5_ n6_; clear hb hbox hg; have hnb13 := NB145_144.out; have hnc13 := NB144_145.out; have hcz14_0 : w12.cell? ⟨gb145, 0, none⟩ = some (.int .i64 0) := (kcl BK145.out 0).trans rfl; have hcz14_1 : w12.cell? ⟨gb145, 1, none⟩ = some (.string (⟨#[]⟩ : ByteArray)) := (kcl BK145.out 1).trans rfl; have hcz14_2 : w12.cell? ⟨gb145, 2, none⟩ = some (.string (⟨#[]⟩ : ByteArray)) := (kcl BK145.out 2).trans rfl; have hcz14_3 : w12.cell? ⟨gb145, 3, none⟩ = some (.int .i64 0) := (kcl BK145.out 3).trans rfl; have hfz14_0 := kfr BK145.out 0; have hfz14_1 := kfr BK145.out 1; have hfz14_2 := kfr BK145.out 2; have hfz14_3 := kfr BK145.out 3) | ((with_reducible refine gcl (f := 23) rfl ?_); refine gl_ (some 5) rfl rfl Try.func23 (by kernel_rfl) rfl #[.agg #[.int .i64 8, .string (⟨#[97]⟩ : ByteArray), .string (⟨#[]⟩ : ByteArray), .int .i64 0], .pointer (some ⟨gb144, 0, none⟩)] rfl (by (try simp only [List.map_toArray, List.map_cons, List.map_nil]); first | done | rfl | (simp only [List.length_drop, List.length_take]; rfl)) ?_; (with_reducible refine (method_Call_Put.calls 8 (⟨#[97]⟩ : ByteArray) (⟨#[]⟩ : ByteArray) 0 gb144 (⟨#[]⟩ : ByteArray) t146 w _ ?side1 ?side2 A1.out).mono ?_); (case side1 => repeat (first | (with_reducible first | exact HI144.out | apply IsS50.alloc | apply IsS50.drewN | apply IsS50.drew | apply IsS50.set_0 | refine IsS50.farT (p := ⟨gb145, _, none⟩) (t2 := 27) ?_ ?_ (by decide) (by decide) _ | exact OutT.mk BK145.out | refine OutT.set ?_ _ _ _) | exact HI144.out)); (case side2 => repeat (first | (with_reducible first | exact HB.out | apply bal | apply bdn | apply bd1 | refine bst ?_ (IsS50.ge HI144.out) | refine bst ?_ GE145.out) | exact HB.out)); rintro e w15 ⟨rfl, hi, hb, hk⟩; refine ⟨_, rfl, ?_⟩; have n0_ := Aside0.mk (KeepT.oblk (g := gb145) (o := .cells #[.int .i64 8, .string (⟨#[97]⟩ : ByteArray), .string (⟨#[]⟩ : ByteArray), .int .i64 0] 27 (0, 0)) (by (with_reducible repeat (first | refine kdn ?_ _ | refine kdw ?_ | refine kal ?_ _)); refine kpt (cs := #[.int .i64 8, .string (⟨#[97]⟩ : ByteArray), .string (⟨#[]⟩ : ByteArray), .int .i64 0]) ?_ 3 _ rfl; (with_reducible repeat (first | refine kdn ?_ _ | refine kdw ?_ | refine kal ?_ _)); refine kpt (cs := #[.int .i64 8, .string (⟨#[97]⟩ : ByteArray), .string (⟨#[]⟩ : ByteArray), .int .i64 0]) ?_ 2 _ rfl; (with_reducible repeat (first | refine kdn ?_ _ | refine kdw ?_ | refine kal ?_ _)); refine kpt (cs := #[.int .i64 8, .string (⟨#[]⟩ : ByteArray), .string (⟨#[]⟩ : ByteArray), .int .i64 0]) ?_ 1 _ rfl; (with_reducible repeat (first | refine kdn ?_ _ | refine kdw ?_ | refine kal ?_ _)); refine kpt (cs := #[.int .i64 0, .string (⟨#[]⟩ : ByteArray), .string (⟨#[]⟩ : ByteArray), .int .i64 0]) ?_ 0 _ rfl; (with_reducible repeat (first | refine kdn ?_ _ | refine kdw ?_ | refine kal ?_ _)); exact BK145.out) hk (by intro _ _ _ h_; cases h_; decide)); have n1_ := Aside0.mk (hb); have n2_ := Aside0.mk (hi); clear BK145; clear HB; clear HI144; have BK145 := n0_; have HB := n1_; have HI144 := n2_; clear n0_ n1_ n2_; (try clear hb); (try clear hb2); (try clear hk); (try clear hi)) | ((with_reducible refine gcl (f := 25) rfl ?_); refine gl_ (some 6) rfl rfl Try.func25 (by kernel_rfl) rfl #[.pointer (some ⟨gb144, 0, none⟩)] rfl (by (try simp only [List.map_toArray, List.map_cons, List.map_nil]); first | done | rfl | (simp only [List.length_drop, List.length_take]; rfl)) ?_; (with_reducible refine (codec_Out_Text.calls gb144 t146 t147 t148 w _ ?side1 ?side2 A2.out).mono ?_); (case side1 => repeat (first | (with_reducible first | exact HI144.out | apply IsS50.alloc | apply IsS50.drewN | apply IsS50.drew | apply IsS50.set_0 | refine IsS50.farT (p := ⟨gb145, _, none⟩) (t2 := 27) ?_ ?_ (by decide) (by decide) _ | exact OutT.mk BK145.out | refine OutT.set ?_ _ _ _) | exact HI144.out)); (case side2 => repeat (first | (with_reducible first | exact HB.out | apply bal | apply bdn | apply bd1 | refine bst ?_ (IsS50.ge HI144.out) | refine bst ?_ GE145.out) | exact HB.out)); rintro e w16 ⟨rfl, hi, hb, hk⟩; refine ⟨_, rfl, ?_⟩; have n0_ := Aside0.mk (KeepT.oblk (g := gb145) (o := .cells #[.int .i64 8, .string (⟨#[97]⟩ : ByteArray), .string (⟨#[]⟩ : ByteArray), .int .i64 0] 27 (0, 0)) (by (with_reducible repeat (first | refine kdn ?_ _ | refine kdw ?_ | refine kal ?_ _)); exact BK145.out) hk (by intro _ _ _ h_; cases h_; decide)); have n1_ := Aside0.mk (hb); have n2_ := Aside0.mk (hi); clear BK145; clear HB; clear HI144; have BK145 := n0_; have HB := n1_; have HI144 := n2_; clear n0_ n1_ n2_; (try clear hb); (try clear hb2); (try clear hk); (try clear hi); have hcz17_0 : w16.cell? ⟨gb145, 0, none⟩ = some (.int .i64 8) := (kcl BK145.out 0).trans rfl; have hcz17_1 : w16.cell? ⟨gb145, 1, none⟩ = some (.string (⟨#[97]⟩ : ByteArray)) := (kcl BK145.out 1).trans rfl; have hcz17_2 : w16.cell? ⟨gb145, 2, none⟩ = some (.string (⟨#[]⟩ : ByteArray)) := (kcl BK145.out 2).trans rfl; have hcz17_3 : w16.cell? ⟨gb145, 3, none⟩ = some (.int .i64 0) := (kcl BK145.out 3).trans rfl; have hfz17_0 := kfr BK145.out 0; have hfz17_1 := kfr BK145.out 1; have hfz17_2 := kfr BK145.out 2; have hfz17_3 := kfr BK145.out 3) | (go_at_call 21; (with_reducible refine (method_Call_Check.calls k 8 (⟨#[97]⟩ : ByteArray) (⟨#[]⟩ : ByteArray) 0 t149 _ A4.out).mono ?_); rintro e w18 ⟨rfl, hb⟩; have n0_ := Aside0.mk (IsS50.below (by repeat (first | (with_reducible first | exact HI144.out | apply IsS50.alloc | apply IsS50.drewN | apply IsS50.drew | apply IsS50.set_0 | refine IsS50.farT (p := ⟨gb145, _, none⟩) (t2 := 27) ?_ ?_ (by decide) (by decide) _ | exact OutT.mk BK145.out | refine OutT.set ?_ _ _ _) | exact HI144.out)) hb); have n1_ := Aside0.mk (kbl (g := gb145) (o := .cells #[.int .i64 8, .string (⟨#[97]⟩ : ByteArray), .string (⟨#[]⟩ : ByteArray), .int .i64 0] 27 (0, 0)) (by (with_reducible repeat (first | refine kdn ?_ _ | refine kdw ?_ | refine kal ?_ _)); exact BK145.out) hb); have n2_ := Aside0.mk (bsp (by repeat (first | (with_reducible first | exact HB.out | apply bal | apply bdn | apply bd1 | refine bst ?_ (IsS50.ge HI144.out) | refine bst ?_ GE145.out) | exact HB.out)) hb); clear HI144; clear BK145; clear HB; have HI144 := n0_; have BK145 := n1_; have HB := n2_; clear n0_ n1_ n2_; (try clear hb); (try clear hb2); (try clear hk); (try clear hi)) | (go_at_call 10; (with_reducible refine (method_Op_Word.calls 17 t150 _ A6.out).mono ?_); rintro e w19 ⟨rfl, hb⟩; have n0_ := Aside0.mk (IsS50.below (by repeat (first | (with_reducible first | exact HI144.out | apply IsS50.alloc | apply IsS50.drewN | apply IsS50.drew | apply IsS50.set_0 | refine IsS50.farT (p := ⟨gb145, _, none⟩) (t2 := 27) ?_ ?_ (by decide) (by decide) _ | exact OutT.mk BK145.out | refine OutT.set ?_ _ _ _) | exact HI144.out)) hb); have n1_ := Aside0.mk (kbl (g := gb145) (o := .cells #[.int .i64 8, .string (⟨#[97]⟩ : ByteArray), .string (⟨#[]⟩ : ByteArray), .int .i64 0] 27 (0, 0)) (by (with_reducible repeat (first | refine kdn ?_ _ | refine kdw ?_ | refine kal ?_ _)); exact BK145.out) hb); have n2_ := Aside0.mk (bsp (by repeat (first | (with_reducible first | exact HB.out | apply bal | apply bdn | apply bd1 | refine bst ?_ (IsS50.ge HI144.out) | refine bst ?_ GE145.out) | exact HB.out)) hb); clear HI144; clear BK145; clear HB; have HI144 := n0_; have BK145 := n1_; have HB := n2_; clear n0_ n1_ n2_; (try clear hb); (try clear hb2); (try clear hk); (try clear hi)) | (go_at_call 12; (with_reducible refine (method_Named.calls k (⟨#[100, 101, 98, 105, 116]⟩ : ByteArray) t151 _ A8.out).mono ?_); rintro e w20 ⟨rfl, hb⟩; have n0_ := Aside0.mk (IsS50.below (by repeat (first | (with_reducible first | exact HI144.out | apply IsS50.alloc | apply IsS50.drewN | apply IsS50.drew | apply IsS50.set_0 | refine IsS50.farT (p := ⟨gb145, _, none⟩) (t2 := 27) ?_ ?_ (by decide) (by decide) _ | exact OutT.mk BK145.out | refine OutT.set ?_ _ _ _) | exact HI144.out)) hb); have n1_ := Aside0.mk (kbl (g := gb145) (o := .cells #[.int .i64 8, .string (⟨#[97]⟩ : ByteArray), .string (⟨#[]⟩ : ByteArray), .int .i64 0] 27 (0, 0)) (by (with_reducible repeat (first | refine kdn ?_ _ | refine kdw ?_ | refine kal ?_ _)); exact BK145.out) hb); have n2_ := Aside0.mk (bsp (by repeat (first | (with_reducible first | exact HB.out | apply bal | apply bdn | apply bd1 | refine bst ?_ (IsS50.ge HI144.out) | refine bst ?_ GE145.out) | exact HB.out)) hb); clear HI144; clear BK145; clear HB; have HI144 := n0_; have BK145 := n1_; have HB := n2_; clear n0_ n1_ n2_; (try clear hb); (try clear hb2); (try clear hk); (try clear hi)) | (go_at_call 11; (with_reducible refine (method_Op_Kind.calls 14 t152 _ A10.out).mono ?_); rintro e w21 ⟨rfl, hb⟩; have n0_ := Aside0.mk (IsS50.below (by repeat (first | (with_reducible first | exact HI144.out | apply IsS50.alloc | apply IsS50.drewN | apply IsS50.drew | apply IsS50.set_0 | refine IsS50.farT (p := ⟨gb145, _, none⟩) (t2 := 27) ?_ ?_ (by decide) (by decide) _ | exact OutT.mk BK145.out | refine OutT.set ?_ _ _ _) | exact HI144.out)) hb); have n1_ := Aside0.mk (kbl (g := gb145) (o := .cells #[.int .i64 8, .string (⟨#[97]⟩ : ByteArray), .string (⟨#[]⟩ : ByteArray), .int .i64 0] 27 (0, 0)) (by (with_reducible repeat (first | refine kdn ?_ _ | refine kdw ?_ | refine kal ?_ _)); exact BK145.out) hb); have n2_ := Aside0.mk (bsp (by repeat (first | (with_reducible first | exact HB.out | apply bal | apply bdn | apply bd1 | refine bst ?_ (IsS50.ge HI144.out) | refine bst ?_ GE145.out) | exact HB.out)) hb); clear HI144; clear BK145; clear HB; have HI144 := n0_; have BK145 := n1_; have HB := n2_; clear n0_ n1_ n2_; (try clear hb); (try clear hb2); (try clear hk); (try clear hi)))
  go_ret
  exact ⟨by first | rfl | (simp [errW_none, errW_some] <;> rfl) | (simp [*, errW_none, errW_some] <;> rfl), by repeat (first | (with_reducible first | exact HB.out | apply bal | apply bdn | apply bd1 | refine bst ?_ (IsS50.ge HI144.out) | refine bst ?_ GE145.out) | exact HB.out)⟩
def armoirelaw12_Told.f (a0_0 : Int) (a0_1 : ByteArray) (a0_2 : ByteArray) (a0_3 : Int) : Option (Int × ByteArray × ByteArray × Int) := some (a0_0, a0_1, a0_2, a0_3)
set_option maxHeartbeats 2000000 in
set_option maxRecDepth 100000 in
theorem armoirelaw12_Told.calls (a0_0 : Int) (a0_1 : ByteArray) (a0_2 : ByteArray) (a0_3 : Int) (r1 : Int) (r2 : ByteArray) (r3 : ByteArray) (r4 : Int) (w : World) (h : armoirelaw12_Told.f a0_0 a0_1 a0_2 a0_3 = some (r1, r2, r3, r4)) :
    Calls Try.prog 15 #[.agg #[.int .i64 a0_0, .string a0_1, .string a0_2, .int .i64 a0_3]] w fun e w' => e = .returned (.agg #[.int .i64 r1, .string r2, .string r3, .int .i64 r4]) ∧ Below w.heap.size w w' := by
  have hu27 := Try.underlying27
  have hu37 := Try.underlying37
  have HB := Aside0.mk (Below.refl w.heap.size w)
  have H : (some (a0_0, a0_1, a0_2, a0_3)) = some (r1, r2, r3, r4) := h
  clear h
  simp only [Option.some.injEq, Prod.mk.injEq] at H
  obtain ⟨rfl, rfl, rfl, rfl⟩ := H
  go_enter Try.func15, Try.ntmps15
  go_wp2_with (first | ((with_reducible refine gds (N := 1) rfl ?_); refine bev ?hg (N := 1) ?hd (cs := #[.int .i64 a0_0, .string a0_1, .string a0_2, .int .i64 a0_3]) (t := 27) ?hr ?_; (case hd => rfl); (case hg => rfl); (case hr => first | (go_simp; done) | (go_simp; rfl)); intro gb153 hg w2 hbox hb; have n0_ := Aside0.mk (bsp (by repeat (first | (with_reducible first | exact HB.out | apply bal | apply bdn | apply bd1) | exact HB.out)) hb); have n1_ := Aside0.mk (hbox); have n2_ := Aside0.mk ((by rw [hg]; exact (bsz (by repeat (first | (with_reducible first | exact HB.out | apply bal | apply bdn | apply bd1) | exact HB.out))) : w.heap.size ≤ gb153)); have n3_ := Aside0.mk ((by rw [hg]; exact (bsz (by repeat (first | (with_reducible first | exact HB.out | apply bal | apply bdn | apply bd1) | exact HB.out))) : w.heap.size ≤ gb153)); clear HB; have HB := n0_; have BK153 := n1_; have GW153 := n2_; have GE153 := n3_; clear n0_ n1_ n2_ n3_; clear hb hbox hg) | ((with_reducible refine gds (N := 2) rfl ?_); refine bev ?hg (N := 2) ?hd (cs := #[.int .i64 0, .string (⟨#[]⟩ : ByteArray), .string (⟨#[]⟩ : ByteArray), .int .i64 0]) (t := 37) ?hr ?_; (case hd => rfl); (case hg => rfl); (case hr => first | (go_simp; done) | (go_simp; rfl)); intro gb154 hg w3 hbox hb; have n0_ := Aside0.mk (kbl (g := gb153) (o := .cells #[.int .i64 a0_0, .string a0_1, .string a0_2, .int .i64 a0_3] 27 (0, 0)) (by (with_reducible repeat (first | refine kdn ?_ _ | refine kdw ?_ | refine kal ?_ _)); exact BK153.out) hb); have n1_ := Aside0.mk (bsp (by repeat (first | (with_reducible first | exact HB.out | apply bal | apply bdn | apply bd1 | refine bst ?_ GE153.out) | exact HB.out)) hb); have n2_ := Aside0.mk (hbox); have n3_ := Aside0.mk ((by rw [hg]; exact (bsz (by repeat (first | (with_reducible first | exact HB.out | apply bal | apply bdn | apply bd1 | refine bst ?_ GE153.out) | exact HB.out))) : w.heap.size ≤ gb154)); have n4_ := Aside0.mk ((by rw [hg]; exact (bsz (by repeat (first | (with_reducible first | exact HB.out | apply bal | apply bdn | apply bd1 | refine bst ?_ GE153.out) | exact HB.out))) : w.heap.size ≤ gb154)); have n5_ := Aside0.mk ((by rw [hg]; exact Nat.ne_of_lt (blk_lt (g := gb153) (o := .cells #[.int .i64 a0_0, .string a0_1, .string a0_2, .int .i64 a0_3] 27 (0, 0)) (by (with_reducible repeat (first | refine kdn ?_ _ | refine kdw ?_ | refine kal ?_ _)); exact BK153.out)) : gb153 ≠ gb154)); have n6_ := Aside0.mk ((by rw [hg]; exact Nat.ne_of_gt (blk_lt (g := gb153) (o := .cells #[.int .i64 a0_0, .string a0_1, .string a0_2, .int .i64 a0_3] 27 (0, 0)) (by (with_reducible repeat (first | refine kdn ?_ _ | refine kdw ?_ | refine kal ?_ _)); exact BK153.out)) : gb154 ≠ gb153)); clear BK153; clear HB; have BK153 := n0_; have HB := n1_; have BK154 := n2_; have GW154 := n3_; have GE154 := n4_; have NB153_154 := n5_; have NB154_153 := n6_; clear n0_ n1_ n2_ n3_ n4_ n5_ n6_; clear hb hbox hg; have hnb4 := NB153_154.out; have hnc4 := NB154_153.out; have hcz5_0 : w3.cell? ⟨gb153, 0, none⟩ = some (.int .i64 a0_0) := (kcl BK153.out 0).trans rfl; have hcz5_1 : w3.cell? ⟨gb153, 1, none⟩ = some (.string a0_1) := (kcl BK153.out 1).trans rfl; have hcz5_2 : w3.cell? ⟨gb153, 2, none⟩ = some (.string a0_2) := (kcl BK153.out 2).trans rfl; have hcz5_3 : w3.cell? ⟨gb153, 3, none⟩ = some (.int .i64 a0_3) := (kcl BK153.out 3).trans rfl; have hfz5_0 := kfr BK153.out 0; have hfz5_1 := kfr BK153.out 1; have hfz5_2 := kfr BK153.out 2; have hfz5_3 := kfr BK153.out 3; have hcz6_0 : w3.cell? ⟨gb154, 0, none⟩ = some (.int .i64 0) := (kcl BK154.out 0).trans rfl; have hcz6_1 : w3.cell? ⟨gb154, 1, none⟩ = some (.string (⟨#[]⟩ : ByteArray)) := (kcl BK154.out 1).trans rfl; have hcz6_2 : w3.cell? ⟨gb154, 2, none⟩ = some (.string (⟨#[]⟩ : ByteArray)) := (kcl BK154.out 2).trans rfl; have hcz6_3 : w3.cell? ⟨gb154, 3, none⟩ = some (.int .i64 0) := (kcl BK154.out 3).trans rfl; have hfz6_0 := kfr BK154.out 0; have hfz6_1 := kfr BK154.out 1; have hfz6_2 := kfr BK154.out 2; have hfz6_3 := kfr BK154.out 3))
  refine bodyPost_ret (results_cell_row rfl _ _ gb154 37 #[.int .i64 a0_0, .string a0_1, .string a0_2, .int .i64 a0_3] (0, 0) _ rfl (by (with_reducible repeat (first | refine kdn ?_ _ | refine kdw ?_ | refine kal ?_ _)); refine kpt (cs := #[.int .i64 a0_0, .string a0_1, .string a0_2, .int .i64 0]) ?_ 3 _ rfl; (with_reducible repeat (first | refine kdn ?_ _ | refine kdw ?_ | refine kal ?_ _)); refine kpt (cs := #[.int .i64 a0_0, .string a0_1, .string (⟨#[]⟩ : ByteArray), .int .i64 0]) ?_ 2 _ rfl; (with_reducible repeat (first | refine kdn ?_ _ | refine kdw ?_ | refine kal ?_ _)); refine kpt (cs := #[.int .i64 a0_0, .string (⟨#[]⟩ : ByteArray), .string (⟨#[]⟩ : ByteArray), .int .i64 0]) ?_ 1 _ rfl; (with_reducible repeat (first | refine kdn ?_ _ | refine kdw ?_ | refine kal ?_ _)); refine kpt (cs := #[.int .i64 0, .string (⟨#[]⟩ : ByteArray), .string (⟨#[]⟩ : ByteArray), .int .i64 0]) ?_ 0 _ rfl; (with_reducible repeat (first | refine kdn ?_ _ | refine kdw ?_ | refine kal ?_ _)); exact BK154.out) Try.underlying37 rfl (by kernel_rfl)) rfl ?_
  exact ⟨by first | rfl | (simp [errW_none, errW_some] <;> rfl) | (simp [*, errW_none, errW_some] <;> rfl), by repeat (first | (with_reducible first | exact HB.out | apply bal | apply bdn | apply bd1 | refine bst ?_ GE153.out | refine bst ?_ GE154.out) | exact HB.out)⟩
def armoirelaw01_Cut.f (a0 : ByteArray) (a1 : Int) : Option (ByteArray) := if (a0.size : Int) > a1 then (if 0 ≤ a1 then (if a1 ≤ (a0.size : Int) then (some (a0.extract 0 (a1 : Int).toNat)) else (none)) else (none)) else (some a0)
set_option maxHeartbeats 2000000 in
set_option maxRecDepth 100000 in
theorem armoirelaw01_Cut.calls (a0 : ByteArray) (a1 : Int) (r : ByteArray) (w : World) (h : armoirelaw01_Cut.f a0 a1 = some r) :
    Calls Try.prog 18 #[.string a0, .int .i64 a1] w fun e w' => e = .returned (.string r) ∧ Drawn0 w w' := by
  have H : (if (a0.size : Int) > a1 then (if 0 ≤ a1 then (if a1 ≤ (a0.size : Int) then (some (a0.extract 0 (a1 : Int).toNat)) else (none)) else (none)) else (some a0)) = some r := h
  clear h
  by_cases c3 : (a0.size : Int) > a1
  rotate_left
  · rw [if_neg c3] at H
    have c3b0 : decide (a1 < (a0.size : Int)) = false := decide_eq_false c3
    clear c3
    obtain rfl := Option.some.inj H
    go_enter Try.func18, Try.ntmps18
    go_wp2
    go_ret
    exact ⟨by first | rfl | (simp; done) | (simp [*]; done), by repeat (first | exact Drawn0.refl _ | apply Drawn0.step)⟩
  rw [if_pos c3] at H
  have c3b0 : decide (a1 < (a0.size : Int)) = true := decide_eq_true c3
  clear c3
  by_cases c4 : 0 ≤ a1
  rotate_left
  · rw [if_neg c4] at H
    exact absurd H (by simp)
  rw [if_pos c4] at H
  have c4b0 := eq_true c4
  have c4b1 : decide (0 ≤ a1) = true := decide_eq_true c4
  clear c4
  by_cases c5 : a1 ≤ (a0.size : Int)
  rotate_left
  · rw [if_neg c5] at H
    exact absurd H (by simp)
  rw [if_pos c5] at H
  have c5b0 := eq_true c5
  have c5b1 : decide (a1 ≤ (a0.size : Int)) = true := decide_eq_true c5
  clear c5
  obtain rfl := Option.some.inj H
  go_enter Try.func18, Try.ntmps18
  go_wp2
  go_ret
  exact ⟨by first | rfl | (simp; done) | (simp [*]; done), by repeat (first | exact Drawn0.refl _ | apply Drawn0.step)⟩
def armoireref12_HasA.f (a0 : Int) : Option (Bool) := if a0 = 2 then (some true) else (if a0 ≥ 8 then (if a0 ≤ 14 then (some true) else (some (a0 == 16))) else (some (a0 == 16)))
set_option maxHeartbeats 2000000 in
set_option maxRecDepth 100000 in
theorem armoireref12_HasA.calls (a0 : Int) (r : Bool) (w : World) (h : armoireref12_HasA.f a0 = some r) :
    Calls Try.prog 40 #[.int .i64 a0] w fun e w' => e = .returned (.bool r) ∧ Drawn0 w w' := by
  have H : (if a0 = 2 then (some true) else (if a0 ≥ 8 then (if a0 ≤ 14 then (some true) else (some (a0 == 16))) else (some (a0 == 16)))) = some r := h
  clear h
  by_cases c2 : a0 = 2
  · rw [if_pos c2] at H
    have c2b0 : (a0 == 2) = true := beq_iff_eq.mpr c2
    have c2b1 : (a0 != 2) = false := bne_eq_false_iff_eq.mpr c2
    clear c2
    obtain rfl := Option.some.inj H
    go_enter Try.func40, Try.ntmps40
    go_wp2
    go_ret
    exact ⟨by first | rfl | (simp; done) | (simp [*]; done), by repeat (first | exact Drawn0.refl _ | apply Drawn0.step)⟩
  rw [if_neg c2] at H
  have c2b0 : (a0 == 2) = false := beq_eq_false_iff_ne.mpr c2
  have c2b1 : (a0 != 2) = true := bne_iff_ne.mpr c2
  by_cases c3 : a0 ≥ 8
  rotate_left
  · rw [if_neg c3] at H
    have c3b0 : decide (8 ≤ a0) = false := decide_eq_false c3
    clear c3
    obtain rfl := Option.some.inj H
    go_enter Try.func40, Try.ntmps40
    go_wp2
    go_ret
    exact ⟨by first | rfl | (simp; done) | (simp [*]; done), by repeat (first | exact Drawn0.refl _ | apply Drawn0.step)⟩
  rw [if_pos c3] at H
  have c3b0 : decide (8 ≤ a0) = true := decide_eq_true c3
  clear c3
  by_cases c4 : a0 ≤ 14
  · rw [if_pos c4] at H
    have c4b0 : decide (a0 ≤ 14) = true := decide_eq_true c4
    clear c4
    obtain rfl := Option.some.inj H
    go_enter Try.func40, Try.ntmps40
    go_wp2
    go_ret
    exact ⟨by first | rfl | (simp; done) | (simp [*]; done), by repeat (first | exact Drawn0.refl _ | apply Drawn0.step)⟩
  rw [if_neg c4] at H
  have c4b0 : decide (a0 ≤ 14) = false := decide_eq_false c4
  clear c4
  obtain rfl := Option.some.inj H
  go_enter Try.func40, Try.ntmps40
  go_wp2
  go_ret
  exact ⟨by first | rfl | (simp; done) | (simp [*]; done), by repeat (first | exact Drawn0.refl _ | apply Drawn0.step)⟩
def armoireref12_HasN.f (a0 : Int) : Option (Bool) := if a0 = 3 then (some true) else (if a0 = 5 then (some true) else (some (a0 == 6)))
set_option maxHeartbeats 2000000 in
set_option maxRecDepth 100000 in
theorem armoireref12_HasN.calls (a0 : Int) (r : Bool) (w : World) (h : armoireref12_HasN.f a0 = some r) :
    Calls Try.prog 41 #[.int .i64 a0] w fun e w' => e = .returned (.bool r) ∧ Drawn0 w w' := by
  have H : (if a0 = 3 then (some true) else (if a0 = 5 then (some true) else (some (a0 == 6)))) = some r := h
  clear h
  by_cases c2 : a0 = 3
  · rw [if_pos c2] at H
    have c2b0 : (a0 == 3) = true := beq_iff_eq.mpr c2
    have c2b1 : (a0 != 3) = false := bne_eq_false_iff_eq.mpr c2
    clear c2
    obtain rfl := Option.some.inj H
    go_enter Try.func41, Try.ntmps41
    go_wp2
    go_ret
    exact ⟨by first | rfl | (simp; done) | (simp [*]; done), by repeat (first | exact Drawn0.refl _ | apply Drawn0.step)⟩
  rw [if_neg c2] at H
  have c2b0 : (a0 == 3) = false := beq_eq_false_iff_ne.mpr c2
  have c2b1 : (a0 != 3) = true := bne_iff_ne.mpr c2
  by_cases c3 : a0 = 5
  rotate_left
  · rw [if_neg c3] at H
    have c3b0 : (a0 == 5) = false := beq_eq_false_iff_ne.mpr c3
    have c3b1 : (a0 != 5) = true := bne_iff_ne.mpr c3
    obtain rfl := Option.some.inj H
    go_enter Try.func41, Try.ntmps41
    go_wp2
    go_ret
    exact ⟨by first | rfl | (simp; done) | (simp [*]; done), by repeat (first | exact Drawn0.refl _ | apply Drawn0.step)⟩
  rw [if_pos c3] at H
  have c3b0 : (a0 == 5) = true := beq_iff_eq.mpr c3
  have c3b1 : (a0 != 5) = false := bne_eq_false_iff_eq.mpr c3
  clear c3
  obtain rfl := Option.some.inj H
  go_enter Try.func41, Try.ntmps41
  go_wp2
  go_ret
  exact ⟨by first | rfl | (simp; done) | (simp [*]; done), by repeat (first | exact Drawn0.refl _ | apply Drawn0.step)⟩
end Go.Proofs.Ytkoojbkkkpljoaa.PA

