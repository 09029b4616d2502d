import Derived.Test.YtkkkmbgflflcnaaQQxPAx2
import Derived.Test.YtkkkmbgflflcnaaQQxPAx12
namespace Go.Proofs.Ytkkkmbgflflcnaa.PA
open Go.Proofs.Ytkkkmbgflflcnaa.PL
open Go.RowKit Go.Proofs.YtkkkmbgflflcnaaW.PrintWords Go.Proofs.YtkkkmbgflflcnaaW.PrintLast Go.Proofs.YtkkkmbgflflcnaaW.PrintMore
attribute [local go_sem] max2_int min2_int max_two min_two max_three min_three max_four min_four
set_option linter.unusedVariables false
set_option linter.unusedSimpArgs false
def method_Call_Put.f (a0_0 : Int) (a0_1 : ByteArray) (a0_2 : ByteArray) (a0_3 : Int) (s1_0 : ByteArray) : Option (ByteArray) := (codec_Out_N.f s1_0 (([a0_0] : List Int))).bind fun t233 => ((codec_Out_S.f t233 (([a0_1, a0_2] : List ByteArray))).bind fun t237 => ((codec_Out_I.f t237 (([a0_3] : List Int))).bind fun t241 => (some t241)))
def method_Call_Put.T1 : Bool × List (List Nat × List Nat) := (true, [([], []), ([], []), ([1], [1]), ([2], [2]), ([0, 3], [0, 3]), ([], []), ([5], [5]), ([], []), ([7], [7]), ([6, 8], [6, 8]), ([4, 9, 4], [4, 9]), ([], []), ([11], [11]), ([12], [12]), ([10, 13, 10], [10, 13])])
def method_Call_Put.B1 : List Nat := [0, 0, 2, 6, 15, 0, 32, 0, 128, 480, 1023, 0, 2048, 6144, 16383]
theorem method_Call_Put.tab1 : rtab .any (opsOf Try.f40 1) = method_Call_Put.T1 := by kernel_rfl
theorem method_Call_Put.bits1 : waitsOk method_Call_Put.T1.2 method_Call_Put.B1 = true := by kernel_rfl
set_option maxHeartbeats 2000000 in
set_option maxRecDepth 100000 in
theorem method_Call_Put.calls (a0_0 : Int) (a0_1 : ByteArray) (a0_2 : ByteArray) (a0_3 : Int) (g : Nat) (s1_0 : ByteArray) (r : ByteArray) (w0 w : World) (hI : IsS78 w0 w g s1_0) (hB : Below w0.heap.size w0 w) (h : method_Call_Put.f a0_0 a0_1 a0_2 a0_3 s1_0 = some r) :
    Calls Try.prog 40 #[.agg #[.int .i64 a0_0, .string a0_1, .string a0_2, .int .i64 a0_3], .pointer (some ⟨g, 0, none⟩)] w fun e w' => e = .returned (.tuple #[]) ∧ IsS78 w0 w' g r ∧ Below w0.heap.size w0 w' ∧ KeepT w w' [78, 5] := by
  have hu24 := Try.underlying24
  have HI1 := Aside0.mk hI
  have HK := Aside0.mk (KeepT.refl w [78, 5])
  have HL := Aside0.mk hB.size
  clear hI
  have HW0 := Aside0.mk hB.size
  have HB := Aside0.mk hB
  clear hB
  have H : ((codec_Out_N.f s1_0 (([a0_0] : List Int))).bind fun t233 => ((codec_Out_S.f t233 (([a0_1, a0_2] : List ByteArray))).bind fun t237 => ((codec_Out_I.f t237 (([a0_3] : List Int))).bind fun t241 => (some t241)))) = some r := h
  clear h
  obtain ⟨y230, hy230⟩ : ∃ y_ : List Int, y_ = (([a0_0] : List Int)) := ⟨_, rfl⟩
  replace H : ((codec_Out_N.f s1_0 y230).bind fun t233 => ((codec_Out_S.f t233 (([a0_1, a0_2] : List ByteArray))).bind fun t237 => ((codec_Out_I.f t237 (([a0_3] : List Int))).bind fun t241 => (some t241)))) = some r := by first | (rw [hy230]; with_reducible exact H) | (have H2_ := (Option.bind_some _ _).symm.trans H; rw [hy230]; with_reducible exact H2_) | (have H2_ := (Option.bind_some _ _).symm.trans H; with_reducible exact H2_) | with_reducible exact H | (rw [hy230]; exact H) | exact H
  have Ny230 := Aside0.mk hy230
  clear hy230
  replace H := Option.bind_eq_some_iff.mp H
  obtain ⟨t233, A30, H⟩ := H
  replace H : ((codec_Out_S.f t233 (([a0_1, a0_2] : List ByteArray))).bind fun t237 => ((codec_Out_I.f t237 (([a0_3] : List Int))).bind fun t241 => (some t241))) = some r := H
  have A3 := Aside0.mk A30
  clear A30
  obtain ⟨y234, hy234⟩ : ∃ y_ : List ByteArray, y_ = (([a0_1, a0_2] : List ByteArray)) := ⟨_, rfl⟩
  replace H : ((codec_Out_S.f t233 y234).bind fun t237 => ((codec_Out_I.f t237 (([a0_3] : List Int))).bind fun t241 => (some t241))) = some r := by first | (rw [hy234]; with_reducible exact H) | (have H2_ := (Option.bind_some _ _).symm.trans H; rw [hy234]; with_reducible exact H2_) | (have H2_ := (Option.bind_some _ _).symm.trans H; with_reducible exact H2_) | with_reducible exact H | (rw [hy234]; exact H) | exact H
  have Ny234 := Aside0.mk hy234
  clear hy234
  replace H := Option.bind_eq_some_iff.mp H
  obtain ⟨t237, A40, H⟩ := H
  replace H : ((codec_Out_I.f t237 (([a0_3] : List Int))).bind fun t241 => (some t241)) = some r := H
  have A4 := Aside0.mk A40
  clear A40
  obtain ⟨y238, hy238⟩ : ∃ y_ : List Int, y_ = (([a0_3] : List Int)) := ⟨_, rfl⟩
  replace H : ((codec_Out_I.f t237 y238).bind fun t241 => (some t241)) = some r := by first | (rw [hy238]; with_reducible exact H) | (have H2_ := (Option.bind_some _ _).symm.trans H; rw [hy238]; with_reducible exact H2_) | (have H2_ := (Option.bind_some _ _).symm.trans H; with_reducible exact H2_) | with_reducible exact H | (rw [hy238]; exact H) | exact H
  have Ny238 := Aside0.mk hy238
  clear hy238
  replace H := Option.bind_eq_some_iff.mp H
  obtain ⟨t241, A50, H⟩ := H
  replace H : (some t241) = some r := H
  have A5 := Aside0.mk A50
  clear A50
  obtain rfl := Option.some.inj H
  go_enter Try.func40, Try.ntmps40
  try go_wp2_with (first | ((with_reducible refine gds (N := 2) rfl ?_); refine bev ?hg (N := 2) ?hd (cs := #[.int .i64 a0_0, .string a0_1, .string a0_2, .int .i64 a0_3]) (t := 24) ?hr ?_; (case hd => rfl); (case hg => rfl); (case hr => first | (go_simp; done) | (go_simp; rfl)); intro gb229 hg w6 hbox hb; have n0_ := Aside0.mk (IsS78.below (by repeat (first | (with_reducible first | exact HI1.out | apply IsS78.alloc | apply IsS78.drewN | apply IsS78.drew | apply IsS78.set_0) | exact HI1.out)) hb); have n1_ := Aside0.mk (KeepT.trans (by repeat (first | (with_reducible first | exact HK.out | fail | apply etn | apply etw | apply eta) | exact HK.out)) (KeepT.of_below hb)); have n2_ := Aside0.mk (bsp (by repeat (first | (with_reducible first | exact HB.out | apply bal | apply bdn | apply bd1 | refine bst ?_ (IsS78.ge HI1.out)) | exact HB.out)) hb); have n3_ := Aside0.mk (hbox); have n4_ := Aside0.mk ((by rw [hg]; exact (KeepT.size (w := w) (ts := [78, 5]) (by repeat (first | (with_reducible first | exact HK.out | fail | apply etn | apply etw | apply eta) | exact HK.out))) : w.heap.size ≤ gb229)); have n5_ := Aside0.mk ((Nat.le_trans HW0.out (by rw [hg]; exact (KeepT.size (w := w) (ts := [78, 5]) (by repeat (first | (with_reducible first | exact HK.out | fail | apply etn | apply etw | apply eta) | exact HK.out))) : w.heap.size ≤ gb229) : w0.heap.size ≤ gb229)); have n6_ := Aside0.mk ((by rw [hg]; exact Nat.ne_of_lt (IsS78.lt (show IsS78 w0 _ g s1_0 from by repeat (first | (with_reducible first | exact HI1.out | apply IsS78.alloc | apply IsS78.drewN | apply IsS78.drew | apply IsS78.set_0) | exact HI1.out))) : g ≠ gb229)); have n7_ := Aside0.mk ((by rw [hg]; exact Nat.ne_of_gt (IsS78.lt (show IsS78 w0 _ g s1_0 from by repeat (first | (with_reducible first | exact HI1.out | apply IsS78.alloc | apply IsS78.drewN | apply IsS78.drew | apply IsS78.set_0) | exact HI1.out))) : gb229 ≠ g)); clear HI1; clear HK; clear HB; have HI1 := n0_; have HK := n1_; have HB := n2_; have BK229 := n3_; have GW229 := n4_; have GE229 := n5_; have NB1_229 := n6_; have NB229_1 := n7_; clear n0_ n1_ n2_ n3_ n4_ n5_ n6_ n7_; clear hb hbox hg))
  have n0_ := Aside0.mk (kdw BK229.out)
  have n1_ := Aside0.mk (IsS78.drew HI1.out)
  have n2_ := Aside0.mk (etw HK.out)
  have n3_ := Aside0.mk (bd1 HB.out)
  clear BK229
  clear HI1
  clear HK
  clear HB
  have BK229 := n0_
  have HI1 := n1_
  have HK := n2_
  have HB := n3_
  clear n0_ n1_ n2_ n3_
  refine start_ (n := 15) (S := fun w' => True) (ds := []) #[false,false,false,false,false,false,false,false,false,false,false,false,false,false,false] (by kernel_rfl) rfl rfl trivial (fun hHeld => ?_); refine with_tabW method_Call_Put.tab1 method_Call_Put.bits1 (fun HT_ HW_ => ?_)
  generalize w6.drew = w7 at BK229 HI1 HK HB hHeld ⊢
  refine pure_ (i := 0) (N := some 4) (v := ?_) (a' := ?_) (bA 15 1) rfl rfl (any_of HT_.out (by kernel_rfl)) (fun _ _ _ h => h) (Or.inl ⟨by rfl, ?_⟩) ?_ ?_
  rotate_left; (intro w'; go_simp; with_reducible rfl); rotate_left; (simp only [Act.put, List.setIfInBounds_toArray, List.set_cons_zero, List.set_cons_succ, i64_w, i32_w]; rfl)
  refine pure_ (i := 1) (N := some 5) (v := ?_) (a' := ?_) (bA 15 3) rfl rfl (any_of HT_.out (by kernel_rfl)) (fun _ _ _ h => h) (Or.inl ⟨by rfl, ?_⟩) ?_ ?_
  rotate_left; (intro w'; go_simp; with_reducible rfl); rotate_left; (simp only [Act.put, List.setIfInBounds_toArray, List.set_cons_zero, List.set_cons_succ, i64_w, i32_w]; rfl)
  refine pure_ (i := 5) (N := some 9) (v := ?_) (a' := ?_) (bA 15 35) rfl rfl (any_of HT_.out (by kernel_rfl)) (fun _ _ _ h => h) (Or.inl ⟨by rfl, ?_⟩) ?_ ?_
  rotate_left; (intro w'; go_simp; with_reducible rfl); rotate_left; (simp only [Act.put, List.setIfInBounds_toArray, List.set_cons_zero, List.set_cons_succ, i64_w, i32_w]; rfl)
  refine pure_ (i := 7) (N := some 11) (v := ?_) (a' := ?_) (bA 15 163) rfl rfl (any_of HT_.out (by kernel_rfl)) (fun _ _ _ h => h) (Or.inl ⟨by rfl, ?_⟩) ?_ ?_
  rotate_left; (intro w'; go_simp; with_reducible rfl); rotate_left; (simp only [Act.put, List.setIfInBounds_toArray, List.set_cons_zero, List.set_cons_succ, i64_w, i32_w]; rfl)
  refine pure_ (i := 11) (N := some 15) (v := ?_) (a' := ?_) (bA 15 2211) rfl rfl (any_of HT_.out (by kernel_rfl)) (fun _ _ _ h => h) (Or.inl ⟨by rfl, ?_⟩) ?_ ?_
  rotate_left; (intro w'; go_simp; with_reducible rfl); rotate_left; (simp only [Act.put, List.setIfInBounds_toArray, List.set_cons_zero, List.set_cons_succ, i64_w, i32_w]; rfl)
  refine inv_at [2, 3, 4, 6, 8, 9, 10, 12, 13, 14] (fun a0_ b a w' => ∃ (v231 : Value) (v235 : Value) (v239 : Value), a = putSel a0_ b [(2, 6, .int .i64 a0_0), (3, 7, v231), (4, 8, .pointer (some ⟨g, 0, none⟩)), (6, 10, .string a0_1), (8, 12, .string a0_2), (9, 13, v235), (10, 14, .pointer (some ⟨g, 0, none⟩)), (12, 16, .int .i64 a0_3), (13, 17, v239), (14, 18, .pointer (some ⟨g, 0, none⟩))] ∧ (w'.heap[gb229]? = some (.cells #[.int .i64 a0_0, .string a0_1, .string a0_2, .int .i64 a0_3] 24 (0, 0))) ∧ (b 4 = false → IsS78 w0 w' g s1_0) ∧ (KeepT w w' [78, 5]) ∧ (Below w0.heap.size w0 w') ∧ (b 3 = true → Kd.R (Kd.int .i64) 3 w' w.heap.size (fun _ => True) v231 y230) ∧ (b 4 = true → b 10 = false → IsS78 w0 w' g t233) ∧ (b 9 = true → Kd.R Kd.string 9 w' w.heap.size (fun _ => True) v235 y234) ∧ (b 10 = true → b 14 = false → IsS78 w0 w' g t237) ∧ (b 13 = true → Kd.R (Kd.int .i64) 2 w' w.heap.size (fun _ => True) v239 y238) ∧ (b 14 = true → IsS78 w0 w' g t241)) HT_.out HW_.out (by kernel_rfl) (by kernel_rfl) ?_ ?_ ?_
  · exact ⟨.bool false, .bool false, .bool false, by simp only [putSel, Bool.false_eq_true, if_false], BK229.out, fun _ => HI1.out, HK.out, HB.out, fun h_ => absurd h_ (by decide), fun h_ => absurd h_ (by decide), fun h_ => absurd h_ (by decide), fun h_ => absurd h_ (by decide), fun h_ => absurd h_ (by decide), fun h_ => absurd h_ (by decide)⟩
  · skip
    clear BK229 HB HI1 HK
    refine steps_cons ?_ ?_
    · rintro b a w' ⟨v231, v235, v239, ha, Q_BK229, Q_HI1, Q_HK, Q_HB, Q_HO232, Q_HI1_e4, Q_HO236, Q_HI1_e10, Q_HO240, Q_HI1_e14⟩ hb_ hon hoff
      refine ⟨_, rfl, fun K hK => ?_⟩
      have e5 : a.tmps[5]? = some (.pointer (some ⟨gb229, 0, none⟩)) := by rw [ha]; exact (putSel_off rfl).trans rfl
      replace ha := Aside0.mk ha
      have BK229 := Aside0.mk Q_BK229
      have HI1 := Aside0.mk (Q_HI1 (hoff 4 (by kernel_rfl)))
      have HK := Aside0.mk Q_HK
      have HB := Aside0.mk Q_HB
      have hc0_ : w'.cell? ⟨gb229, 0, none⟩ = some (.int .i64 a0_0) := (kcl BK229.out 0).trans rfl
      have hc1_ : w'.cell? ⟨gb229, 1, none⟩ = some (.string a0_1) := (kcl BK229.out 1).trans rfl
      have hc2_ : w'.cell? ⟨gb229, 2, none⟩ = some (.string a0_2) := (kcl BK229.out 2).trans rfl
      have hc3_ : w'.cell? ⟨gb229, 3, none⟩ = some (.int .i64 a0_3) := (kcl BK229.out 3).trans rfl
      refine value_ (w1 := w') (v := .int .i64 a0_0) (by rfl) rfl ?_ ?_
      · go_simp
        (try simp only [i64_w])
        try rfl
      refine hK.out _ _ ⟨v231, v235, v239, (by rw [ha.out]; exact putSel_upk 0 hb_ rfl rfl rfl), Q_BK229, Q_HI1, Q_HK, Q_HB, fun h0_ => absurd ((hoff 3 (by kernel_rfl)).symm.trans h0_) (by decide), fun h0_ _ => absurd ((hoff 4 (by kernel_rfl)).symm.trans h0_) (by decide), Q_HO236, fun h0_ _ => absurd ((hoff 10 (by kernel_rfl)).symm.trans h0_) (by decide), Q_HO240, fun h0_ => absurd ((hoff 14 (by kernel_rfl)).symm.trans h0_) (by decide)⟩
    refine steps_cons ?_ ?_
    · rintro b a w' ⟨v231, v235, v239, ha, Q_BK229, Q_HI1, Q_HK, Q_HB, Q_HO232, Q_HI1_e4, Q_HO236, Q_HI1_e10, Q_HO240, Q_HI1_e14⟩ hb_ hon hoff
      refine ⟨_, rfl, fun K hK => ?_⟩
      have e6 : a.tmps[6]? = some (.int .i64 a0_0) := by rw [ha]; exact putSel_on (e := (2, 6, .int .i64 a0_0)) 0 rfl rfl (hon 2 (by kernel_rfl)) rfl
      replace ha := Aside0.mk ha
      have BK229 := Aside0.mk Q_BK229
      have HI1 := Aside0.mk (Q_HI1 (hoff 4 (by kernel_rfl)))
      have HK := Aside0.mk Q_HK
      have HB := Aside0.mk Q_HB
      refine Kd.R_lit_step (Kd.int .i64) _ 3 ?hg (N := 7) ?hd (xs := ([a0_0] : List Int)) (inner := [.int .i64 a0_0]) (ok := fun _ => True) (okp := fun _ => True) ?hr ?hp (fun _ hk => hk) trivial (Below.refl _ _) (Nat.le_refl _) (by simp) ?_; (case hd => rfl); (case hg => rfl); (case hr => first | (go_simp; done) | (go_simp; rfl)); (case hp => exact (Reps.one (show Kd.M (Kd.int .i64) _ _ _ a0_0 [.int .i64 a0_0] from rfl) (Reps.none _ _)))
      intro v231 w8 ho9 hb hg_ hnew_
      clear hg_ hnew_
      (first | rw [← Ny230.out] at ho9 | (simp only [Int.reduceToNat] at ho9; rw [← Ny230.out] at ho9))
      have n0_ := Aside0.mk (Kd.R_lower ho9 (KeepT.size (w := w) (ts := [78, 5]) (by repeat (first | (with_reducible first | exact HK.out | fail | apply etn | apply etw | apply eta | refine keepT_far ?_ GW229.out _) | exact HK.out))))
      have n1_ := Aside0.mk (IsS78.below (by repeat (first | (with_reducible first | exact HI1.out | apply IsS78.alloc | apply IsS78.drewN | apply IsS78.drew | apply IsS78.set_0 | refine IsS78.farT (p := ⟨gb229, _, none⟩) (t2 := 24) ?_ ?_ (by decide) (by decide) _ | exact OutT.mk BK229.out | refine OutT.set ?_ _ _ _) | exact HI1.out)) hb)
      have n2_ := Aside0.mk (kbl (g := gb229) (o := .cells #[.int .i64 a0_0, .string a0_1, .string a0_2, .int .i64 a0_3] 24 (0, 0)) (by (with_reducible repeat (first | refine kdn ?_ _ | refine kdw ?_ | refine kal ?_ _)); exact BK229.out) hb)
      have n3_ := Aside0.mk (KeepT.trans (by repeat (first | (with_reducible first | exact HK.out | fail | apply etn | apply etw | apply eta | refine keepT_far ?_ GW229.out _) | exact HK.out)) (KeepT.of_below hb))
      have n4_ := Aside0.mk (bsp (by repeat (first | (with_reducible first | exact HB.out | apply bal | apply bdn | apply bd1 | refine bst ?_ (IsS78.ge HI1.out) | refine bst ?_ GE229.out) | exact HB.out)) hb)
      have z_HO236 := fun (h0_ : b 9 = true) => (show Kd.R Kd.string 9 w8 w.heap.size (fun _ => True) v235 y234 from by first | exact (Kd.R_below (by (with_reducible repeat (first | apply Kd.R_alloc | apply Kd.R_drewN | apply Kd.R_drew)); exact (Q_HO236 h0_)) hb) | exact Kd.R_mono (Kd.R_below (by (with_reducible repeat (first | apply Kd.R_alloc | apply Kd.R_drewN | apply Kd.R_drew)); exact (Q_HO236 h0_)) hb) (fun _ h_ => by first | trivial | exact h_ | exact h_.1))
      have z_HO240 := fun (h0_ : b 13 = true) => (show Kd.R (Kd.int .i64) 2 w8 w.heap.size (fun _ => True) v239 y238 from by first | exact (Kd.R_below (by (with_reducible repeat (first | apply Kd.R_alloc | apply Kd.R_drewN | apply Kd.R_drew)); exact (Q_HO240 h0_)) hb) | exact Kd.R_mono (Kd.R_below (by (with_reducible repeat (first | apply Kd.R_alloc | apply Kd.R_drewN | apply Kd.R_drew)); exact (Q_HO240 h0_)) hb) (fun _ h_ => by first | trivial | exact h_ | exact h_.1))
      clear HI1
      clear BK229
      clear HK
      clear HB
      have HO232 := n0_
      have HI1 := n1_
      have BK229 := n2_
      have HK := n3_
      have HB := n4_
      clear n0_ n1_ n2_ n3_ n4_
      clear hb ho9
      refine hK.out _ _ ⟨v231, v235, v239, (by rw [ha.out]; exact putSel_upk 1 hb_ rfl rfl rfl), (by (with_reducible repeat (first | refine kdn ?_ _ | refine kdw ?_ | refine kal ?_ _)); exact BK229.out), fun _ => (by repeat (first | (with_reducible first | exact HI1.out | apply IsS78.alloc | apply IsS78.drewN | apply IsS78.drew | apply IsS78.set_0 | refine IsS78.farT (p := ⟨gb229, _, none⟩) (t2 := 24) ?_ ?_ (by decide) (by decide) _ | exact OutT.mk BK229.out | refine OutT.set ?_ _ _ _) | exact HI1.out)), (by repeat (first | (with_reducible first | exact HK.out | fail | apply etn | apply etw | apply eta | refine keepT_far ?_ GW229.out _) | exact HK.out)), (by repeat (first | (with_reducible first | exact HB.out | apply bal | apply bdn | apply bd1 | refine bst ?_ (IsS78.ge HI1.out) | refine bst ?_ GE229.out) | exact HB.out)), fun _ => (by (with_reducible repeat (first | apply Kd.R_alloc | apply Kd.R_drewN | apply Kd.R_drew)); exact HO232.out), fun h0_ _ => absurd ((hoff 4 (by kernel_rfl)).symm.trans h0_) (by decide), z_HO236, fun h0_ _ => absurd ((hoff 10 (by kernel_rfl)).symm.trans h0_) (by decide), z_HO240, fun h0_ => absurd ((hoff 14 (by kernel_rfl)).symm.trans h0_) (by decide)⟩
    refine steps_cons ?_ ?_
    · rintro b a w' ⟨v231, v235, v239, ha, Q_BK229, Q_HI1, Q_HK, Q_HB, Q_HO232, Q_HI1_e4, Q_HO236, Q_HI1_e10, Q_HO240, Q_HI1_e14⟩ hb_ hon hoff
      refine ⟨_, rfl, fun K hK => ?_⟩
      have e4 : a.tmps[4]? = some (.pointer (some ⟨g, 0, none⟩)) := by rw [ha]; exact (putSel_off rfl).trans rfl
      have e7 : a.tmps[7]? = some (v231) := by rw [ha]; exact putSel_on (e := (3, 7, v231)) 1 rfl rfl (hon 3 (by kernel_rfl)) rfl
      replace ha := Aside0.mk ha
      have BK229 := Aside0.mk Q_BK229
      have HI1 := Aside0.mk (Q_HI1 hb_)
      have HK := Aside0.mk Q_HK
      have HB := Aside0.mk Q_HB
      have HO232 := Aside0.mk (Q_HO232 (hon 3 (by kernel_rfl)))
      obtain ⟨Ao11, co11, eo11⟩ := Kd.R_slice HO232.out
      (first | subst eo11 | (injection eo11 with f1_ f2_ f3_; have f4_ := f1_.symm; have f5_ := f3_.symm; clear f1_ f2_ f3_; subst f4_; subst f5_))
      refine goes_ Try.func38 (by kernel_rfl) rfl #[.pointer (some ⟨g, 0, none⟩), .slice Ao11 y230.length co11] (by rfl) rfl rfl (by (try simp only [List.map_toArray, List.map_cons, List.map_nil]); first | done | rfl | (simp only [List.length_drop, List.length_take]; rfl) | (simp only [Act.eval, Array.getD_eq_getD_getElem?, Option.getD_some, *]; done) | (simp only [Array.mk.injEq, List.cons.injEq, Value.int.injEq, true_and, and_true]; first | omega | (simp [IntKind.wrap, IntKind.bits, IntKind.signed]; omega))) ?_
      with_reducible refine (codec_Out_N.calls g s1_0 _ _ y230 t233 w0 _ ?side1 ?side2 ?side3 ?side4 ?side5 A3.out).mono ?_
      (case side1 => repeat (first | (with_reducible first | exact HI1.out | apply IsS78.alloc | apply IsS78.drewN | apply IsS78.drew | apply IsS78.set_0 | refine IsS78.farT (p := ⟨gb229, _, none⟩) (t2 := 24) ?_ ?_ (by decide) (by decide) _ | exact OutT.mk BK229.out | refine OutT.set ?_ _ _ _) | exact HI1.out))
      (case side2 => repeat (first | (with_reducible first | exact HB.out | apply bal | apply bdn | apply bd1 | refine bst ?_ (IsS78.ge HI1.out) | refine bst ?_ GE229.out) | exact HB.out))
      (case side3 => repeat (first | exact (Kd.R_reads' HO232.out).2.2 | (with_reducible refine Kd.C_alloc ?_ _) | (with_reducible refine Kd.C_drewN ?_ _) | (with_reducible refine Kd.C_drew ?_)))
      (case side4 => exact (Kd.R_reads' HO232.out).2.1)
      (case side5 => exact fun W_ hk_ => (Kd.R_reads' (KeepT.R (by (with_reducible repeat (first | apply Kd.R_alloc | apply Kd.R_drewN | apply Kd.R_drew)); exact HO232.out) hk_ (by decide))).2.2)
      rintro e w12 ⟨rfl, hi, hb, hk⟩
      refine ⟨_, rfl, ?_⟩
      have n0_ := Aside0.mk (KeepT.oblk (g := gb229) (o := .cells #[.int .i64 a0_0, .string a0_1, .string a0_2, .int .i64 a0_3] 24 (0, 0)) (by (with_reducible repeat (first | refine kdn ?_ _ | refine kdw ?_ | refine kal ?_ _)); exact BK229.out) hk (by intro _ _ _ h_; cases h_; decide))
      have n1_ := Aside0.mk (KeepT.R (by (with_reducible repeat (first | apply Kd.R_alloc | apply Kd.R_drewN | apply Kd.R_drew)); exact HO232.out) hk (by decide))
      have n2_ := Aside0.mk (KeepT.trans (by repeat (first | (with_reducible first | exact HK.out | fail | apply etn | apply etw | apply eta | refine keepT_far ?_ GW229.out _) | exact HK.out)) hk)
      have n3_ := Aside0.mk (hb)
      have n4_ := Aside0.mk (hi)
      have z_HO236 := fun (h0_ : b 9 = true) => (show Kd.R Kd.string 9 w12 w.heap.size (fun _ => True) v235 y234 from by first | exact (KeepT.R (by (with_reducible repeat (first | apply Kd.R_alloc | apply Kd.R_drewN | apply Kd.R_drew)); exact (Q_HO236 h0_)) hk (by decide)) | exact Kd.R_mono (KeepT.R (by (with_reducible repeat (first | apply Kd.R_alloc | apply Kd.R_drewN | apply Kd.R_drew)); exact (Q_HO236 h0_)) hk (by decide)) (fun _ h_ => by first | trivial | exact h_ | exact h_.1))
      have z_HO240 := fun (h0_ : b 13 = true) => (show Kd.R (Kd.int .i64) 2 w12 w.heap.size (fun _ => True) v239 y238 from by first | exact (KeepT.R (by (with_reducible repeat (first | apply Kd.R_alloc | apply Kd.R_drewN | apply Kd.R_drew)); exact (Q_HO240 h0_)) hk (by decide)) | exact Kd.R_mono (KeepT.R (by (with_reducible repeat (first | apply Kd.R_alloc | apply Kd.R_drewN | apply Kd.R_drew)); exact (Q_HO240 h0_)) hk (by decide)) (fun _ h_ => by first | trivial | exact h_ | exact h_.1))
      clear BK229
      clear HO232
      clear HK
      clear HB
      clear HI1
      have BK229 := n0_
      have HO232 := n1_
      have HK := n2_
      have HB := n3_
      have HI1 := n4_
      clear n0_ n1_ n2_ n3_ n4_
      (try clear hb)
      (try clear hb2)
      (try clear hk)
      (try clear hi)
      refine hK.out _ _ ⟨.slice Ao11 y230.length co11, v235, v239, (by rw [ha.out]; exact putSel_upk 2 hb_ rfl rfl rfl), (by (with_reducible repeat (first | refine kdn ?_ _ | refine kdw ?_ | refine kal ?_ _)); exact BK229.out), fun h0_ => absurd ((up_self b 4).symm.trans h0_) (by decide), (by repeat (first | (with_reducible first | exact HK.out | fail | apply etn | apply etw | apply eta | refine keepT_far ?_ GW229.out _) | exact HK.out)), (by repeat (first | (with_reducible first | exact HB.out | apply bal | apply bdn | apply bd1 | refine bst ?_ (IsS78.ge HI1.out) | refine bst ?_ GE229.out) | exact HB.out)), fun _ => (by (with_reducible repeat (first | apply Kd.R_alloc | apply Kd.R_drewN | apply Kd.R_drew)); exact HO232.out), fun _ _ => (by repeat (first | (with_reducible first | exact HI1.out | apply IsS78.alloc | apply IsS78.drewN | apply IsS78.drew | apply IsS78.set_0 | refine IsS78.farT (p := ⟨gb229, _, none⟩) (t2 := 24) ?_ ?_ (by decide) (by decide) _ | exact OutT.mk BK229.out | refine OutT.set ?_ _ _ _) | exact HI1.out)), z_HO236, fun h0_ _ => absurd ((hoff 10 (by kernel_rfl)).symm.trans h0_) (by decide), z_HO240, fun h0_ => absurd ((hoff 14 (by kernel_rfl)).symm.trans h0_) (by decide)⟩
    refine steps_cons ?_ ?_
    · rintro b a w' ⟨v231, v235, v239, ha, Q_BK229, Q_HI1, Q_HK, Q_HB, Q_HO232, Q_HI1_e4, Q_HO236, Q_HI1_e10, Q_HO240, Q_HI1_e14⟩ hb_ hon hoff
      refine ⟨_, rfl, fun K hK => ?_⟩
      have e9 : a.tmps[9]? = some (.pointer (some ⟨gb229, 1, none⟩)) := by rw [ha]; exact (putSel_off rfl).trans rfl
      replace ha := Aside0.mk ha
      have BK229 := Aside0.mk Q_BK229
      have HK := Aside0.mk Q_HK
      have HB := Aside0.mk Q_HB
      have hc0_ : w'.cell? ⟨gb229, 0, none⟩ = some (.int .i64 a0_0) := (kcl BK229.out 0).trans rfl
      have hc1_ : w'.cell? ⟨gb229, 1, none⟩ = some (.string a0_1) := (kcl BK229.out 1).trans rfl
      have hc2_ : w'.cell? ⟨gb229, 2, none⟩ = some (.string a0_2) := (kcl BK229.out 2).trans rfl
      have hc3_ : w'.cell? ⟨gb229, 3, none⟩ = some (.int .i64 a0_3) := (kcl BK229.out 3).trans rfl
      refine value_ (w1 := w') (v := .string a0_1) (by rfl) rfl ?_ ?_
      · go_simp
        (try simp only [i64_w])
        try rfl
      refine hK.out _ _ ⟨v231, v235, v239, (by rw [ha.out]; exact putSel_upk 3 hb_ rfl rfl rfl), Q_BK229, Q_HI1, Q_HK, Q_HB, Q_HO232, Q_HI1_e4, fun h0_ => absurd ((hoff 9 (by kernel_rfl)).symm.trans h0_) (by decide), fun h0_ _ => absurd ((hoff 10 (by kernel_rfl)).symm.trans h0_) (by decide), Q_HO240, fun h0_ => absurd ((hoff 14 (by kernel_rfl)).symm.trans h0_) (by decide)⟩
    refine steps_cons ?_ ?_
    · rintro b a w' ⟨v231, v235, v239, ha, Q_BK229, Q_HI1, Q_HK, Q_HB, Q_HO232, Q_HI1_e4, Q_HO236, Q_HI1_e10, Q_HO240, Q_HI1_e14⟩ hb_ hon hoff
      refine ⟨_, rfl, fun K hK => ?_⟩
      have e11 : a.tmps[11]? = some (.pointer (some ⟨gb229, 2, none⟩)) := by rw [ha]; exact (putSel_off rfl).trans rfl
      replace ha := Aside0.mk ha
      have BK229 := Aside0.mk Q_BK229
      have HK := Aside0.mk Q_HK
      have HB := Aside0.mk Q_HB
      have hc0_ : w'.cell? ⟨gb229, 0, none⟩ = some (.int .i64 a0_0) := (kcl BK229.out 0).trans rfl
      have hc1_ : w'.cell? ⟨gb229, 1, none⟩ = some (.string a0_1) := (kcl BK229.out 1).trans rfl
      have hc2_ : w'.cell? ⟨gb229, 2, none⟩ = some (.string a0_2) := (kcl BK229.out 2).trans rfl
      have hc3_ : w'.cell? ⟨gb229, 3, none⟩ = some (.int .i64 a0_3) := (kcl BK229.out 3).trans rfl
      refine value_ (w1 := w') (v := .string a0_2) (by rfl) rfl ?_ ?_
      · go_simp
        (try simp only [i64_w])
        try rfl
      refine hK.out _ _ ⟨v231, v235, v239, (by rw [ha.out]; exact putSel_upk 4 hb_ rfl rfl rfl), Q_BK229, Q_HI1, Q_HK, Q_HB, Q_HO232, Q_HI1_e4, fun h0_ => absurd ((hoff 9 (by kernel_rfl)).symm.trans h0_) (by decide), fun h0_ _ => absurd ((hoff 10 (by kernel_rfl)).symm.trans h0_) (by decide), Q_HO240, fun h0_ => absurd ((hoff 14 (by kernel_rfl)).symm.trans h0_) (by decide)⟩
    refine steps_cons ?_ ?_
    · rintro b a w' ⟨v231, v235, v239, ha, Q_BK229, Q_HI1, Q_HK, Q_HB, Q_HO232, Q_HI1_e4, Q_HO236, Q_HI1_e10, Q_HO240, Q_HI1_e14⟩ hb_ hon hoff
      refine ⟨_, rfl, fun K hK => ?_⟩
      have e10 : a.tmps[10]? = some (.string a0_1) := by rw [ha]; exact putSel_on (e := (6, 10, .string a0_1)) 3 rfl rfl (hon 6 (by kernel_rfl)) rfl
      have e12 : a.tmps[12]? = some (.string a0_2) := by rw [ha]; exact putSel_on (e := (8, 12, .string a0_2)) 4 rfl rfl (hon 8 (by kernel_rfl)) rfl
      replace ha := Aside0.mk ha
      have BK229 := Aside0.mk Q_BK229
      have HK := Aside0.mk Q_HK
      have HB := Aside0.mk Q_HB
      refine Kd.R_lit_step Kd.string _ 9 ?hg (N := 13) ?hd (xs := ([a0_1, a0_2] : List ByteArray)) (inner := [.string a0_1, .string a0_2]) (ok := fun _ => True) (okp := fun _ => True) ?hr ?hp (fun _ hk => hk) trivial (Below.refl _ _) (Nat.le_refl _) (by simp) ?_; (case hd => rfl); (case hg => rfl); (case hr => first | (go_simp; done) | (go_simp; rfl)); (case hp => exact (Reps.one (show Kd.M Kd.string _ _ _ a0_1 [.string a0_1] from rfl) (Reps.one (show Kd.M Kd.string _ _ _ a0_2 [.string a0_2] from rfl) (Reps.none _ _))))
      intro v235 w8 ho9 hb hg_ hnew_
      clear hg_ hnew_
      (first | rw [← Ny234.out] at ho9 | (simp only [Int.reduceToNat] at ho9; rw [← Ny234.out] at ho9))
      have n0_ := Aside0.mk (Kd.R_lower ho9 (KeepT.size (w := w) (ts := [78, 5]) (by repeat (first | (with_reducible first | exact HK.out | fail | apply etn | apply etw | apply eta | refine keepT_far ?_ GW229.out _) | exact HK.out))))
      have n2_ := Aside0.mk (kbl (g := gb229) (o := .cells #[.int .i64 a0_0, .string a0_1, .string a0_2, .int .i64 a0_3] 24 (0, 0)) (by (with_reducible repeat (first | refine kdn ?_ _ | refine kdw ?_ | refine kal ?_ _)); exact BK229.out) hb)
      have n3_ := Aside0.mk (KeepT.trans (by repeat (first | (with_reducible first | exact HK.out | fail | apply etn | apply etw | apply eta | refine keepT_far ?_ GW229.out _) | exact HK.out)) (KeepT.of_below hb))
      have n4_ := Aside0.mk (bsp (by repeat (first | (with_reducible first | exact HB.out | apply bal | apply bdn | apply bd1 | refine bst ?_ GE229.out) | exact HB.out)) hb)
      have z_HI1 := fun (h0_ : b 4 = false) => (show IsS78 w0 w8 g s1_0 from by first | exact (IsS78.below (by repeat (first | (with_reducible first | exact (Q_HI1 h0_) | apply IsS78.alloc | apply IsS78.drewN | apply IsS78.drew | apply IsS78.set_0 | refine IsS78.farT (p := ⟨gb229, _, none⟩) (t2 := 24) ?_ ?_ (by decide) (by decide) _ | exact OutT.mk BK229.out | refine OutT.set ?_ _ _ _) | exact (Q_HI1 h0_))) hb))
      have z_HO232 := fun (h0_ : b 3 = true) => (show Kd.R (Kd.int .i64) 3 w8 w.heap.size (fun _ => True) v231 y230 from by first | exact (Kd.R_below (by (with_reducible repeat (first | apply Kd.R_alloc | apply Kd.R_drewN | apply Kd.R_drew)); exact (Q_HO232 h0_)) hb) | exact Kd.R_mono (Kd.R_below (by (with_reducible repeat (first | apply Kd.R_alloc | apply Kd.R_drewN | apply Kd.R_drew)); exact (Q_HO232 h0_)) hb) (fun _ h_ => by first | trivial | exact h_ | exact h_.1))
      have z_HI1_e4 := fun (h0_ : b 4 = true) (h1_ : b 10 = false) => (show IsS78 w0 w8 g t233 from by first | exact (IsS78.below (by repeat (first | (with_reducible first | exact (Q_HI1_e4 h0_ h1_) | apply IsS78.alloc | apply IsS78.drewN | apply IsS78.drew | apply IsS78.set_0 | refine IsS78.farT (p := ⟨gb229, _, none⟩) (t2 := 24) ?_ ?_ (by decide) (by decide) _ | exact OutT.mk BK229.out | refine OutT.set ?_ _ _ _) | exact (Q_HI1_e4 h0_ h1_))) hb))
      have z_HO240 := fun (h0_ : b 13 = true) => (show Kd.R (Kd.int .i64) 2 w8 w.heap.size (fun _ => True) v239 y238 from by first | exact (Kd.R_below (by (with_reducible repeat (first | apply Kd.R_alloc | apply Kd.R_drewN | apply Kd.R_drew)); exact (Q_HO240 h0_)) hb) | exact Kd.R_mono (Kd.R_below (by (with_reducible repeat (first | apply Kd.R_alloc | apply Kd.R_drewN | apply Kd.R_drew)); exact (Q_HO240 h0_)) hb) (fun _ h_ => by first | trivial | exact h_ | exact h_.1))
      clear BK229
      clear HK
      clear HB
      have HO236 := n0_
      have BK229 := n2_
      have HK := n3_
      have HB := n4_
      clear n0_ n2_ n3_ n4_
      clear hb ho9
      refine hK.out _ _ ⟨v231, v235, v239, (by rw [ha.out]; exact putSel_upk 5 hb_ rfl rfl rfl), (by (with_reducible repeat (first | refine kdn ?_ _ | refine kdw ?_ | refine kal ?_ _)); exact BK229.out), z_HI1, (by repeat (first | (with_reducible first | exact HK.out | fail | apply etn | apply etw | apply eta | refine keepT_far ?_ GW229.out _) | exact HK.out)), (by repeat (first | (with_reducible first | exact HB.out | apply bal | apply bdn | apply bd1 | refine bst ?_ GE229.out) | exact HB.out)), z_HO232, z_HI1_e4, fun _ => (by (with_reducible repeat (first | apply Kd.R_alloc | apply Kd.R_drewN | apply Kd.R_drew)); exact HO236.out), fun h0_ _ => absurd ((hoff 10 (by kernel_rfl)).symm.trans h0_) (by decide), z_HO240, fun h0_ => absurd ((hoff 14 (by kernel_rfl)).symm.trans h0_) (by decide)⟩
    refine steps_cons ?_ ?_
    · rintro b a w' ⟨v231, v235, v239, ha, Q_BK229, Q_HI1, Q_HK, Q_HB, Q_HO232, Q_HI1_e4, Q_HO236, Q_HI1_e10, Q_HO240, Q_HI1_e14⟩ hb_ hon hoff
      refine ⟨_, rfl, fun K hK => ?_⟩
      have e8 : a.tmps[8]? = some (.pointer (some ⟨g, 0, none⟩)) := by rw [ha]; exact putSel_on (e := (4, 8, .pointer (some ⟨g, 0, none⟩))) 2 rfl rfl (hon 4 (by kernel_rfl)) rfl
      have e13 : a.tmps[13]? = some (v235) := by rw [ha]; exact putSel_on (e := (9, 13, v235)) 5 rfl rfl (hon 9 (by kernel_rfl)) rfl
      replace ha := Aside0.mk ha
      have BK229 := Aside0.mk Q_BK229
      have HK := Aside0.mk Q_HK
      have HB := Aside0.mk Q_HB
      have HO232 := Aside0.mk (Q_HO232 (hon 3 (by kernel_rfl)))
      have HI1 := Aside0.mk (Q_HI1_e4 (hon 4 (by kernel_rfl)) hb_)
      have HO236 := Aside0.mk (Q_HO236 (hon 9 (by kernel_rfl)))
      obtain ⟨Ao15, co15, eo15⟩ := Kd.R_slice HO236.out
      (first | subst eo15 | (injection eo15 with f1_ f2_ f3_; have f4_ := f1_.symm; have f5_ := f3_.symm; clear f1_ f2_ f3_; subst f4_; subst f5_))
      refine goes_ Try.func39 (by kernel_rfl) rfl #[.pointer (some ⟨g, 0, none⟩), .slice Ao15 y234.length co15] (by rfl) rfl rfl (by (try simp only [List.map_toArray, List.map_cons, List.map_nil]); first | done | rfl | (simp only [List.length_drop, List.length_take]; rfl) | (simp only [Act.eval, Array.getD_eq_getD_getElem?, Option.getD_some, *]; done) | (simp only [Array.mk.injEq, List.cons.injEq, Value.int.injEq, true_and, and_true]; first | omega | (simp [IntKind.wrap, IntKind.bits, IntKind.signed]; omega))) ?_
      with_reducible refine (codec_Out_S.calls g t233 _ _ y234 t237 w0 _ ?side1 ?side2 ?side3 ?side4 ?side5 A4.out).mono ?_
      (case side1 => repeat (first | (with_reducible first | exact HI1.out | apply IsS78.alloc | apply IsS78.drewN | apply IsS78.drew | apply IsS78.set_0 | refine IsS78.farT (p := ⟨gb229, _, none⟩) (t2 := 24) ?_ ?_ (by decide) (by decide) _ | exact OutT.mk BK229.out | refine OutT.set ?_ _ _ _) | exact HI1.out))
      (case side2 => repeat (first | (with_reducible first | exact HB.out | apply bal | apply bdn | apply bd1 | refine bst ?_ (IsS78.ge HI1.out) | refine bst ?_ GE229.out) | exact HB.out))
      (case side3 => repeat (first | exact (Kd.R_reads' HO236.out).2.2 | (with_reducible refine Kd.C_alloc ?_ _) | (with_reducible refine Kd.C_drewN ?_ _) | (with_reducible refine Kd.C_drew ?_)))
      (case side4 => exact (Kd.R_reads' HO236.out).2.1)
      (case side5 => exact fun W_ hk_ => (Kd.R_reads' (KeepT.R (by (with_reducible repeat (first | apply Kd.R_alloc | apply Kd.R_drewN | apply Kd.R_drew)); exact HO236.out) hk_ (by decide))).2.2)
      rintro e w16 ⟨rfl, hi, hb, hk⟩
      refine ⟨_, rfl, ?_⟩
      have n0_ := Aside0.mk (KeepT.oblk (g := gb229) (o := .cells #[.int .i64 a0_0, .string a0_1, .string a0_2, .int .i64 a0_3] 24 (0, 0)) (by (with_reducible repeat (first | refine kdn ?_ _ | refine kdw ?_ | refine kal ?_ _)); exact BK229.out) hk (by intro _ _ _ h_; cases h_; decide))
      have n1_ := Aside0.mk (KeepT.R (by (with_reducible repeat (first | apply Kd.R_alloc | apply Kd.R_drewN | apply Kd.R_drew)); exact HO232.out) hk (by decide))
      have n2_ := Aside0.mk (KeepT.R (by (with_reducible repeat (first | apply Kd.R_alloc | apply Kd.R_drewN | apply Kd.R_drew)); exact HO236.out) hk (by decide))
      have n3_ := Aside0.mk (KeepT.trans (by repeat (first | (with_reducible first | exact HK.out | fail | apply etn | apply etw | apply eta | refine keepT_far ?_ GW229.out _) | exact HK.out)) hk)
      have n4_ := Aside0.mk (hb)
      have n5_ := Aside0.mk (hi)
      have z_HO240 := fun (h0_ : b 13 = true) => (show Kd.R (Kd.int .i64) 2 w16 w.heap.size (fun _ => True) v239 y238 from by first | exact (KeepT.R (by (with_reducible repeat (first | apply Kd.R_alloc | apply Kd.R_drewN | apply Kd.R_drew)); exact (Q_HO240 h0_)) hk (by decide)) | exact Kd.R_mono (KeepT.R (by (with_reducible repeat (first | apply Kd.R_alloc | apply Kd.R_drewN | apply Kd.R_drew)); exact (Q_HO240 h0_)) hk (by decide)) (fun _ h_ => by first | trivial | exact h_ | exact h_.1))
      clear BK229
      clear HO232
      clear HO236
      clear HK
      clear HB
      clear HI1
      have BK229 := n0_
      have HO232 := n1_
      have HO236 := n2_
      have HK := n3_
      have HB := n4_
      have HI1 := n5_
      clear n0_ n1_ n2_ n3_ n4_ n5_
      (try clear hb)
      (try clear hb2)
      (try clear hk)
      (try clear hi)
      refine hK.out _ _ ⟨v231, .slice Ao15 y234.length co15, v239, (by rw [ha.out]; exact putSel_upk 6 hb_ rfl rfl rfl), (by (with_reducible repeat (first | refine kdn ?_ _ | refine kdw ?_ | refine kal ?_ _)); exact BK229.out), fun h0_ => absurd ((hon 4 (by kernel_rfl)).symm.trans h0_) (by decide), (by repeat (first | (with_reducible first | exact HK.out | fail | apply etn | apply etw | apply eta | refine keepT_far ?_ GW229.out _) | exact HK.out)), (by repeat (first | (with_reducible first | exact HB.out | apply bal | apply bdn | apply bd1 | refine bst ?_ (IsS78.ge HI1.out) | refine bst ?_ GE229.out) | exact HB.out)), fun _ => (by (with_reducible repeat (first | apply Kd.R_alloc | apply Kd.R_drewN | apply Kd.R_drew)); exact HO232.out), fun _ h1_ => absurd ((up_self b 10).symm.trans h1_) (by decide), fun _ => (by (with_reducible repeat (first | apply Kd.R_alloc | apply Kd.R_drewN | apply Kd.R_drew)); exact HO236.out), fun _ _ => (by repeat (first | (with_reducible first | exact HI1.out | apply IsS78.alloc | apply IsS78.drewN | apply IsS78.drew | apply IsS78.set_0 | refine IsS78.farT (p := ⟨gb229, _, none⟩) (t2 := 24) ?_ ?_ (by decide) (by decide) _ | exact OutT.mk BK229.out | refine OutT.set ?_ _ _ _) | exact HI1.out)), z_HO240, fun h0_ => absurd ((hoff 14 (by kernel_rfl)).symm.trans h0_) (by decide)⟩
    refine steps_cons ?_ ?_
    · rintro b a w' ⟨v231, v235, v239, ha, Q_BK229, Q_HI1, Q_HK, Q_HB, Q_HO232, Q_HI1_e4, Q_HO236, Q_HI1_e10, Q_HO240, Q_HI1_e14⟩ hb_ hon hoff
      refine ⟨_, rfl, fun K hK => ?_⟩
      have e15 : a.tmps[15]? = some (.pointer (some ⟨gb229, 3, none⟩)) := by rw [ha]; exact (putSel_off rfl).trans rfl
      replace ha := Aside0.mk ha
      have BK229 := Aside0.mk Q_BK229
      have HK := Aside0.mk Q_HK
      have HB := Aside0.mk Q_HB
      have hc0_ : w'.cell? ⟨gb229, 0, none⟩ = some (.int .i64 a0_0) := (kcl BK229.out 0).trans rfl
      have hc1_ : w'.cell? ⟨gb229, 1, none⟩ = some (.string a0_1) := (kcl BK229.out 1).trans rfl
      have hc2_ : w'.cell? ⟨gb229, 2, none⟩ = some (.string a0_2) := (kcl BK229.out 2).trans rfl
      have hc3_ : w'.cell? ⟨gb229, 3, none⟩ = some (.int .i64 a0_3) := (kcl BK229.out 3).trans rfl
      refine value_ (w1 := w') (v := .int .i64 a0_3) (by rfl) rfl ?_ ?_
      · go_simp
        (try simp only [i64_w])
        try rfl
      refine hK.out _ _ ⟨v231, v235, v239, (by rw [ha.out]; exact putSel_upk 7 hb_ rfl rfl rfl), Q_BK229, Q_HI1, Q_HK, Q_HB, Q_HO232, Q_HI1_e4, Q_HO236, Q_HI1_e10, fun h0_ => absurd ((hoff 13 (by kernel_rfl)).symm.trans h0_) (by decide), fun h0_ => absurd ((hoff 14 (by kernel_rfl)).symm.trans h0_) (by decide)⟩
    refine steps_cons ?_ ?_
    · rintro b a w' ⟨v231, v235, v239, ha, Q_BK229, Q_HI1, Q_HK, Q_HB, Q_HO232, Q_HI1_e4, Q_HO236, Q_HI1_e10, Q_HO240, Q_HI1_e14⟩ hb_ hon hoff
      refine ⟨_, rfl, fun K hK => ?_⟩
      have e16 : a.tmps[16]? = some (.int .i64 a0_3) := by rw [ha]; exact putSel_on (e := (12, 16, .int .i64 a0_3)) 7 rfl rfl (hon 12 (by kernel_rfl)) rfl
      replace ha := Aside0.mk ha
      have BK229 := Aside0.mk Q_BK229
      have HK := Aside0.mk Q_HK
      have HB := Aside0.mk Q_HB
      refine Kd.R_lit_step (Kd.int .i64) _ 2 ?hg (N := 17) ?hd (xs := ([a0_3] : List Int)) (inner := [.int .i64 a0_3]) (ok := fun _ => True) (okp := fun _ => True) ?hr ?hp (fun _ hk => hk) trivial (Below.refl _ _) (Nat.le_refl _) (by simp) ?_; (case hd => rfl); (case hg => rfl); (case hr => first | (go_simp; done) | (go_simp; rfl)); (case hp => exact (Reps.one (show Kd.M (Kd.int .i64) _ _ _ a0_3 [.int .i64 a0_3] from rfl) (Reps.none _ _)))
      intro v239 w8 ho9 hb hg_ hnew_
      clear hg_ hnew_
      (first | rw [← Ny238.out] at ho9 | (simp only [Int.reduceToNat] at ho9; rw [← Ny238.out] at ho9))
      have n0_ := Aside0.mk (Kd.R_lower ho9 (KeepT.size (w := w) (ts := [78, 5]) (by repeat (first | (with_reducible first | exact HK.out | fail | apply etn | apply etw | apply eta | refine keepT_far ?_ GW229.out _) | exact HK.out))))
      have n2_ := Aside0.mk (kbl (g := gb229) (o := .cells #[.int .i64 a0_0, .string a0_1, .string a0_2, .int .i64 a0_3] 24 (0, 0)) (by (with_reducible repeat (first | refine kdn ?_ _ | refine kdw ?_ | refine kal ?_ _)); exact BK229.out) hb)
      have n3_ := Aside0.mk (KeepT.trans (by repeat (first | (with_reducible first | exact HK.out | fail | apply etn | apply etw | apply eta | refine keepT_far ?_ GW229.out _) | exact HK.out)) (KeepT.of_below hb))
      have n4_ := Aside0.mk (bsp (by repeat (first | (with_reducible first | exact HB.out | apply bal | apply bdn | apply bd1 | refine bst ?_ GE229.out) | exact HB.out)) hb)
      have z_HI1 := fun (h0_ : b 4 = false) => (show IsS78 w0 w8 g s1_0 from by first | exact (IsS78.below (by repeat (first | (with_reducible first | exact (Q_HI1 h0_) | apply IsS78.alloc | apply IsS78.drewN | apply IsS78.drew | apply IsS78.set_0 | refine IsS78.farT (p := ⟨gb229, _, none⟩) (t2 := 24) ?_ ?_ (by decide) (by decide) _ | exact OutT.mk BK229.out | refine OutT.set ?_ _ _ _) | exact (Q_HI1 h0_))) hb))
      have z_HO232 := fun (h0_ : b 3 = true) => (show Kd.R (Kd.int .i64) 3 w8 w.heap.size (fun _ => True) v231 y230 from by first | exact (Kd.R_below (by (with_reducible repeat (first | apply Kd.R_alloc | apply Kd.R_drewN | apply Kd.R_drew)); exact (Q_HO232 h0_)) hb) | exact Kd.R_mono (Kd.R_below (by (with_reducible repeat (first | apply Kd.R_alloc | apply Kd.R_drewN | apply Kd.R_drew)); exact (Q_HO232 h0_)) hb) (fun _ h_ => by first | trivial | exact h_ | exact h_.1))
      have z_HI1_e4 := fun (h0_ : b 4 = true) (h1_ : b 10 = false) => (show IsS78 w0 w8 g t233 from by first | exact (IsS78.below (by repeat (first | (with_reducible first | exact (Q_HI1_e4 h0_ h1_) | apply IsS78.alloc | apply IsS78.drewN | apply IsS78.drew | apply IsS78.set_0 | refine IsS78.farT (p := ⟨gb229, _, none⟩) (t2 := 24) ?_ ?_ (by decide) (by decide) _ | exact OutT.mk BK229.out | refine OutT.set ?_ _ _ _) | exact (Q_HI1_e4 h0_ h1_))) hb))
      have z_HO236 := fun (h0_ : b 9 = true) => (show Kd.R Kd.string 9 w8 w.heap.size (fun _ => True) v235 y234 from by first | exact (Kd.R_below (by (with_reducible repeat (first | apply Kd.R_alloc | apply Kd.R_drewN | apply Kd.R_drew)); exact (Q_HO236 h0_)) hb) | exact Kd.R_mono (Kd.R_below (by (with_reducible repeat (first | apply Kd.R_alloc | apply Kd.R_drewN | apply Kd.R_drew)); exact (Q_HO236 h0_)) hb) (fun _ h_ => by first | trivial | exact h_ | exact h_.1))
      have z_HI1_e10 := fun (h0_ : b 10 = true) (h1_ : b 14 = false) => (show IsS78 w0 w8 g t237 from by first | exact (IsS78.below (by repeat (first | (with_reducible first | exact (Q_HI1_e10 h0_ h1_) | apply IsS78.alloc | apply IsS78.drewN | apply IsS78.drew | apply IsS78.set_0 | refine IsS78.farT (p := ⟨gb229, _, none⟩) (t2 := 24) ?_ ?_ (by decide) (by decide) _ | exact OutT.mk BK229.out | refine OutT.set ?_ _ _ _) | exact (Q_HI1_e10 h0_ h1_))) hb))
      clear BK229
      clear HK
      clear HB
      have HO240 := n0_
      have BK229 := n2_
      have HK := n3_
      have HB := n4_
      clear n0_ n2_ n3_ n4_
      clear hb ho9
      refine hK.out _ _ ⟨v231, v235, v239, (by rw [ha.out]; exact putSel_upk 8 hb_ rfl rfl rfl), (by (with_reducible repeat (first | refine kdn ?_ _ | refine kdw ?_ | refine kal ?_ _)); exact BK229.out), z_HI1, (by repeat (first | (with_reducible first | exact HK.out | fail | apply etn | apply etw | apply eta | refine keepT_far ?_ GW229.out _) | exact HK.out)), (by repeat (first | (with_reducible first | exact HB.out | apply bal | apply bdn | apply bd1 | refine bst ?_ GE229.out) | exact HB.out)), z_HO232, z_HI1_e4, z_HO236, z_HI1_e10, fun _ => (by (with_reducible repeat (first | apply Kd.R_alloc | apply Kd.R_drewN | apply Kd.R_drew)); exact HO240.out), fun h0_ => absurd ((hoff 14 (by kernel_rfl)).symm.trans h0_) (by decide)⟩
    refine steps_cons ?_ ?_
    · rintro b a w' ⟨v231, v235, v239, ha, Q_BK229, Q_HI1, Q_HK, Q_HB, Q_HO232, Q_HI1_e4, Q_HO236, Q_HI1_e10, Q_HO240, Q_HI1_e14⟩ hb_ hon hoff
      refine ⟨_, rfl, fun K hK => ?_⟩
      have e14 : a.tmps[14]? = some (.pointer (some ⟨g, 0, none⟩)) := by rw [ha]; exact putSel_on (e := (10, 14, .pointer (some ⟨g, 0, none⟩))) 6 rfl rfl (hon 10 (by kernel_rfl)) rfl
      have e17 : a.tmps[17]? = some (v239) := by rw [ha]; exact putSel_on (e := (13, 17, v239)) 8 rfl rfl (hon 13 (by kernel_rfl)) rfl
      replace ha := Aside0.mk ha
      have BK229 := Aside0.mk Q_BK229
      have HK := Aside0.mk Q_HK
      have HB := Aside0.mk Q_HB
      have HO232 := Aside0.mk (Q_HO232 (hon 3 (by kernel_rfl)))
      have HO236 := Aside0.mk (Q_HO236 (hon 9 (by kernel_rfl)))
      have HI1 := Aside0.mk (Q_HI1_e10 (hon 10 (by kernel_rfl)) hb_)
      have HO240 := Aside0.mk (Q_HO240 (hon 13 (by kernel_rfl)))
      obtain ⟨Ao19, co19, eo19⟩ := Kd.R_slice HO240.out
      (first | subst eo19 | (injection eo19 with f1_ f2_ f3_; have f4_ := f1_.symm; have f5_ := f3_.symm; clear f1_ f2_ f3_; subst f4_; subst f5_))
      refine goes_ Try.func68 (by kernel_rfl) rfl #[.pointer (some ⟨g, 0, none⟩), .slice Ao19 y238.length co19] (by rfl) rfl rfl (by (try simp only [List.map_toArray, List.map_cons, List.map_nil]); first | done | rfl | (simp only [List.length_drop, List.length_take]; rfl) | (simp only [Act.eval, Array.getD_eq_getD_getElem?, Option.getD_some, *]; done) | (simp only [Array.mk.injEq, List.cons.injEq, Value.int.injEq, true_and, and_true]; first | omega | (simp [IntKind.wrap, IntKind.bits, IntKind.signed]; omega))) ?_
      with_reducible refine (codec_Out_I.calls g t237 _ _ y238 t241 w0 _ ?side1 ?side2 ?side3 ?side4 ?side5 A5.out).mono ?_
      (case side1 => repeat (first | (with_reducible first | exact HI1.out | apply IsS78.alloc | apply IsS78.drewN | apply IsS78.drew | apply IsS78.set_0 | refine IsS78.farT (p := ⟨gb229, _, none⟩) (t2 := 24) ?_ ?_ (by decide) (by decide) _ | exact OutT.mk BK229.out | refine OutT.set ?_ _ _ _) | exact HI1.out))
      (case side2 => repeat (first | (with_reducible first | exact HB.out | apply bal | apply bdn | apply bd1 | refine bst ?_ (IsS78.ge HI1.out) | refine bst ?_ GE229.out) | exact HB.out))
      (case side3 => repeat (first | exact (Kd.R_reads' HO240.out).2.2 | (with_reducible refine Kd.C_alloc ?_ _) | (with_reducible refine Kd.C_drewN ?_ _) | (with_reducible refine Kd.C_drew ?_)))
      (case side4 => exact (Kd.R_reads' HO240.out).2.1)
      (case side5 => exact fun W_ hk_ => (Kd.R_reads' (KeepT.R (by (with_reducible repeat (first | apply Kd.R_alloc | apply Kd.R_drewN | apply Kd.R_drew)); exact HO240.out) hk_ (by decide))).2.2)
      rintro e w20 ⟨rfl, hi, hb, hk⟩
      refine ⟨_, rfl, ?_⟩
      have n0_ := Aside0.mk (KeepT.oblk (g := gb229) (o := .cells #[.int .i64 a0_0, .string a0_1, .string a0_2, .int .i64 a0_3] 24 (0, 0)) (by (with_reducible repeat (first | refine kdn ?_ _ | refine kdw ?_ | refine kal ?_ _)); exact BK229.out) hk (by intro _ _ _ h_; cases h_; decide))
      have n1_ := Aside0.mk (KeepT.R (by (with_reducible repeat (first | apply Kd.R_alloc | apply Kd.R_drewN | apply Kd.R_drew)); exact HO232.out) hk (by decide))
      have n2_ := Aside0.mk (KeepT.R (by (with_reducible repeat (first | apply Kd.R_alloc | apply Kd.R_drewN | apply Kd.R_drew)); exact HO236.out) hk (by decide))
      have n3_ := Aside0.mk (KeepT.R (by (with_reducible repeat (first | apply Kd.R_alloc | apply Kd.R_drewN | apply Kd.R_drew)); exact HO240.out) hk (by decide))
      have n4_ := Aside0.mk (KeepT.trans (by repeat (first | (with_reducible first | exact HK.out | fail | apply etn | apply etw | apply eta | refine keepT_far ?_ GW229.out _) | exact HK.out)) hk)
      have n5_ := Aside0.mk (hb)
      have n6_ := Aside0.mk (hi)
      clear BK229
      clear HO232
      clear HO236
      clear HO240
      clear HK
      clear HB
      clear HI1
      have BK229 := n0_
      have HO232 := n1_
      have HO236 := n2_
      have HO240 := n3_
      have HK := n4_
      have HB := n5_
      have HI1 := n6_
      clear n0_ n1_ n2_ n3_ n4_ n5_ n6_
      (try clear hb)
      (try clear hb2)
      (try clear hk)
      (try clear hi)
      refine hK.out _ _ ⟨v231, v235, .slice Ao19 y238.length co19, (by rw [ha.out]; exact putSel_upk 9 hb_ rfl rfl rfl), (by (with_reducible repeat (first | refine kdn ?_ _ | refine kdw ?_ | refine kal ?_ _)); exact BK229.out), fun h0_ => absurd ((hon 4 (by kernel_rfl)).symm.trans h0_) (by decide), (by repeat (first | (with_reducible first | exact HK.out | fail | apply etn | apply etw | apply eta | refine keepT_far ?_ GW229.out _) | exact HK.out)), (by repeat (first | (with_reducible first | exact HB.out | apply bal | apply bdn | apply bd1 | refine bst ?_ (IsS78.ge HI1.out) | refine bst ?_ GE229.out) | exact HB.out)), fun _ => (by (with_reducible repeat (first | apply Kd.R_alloc | apply Kd.R_drewN | apply Kd.R_drew)); exact HO232.out), fun _ h1_ => absurd ((hon 10 (by kernel_rfl)).symm.trans h1_) (by decide), fun _ => (by (with_reducible repeat (first | apply Kd.R_alloc | apply Kd.R_drewN | apply Kd.R_drew)); exact HO236.out), fun _ h1_ => absurd ((up_self b 14).symm.trans h1_) (by decide), fun _ => (by (with_reducible repeat (first | apply Kd.R_alloc | apply Kd.R_drewN | apply Kd.R_drew)); exact HO240.out), fun _ => (by repeat (first | (with_reducible first | exact HI1.out | apply IsS78.alloc | apply IsS78.drewN | apply IsS78.drew | apply IsS78.set_0 | refine IsS78.farT (p := ⟨gb229, _, none⟩) (t2 := 24) ?_ ?_ (by decide) (by decide) _ | exact OutT.mk BK229.out | refine OutT.set ?_ _ _ _) | exact HI1.out))⟩
    exact steps_nil
  rintro b a w20 hall ⟨v231, v235, v239, ha, Q_BK229, Q_HI1, Q_HK, Q_HB, Q_HO232, Q_HI1_e4, Q_HO236, Q_HI1_e10, Q_HO240, Q_HI1_e14⟩
  clear BK229 HB HI1 HK
  have hb2_ := hall 2 (by kernel_rfl)
  have hb3_ := hall 3 (by kernel_rfl)
  have hb4_ := hall 4 (by kernel_rfl)
  have hb6_ := hall 6 (by kernel_rfl)
  have hb8_ := hall 8 (by kernel_rfl)
  have hb9_ := hall 9 (by kernel_rfl)
  have hb10_ := hall 10 (by kernel_rfl)
  have hb12_ := hall 12 (by kernel_rfl)
  have hb13_ := hall 13 (by kernel_rfl)
  have hb14_ := hall 14 (by kernel_rfl)
  subst ha
  simp only [putSel, hb2_, hb3_, hb4_, hb6_, hb8_, hb9_, hb10_, hb12_, hb13_, hb14_, if_true, Act.put, List.setIfInBounds_toArray, List.set_cons_zero, List.set_cons_succ]
  have BK229 := Aside0.mk Q_BK229
  clear Q_BK229
  clear Q_HI1
  have HK := Aside0.mk Q_HK
  clear Q_HK
  have HB := Aside0.mk Q_HB
  clear Q_HB
  have HO232 := Aside0.mk (Q_HO232 hb3_)
  clear Q_HO232
  clear Q_HI1_e4
  have HO236 := Aside0.mk (Q_HO236 hb9_)
  clear Q_HO236
  clear Q_HI1_e10
  have HO240 := Aside0.mk (Q_HO240 hb13_)
  clear Q_HO240
  have HI1 := Aside0.mk (Q_HI1_e14 hb14_)
  clear Q_HI1_e14
  clear hall hb2_ hb3_ hb4_ hb6_ hb8_ hb9_ hb10_ hb12_ hb13_ hb14_
  try go_wp2
  first | go_end0 | ((try simp only [Exit.inBlock, Exit.then]); refine bodyPost_ret (results_none rfl _ _ _) rfl ?_)
  exact ⟨by first | rfl | (simp [errW_none, errW_some] <;> rfl) | (simp [*, errW_none, errW_some] <;> rfl), by repeat (first | (with_reducible first | exact HI1.out | apply IsS78.alloc | apply IsS78.drewN | apply IsS78.drew | apply IsS78.set_0 | refine IsS78.farT (p := ⟨gb229, _, none⟩) (t2 := 24) ?_ ?_ (by decide) (by decide) _ | exact OutT.mk BK229.out | refine OutT.set ?_ _ _ _) | exact HI1.out), by repeat (first | (with_reducible first | exact HB.out | apply bal | apply bdn | apply bd1 | refine bst ?_ (IsS78.ge HI1.out) | refine bst ?_ GE229.out) | exact HB.out), by repeat (first | (with_reducible first | exact HK.out | fail | apply etn | apply etw | apply eta | refine keepT_far ?_ GW229.out _) | exact HK.out)⟩
def frame_seal.f (k : Nat) (a0 : ByteArray) : Option (ByteArray) := (crc_Of.f k (([a0] : List ByteArray))).bind fun t245 => ((crc_Bytes.f t245).bind fun t246 => (if t246.size + a0.size ≤ 9223372036854775807 then (some (t246 ++ a0)) else (none)))
set_option maxHeartbeats 2000000 in
set_option maxRecDepth 100000 in
theorem frame_seal.calls (k : Nat) (a0 : ByteArray) (r : ByteArray) (w : World) (h : frame_seal.f k a0 = some r) :
    Calls Try.prog 41 #[.string a0] w fun e w' => e = .returned (.string r) ∧ Below w.heap.size w w' := by
  have HB := Aside0.mk (Below.refl w.heap.size w)
  have H : ((crc_Of.f k (([a0] : List ByteArray))).bind fun t245 => ((crc_Bytes.f t245).bind fun t246 => (if t246.size + a0.size ≤ 9223372036854775807 then (some (t246 ++ a0)) else (none)))) = some r := h
  clear h
  obtain ⟨y242, hy242⟩ : ∃ y_ : List ByteArray, y_ = (([a0] : List ByteArray)) := ⟨_, rfl⟩
  replace H : ((crc_Of.f k y242).bind fun t245 => ((crc_Bytes.f t245).bind fun t246 => (if t246.size + a0.size ≤ 9223372036854775807 then (some (t246 ++ a0)) else (none)))) = some r := by first | (rw [hy242]; with_reducible exact H) | (have H2_ := (Option.bind_some _ _).symm.trans H; rw [hy242]; with_reducible exact H2_) | (have H2_ := (Option.bind_some _ _).symm.trans H; with_reducible exact H2_) | with_reducible exact H | (rw [hy242]; exact H) | exact H
  have Ny242 := Aside0.mk hy242
  clear hy242
  replace H := Option.bind_eq_some_iff.mp H
  obtain ⟨t245, A20, H⟩ := H
  replace H : ((crc_Bytes.f t245).bind fun t246 => (if t246.size + a0.size ≤ 9223372036854775807 then (some (t246 ++ a0)) else (none))) = some r := H
  have A2 := Aside0.mk A20
  clear A20
  replace H := Option.bind_eq_some_iff.mp H
  obtain ⟨t246, A30, H⟩ := H
  replace H : (if t246.size + a0.size ≤ 9223372036854775807 then (some (t246 ++ a0)) else (none)) = some r := H
  have A3 := Aside0.mk A30
  clear A30
  by_cases c4 : t246.size + a0.size ≤ 9223372036854775807
  rotate_left
  · rw [if_neg c4] at H
    exact absurd H (by simp)
  rw [if_pos c4] at H
  have c4b0 := eq_true c4
  have c4b1 : decide (t246.size + a0.size ≤ 9223372036854775807) = true := decide_eq_true c4
  try have c4b2 : (9223372036854775807 < t246.size + a0.size) = False := eq_false (Nat.not_lt.2 c4)
  obtain rfl := Option.some.inj H
  go_enter Try.func41, Try.ntmps41
  go_wp2_with (first | ((with_reducible refine gds (N := 4) rfl ?_); refine Kd.R_lit Kd.string _ 9 ?hg (N := 4) ?hd (xs := ([a0] : List ByteArray)) (inner := [.string a0]) (ok := fun _ => True) (okp := fun _ => True) ?hr ?hp (fun _ hk => hk) trivial (Below.refl _ _) (Nat.le_refl _) (by simp) ?_; (case hd => rfl); (case hg => rfl); (case hr => first | (go_simp; done) | (go_simp; rfl)); (case hp => exact (Reps.one (show Kd.M Kd.string _ _ _ a0 [.string a0] from rfl) (Reps.none _ _))); intro v243 w5 ho6 hb hg_ hnew_; clear hg_ hnew_; (first | rw [← Ny242.out] at ho6 | (simp only [Int.reduceToNat] at ho6; rw [← Ny242.out] at ho6)); have n0_ := Aside0.mk (Kd.R_lower ho6 (bsz (by repeat (first | (with_reducible first | exact HB.out | apply bal | apply bdn | apply bd1) | exact HB.out)))); have n1_ := Aside0.mk (bsp (by repeat (first | (with_reducible first | exact HB.out | apply bal | apply bdn | apply bd1) | exact HB.out)) hb); clear HB; have HO244 := n0_; have HB := n1_; clear n0_ n1_; clear hb ho6; obtain ⟨Ao7, co7, eo7⟩ := Kd.R_slice HO244.out; subst eo7) | ((with_reducible refine gcl (f := 62) rfl ?_); refine gl_ (some 5) rfl rfl Try.func62 (by kernel_rfl) rfl #[.slice Ao7 y242.length co7] rfl (by (try simp only [List.map_toArray, List.map_cons, List.map_nil]); first | done | rfl | (simp only [List.length_drop, List.length_take]; rfl)) ?_; (with_reducible refine (crc_Of.calls k _ _ y242 t245 _ ?side1 ?side2 A2.out).mono ?_); (case side1 => repeat (first | exact (Kd.R_reads' HO244.out).2.2 | (with_reducible refine Kd.C_alloc ?_ _) | (with_reducible refine Kd.C_drewN ?_ _) | (with_reducible refine Kd.C_drew ?_))); (case side2 => exact (Kd.R_reads' HO244.out).2.1); rintro e w8 ⟨rfl, hb⟩; refine ⟨_, rfl, ?_⟩; have n0_ := Aside0.mk (Kd.R_below (by (with_reducible repeat (first | apply Kd.R_alloc | apply Kd.R_drewN | apply Kd.R_drew)); exact HO244.out) hb); have n1_ := Aside0.mk (bsp (by repeat (first | (with_reducible first | exact HB.out | apply bal | apply bdn | apply bd1) | exact HB.out)) hb); clear HO244; clear HB; have HO244 := n0_; have HB := n1_; clear n0_ n1_; (try clear hb); (try clear hb2); (try clear hk); (try clear hi)) | ((with_reducible refine gcl (f := 61) rfl ?_); refine gl_ (some 6) rfl rfl Try.func61 (by kernel_rfl) rfl #[.int .u32 t245] rfl (by (try simp only [List.map_toArray, List.map_cons, List.map_nil]); first | done | rfl | (simp only [List.length_drop, List.length_take]; rfl)) ?_; (with_reducible refine (crc_Bytes.calls t245 t246 _ A3.out).mono ?_); rintro e w9 ⟨rfl, hb⟩; refine ⟨_, rfl, ?_⟩; have n0_ := Aside0.mk (Kd.R_below (by (with_reducible repeat (first | apply Kd.R_alloc | apply Kd.R_drewN | apply Kd.R_drew)); exact HO244.out) hb); have n1_ := Aside0.mk (bsp (by repeat (first | (with_reducible first | exact HB.out | apply bal | apply bdn | apply bd1) | exact HB.out)) hb); clear HO244; clear HB; have HO244 := n0_; have HB := n1_; clear n0_ n1_; (try clear hb); (try clear hb2); (try clear hk); (try clear hi)))
  go_ret
  exact ⟨by first | rfl | (simp [errW_none, errW_some] <;> rfl) | (simp [*, errW_none, errW_some] <;> rfl), by repeat (first | (with_reducible first | exact HB.out | apply bal | apply bdn | apply bd1) | exact HB.out)⟩
def frame_Request_Text.j0 : Nat → Bool → Int → Int → ByteArray → Int → ByteArray → ByteArray → Int → ByteArray → Option (ByteArray)
  | 0, _, _, _, _, _, _, _, _, _ => none
  | k + 1, x19, x248000, x248001, x248002, x248003, x248004, x248005, x248006, x249000 => if x19 = true then ((codec_Out_N.f x249000 (([x248001] : List Int))).bind fun t264 => ((codec_Out_Text.f t264).bind fun bt265 => ((frame_seal.f k bt265.1).bind fun t267 => (some t267)))) else ((codec_Out_Text.f x249000).bind fun bt268 => ((frame_seal.f k bt268.1).bind fun t270 => (some t270)))
def frame_Request_Text.f (k : Nat) (a0_0 : Int) (a0_1 : Int) (a0_2 : ByteArray) (a0_3 : Int) (a0_4 : ByteArray) (a0_5 : ByteArray) (a0_6 : Int) : Option (ByteArray) := (codec_Out_N.f (⟨#[]⟩ : ByteArray) (([a0_0] : List Int))).bind fun t252 => (if a0_0 = 2 then ((codec_Out_S.f t252 (([a0_2] : List ByteArray))).bind fun t256 => ((method_Call_Put.f a0_3 a0_4 a0_5 a0_6 t256).bind fun t257 => ((codec_Out_Text.f t257).bind fun bt258 => ((frame_seal.f k bt258.1).bind fun t260 => (some t260))))) else (if a0_0 = 4 then (frame_Request_Text.j0 k (a0_0 == 4) a0_0 a0_1 a0_2 a0_3 a0_4 a0_5 a0_6 t252) else (frame_Request_Text.j0 k (a0_0 == 7) a0_0 a0_1 a0_2 a0_3 a0_4 a0_5 a0_6 t252)))
set_option maxHeartbeats 2000000 in
set_option maxRecDepth 100000 in
theorem frame_Request_Text.calls (k : Nat) (a0_0 : Int) (a0_1 : Int) (a0_2 : ByteArray) (a0_3 : Int) (a0_4 : ByteArray) (a0_5 : ByteArray) (a0_6 : Int) (r : ByteArray) (w : World) (h : frame_Request_Text.f k a0_0 a0_1 a0_2 a0_3 a0_4 a0_5 a0_6 = some r) :
    Calls Try.prog 14 #[.agg #[.int .i64 a0_0, .int .i64 a0_1, .string a0_2, .int .i64 a0_3, .string a0_4, .string a0_5, .int .i64 a0_6]] w fun e w' => e = .returned (.string r) ∧ Below w.heap.size w w' := by
  have hu26 := Try.underlying26
  have hu78 := Try.underlying78
  have hu24 := Try.underlying24
  have HB := Aside0.mk (Below.refl w.heap.size w)
  have H : ((codec_Out_N.f (⟨#[]⟩ : ByteArray) (([a0_0] : List Int))).bind fun t252 => (if a0_0 = 2 then ((codec_Out_S.f t252 (([a0_2] : List ByteArray))).bind fun t256 => ((method_Call_Put.f a0_3 a0_4 a0_5 a0_6 t256).bind fun t257 => ((codec_Out_Text.f t257).bind fun bt258 => ((frame_seal.f k bt258.1).bind fun t260 => (some t260))))) else (if a0_0 = 4 then (frame_Request_Text.j0 k (a0_0 == 4) a0_0 a0_1 a0_2 a0_3 a0_4 a0_5 a0_6 t252) else (frame_Request_Text.j0 k (a0_0 == 7) a0_0 a0_1 a0_2 a0_3 a0_4 a0_5 a0_6 t252)))) = some r := h
  clear h
  obtain ⟨y249, hy249⟩ : ∃ y_ : List Int, y_ = (([a0_0] : List Int)) := ⟨_, rfl⟩
  replace H : ((codec_Out_N.f (⟨#[]⟩ : ByteArray) y249).bind fun t252 => (if a0_0 = 2 then ((codec_Out_S.f t252 (([a0_2] : List ByteArray))).bind fun t256 => ((method_Call_Put.f a0_3 a0_4 a0_5 a0_6 t256).bind fun t257 => ((codec_Out_Text.f t257).bind fun bt258 => ((frame_seal.f k bt258.1).bind fun t260 => (some t260))))) else (if a0_0 = 4 then (frame_Request_Text.j0 k (a0_0 == 4) a0_0 a0_1 a0_2 a0_3 a0_4 a0_5 a0_6 t252) else (frame_Request_Text.j0 k (a0_0 == 7) a0_0 a0_1 a0_2 a0_3 a0_4 a0_5 a0_6 t252)))) = some r := by first | (rw [hy249]; with_reducible exact H) | (have H2_ := (Option.bind_some _ _).symm.trans H; rw [hy249]; with_reducible exact H2_) | (have H2_ := (Option.bind_some _ _).symm.trans H; with_reducible exact H2_) | with_reducible exact H | (rw [hy249]; exact H) | exact H
  have Ny249 := Aside0.mk hy249
  clear hy249
  replace H := Option.bind_eq_some_iff.mp H
  obtain ⟨t252, A20, H⟩ := H
  replace H : (if a0_0 = 2 then ((codec_Out_S.f t252 (([a0_2] : List ByteArray))).bind fun t256 => ((method_Call_Put.f a0_3 a0_4 a0_5 a0_6 t256).bind fun t257 => ((codec_Out_Text.f t257).bind fun bt258 => ((frame_seal.f k bt258.1).bind fun t260 => (some t260))))) else (if a0_0 = 4 then (frame_Request_Text.j0 k (a0_0 == 4) a0_0 a0_1 a0_2 a0_3 a0_4 a0_5 a0_6 t252) else (frame_Request_Text.j0 k (a0_0 == 7) a0_0 a0_1 a0_2 a0_3 a0_4 a0_5 a0_6 t252))) = some r := H
  have A2 := Aside0.mk A20
  clear A20
  by_cases c3 : a0_0 = 2
  · rw [if_pos c3] at H
    have c3b0 : (a0_0 == 2) = true := beq_iff_eq.mpr c3
    have c3b1 : (a0_0 != 2) = false := bne_eq_false_iff_eq.mpr c3
    clear c3
    obtain ⟨y253, hy253⟩ : ∃ y_ : List ByteArray, y_ = (([a0_2] : List ByteArray)) := ⟨_, rfl⟩
    replace H : ((codec_Out_S.f t252 y253).bind fun t256 => ((method_Call_Put.f a0_3 a0_4 a0_5 a0_6 t256).bind fun t257 => ((codec_Out_Text.f t257).bind fun bt258 => ((frame_seal.f k bt258.1).bind fun t260 => (some t260))))) = some r := by first | (rw [hy253]; with_reducible exact H) | (have H2_ := (Option.bind_some _ _).symm.trans H; rw [hy253]; with_reducible exact H2_) | (have H2_ := (Option.bind_some _ _).symm.trans H; with_reducible exact H2_) | with_reducible exact H | (rw [hy253]; exact H) | exact H
    have Ny253 := Aside0.mk hy253
    clear hy253
    replace H := Option.bind_eq_some_iff.mp H
    obtain ⟨t256, A40, H⟩ := H
    replace H : ((method_Call_Put.f a0_3 a0_4 a0_5 a0_6 t256).bind fun t257 => ((codec_Out_Text.f t257).bind fun bt258 => ((frame_seal.f k bt258.1).bind fun t260 => (some t260)))) = some r := H
    have A4 := Aside0.mk A40
    clear A40
    replace H := Option.bind_eq_some_iff.mp H
    obtain ⟨t257, A50, H⟩ := H
    replace H : ((codec_Out_Text.f t257).bind fun bt258 => ((frame_seal.f k bt258.1).bind fun t260 => (some t260))) = some r := H
    have A5 := Aside0.mk A50
    clear A50
    replace H := Option.bind_eq_some_iff.mp H
    obtain ⟨⟨t258, t259⟩, A60, H⟩ := H
    replace H : ((frame_seal.f k t258).bind fun t260 => (some t260)) = some r := H
    have A6 := Aside0.mk A60
    clear A60
    replace H := Option.bind_eq_some_iff.mp H
    obtain ⟨t260, A70, H⟩ := H
    replace H : (some t260) = some r := H
    have A7 := Aside0.mk A70
    clear A70
    obtain rfl := Option.some.inj H
    go_enter Try.func14, Try.ntmps14
    go_wp2_with (first | ((with_reducible refine gds (N := 1) rfl ?_); refine bev ?hg (N := 1) ?hd (cs := #[.int .i64 a0_0, .int .i64 a0_1, .string a0_2, .int .i64 a0_3, .string a0_4, .string a0_5, .int .i64 a0_6]) (t := 26) ?hr ?_; (case hd => rfl); (case hg => rfl); (case hr => first | (go_simp; done) | (go_simp; rfl)); intro gb247 hg w8 hbox hb; have n0_ := Aside0.mk (bsp (by repeat (first | (with_reducible first | exact HB.out | apply bal | apply bdn | apply bd1) | exact HB.out)) hb); have n1_ := Aside0.mk (hbox); have n2_ := Aside0.mk ((by rw [hg]; exact (bsz (by repeat (first | (with_reducible first | exact HB.out | apply bal | apply bdn | apply bd1) | exact HB.out))) : w.heap.size ≤ gb247)); have n3_ := Aside0.mk ((by rw [hg]; exact (bsz (by repeat (first | (with_reducible first | exact HB.out | apply bal | apply bdn | apply bd1) | exact HB.out))) : w.heap.size ≤ gb247)); clear HB; have HB := n0_; have BK247 := n1_; have GW247 := n2_; have GE247 := n3_; clear n0_ n1_ n2_ n3_; clear hb hbox hg) | ((with_reducible refine gds (N := 3) rfl ?_); refine bev ?hg (N := 3) ?hd (cs := #[.slice none 0 0]) (t := 78) ?hr ?_; (case hd => rfl); (case hg => rfl); (case hr => first | (go_simp; done) | (go_simp; rfl)); intro gb248 hg w9 hbox hb; have n0_ := Aside0.mk (kbl (g := gb247) (o := .cells #[.int .i64 a0_0, .int .i64 a0_1, .string a0_2, .int .i64 a0_3, .string a0_4, .string a0_5, .int .i64 a0_6] 26 (0, 0)) (by (with_reducible repeat (first | refine kdn ?_ _ | refine kdw ?_ | refine kal ?_ _)); exact BK247.out) hb); have n1_ := Aside0.mk (bsp (by repeat (first | (with_reducible first | exact HB.out | apply bal | apply bdn | apply bd1 | refine bst ?_ GE247.out) | exact HB.out)) hb); have n2_ := Aside0.mk (hbox); have n3_ := Aside0.mk ((by rw [hg]; exact (bsz (by repeat (first | (with_reducible first | exact HB.out | apply bal | apply bdn | apply bd1 | refine bst ?_ GE247.out) | exact HB.out))) : w.heap.size ≤ gb248)); have n4_ := Aside0.mk ((by rw [hg]; exact (bsz (by repeat (first | (with_reducible first | exact HB.out | apply bal | apply bdn | apply bd1 | refine bst ?_ GE247.out) | exact HB.out))) : w.heap.size ≤ gb248)); have n5_ := Aside0.mk ((by rw [hg]; exact Nat.ne_of_lt (blk_lt (g := gb247) (o := .cells #[.int .i64 a0_0, .int .i64 a0_1, .string a0_2, .int .i64 a0_3, .string a0_4, .string a0_5, .int .i64 a0_6] 26 (0, 0)) (by (with_reducible repeat (first | refine kdn ?_ _ | refine kdw ?_ | refine kal ?_ _)); exact BK247.out)) : gb247 ≠ gb248)); have n6_ := Aside0.mk ((by rw [hg]; exact Nat.ne_of_gt (blk_lt (g := gb247) (o := .cells #[.int .i64 a0_0, .int .i64 a0_1, .string a0_2, .int .i64 a0_3, .string a0_4, .string a0_5, .int .i64 a0_6] 26 (0, 0)) (by (with_reducible repeat (first | refine kdn ?_ _ | refine kdw ?_ | refine kal ?_ _)); exact BK247.out)) : gb248 ≠ gb247)); have n7_ := Aside0.mk ((IsS78.box hbox (by rw [hg]; exact (bsz (by repeat (first | (with_reducible first | exact HB.out | apply bal | apply bdn | apply bd1 | refine bst ?_ GE247.out) | exact HB.out))) : w.heap.size ≤ gb248) : IsS78 w w9 gb248 (⟨#[]⟩ : ByteArray))); clear BK247; clear HB; have BK247 := n0_; have HB := n1_; have BK248 := n2_; have GW248 := n3_; have GE248 := n4_; have NB247_248 := n5_; have NB248_247 := n6_; have HI248 := n7_; clear n0_ n1_ n2_ n3_ n4_ n5_ n6_ n7_; clear hb hbox hg; have hnb10 := NB247_248.out; have hnc10 := NB248_247.out; have hcz11_0 : w9.cell? ⟨gb247, 0, none⟩ = some (.int .i64 a0_0) := (kcl BK247.out 0).trans rfl; have hcz11_1 : w9.cell? ⟨gb247, 1, none⟩ = some (.int .i64 a0_1) := (kcl BK247.out 1).trans rfl; have hcz11_2 : w9.cell? ⟨gb247, 2, none⟩ = some (.string a0_2) := (kcl BK247.out 2).trans rfl; have hcz11_3 : w9.cell? ⟨gb247, 3, none⟩ = some (.int .i64 a0_3) := (kcl BK247.out 3).trans rfl; have hcz11_4 : w9.cell? ⟨gb247, 4, none⟩ = some (.string a0_4) := (kcl BK247.out 4).trans rfl; have hcz11_5 : w9.cell? ⟨gb247, 5, none⟩ = some (.string a0_5) := (kcl BK247.out 5).trans rfl; have hcz11_6 : w9.cell? ⟨gb247, 6, none⟩ = some (.int .i64 a0_6) := (kcl BK247.out 6).trans rfl; have hfz11_0 := kfr BK247.out 0; have hfz11_1 := kfr BK247.out 1; have hfz11_2 := kfr BK247.out 2; have hfz11_3 := kfr BK247.out 3; have hfz11_4 := kfr BK247.out 4; have hfz11_5 := kfr BK247.out 5; have hfz11_6 := kfr BK247.out 6) | ((with_reducible refine gds (N := 6) rfl ?_); refine Kd.R_lit (Kd.int .i64) _ 3 ?hg (N := 6) ?hd (xs := ([a0_0] : List Int)) (inner := [.int .i64 a0_0]) (ok := fun _ => True) (okp := fun _ => True) ?hr ?hp (fun _ hk => hk) trivial (Below.refl _ _) (Nat.le_refl _) (by simp) ?_; (case hd => rfl); (case hg => rfl); (case hr => first | (go_simp; done) | (go_simp; rfl)); (case hp => exact (Reps.one (show Kd.M (Kd.int .i64) _ _ _ a0_0 [.int .i64 a0_0] from rfl) (Reps.none _ _))); intro v250 w12 ho13 hb hg_ hnew_; clear hg_ hnew_; (first | rw [← Ny249.out] at ho13 | (simp only [Int.reduceToNat] at ho13; rw [← Ny249.out] at ho13)); have n0_ := Aside0.mk (Kd.R_lower ho13 (bsz (by repeat (first | (with_reducible first | exact HB.out | apply bal | apply bdn | apply bd1 | refine bst ?_ (IsS78.ge HI248.out) | refine bst ?_ GE247.out) | exact HB.out)))); have n1_ := Aside0.mk (kbl (g := gb247) (o := .cells #[.int .i64 a0_0, .int .i64 a0_1, .string a0_2, .int .i64 a0_3, .string a0_4, .string a0_5, .int .i64 a0_6] 26 (0, 0)) (by (with_reducible repeat (first | refine kdn ?_ _ | refine kdw ?_ | refine kal ?_ _)); exact BK247.out) hb); have n2_ := Aside0.mk (IsS78.below (by repeat (first | (with_reducible first | exact HI248.out | apply IsS78.alloc | apply IsS78.drewN | apply IsS78.drew | apply IsS78.set_0 | refine IsS78.farT (p := ⟨gb247, _, none⟩) (t2 := 26) ?_ ?_ (by decide) (by decide) _ | exact OutT.mk BK247.out | refine OutT.set ?_ _ _ _) | exact HI248.out)) hb); have n3_ := Aside0.mk (bsp (by repeat (first | (with_reducible first | exact HB.out | apply bal | apply bdn | apply bd1 | refine bst ?_ (IsS78.ge HI248.out) | refine bst ?_ GE247.out) | exact HB.out)) hb); clear BK247; clear HI248; clear HB; have HO251 := n0_; have BK247 := n1_; have HI248 := n2_; have HB := n3_; clear n0_ n1_ n2_ n3_; clear hb ho13; obtain ⟨Ao14, co14, eo14⟩ := Kd.R_slice HO251.out; subst eo14) | ((with_reducible refine gcl (f := 38) rfl ?_); refine gl_ (some 7) rfl rfl Try.func38 (by kernel_rfl) rfl #[.pointer (some ⟨gb248, 0, none⟩), .slice Ao14 y249.length co14] rfl (by (try simp only [List.map_toArray, List.map_cons, List.map_nil]); first | done | rfl | (simp only [List.length_drop, List.length_take]; rfl)) ?_; (with_reducible refine (codec_Out_N.calls gb248 (⟨#[]⟩ : ByteArray) _ _ y249 t252 w _ ?side1 ?side2 ?side3 ?side4 ?side5 A2.out).mono ?_); (case side1 => repeat (first | (with_reducible first | exact HI248.out | apply IsS78.alloc | apply IsS78.drewN | apply IsS78.drew | apply IsS78.set_0 | refine IsS78.farT (p := ⟨gb247, _, none⟩) (t2 := 26) ?_ ?_ (by decide) (by decide) _ | exact OutT.mk BK247.out | refine OutT.set ?_ _ _ _) | exact HI248.out)); (case side2 => repeat (first | (with_reducible first | exact HB.out | apply bal | apply bdn | apply bd1 | refine bst ?_ (IsS78.ge HI248.out) | refine bst ?_ GE247.out) | exact HB.out)); (case side3 => repeat (first | exact (Kd.R_reads' HO251.out).2.2 | (with_reducible refine Kd.C_alloc ?_ _) | (with_reducible refine Kd.C_drewN ?_ _) | (with_reducible refine Kd.C_drew ?_))); (case side4 => exact (Kd.R_reads' HO251.out).2.1); (case side5 => exact fun W_ hk_ => (Kd.R_reads' (KeepT.R (by (with_reducible repeat (first | apply Kd.R_alloc | apply Kd.R_drewN | apply Kd.R_drew)); exact HO251.out) hk_ (by decide))).2.2); rintro e w15 ⟨rfl, hi, hb, hk⟩; refine ⟨_, rfl, ?_⟩; have n0_ := Aside0.mk (KeepT.oblk (g := gb247) (o := .cells #[.int .i64 a0_0, .int .i64 a0_1, .string a0_2, .int .i64 a0_3, .string a0_4, .string a0_5, .int .i64 a0_6] 26 (0, 0)) (by (with_reducible repeat (first | refine kdn ?_ _ | refine kdw ?_ | refine kal ?_ _)); exact BK247.out) hk (by intro _ _ _ h_; cases h_; decide)); have n1_ := Aside0.mk (KeepT.R (by (with_reducible repeat (first | apply Kd.R_alloc | apply Kd.R_drewN | apply Kd.R_drew)); exact HO251.out) hk (by decide)); have n2_ := Aside0.mk (hb); have n3_ := Aside0.mk (hi); clear BK247; clear HO251; clear HB; clear HI248; have BK247 := n0_; have HO251 := n1_; have HB := n2_; have HI248 := n3_; clear n0_ n1_ n2_ n3_; (try clear hb); (try clear hb2); (try clear hk); (try clear hi); have hcz16_0 : w15.cell? ⟨gb247, 0, none⟩ = some (.int .i64 a0_0) := (kcl BK247.out 0).trans rfl; have hcz16_1 : w15.cell? ⟨gb247, 1, none⟩ = some (.int .i64 a0_1) := (kcl BK247.out 1).trans rfl; have hcz16_2 : w15.cell? ⟨gb247, 2, none⟩ = some (.string a0_2) := (kcl BK247.out 2).trans rfl; have hcz16_3 : w15.cell? ⟨gb247, 3, none⟩ = some (.int .i64 a0_3) := (kcl BK247.out 3).trans rfl; have hcz16_4 : w15.cell? ⟨gb247, 4, none⟩ = some (.string a0_4) := (kcl BK247.out 4).trans rfl; have hcz16_5 : w15.cell? ⟨gb247, 5, none⟩ = some (.string a0_5) := (kcl BK247.out 5).trans rfl; have hcz16_6 : w15.cell? ⟨gb247, 6, none⟩ = some (.int .i64 a0_6) := (kcl BK247.out 6).trans rfl; have hfz16_0 := kfr BK247.out 0; have hfz16_1 := kfr BK247.out 1; have hfz16_2 := kfr BK247.out 2; have hfz16_3 := kfr BK247.out 3; have hfz16_4 := kfr BK247.out 4; have hfz16_5 := kfr BK247.out 5; have hfz16_6 := kfr BK247.out 6) | ((with_reducible refine gds (N := 14) rfl ?_); refine Kd.R_lit Kd.string _ 9 ?hg (N := 14) ?hd (xs := ([a0_2] : List ByteArray)) (inner := [.string a0_2]) (ok := fun _ => True) (okp := fun _ => True) ?hr ?hp (fun _ hk => hk) trivial (Below.refl _ _) (Nat.le_refl _) (by simp) ?_; (case hd => rfl); (case hg => rfl); (case hr => first | (go_simp; done) | (go_simp; rfl)); (case hp => exact (Reps.one (show Kd.M Kd.string _ _ _ a0_2 [.string a0_2] from rfl) (Reps.none _ _))); intro v254 w17 ho18 hb hg_ hnew_; clear hg_ hnew_; (first | rw [← Ny253.out] at ho18 | (simp only [Int.reduceToNat] at ho18; rw [← Ny253.out] at ho18)); have n0_ := Aside0.mk (Kd.R_below (by (with_reducible repeat (first | apply Kd.R_alloc | apply Kd.R_drewN | apply Kd.R_drew)); exact HO251.out) hb); have n1_ := Aside0.mk (Kd.R_lower ho18 (bsz (by repeat (first | (with_reducible first | exact HB.out | apply bal | apply bdn | apply bd1 | refine bst ?_ (IsS78.ge HI248.out) | refine bst ?_ GE247.out) | exact HB.out)))); have n2_ := Aside0.mk (kbl (g := gb247) (o := .cells #[.int .i64 a0_0, .int .i64 a0_1, .string a0_2, .int .i64 a0_3, .string a0_4, .string a0_5, .int .i64 a0_6] 26 (0, 0)) (by (with_reducible repeat (first | refine kdn ?_ _ | refine kdw ?_ | refine kal ?_ _)); exact BK247.out) hb); have n3_ := Aside0.mk (IsS78.below (by repeat (first | (with_reducible first | exact HI248.out | apply IsS78.alloc | apply IsS78.drewN | apply IsS78.drew | apply IsS78.set_0 | refine IsS78.farT (p := ⟨gb247, _, none⟩) (t2 := 26) ?_ ?_ (by decide) (by decide) _ | exact OutT.mk BK247.out | refine OutT.set ?_ _ _ _) | exact HI248.out)) hb); have n4_ := Aside0.mk (bsp (by repeat (first | (with_reducible first | exact HB.out | apply bal | apply bdn | apply bd1 | refine bst ?_ (IsS78.ge HI248.out) | refine bst ?_ GE247.out) | exact HB.out)) hb); clear HO251; clear BK247; clear HI248; clear HB; have HO251 := n0_; have HO255 := n1_; have BK247 := n2_; have HI248 := n3_; have HB := n4_; clear n0_ n1_ n2_ n3_ n4_; clear hb ho18; obtain ⟨Ao19, co19, eo19⟩ := Kd.R_slice HO255.out; subst eo19) | ((with_reducible refine gcl (f := 39) rfl ?_); refine gl_ (some 15) rfl rfl Try.func39 (by kernel_rfl) rfl #[.pointer (some ⟨gb248, 0, none⟩), .slice Ao19 y253.length co19] rfl (by (try simp only [List.map_toArray, List.map_cons, List.map_nil]); first | done | rfl | (simp only [List.length_drop, List.length_take]; rfl)) ?_; (with_reducible refine (codec_Out_S.calls gb248 t252 _ _ y253 t256 w _ ?side1 ?side2 ?side3 ?side4 ?side5 A4.out).mono ?_); (case side1 => repeat (first | (with_reducible first | exact HI248.out | apply IsS78.alloc | apply IsS78.drewN | apply IsS78.drew | apply IsS78.set_0 | refine IsS78.farT (p := ⟨gb247, _, none⟩) (t2 := 26) ?_ ?_ (by decide) (by decide) _ | exact OutT.mk BK247.out | refine OutT.set ?_ _ _ _) | exact HI248.out)); (case side2 => repeat (first | (with_reducible first | exact HB.out | apply bal | apply bdn | apply bd1 | refine bst ?_ (IsS78.ge HI248.out) | refine bst ?_ GE247.out) | exact HB.out)); (case side3 => repeat (first | exact (Kd.R_reads' HO255.out).2.2 | (with_reducible refine Kd.C_alloc ?_ _) | (with_reducible refine Kd.C_drewN ?_ _) | (with_reducible refine Kd.C_drew ?_))); (case side4 => exact (Kd.R_reads' HO255.out).2.1); (case side5 => exact fun W_ hk_ => (Kd.R_reads' (KeepT.R (by (with_reducible repeat (first | apply Kd.R_alloc | apply Kd.R_drewN | apply Kd.R_drew)); exact HO255.out) hk_ (by decide))).2.2); rintro e w20 ⟨rfl, hi, hb, hk⟩; refine ⟨_, rfl, ?_⟩; have n0_ := Aside0.mk (KeepT.oblk (g := gb247) (o := .cells #[.int .i64 a0_0, .int .i64 a0_1, .string a0_2, .int .i64 a0_3, .string a0_4, .string a0_5, .int .i64 a0_6] 26 (0, 0)) (by (with_reducible repeat (first | refine kdn ?_ _ | refine kdw ?_ | refine kal ?_ _)); exact BK247.out) hk (by intro _ _ _ h_; cases h_; decide)); have n1_ := Aside0.mk (KeepT.R (by (with_reducible repeat (first | apply Kd.R_alloc | apply Kd.R_drewN | apply Kd.R_drew)); exact HO251.out) hk (by decide)); have n2_ := Aside0.mk (KeepT.R (by (with_reducible repeat (first | apply Kd.R_alloc | apply Kd.R_drewN | apply Kd.R_drew)); exact HO255.out) hk (by decide)); have n3_ := Aside0.mk (hb); have n4_ := Aside0.mk (hi); clear BK247; clear HO251; clear HO255; clear HB; clear HI248; have BK247 := n0_; have HO251 := n1_; have HO255 := n2_; have HB := n3_; have HI248 := n4_; clear n0_ n1_ n2_ n3_ n4_; (try clear hb); (try clear hb2); (try clear hk); (try clear hi); have hcz21_0 : w20.cell? ⟨gb247, 0, none⟩ = some (.int .i64 a0_0) := (kcl BK247.out 0).trans rfl; have hcz21_1 : w20.cell? ⟨gb247, 1, none⟩ = some (.int .i64 a0_1) := (kcl BK247.out 1).trans rfl; have hcz21_2 : w20.cell? ⟨gb247, 2, none⟩ = some (.string a0_2) := (kcl BK247.out 2).trans rfl; have hcz21_3 : w20.cell? ⟨gb247, 3, none⟩ = some (.int .i64 a0_3) := (kcl BK247.out 3).trans rfl; have hcz21_4 : w20.cell? ⟨gb247, 4, none⟩ = some (.string a0_4) := (kcl BK247.out 4).trans rfl; have hcz21_5 : w20.cell? ⟨gb247, 5, none⟩ = some (.string a0_5) := (kcl BK247.out 5).trans rfl; have hcz21_6 : w20.cell? ⟨gb247, 6, none⟩ = some (.int .i64 a0_6) := (kcl BK247.out 6).trans rfl; have hfz21_0 := kfr BK247.out 0; have hfz21_1 := kfr BK247.out 1; have hfz21_2 := kfr BK247.out 2; have hfz21_3 := kfr BK247.out 3; have hfz21_4 := kfr BK247.out 4; have hfz21_5 := kfr BK247.out 5; have hfz21_6 := kfr BK247.out 6) | ((with_reducible refine gcl (f := 40) rfl ?_); refine gl_ (some 18) rfl rfl Try.func40 (by kernel_rfl) rfl #[.agg #[.int .i64 a0_3, .string a0_4, .string a0_5, .int .i64 a0_6], .pointer (some ⟨gb248, 0, none⟩)] rfl (by (try simp only [List.map_toArray, List.map_cons, List.map_nil]); first | done | rfl | (simp only [List.length_drop, List.length_take]; rfl)) ?_; (with_reducible refine (method_Call_Put.calls a0_3 a0_4 a0_5 a0_6 gb248 t256 t257 w _ ?side1 ?side2 A5.out).mono ?_); (case side1 => repeat (first | (with_reducible first | exact HI248.out | apply IsS78.alloc | apply IsS78.drewN | apply IsS78.drew | apply IsS78.set_0 | refine IsS78.farT (p := ⟨gb247, _, none⟩) (t2 := 26) ?_ ?_ (by decide) (by decide) _ | exact OutT.mk BK247.out | refine OutT.set ?_ _ _ _) | exact HI248.out)); (case side2 => repeat (first | (with_reducible first | exact HB.out | apply bal | apply bdn | apply bd1 | refine bst ?_ (IsS78.ge HI248.out) | refine bst ?_ GE247.out) | exact HB.out)); rintro e w22 ⟨rfl, hi, hb, hk⟩; refine ⟨_, rfl, ?_⟩; have n0_ := Aside0.mk (KeepT.oblk (g := gb247) (o := .cells #[.int .i64 a0_0, .int .i64 a0_1, .string a0_2, .int .i64 a0_3, .string a0_4, .string a0_5, .int .i64 a0_6] 26 (0, 0)) (by (with_reducible repeat (first | refine kdn ?_ _ | refine kdw ?_ | refine kal ?_ _)); exact BK247.out) hk (by intro _ _ _ h_; cases h_; decide)); have n1_ := Aside0.mk (KeepT.R (by (with_reducible repeat (first | apply Kd.R_alloc | apply Kd.R_drewN | apply Kd.R_drew)); exact HO251.out) hk (by decide)); have n2_ := Aside0.mk (KeepT.R (by (with_reducible repeat (first | apply Kd.R_alloc | apply Kd.R_drewN | apply Kd.R_drew)); exact HO255.out) hk (by decide)); have n3_ := Aside0.mk (hb); have n4_ := Aside0.mk (hi); clear BK247; clear HO251; clear HO255; clear HB; clear HI248; have BK247 := n0_; have HO251 := n1_; have HO255 := n2_; have HB := n3_; have HI248 := n4_; clear n0_ n1_ n2_ n3_ n4_; (try clear hb); (try clear hb2); (try clear hk); (try clear hi)) | ((with_reducible refine gcl (f := 42) rfl ?_); refine gl_ (some 26) rfl rfl Try.func42 (by kernel_rfl) rfl #[.pointer (some ⟨gb248, 0, none⟩)] rfl (by (try simp only [List.map_toArray, List.map_cons, List.map_nil]); first | done | rfl | (simp only [List.length_drop, List.length_take]; rfl)) ?_; (with_reducible refine (codec_Out_Text.calls gb248 t257 t258 t259 w _ ?side1 ?side2 A6.out).mono ?_); (case side1 => repeat (first | (with_reducible first | exact HI248.out | apply IsS78.alloc | apply IsS78.drewN | apply IsS78.drew | apply IsS78.set_0 | refine IsS78.farT (p := ⟨gb247, _, none⟩) (t2 := 26) ?_ ?_ (by decide) (by decide) _ | exact OutT.mk BK247.out | refine OutT.set ?_ _ _ _) | exact HI248.out)); (case side2 => repeat (first | (with_reducible first | exact HB.out | apply bal | apply bdn | apply bd1 | refine bst ?_ (IsS78.ge HI248.out) | refine bst ?_ GE247.out) | exact HB.out)); rintro e w23 ⟨rfl, hi, hb, hk⟩; refine ⟨_, rfl, ?_⟩; have n0_ := Aside0.mk (KeepT.oblk (g := gb247) (o := .cells #[.int .i64 a0_0, .int .i64 a0_1, .string a0_2, .int .i64 a0_3, .string a0_4, .string a0_5, .int .i64 a0_6] 26 (0, 0)) (by (with_reducible repeat (first | refine kdn ?_ _ | refine kdw ?_ | refine kal ?_ _)); exact BK247.out) hk (by intro _ _ _ h_; cases h_; decide)); have n1_ := Aside0.mk (KeepT.R (by (with_reducible repeat (first | apply Kd.R_alloc | apply Kd.R_drewN | apply Kd.R_drew)); exact HO251.out) hk (by decide)); have n2_ := Aside0.mk (KeepT.R (by (with_reducible repeat (first | apply Kd.R_alloc | apply Kd.R_drewN | apply Kd.R_drew)); exact HO255.out) hk (by decide)); have n3_ := Aside0.mk (hb); have n4_ := Aside0.mk (hi); clear BK247; clear HO251; clear HO255; clear HB; clear HI248; have BK247 := n0_; have HO251 := n1_; have HO255 := n2_; have HB := n3_; have HI248 := n4_; clear n0_ n1_ n2_ n3_ n4_; (try clear hb); (try clear hb2); (try clear hk); (try clear hi)) | ((with_reducible refine gcl (f := 41) rfl ?_); refine gl_ (some 27) rfl rfl Try.func41 (by kernel_rfl) rfl #[.string t258] rfl (by (try simp only [List.map_toArray, List.map_cons, List.map_nil]); first | done | rfl | (simp only [List.length_drop, List.length_take]; rfl)) ?_; (with_reducible refine (frame_seal.calls k t258 t260 _ A7.out).mono ?_); rintro e w24 ⟨rfl, hb⟩; refine ⟨_, rfl, ?_⟩; have n0_ := Aside0.mk (Kd.R_below (by (with_reducible repeat (first | apply Kd.R_alloc | apply Kd.R_drewN | apply Kd.R_drew)); exact HO251.out) hb); have n1_ := Aside0.mk (Kd.R_below (by (with_reducible repeat (first | apply Kd.R_alloc | apply Kd.R_drewN | apply Kd.R_drew)); exact HO255.out) hb); have n2_ := Aside0.mk (kbl (g := gb247) (o := .cells #[.int .i64 a0_0, .int .i64 a0_1, .string a0_2, .int .i64 a0_3, .string a0_4, .string a0_5, .int .i64 a0_6] 26 (0, 0)) (by (with_reducible repeat (first | refine kdn ?_ _ | refine kdw ?_ | refine kal ?_ _)); exact BK247.out) hb); have n3_ := Aside0.mk (IsS78.below (by repeat (first | (with_reducible first | exact HI248.out | apply IsS78.alloc | apply IsS78.drewN | apply IsS78.drew | apply IsS78.set_0 | refine IsS78.farT (p := ⟨gb247, _, none⟩) (t2 := 26) ?_ ?_ (by decide) (by decide) _ | exact OutT.mk BK247.out | refine OutT.set ?_ _ _ _) | exact HI248.out)) hb); have n4_ := Aside0.mk (bsp (by repeat (first | (with_reducible first | exact HB.out | apply bal | apply bdn | apply bd1 | refine bst ?_ (IsS78.ge HI248.out) | refine bst ?_ GE247.out) | exact HB.out)) hb); clear HO251; clear HO255; clear BK247; clear HI248; clear HB; have HO251 := n0_; have HO255 := n1_; have BK247 := n2_; have HI248 := n3_; have HB := n4_; clear n0_ n1_ n2_ n3_ n4_; (try clear hb); (try clear hb2); (try clear hk); (try clear hi)))
    go_ret
    exact ⟨by first | rfl | (simp [errW_none, errW_some] <;> rfl) | (simp [*, errW_none, errW_some] <;> rfl), by repeat (first | (with_reducible first | exact HB.out | apply bal | apply bdn | apply bd1 | refine bst ?_ (IsS78.ge HI248.out) | refine bst ?_ GE247.out) | exact HB.out)⟩
  rw [if_neg c3] at H
  have c3b0 : (a0_0 == 2) = false := beq_eq_false_iff_ne.mpr c3
  have c3b1 : (a0_0 != 2) = true := bne_iff_ne.mpr c3
  have HC25 := Aside0.mk H
  clear H
  go_enter Try.func14, Try.ntmps14
  go_upto_if 19 with (first | ((with_reducible refine gds (N := 1) rfl ?_); refine bev ?hg (N := 1) ?hd (cs := #[.int .i64 a0_0, .int .i64 a0_1, .string a0_2, .int .i64 a0_3, .string a0_4, .string a0_5, .int .i64 a0_6]) (t := 26) ?hr ?_; (case hd => rfl); (case hg => rfl); (case hr => first | (go_simp; done) | (go_simp; rfl)); intro gb247 hg w26 hbox hb; have n0_ := Aside0.mk (bsp (by repeat (first | (with_reducible first | exact HB.out | apply bal | apply bdn | apply bd1) | exact HB.out)) hb); have n1_ := Aside0.mk (hbox); have n2_ := Aside0.mk ((by rw [hg]; exact (bsz (by repeat (first | (with_reducible first | exact HB.out | apply bal | apply bdn | apply bd1) | exact HB.out))) : w.heap.size ≤ gb247)); have n3_ := Aside0.mk ((by rw [hg]; exact (bsz (by repeat (first | (with_reducible first | exact HB.out | apply bal | apply bdn | apply bd1) | exact HB.out))) : w.heap.size ≤ gb247)); clear HB; have HB := n0_; have BK247 := n1_; have GW247 := n2_; have GE247 := n3_; clear n0_ n1_ n2_ n3_; clear hb hbox hg) | ((with_reducible refine gds (N := 3) rfl ?_); refine bev ?hg (N := 3) ?hd (cs := #[.slice none 0 0]) (t := 78) ?hr ?_; (case hd => rfl); (case hg => rfl); (case hr => first | (go_simp; done) | (go_simp; rfl)); intro gb248 hg w27 hbox hb; have n0_ := Aside0.mk (kbl (g := gb247) (o := .cells #[.int .i64 a0_0, .int .i64 a0_1, .string a0_2, .int .i64 a0_3, .string a0_4, .string a0_5, .int .i64 a0_6] 26 (0, 0)) (by (with_reducible repeat (first | refine kdn ?_ _ | refine kdw ?_ | refine kal ?_ _)); exact BK247.out) hb); have n1_ := Aside0.mk (bsp (by repeat (first | (with_reducible first | exact HB.out | apply bal | apply bdn | apply bd1 | refine bst ?_ GE247.out) | exact HB.out)) hb); have n2_ := Aside0.mk (hbox); have n3_ := Aside0.mk ((by rw [hg]; exact (bsz (by repeat (first | (with_reducible first | exact HB.out | apply bal | apply bdn | apply bd1 | refine bst ?_ GE247.out) | exact HB.out))) : w.heap.size ≤ gb248)); have n4_ := Aside0.mk ((by rw [hg]; exact (bsz (by repeat (first | (with_reducible first | exact HB.out | apply bal | apply bdn | apply bd1 | refine bst ?_ GE247.out) | exact HB.out))) : w.heap.size ≤ gb248)); have n5_ := Aside0.mk ((by rw [hg]; exact Nat.ne_of_lt (blk_lt (g := gb247) (o := .cells #[.int .i64 a0_0, .int .i64 a0_1, .string a0_2, .int .i64 a0_3, .string a0_4, .string a0_5, .int .i64 a0_6] 26 (0, 0)) (by (with_reducible repeat (first | refine kdn ?_ _ | refine kdw ?_ | refine kal ?_ _)); exact BK247.out)) : gb247 ≠ gb248)); have n6_ := Aside0.mk ((by rw [hg]; exact Nat.ne_of_gt (blk_lt (g := gb247) (o := .cells #[.int .i64 a0_0, .int .i64 a0_1, .string a0_2, .int .i64 a0_3, .string a0_4, .string a0_5, .int .i64 a0_6] 26 (0, 0)) (by (with_reducible repeat (first | refine kdn ?_ _ | refine kdw ?_ | refine kal ?_ _)); exact BK247.out)) : gb248 ≠ gb247)); have n7_ := Aside0.mk ((IsS78.box hbox (by rw [hg]; exact (bsz (by repeat (first | (with_reducible first | exact HB.out | apply bal | apply bdn | apply bd1 | refine bst ?_ GE247.out) | exact HB.out))) : w.heap.size ≤ gb248) : IsS78 w w27 gb248 (⟨#[]⟩ : ByteArray))); clear BK247; clear HB; have BK247 := n0_; have HB := n1_; have BK248 := n2_; have GW248 := n3_; have GE248 := n4_; have NB247_248 := n5_; have NB248_247 := n6_; have HI248 := n7_; clear n0_ n1_ n2_ n3_ n4_ n5_ n6_ n7_; clear hb hbox hg; have hnb28 := NB247_248.out; have hnc28 := NB248_247.out; have hcz29_0 : w27.cell? ⟨gb247, 0, none⟩ = some (.int .i64 a0_0) := (kcl BK247.out 0).trans rfl; have hcz29_1 : w27.cell? ⟨gb247, 1, none⟩ = some (.int .i64 a0_1) := (kcl BK247.out 1).trans rfl; have hcz29_2 : w27.cell? ⟨gb247, 2, none⟩ = some (.string a0_2) := (kcl BK247.out 2).trans rfl; have hcz29_3 : w27.cell? ⟨gb247, 3, none⟩ = some (.int .i64 a0_3) := (kcl BK247.out 3).trans rfl; have hcz29_4 : w27.cell? ⟨gb247, 4, none⟩ = some (.string a0_4) := (kcl BK247.out 4).trans rfl; have hcz29_5 : w27.cell? ⟨gb247, 5, none⟩ = some (.string a0_5) := (kcl BK247.out 5).trans rfl; have hcz29_6 : w27.cell? ⟨gb247, 6, none⟩ = some (.int .i64 a0_6) := (kcl BK247.out 6).trans rfl; have hfz29_0 := kfr BK247.out 0; have hfz29_1 := kfr BK247.out 1; have hfz29_2 := kfr BK247.out 2; have hfz29_3 := kfr BK247.out 3; have hfz29_4 := kfr BK247.out 4; have hfz29_5 := kfr BK247.out 5; have hfz29_6 := kfr BK247.out 6) | ((with_reducible refine gds (N := 6) rfl ?_); refine Kd.R_lit (Kd.int .i64) _ 3 ?hg (N := 6) ?hd (xs := ([a0_0] : List Int)) (inner := [.int .i64 a0_0]) (ok := fun _ => True) (okp := fun _ => True) ?hr ?hp (fun _ hk => hk) trivial (Below.refl _ _) (Nat.le_refl _) (by simp) ?_; (case hd => rfl); (case hg => rfl); (case hr => first | (go_simp; done) | (go_simp; rfl)); (case hp => exact (Reps.one (show Kd.M (Kd.int .i64) _ _ _ a0_0 [.int .i64 a0_0] from rfl) (Reps.none _ _))); intro v250 w30 ho31 hb hg_ hnew_; clear hg_ hnew_; (first | rw [← Ny249.out] at ho31 | (simp only [Int.reduceToNat] at ho31; rw [← Ny249.out] at ho31)); have n0_ := Aside0.mk (Kd.R_lower ho31 (bsz (by repeat (first | (with_reducible first | exact HB.out | apply bal | apply bdn | apply bd1 | refine bst ?_ (IsS78.ge HI248.out) | refine bst ?_ GE247.out) | exact HB.out)))); have n1_ := Aside0.mk (kbl (g := gb247) (o := .cells #[.int .i64 a0_0, .int .i64 a0_1, .string a0_2, .int .i64 a0_3, .string a0_4, .string a0_5, .int .i64 a0_6] 26 (0, 0)) (by (with_reducible repeat (first | refine kdn ?_ _ | refine kdw ?_ | refine kal ?_ _)); exact BK247.out) hb); have n2_ := Aside0.mk (IsS78.below (by repeat (first | (with_reducible first | exact HI248.out | apply IsS78.alloc | apply IsS78.drewN | apply IsS78.drew | apply IsS78.set_0 | refine IsS78.farT (p := ⟨gb247, _, none⟩) (t2 := 26) ?_ ?_ (by decide) (by decide) _ | exact OutT.mk BK247.out | refine OutT.set ?_ _ _ _) | exact HI248.out)) hb); have n3_ := Aside0.mk (bsp (by repeat (first | (with_reducible first | exact HB.out | apply bal | apply bdn | apply bd1 | refine bst ?_ (IsS78.ge HI248.out) | refine bst ?_ GE247.out) | exact HB.out)) hb); clear BK247; clear HI248; clear HB; have HO251 := n0_; have BK247 := n1_; have HI248 := n2_; have HB := n3_; clear n0_ n1_ n2_ n3_; clear hb ho31; obtain ⟨Ao32, co32, eo32⟩ := Kd.R_slice HO251.out; subst eo32) | ((with_reducible refine gcl (f := 38) rfl ?_); refine gl_ (some 7) rfl rfl Try.func38 (by kernel_rfl) rfl #[.pointer (some ⟨gb248, 0, none⟩), .slice Ao32 y249.length co32] rfl (by (try simp only [List.map_toArray, List.map_cons, List.map_nil]); first | done | rfl | (simp only [List.length_drop, List.length_take]; rfl)) ?_; (with_reducible refine (codec_Out_N.calls gb248 (⟨#[]⟩ : ByteArray) _ _ y249 t252 w _ ?side1 ?side2 ?side3 ?side4 ?side5 A2.out).mono ?_); (case side1 => repeat (first | (with_reducible first | exact HI248.out | apply IsS78.alloc | apply IsS78.drewN | apply IsS78.drew | apply IsS78.set_0 | refine IsS78.farT (p := ⟨gb247, _, none⟩) (t2 := 26) ?_ ?_ (by decide) (by decide) _ | exact OutT.mk BK247.out | refine OutT.set ?_ _ _ _) | exact HI248.out)); (case side2 => repeat (first | (with_reducible first | exact HB.out | apply bal | apply bdn | apply bd1 | refine bst ?_ (IsS78.ge HI248.out) | refine bst ?_ GE247.out) | exact HB.out)); (case side3 => repeat (first | exact (Kd.R_reads' HO251.out).2.2 | (with_reducible refine Kd.C_alloc ?_ _) | (with_reducible refine Kd.C_drewN ?_ _) | (with_reducible refine Kd.C_drew ?_))); (case side4 => exact (Kd.R_reads' HO251.out).2.1); (case side5 => exact fun W_ hk_ => (Kd.R_reads' (KeepT.R (by (with_reducible repeat (first | apply Kd.R_alloc | apply Kd.R_drewN | apply Kd.R_drew)); exact HO251.out) hk_ (by decide))).2.2); rintro e w33 ⟨rfl, hi, hb, hk⟩; refine ⟨_, rfl, ?_⟩; have n0_ := Aside0.mk (KeepT.oblk (g := gb247) (o := .cells #[.int .i64 a0_0, .int .i64 a0_1, .string a0_2, .int .i64 a0_3, .string a0_4, .string a0_5, .int .i64 a0_6] 26 (0, 0)) (by (with_reducible repeat (first | refine kdn ?_ _ | refine kdw ?_ | refine kal ?_ _)); exact BK247.out) hk (by intro _ _ _ h_; cases h_; decide)); have n1_ := Aside0.mk (KeepT.R (by (with_reducible repeat (first | apply Kd.R_alloc | apply Kd.R_drewN | apply Kd.R_drew)); exact HO251.out) hk (by decide)); have n2_ := Aside0.mk (hb); have n3_ := Aside0.mk (hi); clear BK247; clear HO251; clear HB; clear HI248; have BK247 := n0_; have HO251 := n1_; have HB := n2_; have HI248 := n3_; clear n0_ n1_ n2_ n3_; (try clear hb); (try clear hb2); (try clear hk); (try clear hi); have hcz34_0 : w33.cell? ⟨gb247, 0, none⟩ = some (.int .i64 a0_0) := (kcl BK247.out 0).trans rfl; have hcz34_1 : w33.cell? ⟨gb247, 1, none⟩ = some (.int .i64 a0_1) := (kcl BK247.out 1).trans rfl; have hcz34_2 : w33.cell? ⟨gb247, 2, none⟩ = some (.string a0_2) := (kcl BK247.out 2).trans rfl; have hcz34_3 : w33.cell? ⟨gb247, 3, none⟩ = some (.int .i64 a0_3) := (kcl BK247.out 3).trans rfl; have hcz34_4 : w33.cell? ⟨gb247, 4, none⟩ = some (.string a0_4) := (kcl BK247.out 4).trans rfl; have hcz34_5 : w33.cell? ⟨gb247, 5, none⟩ = some (.string a0_5) := (kcl BK247.out 5).trans rfl; have hcz34_6 : w33.cell? ⟨gb247, 6, none⟩ = some (.int .i64 a0_6) := (kcl BK247.out 6).trans rfl; have hfz34_0 := kfr BK247.out 0; have hfz34_1 := kfr BK247.out 1; have hfz34_2 := kfr BK247.out 2; have hfz34_3 := kfr BK247.out 3; have hfz34_4 := kfr BK247.out 4; have hfz34_5 := kfr BK247.out 5; have hfz34_6 := kfr BK247.out 6))
  (try simp only [Act.put, List.setIfInBounds_toArray, List.set_cons_zero, List.set_cons_succ])
  go_cut [19] (fun v19 wc => ∃ (kq : Nat) (x19_24 : Bool), v19 = .bool x19_24 ∧ Aside0 (frame_Request_Text.j0 kq x19_24 a0_0 a0_1 a0_2 a0_3 a0_4 a0_5 a0_6 t252 = some r) ∧ Aside0 (kq ≤ k) ∧ Aside0 (wc.heap[gb247]? = some (.cells #[.int .i64 a0_0, .int .i64 a0_1, .string a0_2, .int .i64 a0_3, .string a0_4, .string a0_5, .int .i64 a0_6] 26 (0, 0))) ∧ Aside0 (IsS78 w wc gb248 t252) ∧ Aside0 (Below w.heap.size w wc))
  case first =>
    have H := HC25.out
    clear HC25
    by_cases c35 : a0_0 = 4
    rotate_left
    · rw [if_neg c35] at H
      have c35b0 : (a0_0 == 4) = false := beq_eq_false_iff_ne.mpr c35
      have c35b1 : (a0_0 != 4) = true := bne_iff_ne.mpr c35
      (first | rw [c35b0] | (simp only [i64_w, i32_w]; rw [c35b0]) | skip)
      have H' := Aside0.mk H
      clear H
      go_wp2
      go_meet
      case rel => exact ⟨_, ((a0_0 == 7)), (by first | rfl | (simp; done) | (simp [*]; done) | exact emp1_ _ | exact (emp1_ _).symm | exact emp2_ _ | exact (emp2_ _).symm), H', ⟨by first | omega | exact Nat.le_refl _⟩, ⟨by (with_reducible repeat (first | refine kdn ?_ _ | refine kdw ?_ | refine kal ?_ _)); exact BK247.out⟩, ⟨by repeat (first | (with_reducible first | exact HI248.out | apply IsS78.alloc | apply IsS78.drewN | apply IsS78.drew | apply IsS78.set_0 | refine IsS78.farT (p := ⟨gb247, _, none⟩) (t2 := 26) ?_ ?_ (by decide) (by decide) _ | exact OutT.mk BK247.out | refine OutT.set ?_ _ _ _) | exact HI248.out)⟩, ⟨by repeat (first | (with_reducible first | exact HB.out | apply bal | apply bdn | apply bd1 | refine bst ?_ (IsS78.ge HI248.out) | refine bst ?_ GE247.out) | exact HB.out)⟩⟩
    rw [if_pos c35] at H
    have c35b0 : (a0_0 == 4) = true := beq_iff_eq.mpr c35
    have c35b1 : (a0_0 != 4) = false := bne_eq_false_iff_eq.mpr c35
    clear c35
    (first | rw [c35b0] | (simp only [i64_w, i32_w]; rw [c35b0]) | skip)
    have H' := Aside0.mk H
    clear H
    go_wp2
    go_meet
    case rel => exact ⟨_, ((a0_0 == 4)), (by first | rfl | (simp; done) | (simp [*]; done) | exact emp1_ _ | exact (emp1_ _).symm | exact emp2_ _ | exact (emp2_ _).symm), H', ⟨by first | omega | exact Nat.le_refl _⟩, ⟨by (with_reducible repeat (first | refine kdn ?_ _ | refine kdw ?_ | refine kal ?_ _)); exact BK247.out⟩, ⟨by repeat (first | (with_reducible first | exact HI248.out | apply IsS78.alloc | apply IsS78.drewN | apply IsS78.drew | apply IsS78.set_0 | refine IsS78.farT (p := ⟨gb247, _, none⟩) (t2 := 26) ?_ ?_ (by decide) (by decide) _ | exact OutT.mk BK247.out | refine OutT.set ?_ _ _ _) | exact HI248.out)⟩, ⟨by repeat (first | (with_reducible first | exact HB.out | apply bal | apply bdn | apply bd1 | refine bst ?_ (IsS78.ge HI248.out) | refine bst ?_ GE247.out) | exact HB.out)⟩⟩
  clear HC25
  try clear c1
  try clear c2
  try clear p2
  try clear c3
  try clear c3b0
  try clear c3b1
  try clear c4
  try clear c10
  try clear c14
  try clear c28
  try clear c35
  try clear c35b0
  try clear c35b1
  try clear hcz11_0
  try clear hcz11_1
  try clear hcz11_2
  try clear hcz11_3
  try clear hcz11_4
  try clear hcz11_5
  try clear hcz11_6
  try clear hcz16_0
  try clear hcz16_1
  try clear hcz16_2
  try clear hcz16_3
  try clear hcz16_4
  try clear hcz16_5
  try clear hcz16_6
  try clear hcz21_0
  try clear hcz21_1
  try clear hcz21_2
  try clear hcz21_3
  try clear hcz21_4
  try clear hcz21_5
  try clear hcz21_6
  try clear hcz29_0
  try clear hcz29_1
  try clear hcz29_2
  try clear hcz29_3
  try clear hcz29_4
  try clear hcz29_5
  try clear hcz29_6
  try clear hcz34_0
  try clear hcz34_1
  try clear hcz34_2
  try clear hcz34_3
  try clear hcz34_4
  try clear hcz34_5
  try clear hcz34_6
  try clear hfz11_0
  try clear hfz11_1
  try clear hfz11_2
  try clear hfz11_3
  try clear hfz11_4
  try clear hfz11_5
  try clear hfz11_6
  try clear hfz16_0
  try clear hfz16_1
  try clear hfz16_2
  try clear hfz16_3
  try clear hfz16_4
  try clear hfz16_5
  try clear hfz16_6
  try clear hfz21_0
  try clear hfz21_1
  try clear hfz21_2
  try clear hfz21_3
  try clear hfz21_4
  try clear hfz21_5
  try clear hfz21_6
  try clear hfz29_0
  try clear hfz29_1
  try clear hfz29_2
  try clear hfz29_3
  try clear hfz29_4
  try clear hfz29_5
  try clear hfz29_6
  try clear hfz34_0
  try clear hfz34_1
  try clear hfz34_2
  try clear hfz34_3
  try clear hfz34_4
  try clear hfz34_5
  try clear hfz34_6
  obtain ⟨kq, x19_24, rfl, HA, HJ24, BK247, HI248, HB⟩ := hcut
  cases kq with
  | zero => exact absurd HA.out (by simp [frame_Request_Text.j0])
  | succ kj24 =>
    have H := HA.out
    clear HA
    simp only [frame_Request_Text.j0] at H
    by_cases c36 : x19_24 = true
    rotate_left
    · replace c36 := Bool.eq_false_iff.mpr c36
      subst c36
      have H1 : ((codec_Out_Text.f t252).bind fun bt268 => ((frame_seal.f kj24 bt268.1).bind fun t270 => (some t270))) = some r := by rw [if_neg (show ¬ (false = true) by decide)] at H; exact H
      clear H
      have H := H1
      clear H1
      replace H := Option.bind_eq_some_iff.mp H
      obtain ⟨⟨t268, t269⟩, A480, H⟩ := H
      replace H : ((frame_seal.f kj24 t268).bind fun t270 => (some t270)) = some r := H
      have A48 := Aside0.mk A480
      clear A480
      replace H := Option.bind_eq_some_iff.mp H
      obtain ⟨t270, A490, H⟩ := H
      replace H : (some t270) = some r := H
      have A49 := Aside0.mk A490
      clear A490
      obtain rfl := Option.some.inj H
      go_wp2_with (first | ((with_reducible refine gcl (f := 42) rfl ?_); refine gl_ (some 26) rfl rfl Try.func42 (by kernel_rfl) rfl #[.pointer (some ⟨gb248, 0, none⟩)] rfl (by (try simp only [List.map_toArray, List.map_cons, List.map_nil]); first | done | rfl | (simp only [List.length_drop, List.length_take]; rfl)) ?_; (with_reducible refine (codec_Out_Text.calls gb248 t252 t268 t269 w _ ?side1 ?side2 A48.out).mono ?_); (case side1 => repeat (first | (with_reducible first | exact HI248.out | apply IsS78.alloc | apply IsS78.drewN | apply IsS78.drew | apply IsS78.set_0 | refine IsS78.farT (p := ⟨gb247, _, none⟩) (t2 := 26) ?_ ?_ (by decide) (by decide) _ | exact OutT.mk BK247.out | refine OutT.set ?_ _ _ _) | exact HI248.out)); (case side2 => repeat (first | (with_reducible first | exact HB.out | apply bal | apply bdn | apply bd1 | refine bst ?_ (IsS78.ge HI248.out) | refine bst ?_ GE247.out) | exact HB.out)); rintro e w50 ⟨rfl, hi, hb, hk⟩; refine ⟨_, rfl, ?_⟩; have n0_ := Aside0.mk (KeepT.oblk (g := gb247) (o := .cells #[.int .i64 a0_0, .int .i64 a0_1, .string a0_2, .int .i64 a0_3, .string a0_4, .string a0_5, .int .i64 a0_6] 26 (0, 0)) (by (with_reducible repeat (first | refine kdn ?_ _ | refine kdw ?_ | refine kal ?_ _)); exact BK247.out) hk (by intro _ _ _ h_; cases h_; decide)); have n1_ := Aside0.mk (hb); have n2_ := Aside0.mk (hi); clear BK247; clear HB; clear HI248; have BK247 := n0_; have HB := n1_; have HI248 := n2_; clear n0_ n1_ n2_; (try clear hb); (try clear hb2); (try clear hk); (try clear hi)) | ((with_reducible refine gcl (f := 41) rfl ?_); refine gl_ (some 27) rfl rfl Try.func41 (by kernel_rfl) rfl #[.string t268] rfl (by (try simp only [List.map_toArray, List.map_cons, List.map_nil]); first | done | rfl | (simp only [List.length_drop, List.length_take]; rfl)) ?_; (with_reducible refine (frame_seal.calls kj24 t268 t270 _ A49.out).mono ?_); rintro e w51 ⟨rfl, hb⟩; refine ⟨_, rfl, ?_⟩; have n0_ := Aside0.mk (kbl (g := gb247) (o := .cells #[.int .i64 a0_0, .int .i64 a0_1, .string a0_2, .int .i64 a0_3, .string a0_4, .string a0_5, .int .i64 a0_6] 26 (0, 0)) (by (with_reducible repeat (first | refine kdn ?_ _ | refine kdw ?_ | refine kal ?_ _)); exact BK247.out) hb); have n1_ := Aside0.mk (IsS78.below (by repeat (first | (with_reducible first | exact HI248.out | apply IsS78.alloc | apply IsS78.drewN | apply IsS78.drew | apply IsS78.set_0 | refine IsS78.farT (p := ⟨gb247, _, none⟩) (t2 := 26) ?_ ?_ (by decide) (by decide) _ | exact OutT.mk BK247.out | refine OutT.set ?_ _ _ _) | exact HI248.out)) hb); have n2_ := Aside0.mk (bsp (by repeat (first | (with_reducible first | exact HB.out | apply bal | apply bdn | apply bd1 | refine bst ?_ (IsS78.ge HI248.out) | refine bst ?_ GE247.out) | exact HB.out)) hb); clear BK247; clear HI248; clear HB; have BK247 := n0_; have HI248 := n1_; have HB := n2_; clear n0_ n1_ n2_; (try clear hb); (try clear hb2); (try clear hk); (try clear hi)))
      go_ret
      exact ⟨by first | rfl | (simp [errW_none, errW_some] <;> rfl) | (simp [*, errW_none, errW_some] <;> rfl), by repeat (first | (with_reducible first | exact HB.out | apply bal | apply bdn | apply bd1 | refine bst ?_ (IsS78.ge HI248.out) | refine bst ?_ GE247.out) | exact HB.out)⟩
    subst c36
    have H1 : ((codec_Out_N.f t252 (([a0_1] : List Int))).bind fun t264 => ((codec_Out_Text.f t264).bind fun bt265 => ((frame_seal.f kj24 bt265.1).bind fun t267 => (some t267)))) = some r := by rw [if_pos rfl] at H; exact H
    clear H
    have H := H1
    clear H1
    obtain ⟨y261, hy261⟩ : ∃ y_ : List Int, y_ = (([a0_1] : List Int)) := ⟨_, rfl⟩
    replace H : ((codec_Out_N.f t252 y261).bind fun t264 => ((codec_Out_Text.f t264).bind fun bt265 => ((frame_seal.f kj24 bt265.1).bind fun t267 => (some t267)))) = some r := by first | (rw [hy261]; with_reducible exact H) | (have H2_ := (Option.bind_some _ _).symm.trans H; rw [hy261]; with_reducible exact H2_) | (have H2_ := (Option.bind_some _ _).symm.trans H; with_reducible exact H2_) | with_reducible exact H | (rw [hy261]; exact H) | exact H
    have Ny261 := Aside0.mk hy261
    clear hy261
    replace H := Option.bind_eq_some_iff.mp H
    obtain ⟨t264, A370, H⟩ := H
    replace H : ((codec_Out_Text.f t264).bind fun bt265 => ((frame_seal.f kj24 bt265.1).bind fun t267 => (some t267))) = some r := H
    have A37 := Aside0.mk A370
    clear A370
    replace H := Option.bind_eq_some_iff.mp H
    obtain ⟨⟨t265, t266⟩, A380, H⟩ := H
    replace H : ((frame_seal.f kj24 t265).bind fun t267 => (some t267)) = some r := H
    have A38 := Aside0.mk A380
    clear A380
    replace H := Option.bind_eq_some_iff.mp H
    obtain ⟨t267, A390, H⟩ := H
    replace H : (some t267) = some r := H
    have A39 := Aside0.mk A390
    clear A390
    obtain rfl := Option.some.inj H
    have hnb40 := NB247_248.out
    have hnc40 := NB248_247.out
    have hcz41_0 : wc.cell? ⟨gb247, 0, none⟩ = some (.int .i64 a0_0) := (kcl BK247.out 0).trans rfl
    have hcz41_1 : wc.cell? ⟨gb247, 1, none⟩ = some (.int .i64 a0_1) := (kcl BK247.out 1).trans rfl
    have hcz41_2 : wc.cell? ⟨gb247, 2, none⟩ = some (.string a0_2) := (kcl BK247.out 2).trans rfl
    have hcz41_3 : wc.cell? ⟨gb247, 3, none⟩ = some (.int .i64 a0_3) := (kcl BK247.out 3).trans rfl
    have hcz41_4 : wc.cell? ⟨gb247, 4, none⟩ = some (.string a0_4) := (kcl BK247.out 4).trans rfl
    have hcz41_5 : wc.cell? ⟨gb247, 5, none⟩ = some (.string a0_5) := (kcl BK247.out 5).trans rfl
    have hcz41_6 : wc.cell? ⟨gb247, 6, none⟩ = some (.int .i64 a0_6) := (kcl BK247.out 6).trans rfl
    have hfz41_0 := kfr BK247.out 0
    have hfz41_1 := kfr BK247.out 1
    have hfz41_2 := kfr BK247.out 2
    have hfz41_3 := kfr BK247.out 3
    have hfz41_4 := kfr BK247.out 4
    have hfz41_5 := kfr BK247.out 5
    have hfz41_6 := kfr BK247.out 6
    go_wp2_with (first | ((with_reducible refine gds (N := 24) rfl ?_); refine Kd.R_lit (Kd.int .i64) _ 3 ?hg (N := 24) ?hd (xs := ([a0_1] : List Int)) (inner := [.int .i64 a0_1]) (ok := fun _ => True) (okp := fun _ => True) ?hr ?hp (fun _ hk => hk) trivial (Below.refl _ _) (Nat.le_refl _) (by simp) ?_; (case hd => rfl); (case hg => rfl); (case hr => first | (go_simp; done) | (go_simp; rfl)); (case hp => exact (Reps.one (show Kd.M (Kd.int .i64) _ _ _ a0_1 [.int .i64 a0_1] from rfl) (Reps.none _ _))); intro v262 w42 ho43 hb hg_ hnew_; clear hg_ hnew_; (first | rw [← Ny261.out] at ho43 | (simp only [Int.reduceToNat] at ho43; rw [← Ny261.out] at ho43)); have n0_ := Aside0.mk (Kd.R_lower ho43 (bsz (by repeat (first | (with_reducible first | exact HB.out | apply bal | apply bdn | apply bd1 | refine bst ?_ (IsS78.ge HI248.out) | refine bst ?_ GE247.out) | exact HB.out)))); have n1_ := Aside0.mk (kbl (g := gb247) (o := .cells #[.int .i64 a0_0, .int .i64 a0_1, .string a0_2, .int .i64 a0_3, .string a0_4, .string a0_5, .int .i64 a0_6] 26 (0, 0)) (by (with_reducible repeat (first | refine kdn ?_ _ | refine kdw ?_ | refine kal ?_ _)); exact BK247.out) hb); have n2_ := Aside0.mk (IsS78.below (by repeat (first | (with_reducible first | exact HI248.out | apply IsS78.alloc | apply IsS78.drewN | apply IsS78.drew | apply IsS78.set_0 | refine IsS78.farT (p := ⟨gb247, _, none⟩) (t2 := 26) ?_ ?_ (by decide) (by decide) _ | exact OutT.mk BK247.out | refine OutT.set ?_ _ _ _) | exact HI248.out)) hb); have n3_ := Aside0.mk (bsp (by repeat (first | (with_reducible first | exact HB.out | apply bal | apply bdn | apply bd1 | refine bst ?_ (IsS78.ge HI248.out) | refine bst ?_ GE247.out) | exact HB.out)) hb); clear BK247; clear HI248; clear HB; have HO263 := n0_; have BK247 := n1_; have HI248 := n2_; have HB := n3_; clear n0_ n1_ n2_ n3_; clear hb ho43; obtain ⟨Ao44, co44, eo44⟩ := Kd.R_slice HO263.out; subst eo44) | ((with_reducible refine gcl (f := 38) rfl ?_); refine gl_ (some 25) rfl rfl Try.func38 (by kernel_rfl) rfl #[.pointer (some ⟨gb248, 0, none⟩), .slice Ao44 y261.length co44] rfl (by (try simp only [List.map_toArray, List.map_cons, List.map_nil]); first | done | rfl | (simp only [List.length_drop, List.length_take]; rfl)) ?_; (with_reducible refine (codec_Out_N.calls gb248 t252 _ _ y261 t264 w _ ?side1 ?side2 ?side3 ?side4 ?side5 A37.out).mono ?_); (case side1 => repeat (first | (with_reducible first | exact HI248.out | apply IsS78.alloc | apply IsS78.drewN | apply IsS78.drew | apply IsS78.set_0 | refine IsS78.farT (p := ⟨gb247, _, none⟩) (t2 := 26) ?_ ?_ (by decide) (by decide) _ | exact OutT.mk BK247.out | refine OutT.set ?_ _ _ _) | exact HI248.out)); (case side2 => repeat (first | (with_reducible first | exact HB.out | apply bal | apply bdn | apply bd1 | refine bst ?_ (IsS78.ge HI248.out) | refine bst ?_ GE247.out) | exact HB.out)); (case side3 => repeat (first | exact (Kd.R_reads' HO263.out).2.2 | (with_reducible refine Kd.C_alloc ?_ _) | (with_reducible refine Kd.C_drewN ?_ _) | (with_reducible refine Kd.C_drew ?_))); (case side4 => exact (Kd.R_reads' HO263.out).2.1); (case side5 => exact fun W_ hk_ => (Kd.R_reads' (KeepT.R (by (with_reducible repeat (first | apply Kd.R_alloc | apply Kd.R_drewN | apply Kd.R_drew)); exact HO263.out) hk_ (by decide))).2.2); rintro e w45 ⟨rfl, hi, hb, hk⟩; refine ⟨_, rfl, ?_⟩; have n0_ := Aside0.mk (KeepT.oblk (g := gb247) (o := .cells #[.int .i64 a0_0, .int .i64 a0_1, .string a0_2, .int .i64 a0_3, .string a0_4, .string a0_5, .int .i64 a0_6] 26 (0, 0)) (by (with_reducible repeat (first | refine kdn ?_ _ | refine kdw ?_ | refine kal ?_ _)); exact BK247.out) hk (by intro _ _ _ h_; cases h_; decide)); have n1_ := Aside0.mk (KeepT.R (by (with_reducible repeat (first | apply Kd.R_alloc | apply Kd.R_drewN | apply Kd.R_drew)); exact HO263.out) hk (by decide)); have n2_ := Aside0.mk (hb); have n3_ := Aside0.mk (hi); clear BK247; clear HO263; clear HB; clear HI248; have BK247 := n0_; have HO263 := n1_; have HB := n2_; have HI248 := n3_; clear n0_ n1_ n2_ n3_; (try clear hb); (try clear hb2); (try clear hk); (try clear hi)) | ((with_reducible refine gcl (f := 42) rfl ?_); refine gl_ (some 26) rfl rfl Try.func42 (by kernel_rfl) rfl #[.pointer (some ⟨gb248, 0, none⟩)] rfl (by (try simp only [List.map_toArray, List.map_cons, List.map_nil]); first | done | rfl | (simp only [List.length_drop, List.length_take]; rfl)) ?_; (with_reducible refine (codec_Out_Text.calls gb248 t264 t265 t266 w _ ?side1 ?side2 A38.out).mono ?_); (case side1 => repeat (first | (with_reducible first | exact HI248.out | apply IsS78.alloc | apply IsS78.drewN | apply IsS78.drew | apply IsS78.set_0 | refine IsS78.farT (p := ⟨gb247, _, none⟩) (t2 := 26) ?_ ?_ (by decide) (by decide) _ | exact OutT.mk BK247.out | refine OutT.set ?_ _ _ _) | exact HI248.out)); (case side2 => repeat (first | (with_reducible first | exact HB.out | apply bal | apply bdn | apply bd1 | refine bst ?_ (IsS78.ge HI248.out) | refine bst ?_ GE247.out) | exact HB.out)); rintro e w46 ⟨rfl, hi, hb, hk⟩; refine ⟨_, rfl, ?_⟩; have n0_ := Aside0.mk (KeepT.oblk (g := gb247) (o := .cells #[.int .i64 a0_0, .int .i64 a0_1, .string a0_2, .int .i64 a0_3, .string a0_4, .string a0_5, .int .i64 a0_6] 26 (0, 0)) (by (with_reducible repeat (first | refine kdn ?_ _ | refine kdw ?_ | refine kal ?_ _)); exact BK247.out) hk (by intro _ _ _ h_; cases h_; decide)); have n1_ := Aside0.mk (KeepT.R (by (with_reducible repeat (first | apply Kd.R_alloc | apply Kd.R_drewN | apply Kd.R_drew)); exact HO263.out) hk (by decide)); have n2_ := Aside0.mk (hb); have n3_ := Aside0.mk (hi); clear BK247; clear HO263; clear HB; clear HI248; have BK247 := n0_; have HO263 := n1_; have HB := n2_; have HI248 := n3_; clear n0_ n1_ n2_ n3_; (try clear hb); (try clear hb2); (try clear hk); (try clear hi)) | ((with_reducible refine gcl (f := 41) rfl ?_); refine gl_ (some 27) rfl rfl Try.func41 (by kernel_rfl) rfl #[.string t265] rfl (by (try simp only [List.map_toArray, List.map_cons, List.map_nil]); first | done | rfl | (simp only [List.length_drop, List.length_take]; rfl)) ?_; (with_reducible refine (frame_seal.calls kj24 t265 t267 _ A39.out).mono ?_); rintro e w47 ⟨rfl, hb⟩; refine ⟨_, rfl, ?_⟩; have n0_ := Aside0.mk (Kd.R_below (by (with_reducible repeat (first | apply Kd.R_alloc | apply Kd.R_drewN | apply Kd.R_drew)); exact HO263.out) hb); have n1_ := Aside0.mk (kbl (g := gb247) (o := .cells #[.int .i64 a0_0, .int .i64 a0_1, .string a0_2, .int .i64 a0_3, .string a0_4, .string a0_5, .int .i64 a0_6] 26 (0, 0)) (by (with_reducible repeat (first | refine kdn ?_ _ | refine kdw ?_ | refine kal ?_ _)); exact BK247.out) hb); have n2_ := Aside0.mk (IsS78.below (by repeat (first | (with_reducible first | exact HI248.out | apply IsS78.alloc | apply IsS78.drewN | apply IsS78.drew | apply IsS78.set_0 | refine IsS78.farT (p := ⟨gb247, _, none⟩) (t2 := 26) ?_ ?_ (by decide) (by decide) _ | exact OutT.mk BK247.out | refine OutT.set ?_ _ _ _) | exact HI248.out)) hb); have n3_ := Aside0.mk (bsp (by repeat (first | (with_reducible first | exact HB.out | apply bal | apply bdn | apply bd1 | refine bst ?_ (IsS78.ge HI248.out) | refine bst ?_ GE247.out) | exact HB.out)) hb); clear HO263; clear BK247; clear HI248; clear HB; have HO263 := n0_; have BK247 := n1_; have HI248 := n2_; have HB := n3_; clear n0_ n1_ n2_ n3_; (try clear hb); (try clear hb2); (try clear hk); (try clear hi)))
    go_ret
    exact ⟨by first | rfl | (simp [errW_none, errW_some] <;> rfl) | (simp [*, errW_none, errW_some] <;> rfl), by repeat (first | (with_reducible first | exact HB.out | apply bal | apply bdn | apply bd1 | refine bst ?_ (IsS78.ge HI248.out) | refine bst ?_ GE247.out) | exact HB.out)⟩
end Go.Proofs.Ytkkkmbgflflcnaa.PA

