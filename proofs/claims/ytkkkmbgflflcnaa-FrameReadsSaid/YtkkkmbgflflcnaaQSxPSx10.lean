import Derived.Test.YtkkkmbgflflcnaaQSxPSx6
import Derived.Test.YtkkkmbgflflcnaaQSxPSx8
import Derived.Test.YtkkkmbgflflcnaaQSxPSx9
namespace Go.Proofs.Ytkkkmbgflflcnaa.PS
open Go.Proofs.Ytkkkmbgflflcnaa.PL
open Go.RowKit Go.Proofs.YtkkkmbgflflcnaaW.PrintWords Go.Proofs.YtkkkmbgflflcnaaW.PrintLast Go.Proofs.YtkkkmbgflflcnaaW.PrintMore
attribute [local go_sem] max2_int min2_int max_two min_two max_three min_three max_four min_four
set_option linter.unusedVariables false
set_option linter.unusedSimpArgs false
def method_Call_Put.f (a0_0 : Int) (a0_1 : ByteArray) (a0_2 : ByteArray) (a0_3 : Int) (s1_0 : ByteArray) : Option (ByteArray) := (codec_Out_N.f s1_0 (([a0_0] : List Int))).bind fun t212 => ((codec_Out_S.f t212 (([a0_1, a0_2] : List ByteArray))).bind fun t216 => ((codec_Out_I.f t216 (([a0_3] : List Int))).bind fun t220 => (some t220)))
def method_Call_Put.T1 : Bool × List (List Nat × List Nat) := (true, [([], []), ([], []), ([1], [1]), ([2], [2]), ([0, 3], [0, 3]), ([], []), ([5], [5]), ([], []), ([7], [7]), ([6, 8], [6, 8]), ([4, 9, 4], [4, 9]), ([], []), ([11], [11]), ([12], [12]), ([10, 13, 10], [10, 13])])
def method_Call_Put.B1 : List Nat := [0, 0, 2, 6, 15, 0, 32, 0, 128, 480, 1023, 0, 2048, 6144, 16383]
theorem method_Call_Put.tab1 : rtab .any (opsOf Try.f40 1) = method_Call_Put.T1 := by kernel_rfl
theorem method_Call_Put.bits1 : waitsOk method_Call_Put.T1.2 method_Call_Put.B1 = true := by kernel_rfl
set_option maxHeartbeats 2000000 in
set_option maxRecDepth 100000 in
theorem method_Call_Put.calls (a0_0 : Int) (a0_1 : ByteArray) (a0_2 : ByteArray) (a0_3 : Int) (g : Nat) (s1_0 : ByteArray) (r : ByteArray) (w0 w : World) (hI : IsS78 w0 w g s1_0) (hB : Below w0.heap.size w0 w) (h : method_Call_Put.f a0_0 a0_1 a0_2 a0_3 s1_0 = some r) :
    Calls Try.prog 40 #[.agg #[.int .i64 a0_0, .string a0_1, .string a0_2, .int .i64 a0_3], .pointer (some ⟨g, 0, none⟩)] w fun e w' => e = .returned (.tuple #[]) ∧ IsS78 w0 w' g r ∧ Below w0.heap.size w0 w' ∧ KeepT w w' [78, 5] := by
  have hu24 := Try.underlying24
  have HI1 := Aside0.mk hI
  have HK := Aside0.mk (KeepT.refl w [78, 5])
  have HL := Aside0.mk hB.size
  clear hI
  have HW0 := Aside0.mk hB.size
  have HB := Aside0.mk hB
  clear hB
  have H : ((codec_Out_N.f s1_0 (([a0_0] : List Int))).bind fun t212 => ((codec_Out_S.f t212 (([a0_1, a0_2] : List ByteArray))).bind fun t216 => ((codec_Out_I.f t216 (([a0_3] : List Int))).bind fun t220 => (some t220)))) = some r := h
  clear h
  obtain ⟨y209, hy209⟩ : ∃ y_ : List Int, y_ = (([a0_0] : List Int)) := ⟨_, rfl⟩
  replace H : ((codec_Out_N.f s1_0 y209).bind fun t212 => ((codec_Out_S.f t212 (([a0_1, a0_2] : List ByteArray))).bind fun t216 => ((codec_Out_I.f t216 (([a0_3] : List Int))).bind fun t220 => (some t220)))) = some r := by first | (rw [hy209]; with_reducible exact H) | (have H2_ := (Option.bind_some _ _).symm.trans H; rw [hy209]; with_reducible exact H2_) | (have H2_ := (Option.bind_some _ _).symm.trans H; with_reducible exact H2_) | with_reducible exact H | (rw [hy209]; exact H) | exact H
  have Ny209 := Aside0.mk hy209
  clear hy209
  replace H := Option.bind_eq_some_iff.mp H
  obtain ⟨t212, A30, H⟩ := H
  replace H : ((codec_Out_S.f t212 (([a0_1, a0_2] : List ByteArray))).bind fun t216 => ((codec_Out_I.f t216 (([a0_3] : List Int))).bind fun t220 => (some t220))) = some r := H
  have A3 := Aside0.mk A30
  clear A30
  obtain ⟨y213, hy213⟩ : ∃ y_ : List ByteArray, y_ = (([a0_1, a0_2] : List ByteArray)) := ⟨_, rfl⟩
  replace H : ((codec_Out_S.f t212 y213).bind fun t216 => ((codec_Out_I.f t216 (([a0_3] : List Int))).bind fun t220 => (some t220))) = some r := by first | (rw [hy213]; with_reducible exact H) | (have H2_ := (Option.bind_some _ _).symm.trans H; rw [hy213]; with_reducible exact H2_) | (have H2_ := (Option.bind_some _ _).symm.trans H; with_reducible exact H2_) | with_reducible exact H | (rw [hy213]; exact H) | exact H
  have Ny213 := Aside0.mk hy213
  clear hy213
  replace H := Option.bind_eq_some_iff.mp H
  obtain ⟨t216, A40, H⟩ := H
  replace H : ((codec_Out_I.f t216 (([a0_3] : List Int))).bind fun t220 => (some t220)) = some r := H
  have A4 := Aside0.mk A40
  clear A40
  obtain ⟨y217, hy217⟩ : ∃ y_ : List Int, y_ = (([a0_3] : List Int)) := ⟨_, rfl⟩
  replace H : ((codec_Out_I.f t216 y217).bind fun t220 => (some t220)) = some r := by first | (rw [hy217]; with_reducible exact H) | (have H2_ := (Option.bind_some _ _).symm.trans H; rw [hy217]; with_reducible exact H2_) | (have H2_ := (Option.bind_some _ _).symm.trans H; with_reducible exact H2_) | with_reducible exact H | (rw [hy217]; exact H) | exact H
  have Ny217 := Aside0.mk hy217
  clear hy217
  replace H := Option.bind_eq_some_iff.mp H
  obtain ⟨t220, A50, H⟩ := H
  replace H : (some t220) = some r := H
  have A5 := Aside0.mk A50
  clear A50
  obtain rfl := Option.some.inj H
  go_enter Try.func40, Try.ntmps40
  try go_wp2_with (first | ((with_reducible refine gds (N := 2) rfl ?_); refine bev ?hg (N := 2) ?hd (cs := #[.int .i64 a0_0, .string a0_1, .string a0_2, .int .i64 a0_3]) (t := 24) ?hr ?_; (case hd => rfl); (case hg => rfl); (case hr => first | (go_simp; done) | (go_simp; rfl)); intro gb208 hg w6 hbox hb; have n0_ := Aside0.mk (IsS78.below (by repeat (first | (with_reducible first | exact HI1.out | apply IsS78.alloc | apply IsS78.drewN | apply IsS78.drew | apply IsS78.set_0) | exact HI1.out)) hb); have n1_ := Aside0.mk (KeepT.trans (by repeat (first | (with_reducible first | exact HK.out | fail | apply etn | apply etw | apply eta) | exact HK.out)) (KeepT.of_below hb)); have n2_ := Aside0.mk (bsp (by repeat (first | (with_reducible first | exact HB.out | apply bal | apply bdn | apply bd1 | refine bst ?_ (IsS78.ge HI1.out)) | exact HB.out)) hb); have n3_ := Aside0.mk (hbox); have n4_ := Aside0.mk ((by rw [hg]; exact (KeepT.size (w := w) (ts := [78, 5]) (by repeat (first | (with_reducible first | exact HK.out | fail | apply etn | apply etw | apply eta) | exact HK.out))) : w.heap.size ≤ gb208)); have n5_ := Aside0.mk ((Nat.le_trans HW0.out (by rw [hg]; exact (KeepT.size (w := w) (ts := [78, 5]) (by repeat (first | (with_reducible first | exact HK.out | fail | apply etn | apply etw | apply eta) | exact HK.out))) : w.heap.size ≤ gb208) : w0.heap.size ≤ gb208)); have n6_ := Aside0.mk ((by rw [hg]; exact Nat.ne_of_lt (IsS78.lt (show IsS78 w0 _ g s1_0 from by repeat (first | (with_reducible first | exact HI1.out | apply IsS78.alloc | apply IsS78.drewN | apply IsS78.drew | apply IsS78.set_0) | exact HI1.out))) : g ≠ gb208)); have n7_ := Aside0.mk ((by rw [hg]; exact Nat.ne_of_gt (IsS78.lt (show IsS78 w0 _ g s1_0 from by repeat (first | (with_reducible first | exact HI1.out | apply IsS78.alloc | apply IsS78.drewN | apply IsS78.drew | apply IsS78.set_0) | exact HI1.out))) : gb208 ≠ g)); clear HI1; clear HK; clear HB; have HI1 := n0_; have HK := n1_; have HB := n2_; have BK208 := n3_; have GW208 := n4_; have GE208 := n5_; have NB1_208 := n6_; have NB208_1 := n7_; clear n0_ n1_ n2_ n3_ n4_ n5_ n6_ n7_; clear hb hbox hg))
  have n0_ := Aside0.mk (kdw BK208.out)
  have n1_ := Aside0.mk (IsS78.drew HI1.out)
  have n2_ := Aside0.mk (etw HK.out)
  have n3_ := Aside0.mk (bd1 HB.out)
  clear BK208
  clear HI1
  clear HK
  clear HB
  have BK208 := n0_
  have HI1 := n1_
  have HK := n2_
  have HB := n3_
  clear n0_ n1_ n2_ n3_
  refine start_ (n := 15) (S := fun w' => True) (ds := []) #[false,false,false,false,false,false,false,false,false,false,false,false,false,false,false] (by kernel_rfl) rfl rfl trivial (fun hHeld => ?_); refine with_tabW method_Call_Put.tab1 method_Call_Put.bits1 (fun HT_ HW_ => ?_)
  generalize w6.drew = w7 at BK208 HI1 HK HB hHeld ⊢
  refine pure_ (i := 0) (N := some 4) (v := ?_) (a' := ?_) (bA 15 1) rfl rfl (any_of HT_.out (by kernel_rfl)) (fun _ _ _ h => h) (Or.inl ⟨by rfl, ?_⟩) ?_ ?_
  rotate_left; (intro w'; go_simp; with_reducible rfl); rotate_left; (simp only [Act.put, List.setIfInBounds_toArray, List.set_cons_zero, List.set_cons_succ, i64_w, i32_w]; rfl)
  refine pure_ (i := 1) (N := some 5) (v := ?_) (a' := ?_) (bA 15 3) rfl rfl (any_of HT_.out (by kernel_rfl)) (fun _ _ _ h => h) (Or.inl ⟨by rfl, ?_⟩) ?_ ?_
  rotate_left; (intro w'; go_simp; with_reducible rfl); rotate_left; (simp only [Act.put, List.setIfInBounds_toArray, List.set_cons_zero, List.set_cons_succ, i64_w, i32_w]; rfl)
  refine pure_ (i := 5) (N := some 9) (v := ?_) (a' := ?_) (bA 15 35) rfl rfl (any_of HT_.out (by kernel_rfl)) (fun _ _ _ h => h) (Or.inl ⟨by rfl, ?_⟩) ?_ ?_
  rotate_left; (intro w'; go_simp; with_reducible rfl); rotate_left; (simp only [Act.put, List.setIfInBounds_toArray, List.set_cons_zero, List.set_cons_succ, i64_w, i32_w]; rfl)
  refine pure_ (i := 7) (N := some 11) (v := ?_) (a' := ?_) (bA 15 163) rfl rfl (any_of HT_.out (by kernel_rfl)) (fun _ _ _ h => h) (Or.inl ⟨by rfl, ?_⟩) ?_ ?_
  rotate_left; (intro w'; go_simp; with_reducible rfl); rotate_left; (simp only [Act.put, List.setIfInBounds_toArray, List.set_cons_zero, List.set_cons_succ, i64_w, i32_w]; rfl)
  refine pure_ (i := 11) (N := some 15) (v := ?_) (a' := ?_) (bA 15 2211) rfl rfl (any_of HT_.out (by kernel_rfl)) (fun _ _ _ h => h) (Or.inl ⟨by rfl, ?_⟩) ?_ ?_
  rotate_left; (intro w'; go_simp; with_reducible rfl); rotate_left; (simp only [Act.put, List.setIfInBounds_toArray, List.set_cons_zero, List.set_cons_succ, i64_w, i32_w]; rfl)
  refine inv_at [2, 3, 4, 6, 8, 9, 10, 12, 13, 14] (fun a0_ b a w' => ∃ (v210 : Value) (v214 : Value) (v218 : Value), a = putSel a0_ b [(2, 6, .int .i64 a0_0), (3, 7, v210), (4, 8, .pointer (some ⟨g, 0, none⟩)), (6, 10, .string a0_1), (8, 12, .string a0_2), (9, 13, v214), (10, 14, .pointer (some ⟨g, 0, none⟩)), (12, 16, .int .i64 a0_3), (13, 17, v218), (14, 18, .pointer (some ⟨g, 0, none⟩))] ∧ (w'.heap[gb208]? = some (.cells #[.int .i64 a0_0, .string a0_1, .string a0_2, .int .i64 a0_3] 24 (0, 0))) ∧ (b 4 = false → IsS78 w0 w' g s1_0) ∧ (KeepT w w' [78, 5]) ∧ (Below w0.heap.size w0 w') ∧ (b 3 = true → Kd.R (Kd.int .i64) 3 w' w.heap.size (fun _ => True) v210 y209) ∧ (b 4 = true → b 10 = false → IsS78 w0 w' g t212) ∧ (b 9 = true → Kd.R Kd.string 9 w' w.heap.size (fun _ => True) v214 y213) ∧ (b 10 = true → b 14 = false → IsS78 w0 w' g t216) ∧ (b 13 = true → Kd.R (Kd.int .i64) 2 w' w.heap.size (fun _ => True) v218 y217) ∧ (b 14 = true → IsS78 w0 w' g t220)) HT_.out HW_.out (by kernel_rfl) (by kernel_rfl) ?_ ?_ ?_
  · exact ⟨.bool false, .bool false, .bool false, by simp only [putSel, Bool.false_eq_true, if_false], BK208.out, fun _ => HI1.out, HK.out, HB.out, fun h_ => absurd h_ (by decide), fun h_ => absurd h_ (by decide), fun h_ => absurd h_ (by decide), fun h_ => absurd h_ (by decide), fun h_ => absurd h_ (by decide), fun h_ => absurd h_ (by decide)⟩
  · skip
    clear BK208 HB HI1 HK
    refine steps_cons ?_ ?_
    · rintro b a w' ⟨v210, v214, v218, ha, Q_BK208, Q_HI1, Q_HK, Q_HB, Q_HO211, Q_HI1_e4, Q_HO215, Q_HI1_e10, Q_HO219, Q_HI1_e14⟩ hb_ hon hoff
      refine ⟨_, rfl, fun K hK => ?_⟩
      have e5 : a.tmps[5]? = some (.pointer (some ⟨gb208, 0, none⟩)) := by rw [ha]; exact (putSel_off rfl).trans rfl
      replace ha := Aside0.mk ha
      have BK208 := Aside0.mk Q_BK208
      have HI1 := Aside0.mk (Q_HI1 (hoff 4 (by kernel_rfl)))
      have HK := Aside0.mk Q_HK
      have HB := Aside0.mk Q_HB
      have hc0_ : w'.cell? ⟨gb208, 0, none⟩ = some (.int .i64 a0_0) := (kcl BK208.out 0).trans rfl
      have hc1_ : w'.cell? ⟨gb208, 1, none⟩ = some (.string a0_1) := (kcl BK208.out 1).trans rfl
      have hc2_ : w'.cell? ⟨gb208, 2, none⟩ = some (.string a0_2) := (kcl BK208.out 2).trans rfl
      have hc3_ : w'.cell? ⟨gb208, 3, none⟩ = some (.int .i64 a0_3) := (kcl BK208.out 3).trans rfl
      refine value_ (w1 := w') (v := .int .i64 a0_0) (by rfl) rfl ?_ ?_
      · go_simp
        (try simp only [i64_w])
        try rfl
      refine hK.out _ _ ⟨v210, v214, v218, (by rw [ha.out]; exact putSel_upk 0 hb_ rfl rfl rfl), Q_BK208, Q_HI1, Q_HK, Q_HB, fun h0_ => absurd ((hoff 3 (by kernel_rfl)).symm.trans h0_) (by decide), fun h0_ _ => absurd ((hoff 4 (by kernel_rfl)).symm.trans h0_) (by decide), Q_HO215, fun h0_ _ => absurd ((hoff 10 (by kernel_rfl)).symm.trans h0_) (by decide), Q_HO219, fun h0_ => absurd ((hoff 14 (by kernel_rfl)).symm.trans h0_) (by decide)⟩
    refine steps_cons ?_ ?_
    · rintro b a w' ⟨v210, v214, v218, ha, Q_BK208, Q_HI1, Q_HK, Q_HB, Q_HO211, Q_HI1_e4, Q_HO215, Q_HI1_e10, Q_HO219, Q_HI1_e14⟩ hb_ hon hoff
      refine ⟨_, rfl, fun K hK => ?_⟩
      have e6 : a.tmps[6]? = some (.int .i64 a0_0) := by rw [ha]; exact putSel_on (e := (2, 6, .int .i64 a0_0)) 0 rfl rfl (hon 2 (by kernel_rfl)) rfl
      replace ha := Aside0.mk ha
      have BK208 := Aside0.mk Q_BK208
      have HI1 := Aside0.mk (Q_HI1 (hoff 4 (by kernel_rfl)))
      have HK := Aside0.mk Q_HK
      have HB := Aside0.mk Q_HB
      refine Kd.R_lit_step (Kd.int .i64) _ 3 ?hg (N := 7) ?hd (xs := ([a0_0] : List Int)) (inner := [.int .i64 a0_0]) (ok := fun _ => True) (okp := fun _ => True) ?hr ?hp (fun _ hk => hk) trivial (Below.refl _ _) (Nat.le_refl _) (by simp) ?_; (case hd => rfl); (case hg => rfl); (case hr => first | (go_simp; done) | (go_simp; rfl)); (case hp => exact (Reps.one (show Kd.M (Kd.int .i64) _ _ _ a0_0 [.int .i64 a0_0] from rfl) (Reps.none _ _)))
      intro v210 w8 ho9 hb hg_ hnew_
      clear hg_ hnew_
      (first | rw [← Ny209.out] at ho9 | (simp only [Int.reduceToNat] at ho9; rw [← Ny209.out] at ho9))
      have n0_ := Aside0.mk (Kd.R_lower ho9 (KeepT.size (w := w) (ts := [78, 5]) (by repeat (first | (with_reducible first | exact HK.out | fail | apply etn | apply etw | apply eta | refine keepT_far ?_ GW208.out _) | exact HK.out))))
      have n1_ := Aside0.mk (IsS78.below (by repeat (first | (with_reducible first | exact HI1.out | apply IsS78.alloc | apply IsS78.drewN | apply IsS78.drew | apply IsS78.set_0 | refine IsS78.farT (p := ⟨gb208, _, none⟩) (t2 := 24) ?_ ?_ (by decide) (by decide) _ | exact OutT.mk BK208.out | refine OutT.set ?_ _ _ _) | exact HI1.out)) hb)
      have n2_ := Aside0.mk (kbl (g := gb208) (o := .cells #[.int .i64 a0_0, .string a0_1, .string a0_2, .int .i64 a0_3] 24 (0, 0)) bk_ hb)
      have n3_ := Aside0.mk (KeepT.trans (by repeat (first | (with_reducible first | exact HK.out | fail | apply etn | apply etw | apply eta | refine keepT_far ?_ GW208.out _) | exact HK.out)) (KeepT.of_below hb))
      have n4_ := Aside0.mk (bsp (by repeat (first | (with_reducible first | exact HB.out | apply bal | apply bdn | apply bd1 | refine bst ?_ (IsS78.ge HI1.out) | refine bst ?_ GE208.out) | exact HB.out)) hb)
      have z_HO215 := fun (h0_ : b 9 = true) => (show Kd.R Kd.string 9 w8 w.heap.size (fun _ => True) v214 y213 from by first | exact (Kd.R_below (by (with_reducible repeat (first | apply Kd.R_alloc | apply Kd.R_drewN | apply Kd.R_drew)); exact (Q_HO215 h0_)) hb) | exact Kd.R_mono (Kd.R_below (by (with_reducible repeat (first | apply Kd.R_alloc | apply Kd.R_drewN | apply Kd.R_drew)); exact (Q_HO215 h0_)) hb) (fun _ h_ => by first | trivial | exact h_ | exact h_.1))
      have z_HO219 := fun (h0_ : b 13 = true) => (show Kd.R (Kd.int .i64) 2 w8 w.heap.size (fun _ => True) v218 y217 from by first | exact (Kd.R_below (by (with_reducible repeat (first | apply Kd.R_alloc | apply Kd.R_drewN | apply Kd.R_drew)); exact (Q_HO219 h0_)) hb) | exact Kd.R_mono (Kd.R_below (by (with_reducible repeat (first | apply Kd.R_alloc | apply Kd.R_drewN | apply Kd.R_drew)); exact (Q_HO219 h0_)) hb) (fun _ h_ => by first | trivial | exact h_ | exact h_.1))
      clear HI1
      clear BK208
      clear HK
      clear HB
      have HO211 := n0_
      have HI1 := n1_
      have BK208 := n2_
      have HK := n3_
      have HB := n4_
      clear n0_ n1_ n2_ n3_ n4_
      clear hb ho9
      refine hK.out _ _ ⟨v210, v214, v218, (by rw [ha.out]; exact putSel_upk 1 hb_ rfl rfl rfl), bk_, fun _ => (by repeat (first | (with_reducible first | exact HI1.out | apply IsS78.alloc | apply IsS78.drewN | apply IsS78.drew | apply IsS78.set_0 | refine IsS78.farT (p := ⟨gb208, _, none⟩) (t2 := 24) ?_ ?_ (by decide) (by decide) _ | exact OutT.mk BK208.out | refine OutT.set ?_ _ _ _) | exact HI1.out)), (by repeat (first | (with_reducible first | exact HK.out | fail | apply etn | apply etw | apply eta | refine keepT_far ?_ GW208.out _) | exact HK.out)), (by repeat (first | (with_reducible first | exact HB.out | apply bal | apply bdn | apply bd1 | refine bst ?_ (IsS78.ge HI1.out) | refine bst ?_ GE208.out) | exact HB.out)), fun _ => (by (with_reducible repeat (first | apply Kd.R_alloc | apply Kd.R_drewN | apply Kd.R_drew)); exact HO211.out), fun h0_ _ => absurd ((hoff 4 (by kernel_rfl)).symm.trans h0_) (by decide), z_HO215, fun h0_ _ => absurd ((hoff 10 (by kernel_rfl)).symm.trans h0_) (by decide), z_HO219, fun h0_ => absurd ((hoff 14 (by kernel_rfl)).symm.trans h0_) (by decide)⟩
    refine steps_cons ?_ ?_
    · rintro b a w' ⟨v210, v214, v218, ha, Q_BK208, Q_HI1, Q_HK, Q_HB, Q_HO211, Q_HI1_e4, Q_HO215, Q_HI1_e10, Q_HO219, Q_HI1_e14⟩ hb_ hon hoff
      refine ⟨_, rfl, fun K hK => ?_⟩
      have e4 : a.tmps[4]? = some (.pointer (some ⟨g, 0, none⟩)) := by rw [ha]; exact (putSel_off rfl).trans rfl
      have e7 : a.tmps[7]? = some (v210) := by rw [ha]; exact putSel_on (e := (3, 7, v210)) 1 rfl rfl (hon 3 (by kernel_rfl)) rfl
      replace ha := Aside0.mk ha
      have BK208 := Aside0.mk Q_BK208
      have HI1 := Aside0.mk (Q_HI1 hb_)
      have HK := Aside0.mk Q_HK
      have HB := Aside0.mk Q_HB
      have HO211 := Aside0.mk (Q_HO211 (hon 3 (by kernel_rfl)))
      obtain ⟨Ao11, co11, eo11⟩ := Kd.R_slice HO211.out
      (first | subst eo11 | (injection eo11 with f1_ f2_ f3_; have f4_ := f1_.symm; have f5_ := f3_.symm; clear f1_ f2_ f3_; subst f4_; subst f5_))
      refine goes_ Try.func38 (by kernel_rfl) rfl #[.pointer (some ⟨g, 0, none⟩), .slice Ao11 y209.length co11] (by rfl) rfl rfl (by (try simp only [List.map_toArray, List.map_cons, List.map_nil]); first | done | rfl | (simp only [List.length_drop, List.length_take]; rfl) | (simp only [Act.eval, Array.getD_eq_getD_getElem?, Option.getD_some, *]; done) | (simp only [Array.mk.injEq, List.cons.injEq, Value.int.injEq, true_and, and_true]; first | omega | (simp [IntKind.wrap, IntKind.bits, IntKind.signed]; omega))) ?_
      with_reducible refine (codec_Out_N.calls g s1_0 _ _ y209 t212 w0 _ ?side1 ?side2 ?side3 ?side4 ?side5 A3.out).mono ?_
      (case side1 => repeat (first | (with_reducible first | exact HI1.out | apply IsS78.alloc | apply IsS78.drewN | apply IsS78.drew | apply IsS78.set_0 | refine IsS78.farT (p := ⟨gb208, _, none⟩) (t2 := 24) ?_ ?_ (by decide) (by decide) _ | exact OutT.mk BK208.out | refine OutT.set ?_ _ _ _) | exact HI1.out))
      (case side2 => repeat (first | (with_reducible first | exact HB.out | apply bal | apply bdn | apply bd1 | refine bst ?_ (IsS78.ge HI1.out) | refine bst ?_ GE208.out) | exact HB.out))
      (case side3 => repeat (first | exact (Kd.R_reads' HO211.out).2.2 | (with_reducible refine Kd.C_alloc ?_ _) | (with_reducible refine Kd.C_drewN ?_ _) | (with_reducible refine Kd.C_drew ?_)))
      (case side4 => exact (Kd.R_reads' HO211.out).2.1)
      (case side5 => exact fun W_ hk_ => (Kd.R_reads' (KeepT.R (by (with_reducible repeat (first | apply Kd.R_alloc | apply Kd.R_drewN | apply Kd.R_drew)); exact HO211.out) hk_ (by decide))).2.2)
      rintro e w12 ⟨rfl, hi, hb, hk⟩
      refine ⟨_, rfl, ?_⟩
      have n0_ := Aside0.mk (KeepT.oblk (g := gb208) (o := .cells #[.int .i64 a0_0, .string a0_1, .string a0_2, .int .i64 a0_3] 24 (0, 0)) bk_ hk (by intro _ _ _ h_; cases h_; decide))
      have n1_ := Aside0.mk (KeepT.R (by (with_reducible repeat (first | apply Kd.R_alloc | apply Kd.R_drewN | apply Kd.R_drew)); exact HO211.out) hk (by decide))
      have n2_ := Aside0.mk (KeepT.trans (by repeat (first | (with_reducible first | exact HK.out | fail | apply etn | apply etw | apply eta | refine keepT_far ?_ GW208.out _) | exact HK.out)) hk)
      have n3_ := Aside0.mk (hb)
      have n4_ := Aside0.mk (hi)
      have z_HO215 := fun (h0_ : b 9 = true) => (show Kd.R Kd.string 9 w12 w.heap.size (fun _ => True) v214 y213 from by first | exact (KeepT.R (by (with_reducible repeat (first | apply Kd.R_alloc | apply Kd.R_drewN | apply Kd.R_drew)); exact (Q_HO215 h0_)) hk (by decide)) | exact Kd.R_mono (KeepT.R (by (with_reducible repeat (first | apply Kd.R_alloc | apply Kd.R_drewN | apply Kd.R_drew)); exact (Q_HO215 h0_)) hk (by decide)) (fun _ h_ => by first | trivial | exact h_ | exact h_.1))
      have z_HO219 := fun (h0_ : b 13 = true) => (show Kd.R (Kd.int .i64) 2 w12 w.heap.size (fun _ => True) v218 y217 from by first | exact (KeepT.R (by (with_reducible repeat (first | apply Kd.R_alloc | apply Kd.R_drewN | apply Kd.R_drew)); exact (Q_HO219 h0_)) hk (by decide)) | exact Kd.R_mono (KeepT.R (by (with_reducible repeat (first | apply Kd.R_alloc | apply Kd.R_drewN | apply Kd.R_drew)); exact (Q_HO219 h0_)) hk (by decide)) (fun _ h_ => by first | trivial | exact h_ | exact h_.1))
      clear BK208
      clear HO211
      clear HK
      clear HB
      clear HI1
      have BK208 := n0_
      have HO211 := n1_
      have HK := n2_
      have HB := n3_
      have HI1 := n4_
      clear n0_ n1_ n2_ n3_ n4_
      (try clear hb)
      (try clear hb2)
      (try clear hk)
      (try clear hi)
      refine hK.out _ _ ⟨.slice Ao11 y209.length co11, v214, v218, (by rw [ha.out]; exact putSel_upk 2 hb_ rfl rfl rfl), bk_, fun h0_ => absurd ((up_self b 4).symm.trans h0_) (by decide), (by repeat (first | (with_reducible first | exact HK.out | fail | apply etn | apply etw | apply eta | refine keepT_far ?_ GW208.out _) | exact HK.out)), (by repeat (first | (with_reducible first | exact HB.out | apply bal | apply bdn | apply bd1 | refine bst ?_ (IsS78.ge HI1.out) | refine bst ?_ GE208.out) | exact HB.out)), fun _ => (by (with_reducible repeat (first | apply Kd.R_alloc | apply Kd.R_drewN | apply Kd.R_drew)); exact HO211.out), fun _ _ => (by repeat (first | (with_reducible first | exact HI1.out | apply IsS78.alloc | apply IsS78.drewN | apply IsS78.drew | apply IsS78.set_0 | refine IsS78.farT (p := ⟨gb208, _, none⟩) (t2 := 24) ?_ ?_ (by decide) (by decide) _ | exact OutT.mk BK208.out | refine OutT.set ?_ _ _ _) | exact HI1.out)), z_HO215, fun h0_ _ => absurd ((hoff 10 (by kernel_rfl)).symm.trans h0_) (by decide), z_HO219, fun h0_ => absurd ((hoff 14 (by kernel_rfl)).symm.trans h0_) (by decide)⟩
    refine steps_cons ?_ ?_
    · rintro b a w' ⟨v210, v214, v218, ha, Q_BK208, Q_HI1, Q_HK, Q_HB, Q_HO211, Q_HI1_e4, Q_HO215, Q_HI1_e10, Q_HO219, Q_HI1_e14⟩ hb_ hon hoff
      refine ⟨_, rfl, fun K hK => ?_⟩
      have e9 : a.tmps[9]? = some (.pointer (some ⟨gb208, 1, none⟩)) := by rw [ha]; exact (putSel_off rfl).trans rfl
      replace ha := Aside0.mk ha
      have BK208 := Aside0.mk Q_BK208
      have HK := Aside0.mk Q_HK
      have HB := Aside0.mk Q_HB
      have hc0_ : w'.cell? ⟨gb208, 0, none⟩ = some (.int .i64 a0_0) := (kcl BK208.out 0).trans rfl
      have hc1_ : w'.cell? ⟨gb208, 1, none⟩ = some (.string a0_1) := (kcl BK208.out 1).trans rfl
      have hc2_ : w'.cell? ⟨gb208, 2, none⟩ = some (.string a0_2) := (kcl BK208.out 2).trans rfl
      have hc3_ : w'.cell? ⟨gb208, 3, none⟩ = some (.int .i64 a0_3) := (kcl BK208.out 3).trans rfl
      refine value_ (w1 := w') (v := .string a0_1) (by rfl) rfl ?_ ?_
      · go_simp
        (try simp only [i64_w])
        try rfl
      refine hK.out _ _ ⟨v210, v214, v218, (by rw [ha.out]; exact putSel_upk 3 hb_ rfl rfl rfl), Q_BK208, Q_HI1, Q_HK, Q_HB, Q_HO211, Q_HI1_e4, fun h0_ => absurd ((hoff 9 (by kernel_rfl)).symm.trans h0_) (by decide), fun h0_ _ => absurd ((hoff 10 (by kernel_rfl)).symm.trans h0_) (by decide), Q_HO219, fun h0_ => absurd ((hoff 14 (by kernel_rfl)).symm.trans h0_) (by decide)⟩
    refine steps_cons ?_ ?_
    · rintro b a w' ⟨v210, v214, v218, ha, Q_BK208, Q_HI1, Q_HK, Q_HB, Q_HO211, Q_HI1_e4, Q_HO215, Q_HI1_e10, Q_HO219, Q_HI1_e14⟩ hb_ hon hoff
      refine ⟨_, rfl, fun K hK => ?_⟩
      have e11 : a.tmps[11]? = some (.pointer (some ⟨gb208, 2, none⟩)) := by rw [ha]; exact (putSel_off rfl).trans rfl
      replace ha := Aside0.mk ha
      have BK208 := Aside0.mk Q_BK208
      have HK := Aside0.mk Q_HK
      have HB := Aside0.mk Q_HB
      have hc0_ : w'.cell? ⟨gb208, 0, none⟩ = some (.int .i64 a0_0) := (kcl BK208.out 0).trans rfl
      have hc1_ : w'.cell? ⟨gb208, 1, none⟩ = some (.string a0_1) := (kcl BK208.out 1).trans rfl
      have hc2_ : w'.cell? ⟨gb208, 2, none⟩ = some (.string a0_2) := (kcl BK208.out 2).trans rfl
      have hc3_ : w'.cell? ⟨gb208, 3, none⟩ = some (.int .i64 a0_3) := (kcl BK208.out 3).trans rfl
      refine value_ (w1 := w') (v := .string a0_2) (by rfl) rfl ?_ ?_
      · go_simp
        (try simp only [i64_w])
        try rfl
      refine hK.out _ _ ⟨v210, v214, v218, (by rw [ha.out]; exact putSel_upk 4 hb_ rfl rfl rfl), Q_BK208, Q_HI1, Q_HK, Q_HB, Q_HO211, Q_HI1_e4, fun h0_ => absurd ((hoff 9 (by kernel_rfl)).symm.trans h0_) (by decide), fun h0_ _ => absurd ((hoff 10 (by kernel_rfl)).symm.trans h0_) (by decide), Q_HO219, fun h0_ => absurd ((hoff 14 (by kernel_rfl)).symm.trans h0_) (by decide)⟩
    refine steps_cons ?_ ?_
    · rintro b a w' ⟨v210, v214, v218, ha, Q_BK208, Q_HI1, Q_HK, Q_HB, Q_HO211, Q_HI1_e4, Q_HO215, Q_HI1_e10, Q_HO219, Q_HI1_e14⟩ hb_ hon hoff
      refine ⟨_, rfl, fun K hK => ?_⟩
      have e10 : a.tmps[10]? = some (.string a0_1) := by rw [ha]; exact putSel_on (e := (6, 10, .string a0_1)) 3 rfl rfl (hon 6 (by kernel_rfl)) rfl
      have e12 : a.tmps[12]? = some (.string a0_2) := by rw [ha]; exact putSel_on (e := (8, 12, .string a0_2)) 4 rfl rfl (hon 8 (by kernel_rfl)) rfl
      replace ha := Aside0.mk ha
      have BK208 := Aside0.mk Q_BK208
      have HK := Aside0.mk Q_HK
      have HB := Aside0.mk Q_HB
      refine Kd.R_lit_step Kd.string _ 9 ?hg (N := 13) ?hd (xs := ([a0_1, a0_2] : List ByteArray)) (inner := [.string a0_1, .string a0_2]) (ok := fun _ => True) (okp := fun _ => True) ?hr ?hp (fun _ hk => hk) trivial (Below.refl _ _) (Nat.le_refl _) (by simp) ?_; (case hd => rfl); (case hg => rfl); (case hr => first | (go_simp; done) | (go_simp; rfl)); (case hp => exact (Reps.one (show Kd.M Kd.string _ _ _ a0_1 [.string a0_1] from rfl) (Reps.one (show Kd.M Kd.string _ _ _ a0_2 [.string a0_2] from rfl) (Reps.none _ _))))
      intro v214 w8 ho9 hb hg_ hnew_
      clear hg_ hnew_
      (first | rw [← Ny213.out] at ho9 | (simp only [Int.reduceToNat] at ho9; rw [← Ny213.out] at ho9))
      have n0_ := Aside0.mk (Kd.R_lower ho9 (KeepT.size (w := w) (ts := [78, 5]) (by repeat (first | (with_reducible first | exact HK.out | fail | apply etn | apply etw | apply eta | refine keepT_far ?_ GW208.out _) | exact HK.out))))
      have n2_ := Aside0.mk (kbl (g := gb208) (o := .cells #[.int .i64 a0_0, .string a0_1, .string a0_2, .int .i64 a0_3] 24 (0, 0)) bk_ hb)
      have n3_ := Aside0.mk (KeepT.trans (by repeat (first | (with_reducible first | exact HK.out | fail | apply etn | apply etw | apply eta | refine keepT_far ?_ GW208.out _) | exact HK.out)) (KeepT.of_below hb))
      have n4_ := Aside0.mk (bsp bl_ hb)
      have z_HI1 := fun (h0_ : b 4 = false) => (show IsS78 w0 w8 g s1_0 from by first | exact (IsS78.below (by repeat (first | (with_reducible first | exact (Q_HI1 h0_) | apply IsS78.alloc | apply IsS78.drewN | apply IsS78.drew | apply IsS78.set_0 | refine IsS78.farT (p := ⟨gb208, _, none⟩) (t2 := 24) ?_ ?_ (by decide) (by decide) _ | exact OutT.mk BK208.out | refine OutT.set ?_ _ _ _) | exact (Q_HI1 h0_))) hb))
      have z_HO211 := fun (h0_ : b 3 = true) => (show Kd.R (Kd.int .i64) 3 w8 w.heap.size (fun _ => True) v210 y209 from by first | exact (Kd.R_below (by (with_reducible repeat (first | apply Kd.R_alloc | apply Kd.R_drewN | apply Kd.R_drew)); exact (Q_HO211 h0_)) hb) | exact Kd.R_mono (Kd.R_below (by (with_reducible repeat (first | apply Kd.R_alloc | apply Kd.R_drewN | apply Kd.R_drew)); exact (Q_HO211 h0_)) hb) (fun _ h_ => by first | trivial | exact h_ | exact h_.1))
      have z_HI1_e4 := fun (h0_ : b 4 = true) (h1_ : b 10 = false) => (show IsS78 w0 w8 g t212 from by first | exact (IsS78.below (by repeat (first | (with_reducible first | exact (Q_HI1_e4 h0_ h1_) | apply IsS78.alloc | apply IsS78.drewN | apply IsS78.drew | apply IsS78.set_0 | refine IsS78.farT (p := ⟨gb208, _, none⟩) (t2 := 24) ?_ ?_ (by decide) (by decide) _ | exact OutT.mk BK208.out | refine OutT.set ?_ _ _ _) | exact (Q_HI1_e4 h0_ h1_))) hb))
      have z_HO219 := fun (h0_ : b 13 = true) => (show Kd.R (Kd.int .i64) 2 w8 w.heap.size (fun _ => True) v218 y217 from by first | exact (Kd.R_below (by (with_reducible repeat (first | apply Kd.R_alloc | apply Kd.R_drewN | apply Kd.R_drew)); exact (Q_HO219 h0_)) hb) | exact Kd.R_mono (Kd.R_below (by (with_reducible repeat (first | apply Kd.R_alloc | apply Kd.R_drewN | apply Kd.R_drew)); exact (Q_HO219 h0_)) hb) (fun _ h_ => by first | trivial | exact h_ | exact h_.1))
      clear BK208
      clear HK
      clear HB
      have HO215 := n0_
      have BK208 := n2_
      have HK := n3_
      have HB := n4_
      clear n0_ n2_ n3_ n4_
      clear hb ho9
      refine hK.out _ _ ⟨v210, v214, v218, (by rw [ha.out]; exact putSel_upk 5 hb_ rfl rfl rfl), bk_, z_HI1, (by repeat (first | (with_reducible first | exact HK.out | fail | apply etn | apply etw | apply eta | refine keepT_far ?_ GW208.out _) | exact HK.out)), bl_, z_HO211, z_HI1_e4, fun _ => (by (with_reducible repeat (first | apply Kd.R_alloc | apply Kd.R_drewN | apply Kd.R_drew)); exact HO215.out), fun h0_ _ => absurd ((hoff 10 (by kernel_rfl)).symm.trans h0_) (by decide), z_HO219, fun h0_ => absurd ((hoff 14 (by kernel_rfl)).symm.trans h0_) (by decide)⟩
    refine steps_cons ?_ ?_
    · rintro b a w' ⟨v210, v214, v218, ha, Q_BK208, Q_HI1, Q_HK, Q_HB, Q_HO211, Q_HI1_e4, Q_HO215, Q_HI1_e10, Q_HO219, Q_HI1_e14⟩ hb_ hon hoff
      refine ⟨_, rfl, fun K hK => ?_⟩
      have e8 : a.tmps[8]? = some (.pointer (some ⟨g, 0, none⟩)) := by rw [ha]; exact putSel_on (e := (4, 8, .pointer (some ⟨g, 0, none⟩))) 2 rfl rfl (hon 4 (by kernel_rfl)) rfl
      have e13 : a.tmps[13]? = some (v214) := by rw [ha]; exact putSel_on (e := (9, 13, v214)) 5 rfl rfl (hon 9 (by kernel_rfl)) rfl
      replace ha := Aside0.mk ha
      have BK208 := Aside0.mk Q_BK208
      have HK := Aside0.mk Q_HK
      have HB := Aside0.mk Q_HB
      have HO211 := Aside0.mk (Q_HO211 (hon 3 (by kernel_rfl)))
      have HI1 := Aside0.mk (Q_HI1_e4 (hon 4 (by kernel_rfl)) hb_)
      have HO215 := Aside0.mk (Q_HO215 (hon 9 (by kernel_rfl)))
      obtain ⟨Ao15, co15, eo15⟩ := Kd.R_slice HO215.out
      (first | subst eo15 | (injection eo15 with f1_ f2_ f3_; have f4_ := f1_.symm; have f5_ := f3_.symm; clear f1_ f2_ f3_; subst f4_; subst f5_))
      refine goes_ Try.func39 (by kernel_rfl) rfl #[.pointer (some ⟨g, 0, none⟩), .slice Ao15 y213.length co15] (by rfl) rfl rfl (by (try simp only [List.map_toArray, List.map_cons, List.map_nil]); first | done | rfl | (simp only [List.length_drop, List.length_take]; rfl) | (simp only [Act.eval, Array.getD_eq_getD_getElem?, Option.getD_some, *]; done) | (simp only [Array.mk.injEq, List.cons.injEq, Value.int.injEq, true_and, and_true]; first | omega | (simp [IntKind.wrap, IntKind.bits, IntKind.signed]; omega))) ?_
      with_reducible refine (codec_Out_S.calls g t212 _ _ y213 t216 w0 _ ?side1 ?side2 ?side3 ?side4 ?side5 A4.out).mono ?_
      (case side1 => repeat (first | (with_reducible first | exact HI1.out | apply IsS78.alloc | apply IsS78.drewN | apply IsS78.drew | apply IsS78.set_0 | refine IsS78.farT (p := ⟨gb208, _, none⟩) (t2 := 24) ?_ ?_ (by decide) (by decide) _ | exact OutT.mk BK208.out | refine OutT.set ?_ _ _ _) | exact HI1.out))
      (case side2 => repeat (first | (with_reducible first | exact HB.out | apply bal | apply bdn | apply bd1 | refine bst ?_ (IsS78.ge HI1.out) | refine bst ?_ GE208.out) | exact HB.out))
      (case side3 => repeat (first | exact (Kd.R_reads' HO215.out).2.2 | (with_reducible refine Kd.C_alloc ?_ _) | (with_reducible refine Kd.C_drewN ?_ _) | (with_reducible refine Kd.C_drew ?_)))
      (case side4 => exact (Kd.R_reads' HO215.out).2.1)
      (case side5 => exact fun W_ hk_ => (Kd.R_reads' (KeepT.R (by (with_reducible repeat (first | apply Kd.R_alloc | apply Kd.R_drewN | apply Kd.R_drew)); exact HO215.out) hk_ (by decide))).2.2)
      rintro e w16 ⟨rfl, hi, hb, hk⟩
      refine ⟨_, rfl, ?_⟩
      have n0_ := Aside0.mk (KeepT.oblk (g := gb208) (o := .cells #[.int .i64 a0_0, .string a0_1, .string a0_2, .int .i64 a0_3] 24 (0, 0)) bk_ hk (by intro _ _ _ h_; cases h_; decide))
      have n1_ := Aside0.mk (KeepT.R (by (with_reducible repeat (first | apply Kd.R_alloc | apply Kd.R_drewN | apply Kd.R_drew)); exact HO211.out) hk (by decide))
      have n2_ := Aside0.mk (KeepT.R (by (with_reducible repeat (first | apply Kd.R_alloc | apply Kd.R_drewN | apply Kd.R_drew)); exact HO215.out) hk (by decide))
      have n3_ := Aside0.mk (KeepT.trans (by repeat (first | (with_reducible first | exact HK.out | fail | apply etn | apply etw | apply eta | refine keepT_far ?_ GW208.out _) | exact HK.out)) hk)
      have n4_ := Aside0.mk (hb)
      have n5_ := Aside0.mk (hi)
      have z_HO219 := fun (h0_ : b 13 = true) => (show Kd.R (Kd.int .i64) 2 w16 w.heap.size (fun _ => True) v218 y217 from by first | exact (KeepT.R (by (with_reducible repeat (first | apply Kd.R_alloc | apply Kd.R_drewN | apply Kd.R_drew)); exact (Q_HO219 h0_)) hk (by decide)) | exact Kd.R_mono (KeepT.R (by (with_reducible repeat (first | apply Kd.R_alloc | apply Kd.R_drewN | apply Kd.R_drew)); exact (Q_HO219 h0_)) hk (by decide)) (fun _ h_ => by first | trivial | exact h_ | exact h_.1))
      clear BK208
      clear HO211
      clear HO215
      clear HK
      clear HB
      clear HI1
      have BK208 := n0_
      have HO211 := n1_
      have HO215 := n2_
      have HK := n3_
      have HB := n4_
      have HI1 := n5_
      clear n0_ n1_ n2_ n3_ n4_ n5_
      (try clear hb)
      (try clear hb2)
      (try clear hk)
      (try clear hi)
      refine hK.out _ _ ⟨v210, .slice Ao15 y213.length co15, v218, (by rw [ha.out]; exact putSel_upk 6 hb_ rfl rfl rfl), bk_, fun h0_ => absurd ((hon 4 (by kernel_rfl)).symm.trans h0_) (by decide), (by repeat (first | (with_reducible first | exact HK.out | fail | apply etn | apply etw | apply eta | refine keepT_far ?_ GW208.out _) | exact HK.out)), (by repeat (first | (with_reducible first | exact HB.out | apply bal | apply bdn | apply bd1 | refine bst ?_ (IsS78.ge HI1.out) | refine bst ?_ GE208.out) | exact HB.out)), fun _ => (by (with_reducible repeat (first | apply Kd.R_alloc | apply Kd.R_drewN | apply Kd.R_drew)); exact HO211.out), fun _ h1_ => absurd ((up_self b 10).symm.trans h1_) (by decide), fun _ => (by (with_reducible repeat (first | apply Kd.R_alloc | apply Kd.R_drewN | apply Kd.R_drew)); exact HO215.out), fun _ _ => (by repeat (first | (with_reducible first | exact HI1.out | apply IsS78.alloc | apply IsS78.drewN | apply IsS78.drew | apply IsS78.set_0 | refine IsS78.farT (p := ⟨gb208, _, none⟩) (t2 := 24) ?_ ?_ (by decide) (by decide) _ | exact OutT.mk BK208.out | refine OutT.set ?_ _ _ _) | exact HI1.out)), z_HO219, fun h0_ => absurd ((hoff 14 (by kernel_rfl)).symm.trans h0_) (by decide)⟩
    refine steps_cons ?_ ?_
    · rintro b a w' ⟨v210, v214, v218, ha, Q_BK208, Q_HI1, Q_HK, Q_HB, Q_HO211, Q_HI1_e4, Q_HO215, Q_HI1_e10, Q_HO219, Q_HI1_e14⟩ hb_ hon hoff
      refine ⟨_, rfl, fun K hK => ?_⟩
      have e15 : a.tmps[15]? = some (.pointer (some ⟨gb208, 3, none⟩)) := by rw [ha]; exact (putSel_off rfl).trans rfl
      replace ha := Aside0.mk ha
      have BK208 := Aside0.mk Q_BK208
      have HK := Aside0.mk Q_HK
      have HB := Aside0.mk Q_HB
      have hc0_ : w'.cell? ⟨gb208, 0, none⟩ = some (.int .i64 a0_0) := (kcl BK208.out 0).trans rfl
      have hc1_ : w'.cell? ⟨gb208, 1, none⟩ = some (.string a0_1) := (kcl BK208.out 1).trans rfl
      have hc2_ : w'.cell? ⟨gb208, 2, none⟩ = some (.string a0_2) := (kcl BK208.out 2).trans rfl
      have hc3_ : w'.cell? ⟨gb208, 3, none⟩ = some (.int .i64 a0_3) := (kcl BK208.out 3).trans rfl
      refine value_ (w1 := w') (v := .int .i64 a0_3) (by rfl) rfl ?_ ?_
      · go_simp
        (try simp only [i64_w])
        try rfl
      refine hK.out _ _ ⟨v210, v214, v218, (by rw [ha.out]; exact putSel_upk 7 hb_ rfl rfl rfl), Q_BK208, Q_HI1, Q_HK, Q_HB, Q_HO211, Q_HI1_e4, Q_HO215, Q_HI1_e10, fun h0_ => absurd ((hoff 13 (by kernel_rfl)).symm.trans h0_) (by decide), fun h0_ => absurd ((hoff 14 (by kernel_rfl)).symm.trans h0_) (by decide)⟩
    refine steps_cons ?_ ?_
    · rintro b a w' ⟨v210, v214, v218, ha, Q_BK208, Q_HI1, Q_HK, Q_HB, Q_HO211, Q_HI1_e4, Q_HO215, Q_HI1_e10, Q_HO219, Q_HI1_e14⟩ hb_ hon hoff
      refine ⟨_, rfl, fun K hK => ?_⟩
      have e16 : a.tmps[16]? = some (.int .i64 a0_3) := by rw [ha]; exact putSel_on (e := (12, 16, .int .i64 a0_3)) 7 rfl rfl (hon 12 (by kernel_rfl)) rfl
      replace ha := Aside0.mk ha
      have BK208 := Aside0.mk Q_BK208
      have HK := Aside0.mk Q_HK
      have HB := Aside0.mk Q_HB
      refine Kd.R_lit_step (Kd.int .i64) _ 2 ?hg (N := 17) ?hd (xs := ([a0_3] : List Int)) (inner := [.int .i64 a0_3]) (ok := fun _ => True) (okp := fun _ => True) ?hr ?hp (fun _ hk => hk) trivial (Below.refl _ _) (Nat.le_refl _) (by simp) ?_; (case hd => rfl); (case hg => rfl); (case hr => first | (go_simp; done) | (go_simp; rfl)); (case hp => exact (Reps.one (show Kd.M (Kd.int .i64) _ _ _ a0_3 [.int .i64 a0_3] from rfl) (Reps.none _ _)))
      intro v218 w8 ho9 hb hg_ hnew_
      clear hg_ hnew_
      (first | rw [← Ny217.out] at ho9 | (simp only [Int.reduceToNat] at ho9; rw [← Ny217.out] at ho9))
      have n0_ := Aside0.mk (Kd.R_lower ho9 (KeepT.size (w := w) (ts := [78, 5]) (by repeat (first | (with_reducible first | exact HK.out | fail | apply etn | apply etw | apply eta | refine keepT_far ?_ GW208.out _) | exact HK.out))))
      have n2_ := Aside0.mk (kbl (g := gb208) (o := .cells #[.int .i64 a0_0, .string a0_1, .string a0_2, .int .i64 a0_3] 24 (0, 0)) bk_ hb)
      have n3_ := Aside0.mk (KeepT.trans (by repeat (first | (with_reducible first | exact HK.out | fail | apply etn | apply etw | apply eta | refine keepT_far ?_ GW208.out _) | exact HK.out)) (KeepT.of_below hb))
      have n4_ := Aside0.mk (bsp bl_ hb)
      have z_HI1 := fun (h0_ : b 4 = false) => (show IsS78 w0 w8 g s1_0 from by first | exact (IsS78.below (by repeat (first | (with_reducible first | exact (Q_HI1 h0_) | apply IsS78.alloc | apply IsS78.drewN | apply IsS78.drew | apply IsS78.set_0 | refine IsS78.farT (p := ⟨gb208, _, none⟩) (t2 := 24) ?_ ?_ (by decide) (by decide) _ | exact OutT.mk BK208.out | refine OutT.set ?_ _ _ _) | exact (Q_HI1 h0_))) hb))
      have z_HO211 := fun (h0_ : b 3 = true) => (show Kd.R (Kd.int .i64) 3 w8 w.heap.size (fun _ => True) v210 y209 from by first | exact (Kd.R_below (by (with_reducible repeat (first | apply Kd.R_alloc | apply Kd.R_drewN | apply Kd.R_drew)); exact (Q_HO211 h0_)) hb) | exact Kd.R_mono (Kd.R_below (by (with_reducible repeat (first | apply Kd.R_alloc | apply Kd.R_drewN | apply Kd.R_drew)); exact (Q_HO211 h0_)) hb) (fun _ h_ => by first | trivial | exact h_ | exact h_.1))
      have z_HI1_e4 := fun (h0_ : b 4 = true) (h1_ : b 10 = false) => (show IsS78 w0 w8 g t212 from by first | exact (IsS78.below (by repeat (first | (with_reducible first | exact (Q_HI1_e4 h0_ h1_) | apply IsS78.alloc | apply IsS78.drewN | apply IsS78.drew | apply IsS78.set_0 | refine IsS78.farT (p := ⟨gb208, _, none⟩) (t2 := 24) ?_ ?_ (by decide) (by decide) _ | exact OutT.mk BK208.out | refine OutT.set ?_ _ _ _) | exact (Q_HI1_e4 h0_ h1_))) hb))
      have z_HO215 := fun (h0_ : b 9 = true) => (show Kd.R Kd.string 9 w8 w.heap.size (fun _ => True) v214 y213 from by first | exact (Kd.R_below (by (with_reducible repeat (first | apply Kd.R_alloc | apply Kd.R_drewN | apply Kd.R_drew)); exact (Q_HO215 h0_)) hb) | exact Kd.R_mono (Kd.R_below (by (with_reducible repeat (first | apply Kd.R_alloc | apply Kd.R_drewN | apply Kd.R_drew)); exact (Q_HO215 h0_)) hb) (fun _ h_ => by first | trivial | exact h_ | exact h_.1))
      have z_HI1_e10 := fun (h0_ : b 10 = true) (h1_ : b 14 = false) => (show IsS78 w0 w8 g t216 from by first | exact (IsS78.below (by repeat (first | (with_reducible first | exact (Q_HI1_e10 h0_ h1_) | apply IsS78.alloc | apply IsS78.drewN | apply IsS78.drew | apply IsS78.set_0 | refine IsS78.farT (p := ⟨gb208, _, none⟩) (t2 := 24) ?_ ?_ (by decide) (by decide) _ | exact OutT.mk BK208.out | refine OutT.set ?_ _ _ _) | exact (Q_HI1_e10 h0_ h1_))) hb))
      clear BK208
      clear HK
      clear HB
      have HO219 := n0_
      have BK208 := n2_
      have HK := n3_
      have HB := n4_
      clear n0_ n2_ n3_ n4_
      clear hb ho9
      refine hK.out _ _ ⟨v210, v214, v218, (by rw [ha.out]; exact putSel_upk 8 hb_ rfl rfl rfl), bk_, z_HI1, (by repeat (first | (with_reducible first | exact HK.out | fail | apply etn | apply etw | apply eta | refine keepT_far ?_ GW208.out _) | exact HK.out)), bl_, z_HO211, z_HI1_e4, z_HO215, z_HI1_e10, fun _ => (by (with_reducible repeat (first | apply Kd.R_alloc | apply Kd.R_drewN | apply Kd.R_drew)); exact HO219.out), fun h0_ => absurd ((hoff 14 (by kernel_rfl)).symm.trans h0_) (by decide)⟩
    refine steps_cons ?_ ?_
    · rintro b a w' ⟨v210, v214, v218, ha, Q_BK208, Q_HI1, Q_HK, Q_HB, Q_HO211, Q_HI1_e4, Q_HO215, Q_HI1_e10, Q_HO219, Q_HI1_e14⟩ hb_ hon hoff
      refine ⟨_, rfl, fun K hK => ?_⟩
      have e14 : a.tmps[14]? = some (.pointer (some ⟨g, 0, none⟩)) := by rw [ha]; exact putSel_on (e := (10, 14, .pointer (some ⟨g, 0, none⟩))) 6 rfl rfl (hon 10 (by kernel_rfl)) rfl
      have e17 : a.tmps[17]? = some (v218) := by rw [ha]; exact putSel_on (e := (13, 17, v218)) 8 rfl rfl (hon 13 (by kernel_rfl)) rfl
      replace ha := Aside0.mk ha
      have BK208 := Aside0.mk Q_BK208
      have HK := Aside0.mk Q_HK
      have HB := Aside0.mk Q_HB
      have HO211 := Aside0.mk (Q_HO211 (hon 3 (by kernel_rfl)))
      have HO215 := Aside0.mk (Q_HO215 (hon 9 (by kernel_rfl)))
      have HI1 := Aside0.mk (Q_HI1_e10 (hon 10 (by kernel_rfl)) hb_)
      have HO219 := Aside0.mk (Q_HO219 (hon 13 (by kernel_rfl)))
      obtain ⟨Ao19, co19, eo19⟩ := Kd.R_slice HO219.out
      (first | subst eo19 | (injection eo19 with f1_ f2_ f3_; have f4_ := f1_.symm; have f5_ := f3_.symm; clear f1_ f2_ f3_; subst f4_; subst f5_))
      refine goes_ Try.func68 (by kernel_rfl) rfl #[.pointer (some ⟨g, 0, none⟩), .slice Ao19 y217.length co19] (by rfl) rfl rfl (by (try simp only [List.map_toArray, List.map_cons, List.map_nil]); first | done | rfl | (simp only [List.length_drop, List.length_take]; rfl) | (simp only [Act.eval, Array.getD_eq_getD_getElem?, Option.getD_some, *]; done) | (simp only [Array.mk.injEq, List.cons.injEq, Value.int.injEq, true_and, and_true]; first | omega | (simp [IntKind.wrap, IntKind.bits, IntKind.signed]; omega))) ?_
      with_reducible refine (codec_Out_I.calls g t216 _ _ y217 t220 w0 _ ?side1 ?side2 ?side3 ?side4 ?side5 A5.out).mono ?_
      (case side1 => repeat (first | (with_reducible first | exact HI1.out | apply IsS78.alloc | apply IsS78.drewN | apply IsS78.drew | apply IsS78.set_0 | refine IsS78.farT (p := ⟨gb208, _, none⟩) (t2 := 24) ?_ ?_ (by decide) (by decide) _ | exact OutT.mk BK208.out | refine OutT.set ?_ _ _ _) | exact HI1.out))
      (case side2 => repeat (first | (with_reducible first | exact HB.out | apply bal | apply bdn | apply bd1 | refine bst ?_ (IsS78.ge HI1.out) | refine bst ?_ GE208.out) | exact HB.out))
      (case side3 => repeat (first | exact (Kd.R_reads' HO219.out).2.2 | (with_reducible refine Kd.C_alloc ?_ _) | (with_reducible refine Kd.C_drewN ?_ _) | (with_reducible refine Kd.C_drew ?_)))
      (case side4 => exact (Kd.R_reads' HO219.out).2.1)
      (case side5 => exact fun W_ hk_ => (Kd.R_reads' (KeepT.R (by (with_reducible repeat (first | apply Kd.R_alloc | apply Kd.R_drewN | apply Kd.R_drew)); exact HO219.out) hk_ (by decide))).2.2)
      rintro e w20 ⟨rfl, hi, hb, hk⟩
      refine ⟨_, rfl, ?_⟩
      have n0_ := Aside0.mk (KeepT.oblk (g := gb208) (o := .cells #[.int .i64 a0_0, .string a0_1, .string a0_2, .int .i64 a0_3] 24 (0, 0)) bk_ hk (by intro _ _ _ h_; cases h_; decide))
      have n1_ := Aside0.mk (KeepT.R (by (with_reducible repeat (first | apply Kd.R_alloc | apply Kd.R_drewN | apply Kd.R_drew)); exact HO211.out) hk (by decide))
      have n2_ := Aside0.mk (KeepT.R (by (with_reducible repeat (first | apply Kd.R_alloc | apply Kd.R_drewN | apply Kd.R_drew)); exact HO215.out) hk (by decide))
      have n3_ := Aside0.mk (KeepT.R (by (with_reducible repeat (first | apply Kd.R_alloc | apply Kd.R_drewN | apply Kd.R_drew)); exact HO219.out) hk (by decide))
      have n4_ := Aside0.mk (KeepT.trans (by repeat (first | (with_reducible first | exact HK.out | fail | apply etn | apply etw | apply eta | refine keepT_far ?_ GW208.out _) | exact HK.out)) hk)
      have n5_ := Aside0.mk (hb)
      have n6_ := Aside0.mk (hi)
      clear BK208
      clear HO211
      clear HO215
      clear HO219
      clear HK
      clear HB
      clear HI1
      have BK208 := n0_
      have HO211 := n1_
      have HO215 := n2_
      have HO219 := n3_
      have HK := n4_
      have HB := n5_
      have HI1 := n6_
      clear n0_ n1_ n2_ n3_ n4_ n5_ n6_
      (try clear hb)
      (try clear hb2)
      (try clear hk)
      (try clear hi)
      refine hK.out _ _ ⟨v210, v214, .slice Ao19 y217.length co19, (by rw [ha.out]; exact putSel_upk 9 hb_ rfl rfl rfl), bk_, fun h0_ => absurd ((hon 4 (by kernel_rfl)).symm.trans h0_) (by decide), (by repeat (first | (with_reducible first | exact HK.out | fail | apply etn | apply etw | apply eta | refine keepT_far ?_ GW208.out _) | exact HK.out)), (by repeat (first | (with_reducible first | exact HB.out | apply bal | apply bdn | apply bd1 | refine bst ?_ (IsS78.ge HI1.out) | refine bst ?_ GE208.out) | exact HB.out)), fun _ => (by (with_reducible repeat (first | apply Kd.R_alloc | apply Kd.R_drewN | apply Kd.R_drew)); exact HO211.out), fun _ h1_ => absurd ((hon 10 (by kernel_rfl)).symm.trans h1_) (by decide), fun _ => (by (with_reducible repeat (first | apply Kd.R_alloc | apply Kd.R_drewN | apply Kd.R_drew)); exact HO215.out), fun _ h1_ => absurd ((up_self b 14).symm.trans h1_) (by decide), fun _ => (by (with_reducible repeat (first | apply Kd.R_alloc | apply Kd.R_drewN | apply Kd.R_drew)); exact HO219.out), fun _ => (by repeat (first | (with_reducible first | exact HI1.out | apply IsS78.alloc | apply IsS78.drewN | apply IsS78.drew | apply IsS78.set_0 | refine IsS78.farT (p := ⟨gb208, _, none⟩) (t2 := 24) ?_ ?_ (by decide) (by decide) _ | exact OutT.mk BK208.out | refine OutT.set ?_ _ _ _) | exact HI1.out))⟩
    exact steps_nil
  rintro b a w20 hall ⟨v210, v214, v218, ha, Q_BK208, Q_HI1, Q_HK, Q_HB, Q_HO211, Q_HI1_e4, Q_HO215, Q_HI1_e10, Q_HO219, Q_HI1_e14⟩
  clear BK208 HB HI1 HK
  have hb2_ := hall 2 (by kernel_rfl)
  have hb3_ := hall 3 (by kernel_rfl)
  have hb4_ := hall 4 (by kernel_rfl)
  have hb6_ := hall 6 (by kernel_rfl)
  have hb8_ := hall 8 (by kernel_rfl)
  have hb9_ := hall 9 (by kernel_rfl)
  have hb10_ := hall 10 (by kernel_rfl)
  have hb12_ := hall 12 (by kernel_rfl)
  have hb13_ := hall 13 (by kernel_rfl)
  have hb14_ := hall 14 (by kernel_rfl)
  subst ha
  simp only [putSel, hb2_, hb3_, hb4_, hb6_, hb8_, hb9_, hb10_, hb12_, hb13_, hb14_, if_true, Act.put, List.setIfInBounds_toArray, List.set_cons_zero, List.set_cons_succ]
  have BK208 := Aside0.mk Q_BK208
  clear Q_BK208
  clear Q_HI1
  have HK := Aside0.mk Q_HK
  clear Q_HK
  have HB := Aside0.mk Q_HB
  clear Q_HB
  have HO211 := Aside0.mk (Q_HO211 hb3_)
  clear Q_HO211
  clear Q_HI1_e4
  have HO215 := Aside0.mk (Q_HO215 hb9_)
  clear Q_HO215
  clear Q_HI1_e10
  have HO219 := Aside0.mk (Q_HO219 hb13_)
  clear Q_HO219
  have HI1 := Aside0.mk (Q_HI1_e14 hb14_)
  clear Q_HI1_e14
  clear hall hb2_ hb3_ hb4_ hb6_ hb8_ hb9_ hb10_ hb12_ hb13_ hb14_
  try go_wp2
  first | go_end0 | ((try simp only [Exit.inBlock, Exit.then]); refine bodyPost_ret (results_none rfl _ _ _) rfl ?_)
  exact ⟨er_, by repeat (first | (with_reducible first | exact HI1.out | apply IsS78.alloc | apply IsS78.drewN | apply IsS78.drew | apply IsS78.set_0 | refine IsS78.farT (p := ⟨gb208, _, none⟩) (t2 := 24) ?_ ?_ (by decide) (by decide) _ | exact OutT.mk BK208.out | refine OutT.set ?_ _ _ _) | exact HI1.out), by repeat (first | (with_reducible first | exact HB.out | apply bal | apply bdn | apply bd1 | refine bst ?_ (IsS78.ge HI1.out) | refine bst ?_ GE208.out) | exact HB.out), by repeat (first | (with_reducible first | exact HK.out | fail | apply etn | apply etw | apply eta | refine keepT_far ?_ GW208.out _) | exact HK.out)⟩
def frame_seal.f (k : Nat) (a0 : ByteArray) : Option (ByteArray) := (crc_Of.f k (([a0] : List ByteArray))).bind fun t224 => ((crc_Bytes.f t224).bind fun t225 => (if t225.size + a0.size ≤ 9223372036854775807 then (some (t225 ++ a0)) else (none)))
set_option maxHeartbeats 2000000 in
set_option maxRecDepth 100000 in
theorem frame_seal.calls (k : Nat) (a0 : ByteArray) (r : ByteArray) (w : World) (h : frame_seal.f k a0 = some r) :
    Calls Try.prog 41 #[.string a0] w fun e w' => e = .returned (.string r) ∧ Below w.heap.size w w' := by
  have HB := Aside0.mk (Below.refl w.heap.size w)
  have H : ((crc_Of.f k (([a0] : List ByteArray))).bind fun t224 => ((crc_Bytes.f t224).bind fun t225 => (if t225.size + a0.size ≤ 9223372036854775807 then (some (t225 ++ a0)) else (none)))) = some r := h
  clear h
  obtain ⟨y221, hy221⟩ : ∃ y_ : List ByteArray, y_ = (([a0] : List ByteArray)) := ⟨_, rfl⟩
  replace H : ((crc_Of.f k y221).bind fun t224 => ((crc_Bytes.f t224).bind fun t225 => (if t225.size + a0.size ≤ 9223372036854775807 then (some (t225 ++ a0)) else (none)))) = some r := by first | (rw [hy221]; with_reducible exact H) | (have H2_ := (Option.bind_some _ _).symm.trans H; rw [hy221]; with_reducible exact H2_) | (have H2_ := (Option.bind_some _ _).symm.trans H; with_reducible exact H2_) | with_reducible exact H | (rw [hy221]; exact H) | exact H
  have Ny221 := Aside0.mk hy221
  clear hy221
  replace H := Option.bind_eq_some_iff.mp H
  obtain ⟨t224, A20, H⟩ := H
  replace H : ((crc_Bytes.f t224).bind fun t225 => (if t225.size + a0.size ≤ 9223372036854775807 then (some (t225 ++ a0)) else (none))) = some r := H
  have A2 := Aside0.mk A20
  clear A20
  replace H := Option.bind_eq_some_iff.mp H
  obtain ⟨t225, A30, H⟩ := H
  replace H : (if t225.size + a0.size ≤ 9223372036854775807 then (some (t225 ++ a0)) else (none)) = some r := H
  have A3 := Aside0.mk A30
  clear A30
  by_cases c4 : t225.size + a0.size ≤ 9223372036854775807
  rotate_left
  · rw [if_neg c4] at H
    exact absurd H (by simp)
  rw [if_pos c4] at H
  have c4b0 := eq_true c4
  have c4b1 : decide (t225.size + a0.size ≤ 9223372036854775807) = true := decide_eq_true c4
  try have c4b2 : (9223372036854775807 < t225.size + a0.size) = False := eq_false (Nat.not_lt.2 c4)
  obtain rfl := Option.some.inj H
  go_enter Try.func41, Try.ntmps41
  go_wp2_with (first | ((with_reducible refine gds (N := 4) rfl ?_); refine Kd.R_lit Kd.string _ 9 ?hg (N := 4) ?hd (xs := ([a0] : List ByteArray)) (inner := [.string a0]) (ok := fun _ => True) (okp := fun _ => True) ?hr ?hp (fun _ hk => hk) trivial (Below.refl _ _) (Nat.le_refl _) (by simp) ?_; (case hd => rfl); (case hg => rfl); (case hr => first | (go_simp; done) | (go_simp; rfl)); (case hp => exact (Reps.one (show Kd.M Kd.string _ _ _ a0 [.string a0] from rfl) (Reps.none _ _))); intro v222 w5 ho6 hb hg_ hnew_; clear hg_ hnew_; (first | rw [← Ny221.out] at ho6 | (simp only [Int.reduceToNat] at ho6; rw [← Ny221.out] at ho6)); have n0_ := Aside0.mk (Kd.R_lower ho6 (bsz bl_)); have n1_ := Aside0.mk (bsp bl_ hb); clear HB; have HO223 := n0_; have HB := n1_; clear n0_ n1_; clear hb ho6; obtain ⟨Ao7, co7, eo7⟩ := Kd.R_slice HO223.out; subst eo7) | ((with_reducible refine gcl (f := 62) rfl ?_); refine gl_ (some 5) rfl rfl Try.func62 (by kernel_rfl) rfl #[.slice Ao7 y221.length co7] rfl ar_ ?_; (with_reducible refine (crc_Of.calls k _ _ y221 t224 _ ?side1 ?side2 A2.out).mono ?_); (case side1 => repeat (first | exact (Kd.R_reads' HO223.out).2.2 | (with_reducible refine Kd.C_alloc ?_ _) | (with_reducible refine Kd.C_drewN ?_ _) | (with_reducible refine Kd.C_drew ?_))); (case side2 => exact (Kd.R_reads' HO223.out).2.1); rintro e w8 ⟨rfl, hb⟩; refine ⟨_, rfl, ?_⟩; have n0_ := Aside0.mk (Kd.R_below (by (with_reducible repeat (first | apply Kd.R_alloc | apply Kd.R_drewN | apply Kd.R_drew)); exact HO223.out) hb); have n1_ := Aside0.mk (bsp bl_ hb); clear HO223; clear HB; have HO223 := n0_; have HB := n1_; clear n0_ n1_; (try clear hb); (try clear hb2); (try clear hk); (try clear hi)) | ((with_reducible refine gcl (f := 61) rfl ?_); refine gl_ (some 6) rfl rfl Try.func61 (by kernel_rfl) rfl #[.int .u32 t224] rfl ar_ ?_; (with_reducible refine (crc_Bytes.calls t224 t225 _ A3.out).mono ?_); rintro e w9 ⟨rfl, hb⟩; refine ⟨_, rfl, ?_⟩; have n0_ := Aside0.mk (Kd.R_below (by (with_reducible repeat (first | apply Kd.R_alloc | apply Kd.R_drewN | apply Kd.R_drew)); exact HO223.out) hb); have n1_ := Aside0.mk (bsp bl_ hb); clear HO223; clear HB; have HO223 := n0_; have HB := n1_; clear n0_ n1_; (try clear hb); (try clear hb2); (try clear hk); (try clear hi)))
  go_ret
  exact ⟨er_, bl_⟩
def frame_Request_Text.j0 : Nat → Bool → Int → Int → ByteArray → Int → ByteArray → ByteArray → Int → ByteArray → Option (ByteArray)
  | 0, _, _, _, _, _, _, _, _, _ => none
  | k + 1, x19, x227000, x227001, x227002, x227003, x227004, x227005, x227006, x228000 => if x19 = true then ((codec_Out_N.f x228000 (([x227001] : List Int))).bind fun t243 => ((codec_Out_Text.f t243).bind fun bt244 => ((frame_seal.f k bt244.1).bind fun t246 => (some t246)))) else ((codec_Out_Text.f x228000).bind fun bt247 => ((frame_seal.f k bt247.1).bind fun t249 => (some t249)))
def frame_Request_Text.f (k : Nat) (a0_0 : Int) (a0_1 : Int) (a0_2 : ByteArray) (a0_3 : Int) (a0_4 : ByteArray) (a0_5 : ByteArray) (a0_6 : Int) : Option (ByteArray) := (codec_Out_N.f (⟨#[]⟩ : ByteArray) (([a0_0] : List Int))).bind fun t231 => (if a0_0 = 2 then ((codec_Out_S.f t231 (([a0_2] : List ByteArray))).bind fun t235 => ((method_Call_Put.f a0_3 a0_4 a0_5 a0_6 t235).bind fun t236 => ((codec_Out_Text.f t236).bind fun bt237 => ((frame_seal.f k bt237.1).bind fun t239 => (some t239))))) else (if a0_0 = 4 then (frame_Request_Text.j0 k (a0_0 == 4) a0_0 a0_1 a0_2 a0_3 a0_4 a0_5 a0_6 t231) else (frame_Request_Text.j0 k (a0_0 == 7) a0_0 a0_1 a0_2 a0_3 a0_4 a0_5 a0_6 t231)))
set_option maxHeartbeats 2000000 in
set_option maxRecDepth 100000 in
theorem frame_Request_Text.calls (k : Nat) (a0_0 : Int) (a0_1 : Int) (a0_2 : ByteArray) (a0_3 : Int) (a0_4 : ByteArray) (a0_5 : ByteArray) (a0_6 : Int) (r : ByteArray) (w : World) (h : frame_Request_Text.f k a0_0 a0_1 a0_2 a0_3 a0_4 a0_5 a0_6 = some r) :
    Calls Try.prog 14 #[.agg #[.int .i64 a0_0, .int .i64 a0_1, .string a0_2, .int .i64 a0_3, .string a0_4, .string a0_5, .int .i64 a0_6]] w fun e w' => e = .returned (.string r) ∧ Below w.heap.size w w' := by
  have hu26 := Try.underlying26
  have hu78 := Try.underlying78
  have hu24 := Try.underlying24
  have HB := Aside0.mk (Below.refl w.heap.size w)
  have H : ((codec_Out_N.f (⟨#[]⟩ : ByteArray) (([a0_0] : List Int))).bind fun t231 => (if a0_0 = 2 then ((codec_Out_S.f t231 (([a0_2] : List ByteArray))).bind fun t235 => ((method_Call_Put.f a0_3 a0_4 a0_5 a0_6 t235).bind fun t236 => ((codec_Out_Text.f t236).bind fun bt237 => ((frame_seal.f k bt237.1).bind fun t239 => (some t239))))) else (if a0_0 = 4 then (frame_Request_Text.j0 k (a0_0 == 4) a0_0 a0_1 a0_2 a0_3 a0_4 a0_5 a0_6 t231) else (frame_Request_Text.j0 k (a0_0 == 7) a0_0 a0_1 a0_2 a0_3 a0_4 a0_5 a0_6 t231)))) = some r := h
  clear h
  obtain ⟨y228, hy228⟩ : ∃ y_ : List Int, y_ = (([a0_0] : List Int)) := ⟨_, rfl⟩
  replace H : ((codec_Out_N.f (⟨#[]⟩ : ByteArray) y228).bind fun t231 => (if a0_0 = 2 then ((codec_Out_S.f t231 (([a0_2] : List ByteArray))).bind fun t235 => ((method_Call_Put.f a0_3 a0_4 a0_5 a0_6 t235).bind fun t236 => ((codec_Out_Text.f t236).bind fun bt237 => ((frame_seal.f k bt237.1).bind fun t239 => (some t239))))) else (if a0_0 = 4 then (frame_Request_Text.j0 k (a0_0 == 4) a0_0 a0_1 a0_2 a0_3 a0_4 a0_5 a0_6 t231) else (frame_Request_Text.j0 k (a0_0 == 7) a0_0 a0_1 a0_2 a0_3 a0_4 a0_5 a0_6 t231)))) = some r := by first | (rw [hy228]; with_reducible exact H) | (have H2_ := (Option.bind_some _ _).symm.trans H; rw [hy228]; with_reducible exact H2_) | (have H2_ := (Option.bind_some _ _).symm.trans H; with_reducible exact H2_) | with_reducible exact H | (rw [hy228]; exact H) | exact H
  have Ny228 := Aside0.mk hy228
  clear hy228
  replace H := Option.bind_eq_some_iff.mp H
  obtain ⟨t231, A20, H⟩ := H
  replace H : (if a0_0 = 2 then ((codec_Out_S.f t231 (([a0_2] : List ByteArray))).bind fun t235 => ((method_Call_Put.f a0_3 a0_4 a0_5 a0_6 t235).bind fun t236 => ((codec_Out_Text.f t236).bind fun bt237 => ((frame_seal.f k bt237.1).bind fun t239 => (some t239))))) else (if a0_0 = 4 then (frame_Request_Text.j0 k (a0_0 == 4) a0_0 a0_1 a0_2 a0_3 a0_4 a0_5 a0_6 t231) else (frame_Request_Text.j0 k (a0_0 == 7) a0_0 a0_1 a0_2 a0_3 a0_4 a0_5 a0_6 t231))) = some r := H
  have A2 := Aside0.mk A20
  clear A20
  have HS3 := Aside0.mk H
  clear H
  go_enter Try.func14, Try.ntmps14
  go_upto_if 10 with (first | ((with_reducible refine gds (N := 1) rfl ?_); refine bev ?hg (N := 1) ?hd (cs := #[.int .i64 a0_0, .int .i64 a0_1, .string a0_2, .int .i64 a0_3, .string a0_4, .string a0_5, .int .i64 a0_6]) (t := 26) ?hr ?_; (case hd => rfl); (case hg => rfl); (case hr => first | (go_simp; done) | (go_simp; rfl)); intro gb226 hg w4 hbox hb; have n0_ := Aside0.mk (bsp bl_ hb); have n1_ := Aside0.mk (hbox); have n2_ := Aside0.mk ((by rw [hg]; exact bsz bl_ : w.heap.size ≤ gb226)); have n3_ := Aside0.mk ((by rw [hg]; exact bsz bl_ : w.heap.size ≤ gb226)); clear HB; have HB := n0_; have BK226 := n1_; have GW226 := n2_; have GE226 := n3_; clear n0_ n1_ n2_ n3_; clear hb hbox hg) | ((with_reducible refine gds (N := 3) rfl ?_); refine bev ?hg (N := 3) ?hd (cs := #[.slice none 0 0]) (t := 78) ?hr ?_; (case hd => rfl); (case hg => rfl); (case hr => first | (go_simp; done) | (go_simp; rfl)); intro gb227 hg w5 hbox hb; have n0_ := Aside0.mk (kbl (g := gb226) (o := .cells #[.int .i64 a0_0, .int .i64 a0_1, .string a0_2, .int .i64 a0_3, .string a0_4, .string a0_5, .int .i64 a0_6] 26 (0, 0)) bk_ hb); have n1_ := Aside0.mk (bsp bl_ hb); have n2_ := Aside0.mk (hbox); have n3_ := Aside0.mk ((by rw [hg]; exact bsz bl_ : w.heap.size ≤ gb227)); have n4_ := Aside0.mk ((by rw [hg]; exact bsz bl_ : w.heap.size ≤ gb227)); have n5_ := Aside0.mk ((by rw [hg]; exact Nat.ne_of_lt (blk_lt (g := gb226) (o := .cells #[.int .i64 a0_0, .int .i64 a0_1, .string a0_2, .int .i64 a0_3, .string a0_4, .string a0_5, .int .i64 a0_6] 26 (0, 0)) bk_) : gb226 ≠ gb227)); have n6_ := Aside0.mk ((by rw [hg]; exact Nat.ne_of_gt (blk_lt (g := gb226) (o := .cells #[.int .i64 a0_0, .int .i64 a0_1, .string a0_2, .int .i64 a0_3, .string a0_4, .string a0_5, .int .i64 a0_6] 26 (0, 0)) bk_) : gb227 ≠ gb226)); have n7_ := Aside0.mk ((IsS78.box hbox (by rw [hg]; exact bsz bl_ : w.heap.size ≤ gb227) : IsS78 w w5 gb227 (⟨#[]⟩ : ByteArray))); clear BK226; clear HB; have BK226 := n0_; have HB := n1_; have BK227 := n2_; have GW227 := n3_; have GE227 := n4_; have NB226_227 := n5_; have NB227_226 := n6_; have HI227 := n7_; clear n0_ n1_ n2_ n3_ n4_ n5_ n6_ n7_; clear hb hbox hg; have hnb6 := NB226_227.out; have hnc6 := NB227_226.out; have hcz7 := bc7 BK226.out) | ((with_reducible refine gds (N := 6) rfl ?_); refine Kd.R_lit (Kd.int .i64) _ 3 ?hg (N := 6) ?hd (xs := ([a0_0] : List Int)) (inner := [.int .i64 a0_0]) (ok := fun _ => True) (okp := fun _ => True) ?hr ?hp (fun _ hk => hk) trivial (Below.refl _ _) (Nat.le_refl _) (by simp) ?_; (case hd => rfl); (case hg => rfl); (case hr => first | (go_simp; done) | (go_simp; rfl)); (case hp => exact (Reps.one (show Kd.M (Kd.int .i64) _ _ _ a0_0 [.int .i64 a0_0] from rfl) (Reps.none _ _))); intro v229 w8 ho9 hb hg_ hnew_; clear hg_ hnew_; (first | rw [← Ny228.out] at ho9 | (simp only [Int.reduceToNat] at ho9; rw [← Ny228.out] at ho9)); have n0_ := Aside0.mk (Kd.R_lower ho9 (bsz (by repeat (first | (with_reducible first | exact HB.out | apply bal | apply bdn | apply bd1 | refine bst ?_ (IsS78.ge HI227.out) | refine bst ?_ GE226.out) | exact HB.out)))); have n1_ := Aside0.mk (kbl (g := gb226) (o := .cells #[.int .i64 a0_0, .int .i64 a0_1, .string a0_2, .int .i64 a0_3, .string a0_4, .string a0_5, .int .i64 a0_6] 26 (0, 0)) bk_ hb); have n2_ := Aside0.mk (IsS78.below (by repeat (first | (with_reducible first | exact HI227.out | apply IsS78.alloc | apply IsS78.drewN | apply IsS78.drew | apply IsS78.set_0 | refine IsS78.farT (p := ⟨gb226, _, none⟩) (t2 := 26) ?_ ?_ (by decide) (by decide) _ | exact OutT.mk BK226.out | refine OutT.set ?_ _ _ _) | exact HI227.out)) hb); have n3_ := Aside0.mk (bsp (by repeat (first | (with_reducible first | exact HB.out | apply bal | apply bdn | apply bd1 | refine bst ?_ (IsS78.ge HI227.out) | refine bst ?_ GE226.out) | exact HB.out)) hb); clear BK226; clear HI227; clear HB; have HO230 := n0_; have BK226 := n1_; have HI227 := n2_; have HB := n3_; clear n0_ n1_ n2_ n3_; clear hb ho9; obtain ⟨Ao10, co10, eo10⟩ := Kd.R_slice HO230.out; subst eo10) | ((with_reducible refine gcl (f := 38) rfl ?_); refine gl_ (some 7) rfl rfl Try.func38 (by kernel_rfl) rfl #[.pointer (some ⟨gb227, 0, none⟩), .slice Ao10 y228.length co10] rfl ar_ ?_; (with_reducible refine (codec_Out_N.calls gb227 (⟨#[]⟩ : ByteArray) _ _ y228 t231 w _ ?side1 ?side2 ?side3 ?side4 ?side5 A2.out).mono ?_); (case side1 => repeat (first | (with_reducible first | exact HI227.out | apply IsS78.alloc | apply IsS78.drewN | apply IsS78.drew | apply IsS78.set_0 | refine IsS78.farT (p := ⟨gb226, _, none⟩) (t2 := 26) ?_ ?_ (by decide) (by decide) _ | exact OutT.mk BK226.out | refine OutT.set ?_ _ _ _) | exact HI227.out)); (case side2 => repeat (first | (with_reducible first | exact HB.out | apply bal | apply bdn | apply bd1 | refine bst ?_ (IsS78.ge HI227.out) | refine bst ?_ GE226.out) | exact HB.out)); (case side3 => repeat (first | exact (Kd.R_reads' HO230.out).2.2 | (with_reducible refine Kd.C_alloc ?_ _) | (with_reducible refine Kd.C_drewN ?_ _) | (with_reducible refine Kd.C_drew ?_))); (case side4 => exact (Kd.R_reads' HO230.out).2.1); (case side5 => exact fun W_ hk_ => (Kd.R_reads' (KeepT.R (by (with_reducible repeat (first | apply Kd.R_alloc | apply Kd.R_drewN | apply Kd.R_drew)); exact HO230.out) hk_ (by decide))).2.2); rintro e w11 ⟨rfl, hi, hb, hk⟩; refine ⟨_, rfl, ?_⟩; have n0_ := Aside0.mk (KeepT.oblk (g := gb226) (o := .cells #[.int .i64 a0_0, .int .i64 a0_1, .string a0_2, .int .i64 a0_3, .string a0_4, .string a0_5, .int .i64 a0_6] 26 (0, 0)) bk_ hk (by intro _ _ _ h_; cases h_; decide)); have n1_ := Aside0.mk (KeepT.R (by (with_reducible repeat (first | apply Kd.R_alloc | apply Kd.R_drewN | apply Kd.R_drew)); exact HO230.out) hk (by decide)); have n2_ := Aside0.mk (hb); have n3_ := Aside0.mk (hi); clear BK226; clear HO230; clear HB; clear HI227; have BK226 := n0_; have HO230 := n1_; have HB := n2_; have HI227 := n3_; clear n0_ n1_ n2_ n3_; (try clear hb); (try clear hb2); (try clear hk); (try clear hi); have hcz12 := bc7 BK226.out))
  (try simp only [Act.put, List.setIfInBounds_toArray, List.set_cons_zero, List.set_cons_succ])
  have H := HS3.out
  clear HS3
  by_cases c13 : a0_0 = 2
  · rw [if_pos c13] at H
    have c13b0 : (a0_0 == 2) = true := beq_iff_eq.mpr c13
    have c13b1 : (a0_0 != 2) = false := bne_eq_false_iff_eq.mpr c13
    clear c13
    (first | rw [c13b0] | (simp only [i64_w, i32_w]; rw [c13b0]) | skip)
    obtain ⟨y232, hy232⟩ : ∃ y_ : List ByteArray, y_ = (([a0_2] : List ByteArray)) := ⟨_, rfl⟩
    replace H : ((codec_Out_S.f t231 y232).bind fun t235 => ((method_Call_Put.f a0_3 a0_4 a0_5 a0_6 t235).bind fun t236 => ((codec_Out_Text.f t236).bind fun bt237 => ((frame_seal.f k bt237.1).bind fun t239 => (some t239))))) = some r := by first | (rw [hy232]; with_reducible exact H) | (have H2_ := (Option.bind_some _ _).symm.trans H; rw [hy232]; with_reducible exact H2_) | (have H2_ := (Option.bind_some _ _).symm.trans H; with_reducible exact H2_) | with_reducible exact H | (rw [hy232]; exact H) | exact H
    have Ny232 := Aside0.mk hy232
    clear hy232
    replace H := Option.bind_eq_some_iff.mp H
    obtain ⟨t235, A140, H⟩ := H
    replace H : ((method_Call_Put.f a0_3 a0_4 a0_5 a0_6 t235).bind fun t236 => ((codec_Out_Text.f t236).bind fun bt237 => ((frame_seal.f k bt237.1).bind fun t239 => (some t239)))) = some r := H
    have A14 := Aside0.mk A140
    clear A140
    replace H := Option.bind_eq_some_iff.mp H
    obtain ⟨t236, A150, H⟩ := H
    replace H : ((codec_Out_Text.f t236).bind fun bt237 => ((frame_seal.f k bt237.1).bind fun t239 => (some t239))) = some r := H
    have A15 := Aside0.mk A150
    clear A150
    replace H := Option.bind_eq_some_iff.mp H
    obtain ⟨⟨t237, t238⟩, A160, H⟩ := H
    replace H : ((frame_seal.f k t237).bind fun t239 => (some t239)) = some r := H
    have A16 := Aside0.mk A160
    clear A160
    replace H := Option.bind_eq_some_iff.mp H
    obtain ⟨t239, A170, H⟩ := H
    replace H : (some t239) = some r := H
    have A17 := Aside0.mk A170
    clear A170
    obtain rfl := Option.some.inj H
    have hnb18 := NB226_227.out
    have hnc18 := NB227_226.out
    have hcz19 := bc7 BK226.out
    go_wp2_with (first | ((with_reducible refine gds (N := 14) rfl ?_); refine Kd.R_lit Kd.string _ 9 ?hg (N := 14) ?hd (xs := ([a0_2] : List ByteArray)) (inner := [.string a0_2]) (ok := fun _ => True) (okp := fun _ => True) ?hr ?hp (fun _ hk => hk) trivial (Below.refl _ _) (Nat.le_refl _) (by simp) ?_; (case hd => rfl); (case hg => rfl); (case hr => first | (go_simp; done) | (go_simp; rfl)); (case hp => exact (Reps.one (show Kd.M Kd.string _ _ _ a0_2 [.string a0_2] from rfl) (Reps.none _ _))); intro v233 w20 ho21 hb hg_ hnew_; clear hg_ hnew_; (first | rw [← Ny232.out] at ho21 | (simp only [Int.reduceToNat] at ho21; rw [← Ny232.out] at ho21)); have n0_ := Aside0.mk (Kd.R_below (by (with_reducible repeat (first | apply Kd.R_alloc | apply Kd.R_drewN | apply Kd.R_drew)); exact HO230.out) hb); have n1_ := Aside0.mk (Kd.R_lower ho21 (bsz (by repeat (first | (with_reducible first | exact HB.out | apply bal | apply bdn | apply bd1 | refine bst ?_ (IsS78.ge HI227.out) | refine bst ?_ GE226.out) | exact HB.out)))); have n2_ := Aside0.mk (kbl (g := gb226) (o := .cells #[.int .i64 a0_0, .int .i64 a0_1, .string a0_2, .int .i64 a0_3, .string a0_4, .string a0_5, .int .i64 a0_6] 26 (0, 0)) bk_ hb); have n3_ := Aside0.mk (IsS78.below (by repeat (first | (with_reducible first | exact HI227.out | apply IsS78.alloc | apply IsS78.drewN | apply IsS78.drew | apply IsS78.set_0 | refine IsS78.farT (p := ⟨gb226, _, none⟩) (t2 := 26) ?_ ?_ (by decide) (by decide) _ | exact OutT.mk BK226.out | refine OutT.set ?_ _ _ _) | exact HI227.out)) hb); have n4_ := Aside0.mk (bsp (by repeat (first | (with_reducible first | exact HB.out | apply bal | apply bdn | apply bd1 | refine bst ?_ (IsS78.ge HI227.out) | refine bst ?_ GE226.out) | exact HB.out)) hb); clear HO230; clear BK226; clear HI227; clear HB; have HO230 := n0_; have HO234 := n1_; have BK226 := n2_; have HI227 := n3_; have HB := n4_; clear n0_ n1_ n2_ n3_ n4_; clear hb ho21; obtain ⟨Ao22, co22, eo22⟩ := Kd.R_slice HO234.out; subst eo22) | ((with_reducible refine gcl (f := 39) rfl ?_); refine gl_ (some 15) rfl rfl Try.func39 (by kernel_rfl) rfl #[.pointer (some ⟨gb227, 0, none⟩), .slice Ao22 y232.length co22] rfl ar_ ?_; (with_reducible refine (codec_Out_S.calls gb227 t231 _ _ y232 t235 w _ ?side1 ?side2 ?side3 ?side4 ?side5 A14.out).mono ?_); (case side1 => repeat (first | (with_reducible first | exact HI227.out | apply IsS78.alloc | apply IsS78.drewN | apply IsS78.drew | apply IsS78.set_0 | refine IsS78.farT (p := ⟨gb226, _, none⟩) (t2 := 26) ?_ ?_ (by decide) (by decide) _ | exact OutT.mk BK226.out | refine OutT.set ?_ _ _ _) | exact HI227.out)); (case side2 => repeat (first | (with_reducible first | exact HB.out | apply bal | apply bdn | apply bd1 | refine bst ?_ (IsS78.ge HI227.out) | refine bst ?_ GE226.out) | exact HB.out)); (case side3 => repeat (first | exact (Kd.R_reads' HO234.out).2.2 | (with_reducible refine Kd.C_alloc ?_ _) | (with_reducible refine Kd.C_drewN ?_ _) | (with_reducible refine Kd.C_drew ?_))); (case side4 => exact (Kd.R_reads' HO234.out).2.1); (case side5 => exact fun W_ hk_ => (Kd.R_reads' (KeepT.R (by (with_reducible repeat (first | apply Kd.R_alloc | apply Kd.R_drewN | apply Kd.R_drew)); exact HO234.out) hk_ (by decide))).2.2); rintro e w23 ⟨rfl, hi, hb, hk⟩; refine ⟨_, rfl, ?_⟩; have n0_ := Aside0.mk (KeepT.oblk (g := gb226) (o := .cells #[.int .i64 a0_0, .int .i64 a0_1, .string a0_2, .int .i64 a0_3, .string a0_4, .string a0_5, .int .i64 a0_6] 26 (0, 0)) bk_ hk (by intro _ _ _ h_; cases h_; decide)); have n1_ := Aside0.mk (KeepT.R (by (with_reducible repeat (first | apply Kd.R_alloc | apply Kd.R_drewN | apply Kd.R_drew)); exact HO230.out) hk (by decide)); have n2_ := Aside0.mk (KeepT.R (by (with_reducible repeat (first | apply Kd.R_alloc | apply Kd.R_drewN | apply Kd.R_drew)); exact HO234.out) hk (by decide)); have n3_ := Aside0.mk (hb); have n4_ := Aside0.mk (hi); clear BK226; clear HO230; clear HO234; clear HB; clear HI227; have BK226 := n0_; have HO230 := n1_; have HO234 := n2_; have HB := n3_; have HI227 := n4_; clear n0_ n1_ n2_ n3_ n4_; (try clear hb); (try clear hb2); (try clear hk); (try clear hi); have hcz24 := bc7 BK226.out) | ((with_reducible refine gcl (f := 40) rfl ?_); refine gl_ (some 18) rfl rfl Try.func40 (by kernel_rfl) rfl #[.agg #[.int .i64 a0_3, .string a0_4, .string a0_5, .int .i64 a0_6], .pointer (some ⟨gb227, 0, none⟩)] rfl ar_ ?_; (with_reducible refine (method_Call_Put.calls a0_3 a0_4 a0_5 a0_6 gb227 t235 t236 w _ ?side1 ?side2 A15.out).mono ?_); (case side1 => repeat (first | (with_reducible first | exact HI227.out | apply IsS78.alloc | apply IsS78.drewN | apply IsS78.drew | apply IsS78.set_0 | refine IsS78.farT (p := ⟨gb226, _, none⟩) (t2 := 26) ?_ ?_ (by decide) (by decide) _ | exact OutT.mk BK226.out | refine OutT.set ?_ _ _ _) | exact HI227.out)); (case side2 => repeat (first | (with_reducible first | exact HB.out | apply bal | apply bdn | apply bd1 | refine bst ?_ (IsS78.ge HI227.out) | refine bst ?_ GE226.out) | exact HB.out)); rintro e w25 ⟨rfl, hi, hb, hk⟩; refine ⟨_, rfl, ?_⟩; have n0_ := Aside0.mk (KeepT.oblk (g := gb226) (o := .cells #[.int .i64 a0_0, .int .i64 a0_1, .string a0_2, .int .i64 a0_3, .string a0_4, .string a0_5, .int .i64 a0_6] 26 (0, 0)) bk_ hk (by intro _ _ _ h_; cases h_; decide)); have n1_ := Aside0.mk (KeepT.R (by (with_reducible repeat (first | apply Kd.R_alloc | apply Kd.R_drewN | apply Kd.R_drew)); exact HO230.out) hk (by decide)); have n2_ := Aside0.mk (KeepT.R (by (with_reducible repeat (first | apply Kd.R_alloc | apply Kd.R_drewN | apply Kd.R_drew)); exact HO234.out) hk (by decide)); have n3_ := Aside0.mk (hb); have n4_ := Aside0.mk (hi); clear BK226; clear HO230; clear HO234; clear HB; clear HI227; have BK226 := n0_; have HO230 := n1_; have HO234 := n2_; have HB := n3_; have HI227 := n4_; clear n0_ n1_ n2_ n3_ n4_; (try clear hb); (try clear hb2); (try clear hk); (try clear hi)) | ((with_reducible refine gcl (f := 42) rfl ?_); refine gl_ (some 26) rfl rfl Try.func42 (by kernel_rfl) rfl #[.pointer (some ⟨gb227, 0, none⟩)] rfl ar_ ?_; (with_reducible refine (codec_Out_Text.calls gb227 t236 t237 t238 w _ ?side1 ?side2 A16.out).mono ?_); (case side1 => repeat (first | (with_reducible first | exact HI227.out | apply IsS78.alloc | apply IsS78.drewN | apply IsS78.drew | apply IsS78.set_0 | refine IsS78.farT (p := ⟨gb226, _, none⟩) (t2 := 26) ?_ ?_ (by decide) (by decide) _ | exact OutT.mk BK226.out | refine OutT.set ?_ _ _ _) | exact HI227.out)); (case side2 => repeat (first | (with_reducible first | exact HB.out | apply bal | apply bdn | apply bd1 | refine bst ?_ (IsS78.ge HI227.out) | refine bst ?_ GE226.out) | exact HB.out)); rintro e w26 ⟨rfl, hi, hb, hk⟩; refine ⟨_, rfl, ?_⟩; have n0_ := Aside0.mk (KeepT.oblk (g := gb226) (o := .cells #[.int .i64 a0_0, .int .i64 a0_1, .string a0_2, .int .i64 a0_3, .string a0_4, .string a0_5, .int .i64 a0_6] 26 (0, 0)) bk_ hk (by intro _ _ _ h_; cases h_; decide)); have n1_ := Aside0.mk (KeepT.R (by (with_reducible repeat (first | apply Kd.R_alloc | apply Kd.R_drewN | apply Kd.R_drew)); exact HO230.out) hk (by decide)); have n2_ := Aside0.mk (KeepT.R (by (with_reducible repeat (first | apply Kd.R_alloc | apply Kd.R_drewN | apply Kd.R_drew)); exact HO234.out) hk (by decide)); have n3_ := Aside0.mk (hb); have n4_ := Aside0.mk (hi); clear BK226; clear HO230; clear HO234; clear HB; clear HI227; have BK226 := n0_; have HO230 := n1_; have HO234 := n2_; have HB := n3_; have HI227 := n4_; clear n0_ n1_ n2_ n3_ n4_; (try clear hb); (try clear hb2); (try clear hk); (try clear hi)) | ((with_reducible refine gcl (f := 41) rfl ?_); refine gl_ (some 27) rfl rfl Try.func41 (by kernel_rfl) rfl #[.string t237] rfl ar_ ?_; (with_reducible refine (frame_seal.calls k t237 t239 _ A17.out).mono ?_); rintro e w27 ⟨rfl, hb⟩; refine ⟨_, rfl, ?_⟩; have n0_ := Aside0.mk (Kd.R_below (by (with_reducible repeat (first | apply Kd.R_alloc | apply Kd.R_drewN | apply Kd.R_drew)); exact HO230.out) hb); have n1_ := Aside0.mk (Kd.R_below (by (with_reducible repeat (first | apply Kd.R_alloc | apply Kd.R_drewN | apply Kd.R_drew)); exact HO234.out) hb); have n2_ := Aside0.mk (kbl (g := gb226) (o := .cells #[.int .i64 a0_0, .int .i64 a0_1, .string a0_2, .int .i64 a0_3, .string a0_4, .string a0_5, .int .i64 a0_6] 26 (0, 0)) bk_ hb); have n3_ := Aside0.mk (IsS78.below (by repeat (first | (with_reducible first | exact HI227.out | apply IsS78.alloc | apply IsS78.drewN | apply IsS78.drew | apply IsS78.set_0 | refine IsS78.farT (p := ⟨gb226, _, none⟩) (t2 := 26) ?_ ?_ (by decide) (by decide) _ | exact OutT.mk BK226.out | refine OutT.set ?_ _ _ _) | exact HI227.out)) hb); have n4_ := Aside0.mk (bsp (by repeat (first | (with_reducible first | exact HB.out | apply bal | apply bdn | apply bd1 | refine bst ?_ (IsS78.ge HI227.out) | refine bst ?_ GE226.out) | exact HB.out)) hb); clear HO230; clear HO234; clear BK226; clear HI227; clear HB; have HO230 := n0_; have HO234 := n1_; have BK226 := n2_; have HI227 := n3_; have HB := n4_; clear n0_ n1_ n2_ n3_ n4_; (try clear hb); (try clear hb2); (try clear hk); (try clear hi)))
    go_ret
    exact ⟨er_, by repeat (first | (with_reducible first | exact HB.out | apply bal | apply bdn | apply bd1 | refine bst ?_ (IsS78.ge HI227.out) | refine bst ?_ GE226.out) | exact HB.out)⟩
  rw [if_neg c13] at H
  have c13b0 : (a0_0 == 2) = false := beq_eq_false_iff_ne.mpr c13
  have c13b1 : (a0_0 != 2) = true := bne_iff_ne.mpr c13
  (first | rw [c13b0] | (simp only [i64_w, i32_w]; rw [c13b0]) | skip)
  have HC28 := Aside0.mk H
  clear H
  go_upto_if 19 with (fail)
  go_cut [19] (fun v19 wc => ∃ (kq : Nat) (x19_27 : Bool), v19 = .bool x19_27 ∧ Aside0 (frame_Request_Text.j0 kq x19_27 a0_0 a0_1 a0_2 a0_3 a0_4 a0_5 a0_6 t231 = some r) ∧ Aside0 (kq ≤ k) ∧ Aside0 (wc.heap[gb226]? = some (.cells #[.int .i64 a0_0, .int .i64 a0_1, .string a0_2, .int .i64 a0_3, .string a0_4, .string a0_5, .int .i64 a0_6] 26 (0, 0))) ∧ Aside0 (IsS78 w wc gb227 t231) ∧ Aside0 (Below w.heap.size w wc))
  case first =>
    have H := HC28.out
    clear HC28
    by_cases c29 : a0_0 = 4
    rotate_left
    · rw [if_neg c29] at H
      have c29b0 : (a0_0 == 4) = false := beq_eq_false_iff_ne.mpr c29
      have c29b1 : (a0_0 != 4) = true := bne_iff_ne.mpr c29
      (first | rw [c29b0] | (simp only [i64_w, i32_w]; rw [c29b0]) | skip)
      have H' := Aside0.mk H
      clear H
      go_wp2
      go_meet
      case rel => exact ⟨_, ((a0_0 == 7)), (by first | rfl | (simp; done) | (simp [*]; done) | exact emp1_ _ | exact (emp1_ _).symm | exact emp2_ _ | exact (emp2_ _).symm), H', ⟨by first | omega | exact Nat.le_refl _⟩, ⟨bk_⟩, ⟨by repeat (first | (with_reducible first | exact HI227.out | apply IsS78.alloc | apply IsS78.drewN | apply IsS78.drew | apply IsS78.set_0 | refine IsS78.farT (p := ⟨gb226, _, none⟩) (t2 := 26) ?_ ?_ (by decide) (by decide) _ | exact OutT.mk BK226.out | refine OutT.set ?_ _ _ _) | exact HI227.out)⟩, ⟨by repeat (first | (with_reducible first | exact HB.out | apply bal | apply bdn | apply bd1 | refine bst ?_ (IsS78.ge HI227.out) | refine bst ?_ GE226.out) | exact HB.out)⟩⟩
    rw [if_pos c29] at H
    have c29b0 : (a0_0 == 4) = true := beq_iff_eq.mpr c29
    have c29b1 : (a0_0 != 4) = false := bne_eq_false_iff_eq.mpr c29
    clear c29
    (first | rw [c29b0] | (simp only [i64_w, i32_w]; rw [c29b0]) | skip)
    have H' := Aside0.mk H
    clear H
    go_wp2
    go_meet
    case rel => exact ⟨_, ((a0_0 == 4)), (by first | rfl | (simp; done) | (simp [*]; done) | exact emp1_ _ | exact (emp1_ _).symm | exact emp2_ _ | exact (emp2_ _).symm), H', ⟨by first | omega | exact Nat.le_refl _⟩, ⟨bk_⟩, ⟨by repeat (first | (with_reducible first | exact HI227.out | apply IsS78.alloc | apply IsS78.drewN | apply IsS78.drew | apply IsS78.set_0 | refine IsS78.farT (p := ⟨gb226, _, none⟩) (t2 := 26) ?_ ?_ (by decide) (by decide) _ | exact OutT.mk BK226.out | refine OutT.set ?_ _ _ _) | exact HI227.out)⟩, ⟨by repeat (first | (with_reducible first | exact HB.out | apply bal | apply bdn | apply bd1 | refine bst ?_ (IsS78.ge HI227.out) | refine bst ?_ GE226.out) | exact HB.out)⟩⟩
  clear HC28
  try clear c1
  try clear c2
  try clear p2
  try clear c3
  try clear c4
  try clear c6
  try clear c13
  try clear c13b0
  try clear c13b1
  try clear c14
  try clear c18
  try clear c29
  try clear c29b0
  try clear c29b1
  try clear hcz12
  try clear hcz19
  try clear hcz24
  try clear hcz7
  try clear hcz12
  try clear hcz19
  try clear hcz24
  try clear hcz7
  obtain ⟨kq, x19_27, rfl, HA, HJ27, BK226, HI227, HB⟩ := hcut
  cases kq with
  | zero => exact absurd HA.out (by simp [frame_Request_Text.j0])
  | succ kj27 =>
    have H := HA.out
    clear HA
    simp only [frame_Request_Text.j0] at H
    by_cases c30 : x19_27 = true
    rotate_left
    · replace c30 := Bool.eq_false_iff.mpr c30
      subst c30
      have H1 : ((codec_Out_Text.f t231).bind fun bt247 => ((frame_seal.f kj27 bt247.1).bind fun t249 => (some t249))) = some r := by rw [if_neg (show ¬ (false = true) by decide)] at H; exact H
      clear H
      have H := H1
      clear H1
      replace H := Option.bind_eq_some_iff.mp H
      obtain ⟨⟨t247, t248⟩, A420, H⟩ := H
      replace H : ((frame_seal.f kj27 t247).bind fun t249 => (some t249)) = some r := H
      have A42 := Aside0.mk A420
      clear A420
      replace H := Option.bind_eq_some_iff.mp H
      obtain ⟨t249, A430, H⟩ := H
      replace H : (some t249) = some r := H
      have A43 := Aside0.mk A430
      clear A430
      obtain rfl := Option.some.inj H
      go_wp2_with (first | ((with_reducible refine gcl (f := 42) rfl ?_); refine gl_ (some 26) rfl rfl Try.func42 (by kernel_rfl) rfl #[.pointer (some ⟨gb227, 0, none⟩)] rfl ar_ ?_; (with_reducible refine (codec_Out_Text.calls gb227 t231 t247 t248 w _ ?side1 ?side2 A42.out).mono ?_); (case side1 => repeat (first | (with_reducible first | exact HI227.out | apply IsS78.alloc | apply IsS78.drewN | apply IsS78.drew | apply IsS78.set_0 | refine IsS78.farT (p := ⟨gb226, _, none⟩) (t2 := 26) ?_ ?_ (by decide) (by decide) _ | exact OutT.mk BK226.out | refine OutT.set ?_ _ _ _) | exact HI227.out)); (case side2 => repeat (first | (with_reducible first | exact HB.out | apply bal | apply bdn | apply bd1 | refine bst ?_ (IsS78.ge HI227.out) | refine bst ?_ GE226.out) | exact HB.out)); rintro e w44 ⟨rfl, hi, hb, hk⟩; refine ⟨_, rfl, ?_⟩; have n0_ := Aside0.mk (KeepT.oblk (g := gb226) (o := .cells #[.int .i64 a0_0, .int .i64 a0_1, .string a0_2, .int .i64 a0_3, .string a0_4, .string a0_5, .int .i64 a0_6] 26 (0, 0)) bk_ hk (by intro _ _ _ h_; cases h_; decide)); have n1_ := Aside0.mk (hb); have n2_ := Aside0.mk (hi); clear BK226; clear HB; clear HI227; have BK226 := n0_; have HB := n1_; have HI227 := n2_; clear n0_ n1_ n2_; (try clear hb); (try clear hb2); (try clear hk); (try clear hi)) | ((with_reducible refine gcl (f := 41) rfl ?_); refine gl_ (some 27) rfl rfl Try.func41 (by kernel_rfl) rfl #[.string t247] rfl ar_ ?_; (with_reducible refine (frame_seal.calls kj27 t247 t249 _ A43.out).mono ?_); rintro e w45 ⟨rfl, hb⟩; refine ⟨_, rfl, ?_⟩; have n0_ := Aside0.mk (kbl (g := gb226) (o := .cells #[.int .i64 a0_0, .int .i64 a0_1, .string a0_2, .int .i64 a0_3, .string a0_4, .string a0_5, .int .i64 a0_6] 26 (0, 0)) bk_ hb); have n1_ := Aside0.mk (IsS78.below (by repeat (first | (with_reducible first | exact HI227.out | apply IsS78.alloc | apply IsS78.drewN | apply IsS78.drew | apply IsS78.set_0 | refine IsS78.farT (p := ⟨gb226, _, none⟩) (t2 := 26) ?_ ?_ (by decide) (by decide) _ | exact OutT.mk BK226.out | refine OutT.set ?_ _ _ _) | exact HI227.out)) hb); have n2_ := Aside0.mk (bsp (by repeat (first | (with_reducible first | exact HB.out | apply bal | apply bdn | apply bd1 | refine bst ?_ (IsS78.ge HI227.out) | refine bst ?_ GE226.out) | exact HB.out)) hb); clear BK226; clear HI227; clear HB; have BK226 := n0_; have HI227 := n1_; have HB := n2_; clear n0_ n1_ n2_; (try clear hb); (try clear hb2); (try clear hk); (try clear hi)))
      go_ret
      exact ⟨er_, by repeat (first | (with_reducible first | exact HB.out | apply bal | apply bdn | apply bd1 | refine bst ?_ (IsS78.ge HI227.out) | refine bst ?_ GE226.out) | exact HB.out)⟩
    subst c30
    have H1 : ((codec_Out_N.f t231 (([a0_1] : List Int))).bind fun t243 => ((codec_Out_Text.f t243).bind fun bt244 => ((frame_seal.f kj27 bt244.1).bind fun t246 => (some t246)))) = some r := by rw [if_pos rfl] at H; exact H
    clear H
    have H := H1
    clear H1
    obtain ⟨y240, hy240⟩ : ∃ y_ : List Int, y_ = (([a0_1] : List Int)) := ⟨_, rfl⟩
    replace H : ((codec_Out_N.f t231 y240).bind fun t243 => ((codec_Out_Text.f t243).bind fun bt244 => ((frame_seal.f kj27 bt244.1).bind fun t246 => (some t246)))) = some r := by first | (rw [hy240]; with_reducible exact H) | (have H2_ := (Option.bind_some _ _).symm.trans H; rw [hy240]; with_reducible exact H2_) | (have H2_ := (Option.bind_some _ _).symm.trans H; with_reducible exact H2_) | with_reducible exact H | (rw [hy240]; exact H) | exact H
    have Ny240 := Aside0.mk hy240
    clear hy240
    replace H := Option.bind_eq_some_iff.mp H
    obtain ⟨t243, A310, H⟩ := H
    replace H : ((codec_Out_Text.f t243).bind fun bt244 => ((frame_seal.f kj27 bt244.1).bind fun t246 => (some t246))) = some r := H
    have A31 := Aside0.mk A310
    clear A310
    replace H := Option.bind_eq_some_iff.mp H
    obtain ⟨⟨t244, t245⟩, A320, H⟩ := H
    replace H : ((frame_seal.f kj27 t244).bind fun t246 => (some t246)) = some r := H
    have A32 := Aside0.mk A320
    clear A320
    replace H := Option.bind_eq_some_iff.mp H
    obtain ⟨t246, A330, H⟩ := H
    replace H : (some t246) = some r := H
    have A33 := Aside0.mk A330
    clear A330
    obtain rfl := Option.some.inj H
    have hnb34 := NB226_227.out
    have hnc34 := NB227_226.out
    have hcz35 := bc7 BK226.out
    go_wp2_with (first | ((with_reducible refine gds (N := 24) rfl ?_); refine Kd.R_lit (Kd.int .i64) _ 3 ?hg (N := 24) ?hd (xs := ([a0_1] : List Int)) (inner := [.int .i64 a0_1]) (ok := fun _ => True) (okp := fun _ => True) ?hr ?hp (fun _ hk => hk) trivial (Below.refl _ _) (Nat.le_refl _) (by simp) ?_; (case hd => rfl); (case hg => rfl); (case hr => first | (go_simp; done) | (go_simp; rfl)); (case hp => exact (Reps.one (show Kd.M (Kd.int .i64) _ _ _ a0_1 [.int .i64 a0_1] from rfl) (Reps.none _ _))); intro v241 w36 ho37 hb hg_ hnew_; clear hg_ hnew_; (first | rw [← Ny240.out] at ho37 | (simp only [Int.reduceToNat] at ho37; rw [← Ny240.out] at ho37)); have n0_ := Aside0.mk (Kd.R_lower ho37 (bsz (by repeat (first | (with_reducible first | exact HB.out | apply bal | apply bdn | apply bd1 | refine bst ?_ (IsS78.ge HI227.out) | refine bst ?_ GE226.out) | exact HB.out)))); have n1_ := Aside0.mk (kbl (g := gb226) (o := .cells #[.int .i64 a0_0, .int .i64 a0_1, .string a0_2, .int .i64 a0_3, .string a0_4, .string a0_5, .int .i64 a0_6] 26 (0, 0)) bk_ hb); have n2_ := Aside0.mk (IsS78.below (by repeat (first | (with_reducible first | exact HI227.out | apply IsS78.alloc | apply IsS78.drewN | apply IsS78.drew | apply IsS78.set_0 | refine IsS78.farT (p := ⟨gb226, _, none⟩) (t2 := 26) ?_ ?_ (by decide) (by decide) _ | exact OutT.mk BK226.out | refine OutT.set ?_ _ _ _) | exact HI227.out)) hb); have n3_ := Aside0.mk (bsp (by repeat (first | (with_reducible first | exact HB.out | apply bal | apply bdn | apply bd1 | refine bst ?_ (IsS78.ge HI227.out) | refine bst ?_ GE226.out) | exact HB.out)) hb); clear BK226; clear HI227; clear HB; have HO242 := n0_; have BK226 := n1_; have HI227 := n2_; have HB := n3_; clear n0_ n1_ n2_ n3_; clear hb ho37; obtain ⟨Ao38, co38, eo38⟩ := Kd.R_slice HO242.out; subst eo38) | ((with_reducible refine gcl (f := 38) rfl ?_); refine gl_ (some 25) rfl rfl Try.func38 (by kernel_rfl) rfl #[.pointer (some ⟨gb227, 0, none⟩), .slice Ao38 y240.length co38] rfl ar_ ?_; (with_reducible refine (codec_Out_N.calls gb227 t231 _ _ y240 t243 w _ ?side1 ?side2 ?side3 ?side4 ?side5 A31.out).mono ?_); (case side1 => repeat (first | (with_reducible first | exact HI227.out | apply IsS78.alloc | apply IsS78.drewN | apply IsS78.drew | apply IsS78.set_0 | refine IsS78.farT (p := ⟨gb226, _, none⟩) (t2 := 26) ?_ ?_ (by decide) (by decide) _ | exact OutT.mk BK226.out | refine OutT.set ?_ _ _ _) | exact HI227.out)); (case side2 => repeat (first | (with_reducible first | exact HB.out | apply bal | apply bdn | apply bd1 | refine bst ?_ (IsS78.ge HI227.out) | refine bst ?_ GE226.out) | exact HB.out)); (case side3 => repeat (first | exact (Kd.R_reads' HO242.out).2.2 | (with_reducible refine Kd.C_alloc ?_ _) | (with_reducible refine Kd.C_drewN ?_ _) | (with_reducible refine Kd.C_drew ?_))); (case side4 => exact (Kd.R_reads' HO242.out).2.1); (case side5 => exact fun W_ hk_ => (Kd.R_reads' (KeepT.R (by (with_reducible repeat (first | apply Kd.R_alloc | apply Kd.R_drewN | apply Kd.R_drew)); exact HO242.out) hk_ (by decide))).2.2); rintro e w39 ⟨rfl, hi, hb, hk⟩; refine ⟨_, rfl, ?_⟩; have n0_ := Aside0.mk (KeepT.oblk (g := gb226) (o := .cells #[.int .i64 a0_0, .int .i64 a0_1, .string a0_2, .int .i64 a0_3, .string a0_4, .string a0_5, .int .i64 a0_6] 26 (0, 0)) bk_ hk (by intro _ _ _ h_; cases h_; decide)); have n1_ := Aside0.mk (KeepT.R (by (with_reducible repeat (first | apply Kd.R_alloc | apply Kd.R_drewN | apply Kd.R_drew)); exact HO242.out) hk (by decide)); have n2_ := Aside0.mk (hb); have n3_ := Aside0.mk (hi); clear BK226; clear HO242; clear HB; clear HI227; have BK226 := n0_; have HO242 := n1_; have HB := n2_; have HI227 := n3_; clear n0_ n1_ n2_ n3_; (try clear hb); (try clear hb2); (try clear hk); (try clear hi)) | ((with_reducible refine gcl (f := 42) rfl ?_); refine gl_ (some 26) rfl rfl Try.func42 (by kernel_rfl) rfl #[.pointer (some ⟨gb227, 0, none⟩)] rfl ar_ ?_; (with_reducible refine (codec_Out_Text.calls gb227 t243 t244 t245 w _ ?side1 ?side2 A32.out).mono ?_); (case side1 => repeat (first | (with_reducible first | exact HI227.out | apply IsS78.alloc | apply IsS78.drewN | apply IsS78.drew | apply IsS78.set_0 | refine IsS78.farT (p := ⟨gb226, _, none⟩) (t2 := 26) ?_ ?_ (by decide) (by decide) _ | exact OutT.mk BK226.out | refine OutT.set ?_ _ _ _) | exact HI227.out)); (case side2 => repeat (first | (with_reducible first | exact HB.out | apply bal | apply bdn | apply bd1 | refine bst ?_ (IsS78.ge HI227.out) | refine bst ?_ GE226.out) | exact HB.out)); rintro e w40 ⟨rfl, hi, hb, hk⟩; refine ⟨_, rfl, ?_⟩; have n0_ := Aside0.mk (KeepT.oblk (g := gb226) (o := .cells #[.int .i64 a0_0, .int .i64 a0_1, .string a0_2, .int .i64 a0_3, .string a0_4, .string a0_5, .int .i64 a0_6] 26 (0, 0)) bk_ hk (by intro _ _ _ h_; cases h_; decide)); have n1_ := Aside0.mk (KeepT.R (by (with_reducible repeat (first | apply Kd.R_alloc | apply Kd.R_drewN | apply Kd.R_drew)); exact HO242.out) hk (by decide)); have n2_ := Aside0.mk (hb); have n3_ := Aside0.mk (hi); clear BK226; clear HO242; clear HB; clear HI227; have BK226 := n0_; have HO242 := n1_; have HB := n2_; have HI227 := n3_; clear n0_ n1_ n2_ n3_; (try clear hb); (try clear hb2); (try clear hk); (try clear hi)) | ((with_reducible refine gcl (f := 41) rfl ?_); refine gl_ (some 27) rfl rfl Try.func41 (by kernel_rfl) rfl #[.string t244] rfl ar_ ?_; (with_reducible refine (frame_seal.calls kj27 t244 t246 _ A33.out).mono ?_); rintro e w41 ⟨rfl, hb⟩; refine ⟨_, rfl, ?_⟩; have n0_ := Aside0.mk (Kd.R_below (by (with_reducible repeat (first | apply Kd.R_alloc | apply Kd.R_drewN | apply Kd.R_drew)); exact HO242.out) hb); have n1_ := Aside0.mk (kbl (g := gb226) (o := .cells #[.int .i64 a0_0, .int .i64 a0_1, .string a0_2, .int .i64 a0_3, .string a0_4, .string a0_5, .int .i64 a0_6] 26 (0, 0)) bk_ hb); have n2_ := Aside0.mk (IsS78.below (by repeat (first | (with_reducible first | exact HI227.out | apply IsS78.alloc | apply IsS78.drewN | apply IsS78.drew | apply IsS78.set_0 | refine IsS78.farT (p := ⟨gb226, _, none⟩) (t2 := 26) ?_ ?_ (by decide) (by decide) _ | exact OutT.mk BK226.out | refine OutT.set ?_ _ _ _) | exact HI227.out)) hb); have n3_ := Aside0.mk (bsp (by repeat (first | (with_reducible first | exact HB.out | apply bal | apply bdn | apply bd1 | refine bst ?_ (IsS78.ge HI227.out) | refine bst ?_ GE226.out) | exact HB.out)) hb); clear HO242; clear BK226; clear HI227; clear HB; have HO242 := n0_; have BK226 := n1_; have HI227 := n2_; have HB := n3_; clear n0_ n1_ n2_ n3_; (try clear hb); (try clear hb2); (try clear hk); (try clear hi)))
    go_ret
    exact ⟨er_, by repeat (first | (with_reducible first | exact HB.out | apply bal | apply bdn | apply bd1 | refine bst ?_ (IsS78.ge HI227.out) | refine bst ?_ GE226.out) | exact HB.out)⟩
def armoirelaw24_awake.j0 : Nat → Bool → Option (Bool)
  | 0, _ => none
  | k + 1, x0 => some x0
def armoirelaw24_awake.f (k : Nat)  : Option (Bool) := (frame_Request_Text.f k 1 0 (⟨#[]⟩ : ByteArray) 0 (⟨#[]⟩ : ByteArray) (⟨#[]⟩ : ByteArray) 0).bind fun t250 => ((frame_ParseRequest.f k t250).bind fun bt251 => (if (t250.size : Int) = 6 then (if 4 ≤ (t250.size : Int) then (if (t250.extract 4 t250.size).toList = ([1, 1] : List UInt8) then (if bt251.1 = 1 then (if bt251.2.2.2.2.2.2.2 = 0 then ((frame_Request_Check.f k 0 0 (⟨#[]⟩ : ByteArray) 0 (⟨#[]⟩ : ByteArray) (⟨#[]⟩ : ByteArray) 0).bind fun t260 => (armoirelaw24_awake.j0 k (t260 == 6))) else (armoirelaw24_awake.j0 k false)) else (armoirelaw24_awake.j0 k false)) else (armoirelaw24_awake.j0 k false)) else (none)) else (armoirelaw24_awake.j0 k false)))
set_option maxHeartbeats 2000000 in
set_option maxRecDepth 100000 in
theorem armoirelaw24_awake.calls (k : Nat)  (r : Bool) (w : World) (h : armoirelaw24_awake.f k  = some r) :
    Calls Try.prog 9 #[] w fun e w' => e = .returned (.bool r) ∧ Below w.heap.size w w' := by
  have hu26 := Try.underlying26
  have HB := Aside0.mk (Below.refl w.heap.size w)
  have H : ((frame_Request_Text.f k 1 0 (⟨#[]⟩ : ByteArray) 0 (⟨#[]⟩ : ByteArray) (⟨#[]⟩ : ByteArray) 0).bind fun t250 => ((frame_ParseRequest.f k t250).bind fun bt251 => (if (t250.size : Int) = 6 then (if 4 ≤ (t250.size : Int) then (if (t250.extract 4 t250.size).toList = ([1, 1] : List UInt8) then (if bt251.1 = 1 then (if bt251.2.2.2.2.2.2.2 = 0 then ((frame_Request_Check.f k 0 0 (⟨#[]⟩ : ByteArray) 0 (⟨#[]⟩ : ByteArray) (⟨#[]⟩ : ByteArray) 0).bind fun t260 => (armoirelaw24_awake.j0 k (t260 == 6))) else (armoirelaw24_awake.j0 k false)) else (armoirelaw24_awake.j0 k false)) else (armoirelaw24_awake.j0 k false)) else (none)) else (armoirelaw24_awake.j0 k false)))) = some r := h
  clear h
  replace H := Option.bind_eq_some_iff.mp H
  obtain ⟨t250, A10, H⟩ := H
  replace H : ((frame_ParseRequest.f k t250).bind fun bt251 => (if (t250.size : Int) = 6 then (if 4 ≤ (t250.size : Int) then (if (t250.extract 4 t250.size).toList = ([1, 1] : List UInt8) then (if bt251.1 = 1 then (if bt251.2.2.2.2.2.2.2 = 0 then ((frame_Request_Check.f k 0 0 (⟨#[]⟩ : ByteArray) 0 (⟨#[]⟩ : ByteArray) (⟨#[]⟩ : ByteArray) 0).bind fun t260 => (armoirelaw24_awake.j0 k (t260 == 6))) else (armoirelaw24_awake.j0 k false)) else (armoirelaw24_awake.j0 k false)) else (armoirelaw24_awake.j0 k false)) else (none)) else (armoirelaw24_awake.j0 k false))) = some r := H
  have A1 := Aside0.mk A10
  clear A10
  replace H := Option.bind_eq_some_iff.mp H
  obtain ⟨⟨t251, t252, t253, t254, t255, t256, t257, t258⟩, A20, H⟩ := H
  replace H : (if (t250.size : Int) = 6 then (if 4 ≤ (t250.size : Int) then (if (t250.extract 4 t250.size).toList = ([1, 1] : List UInt8) then (if t251 = 1 then (if t258 = 0 then ((frame_Request_Check.f k 0 0 (⟨#[]⟩ : ByteArray) 0 (⟨#[]⟩ : ByteArray) (⟨#[]⟩ : ByteArray) 0).bind fun t260 => (armoirelaw24_awake.j0 k (t260 == 6))) else (armoirelaw24_awake.j0 k false)) else (armoirelaw24_awake.j0 k false)) else (armoirelaw24_awake.j0 k false)) else (none)) else (armoirelaw24_awake.j0 k false)) = some r := H
  have A2 := Aside0.mk A20
  clear A20
  have HC3 := Aside0.mk H
  clear H
  go_enter Try.func9, Try.ntmps9
  go_upto_region 3 with (first | ((with_reducible refine gcl (f := 14) rfl ?_); refine gl_ (some 5) rfl rfl Try.func14 (by kernel_rfl) rfl #[.agg #[.int .i64 1, .int .i64 0, .string (⟨#[]⟩ : ByteArray), .int .i64 0, .string (⟨#[]⟩ : ByteArray), .string (⟨#[]⟩ : ByteArray), .int .i64 0]] rfl ar_ ?_; (with_reducible refine (frame_Request_Text.calls k 1 0 (⟨#[]⟩ : ByteArray) 0 (⟨#[]⟩ : ByteArray) (⟨#[]⟩ : ByteArray) 0 t250 _ A1.out).mono ?_); rintro e w4 ⟨rfl, hb⟩; refine ⟨_, rfl, ?_⟩; have n0_ := Aside0.mk (bsp bl_ hb); clear HB; have HB := n0_; clear n0_; (try clear hb); (try clear hb2); (try clear hk); (try clear hi)) | ((with_reducible refine gcl (f := 13) rfl ?_); refine gl_ (some 8) rfl rfl Try.func13 (by kernel_rfl) rfl #[.string t250] rfl ar_ ?_; (with_reducible refine (frame_ParseRequest.calls k t250 t251 t252 t253 t254 t255 t256 t257 t258 _ A2.out).mono ?_); rintro e w5 ⟨rfl, hb⟩; refine ⟨_, rfl, ?_⟩; have n0_ := Aside0.mk (bsp bl_ hb); clear HB; have HB := n0_; clear n0_; (try clear hb); (try clear hb2); (try clear hk); (try clear hi)) | ((with_reducible refine gds (N := 2) rfl ?_); refine bev ?hg (N := 2) ?hd (cs := #[.int .i64 0, .int .i64 0, .string (⟨#[]⟩ : ByteArray), .int .i64 0, .string (⟨#[]⟩ : ByteArray), .string (⟨#[]⟩ : ByteArray), .int .i64 0]) (t := 26) ?hr ?_; (case hd => rfl); (case hg => rfl); (case hr => first | (go_simp; done) | (go_simp; rfl)); intro gb259 hg w6 hbox hb; have n0_ := Aside0.mk (bsp bl_ hb); have n1_ := Aside0.mk (hbox); have n2_ := Aside0.mk ((by rw [hg]; exact bsz bl_ : w.heap.size ≤ gb259)); have n3_ := Aside0.mk ((by rw [hg]; exact bsz bl_ : w.heap.size ≤ gb259)); clear HB; have HB := n0_; have BK259 := n1_; have GW259 := n2_; have GE259 := n3_; clear n0_ n1_ n2_ n3_; clear hb hbox hg; have hcz7 := bc7 BK259.out))
  (try simp only [Act.put, List.setIfInBounds_toArray, List.set_cons_zero, List.set_cons_succ])
  go_cut [0] (fun v0 wc => ∃ (kq : Nat) (x0_2 : Bool), v0 = .bool x0_2 ∧ Aside0 (armoirelaw24_awake.j0 kq x0_2 = some r) ∧ Aside0 (kq ≤ k) ∧ Aside0 (wc.heap[gb259]? = some (.cells #[.int .i64 t251, .int .i64 t252, .string t253, .int .i64 t254, .string t255, .string t256, .int .i64 t257] 26 (0, 0))) ∧ Aside0 (Below w.heap.size w wc))
  case first =>
    have H := HC3.out
    clear HC3
    by_cases c8 : (t250.size : Int) = 6
    rotate_left
    · rw [if_neg c8] at H
      have c8b0 : ((t250.size : Int) == 6) = false := beq_eq_false_iff_ne.mpr c8
      have c8b1 : ((t250.size : Int) != 6) = true := bne_iff_ne.mpr c8
      (first | rw [c8b0] | rw [c8b1] | (simp only [i64_w, i32_w]; rw [c8b0]) | (simp only [i64_w, i32_w]; rw [c8b1]) | rw [c8b2] | skip)
      have H' := Aside0.mk H
      clear H
      go_wp2
      go_meet
      case rel => exact ⟨_, (false), (by first | rfl | (simp; done) | (simp [*]; done) | exact emp1_ _ | exact (emp1_ _).symm | exact emp2_ _ | exact (emp2_ _).symm), H', ⟨by first | omega | exact Nat.le_refl _⟩, ⟨bk_⟩, ⟨bl_⟩⟩
    rw [if_pos c8] at H
    have c8b0 : ((t250.size : Int) == 6) = true := beq_iff_eq.mpr c8
    have c8b1 : ((t250.size : Int) != 6) = false := bne_eq_false_iff_eq.mpr c8
    clear c8
    (first | rw [c8b0] | rw [c8b1] | (simp only [i64_w, i32_w]; rw [c8b0]) | (simp only [i64_w, i32_w]; rw [c8b1]) | rw [c8b2] | skip)
    by_cases c9 : 4 ≤ (t250.size : Int)
    rotate_left
    · rw [if_neg c9] at H
      exact absurd H (by simp)
    rw [if_pos c9] at H
    have c9b0 := eq_true c9
    have c9b1 : decide (4 ≤ (t250.size : Int)) = true := decide_eq_true c9
    clear c9
    by_cases c10 : (t250.extract 4 t250.size).toList = ([1, 1] : List UInt8)
    rotate_left
    · rw [if_neg c10] at H
      have c10b0 : ((t250.extract 4 t250.size).toList == ([1, 1] : List UInt8)) = false := beq_eq_false_iff_ne.mpr c10
      have c10b1 : ((t250.extract 4 t250.size).toList != ([1, 1] : List UInt8)) = true := bne_iff_ne.mpr c10
      have H' := Aside0.mk H
      clear H
      go_wp2
      go_meet
      case rel => exact ⟨_, (false), (by first | rfl | (simp; done) | (simp [*]; done) | exact emp1_ _ | exact (emp1_ _).symm | exact emp2_ _ | exact (emp2_ _).symm), H', ⟨by first | omega | exact Nat.le_refl _⟩, ⟨bk_⟩, ⟨bl_⟩⟩
    rw [if_pos c10] at H
    have c10b0 : ((t250.extract 4 t250.size).toList == ([1, 1] : List UInt8)) = true := beq_iff_eq.mpr c10
    have c10b1 : ((t250.extract 4 t250.size).toList != ([1, 1] : List UInt8)) = false := bne_eq_false_iff_eq.mpr c10
    clear c10
    by_cases c11 : t251 = 1
    rotate_left
    · rw [if_neg c11] at H
      have c11b0 : (t251 == 1) = false := beq_eq_false_iff_ne.mpr c11
      have c11b1 : (t251 != 1) = true := bne_iff_ne.mpr c11
      have H' := Aside0.mk H
      clear H
      have hcz17 := bc7 BK259.out
      go_wp2
      go_meet
      case rel => exact ⟨_, (false), (by first | rfl | (simp; done) | (simp [*]; done) | exact emp1_ _ | exact (emp1_ _).symm | exact emp2_ _ | exact (emp2_ _).symm), H', ⟨by first | omega | exact Nat.le_refl _⟩, ⟨bk_⟩, ⟨bl_⟩⟩
    rw [if_pos c11] at H
    have c11b0 : (t251 == 1) = true := beq_iff_eq.mpr c11
    have c11b1 : (t251 != 1) = false := bne_eq_false_iff_eq.mpr c11
    clear c11
    by_cases c12 : t258 = 0
    rotate_left
    · rw [if_neg c12] at H
      have c12b0 : (t258 == 0) = false := beq_eq_false_iff_ne.mpr c12
      have c12b1 : (t258 != 0) = true := bne_iff_ne.mpr c12
      have H' := Aside0.mk H
      clear H
      have hcz16 := bc7 BK259.out
      go_wp2
      go_meet
      case rel => exact ⟨_, (false), (by first | rfl | (simp; done) | (simp [*]; done) | exact emp1_ _ | exact (emp1_ _).symm | exact emp2_ _ | exact (emp2_ _).symm), H', ⟨by first | omega | exact Nat.le_refl _⟩, ⟨bk_⟩, ⟨bl_⟩⟩
    rw [if_pos c12] at H
    have c12b0 : (t258 == 0) = true := beq_iff_eq.mpr c12
    have c12b1 : (t258 != 0) = false := bne_eq_false_iff_eq.mpr c12
    clear c12
    replace H := Option.bind_eq_some_iff.mp H
    obtain ⟨t260, A130, H⟩ := H
    replace H : (armoirelaw24_awake.j0 k (t260 == 6)) = some r := H
    have A13 := Aside0.mk A130
    clear A130
    have H' := Aside0.mk H
    clear H
    have hcz14 := bc7 BK259.out
    go_wp2_with (first | (go_at_call 10; (with_reducible refine (frame_Request_Check.calls k 0 0 (⟨#[]⟩ : ByteArray) 0 (⟨#[]⟩ : ByteArray) (⟨#[]⟩ : ByteArray) 0 t260 _ A13.out).mono ?_); rintro e w15 ⟨rfl, hb⟩; have n0_ := Aside0.mk (kbl (g := gb259) (o := .cells #[.int .i64 t251, .int .i64 t252, .string t253, .int .i64 t254, .string t255, .string t256, .int .i64 t257] 26 (0, 0)) bk_ hb); have n1_ := Aside0.mk (bsp bl_ hb); clear BK259; clear HB; have BK259 := n0_; have HB := n1_; clear n0_ n1_; (try clear hb); (try clear hb2); (try clear hk); (try clear hi)))
    go_meet
    case rel => exact ⟨_, ((t260 == 6)), (by first | rfl | (simp; done) | (simp [*]; done) | exact emp1_ _ | exact (emp1_ _).symm | exact emp2_ _ | exact (emp2_ _).symm), H', ⟨by first | omega | exact Nat.le_refl _⟩, ⟨bk_⟩, ⟨bl_⟩⟩
  clear HC3
  try clear c1
  try clear p2
  try clear c8
  try clear c8b0
  try clear c8b1
  try clear c8b2
  try clear c9
  try clear c9b0
  try clear c9b1
  try clear c10
  try clear c10b0
  try clear c10b1
  try clear c11
  try clear c11b0
  try clear c11b1
  try clear c12
  try clear c12b0
  try clear c12b1
  try clear c13
  try clear c14
  try clear hcz14
  try clear hcz16
  try clear hcz17
  try clear hcz7
  try clear hcz14
  try clear hcz16
  try clear hcz17
  try clear hcz7
  obtain ⟨kq, x0_2, rfl, HA, HJ2, BK259, HB⟩ := hcut
  cases kq with
  | zero => exact absurd HA.out (by simp [armoirelaw24_awake.j0])
  | succ kj2 =>
    have H := HA.out
    clear HA
    simp only [armoirelaw24_awake.j0] at H
    obtain rfl := Option.some.inj H
    go_wp2
    go_ret
    exact ⟨er_, bl_⟩
def armoirelaw12_Told.f (a0_0 : Int) (a0_1 : ByteArray) (a0_2 : ByteArray) (a0_3 : Int) : Option (Int × ByteArray × ByteArray × Int) := some (a0_0, a0_1, a0_2, a0_3)
set_option maxHeartbeats 2000000 in
set_option maxRecDepth 100000 in
theorem armoirelaw12_Told.calls (a0_0 : Int) (a0_1 : ByteArray) (a0_2 : ByteArray) (a0_3 : Int) (r1 : Int) (r2 : ByteArray) (r3 : ByteArray) (r4 : Int) (w : World) (h : armoirelaw12_Told.f a0_0 a0_1 a0_2 a0_3 = some (r1, r2, r3, r4)) :
    Calls Try.prog 30 #[.agg #[.int .i64 a0_0, .string a0_1, .string a0_2, .int .i64 a0_3]] w fun e w' => e = .returned (.agg #[.int .i64 r1, .string r2, .string r3, .int .i64 r4]) ∧ Below w.heap.size w w' := by
  have hu24 := Try.underlying24
  have hu34 := Try.underlying34
  have HB := Aside0.mk (Below.refl w.heap.size w)
  have H : (some (a0_0, a0_1, a0_2, a0_3)) = some (r1, r2, r3, r4) := h
  clear h
  simp only [Option.some.injEq, Prod.mk.injEq] at H
  obtain ⟨rfl, rfl, rfl, rfl⟩ := H
  go_enter Try.func30, Try.ntmps30
  go_wp2_with (first | ((with_reducible refine gds (N := 1) rfl ?_); refine bev ?hg (N := 1) ?hd (cs := #[.int .i64 a0_0, .string a0_1, .string a0_2, .int .i64 a0_3]) (t := 24) ?hr ?_; (case hd => rfl); (case hg => rfl); (case hr => first | (go_simp; done) | (go_simp; rfl)); intro gb261 hg w2 hbox hb; have n0_ := Aside0.mk (bsp bl_ hb); have n1_ := Aside0.mk (hbox); have n2_ := Aside0.mk ((by rw [hg]; exact bsz bl_ : w.heap.size ≤ gb261)); have n3_ := Aside0.mk ((by rw [hg]; exact bsz bl_ : w.heap.size ≤ gb261)); clear HB; have HB := n0_; have BK261 := n1_; have GW261 := n2_; have GE261 := n3_; clear n0_ n1_ n2_ n3_; clear hb hbox hg) | ((with_reducible refine gds (N := 2) rfl ?_); refine bev ?hg (N := 2) ?hd (cs := #[.int .i64 0, .string (⟨#[]⟩ : ByteArray), .string (⟨#[]⟩ : ByteArray), .int .i64 0]) (t := 34) ?hr ?_; (case hd => rfl); (case hg => rfl); (case hr => first | (go_simp; done) | (go_simp; rfl)); intro gb262 hg w3 hbox hb; have n0_ := Aside0.mk (kbl (g := gb261) (o := .cells #[.int .i64 a0_0, .string a0_1, .string a0_2, .int .i64 a0_3] 24 (0, 0)) bk_ hb); have n1_ := Aside0.mk (bsp bl_ hb); have n2_ := Aside0.mk (hbox); have n3_ := Aside0.mk ((by rw [hg]; exact bsz bl_ : w.heap.size ≤ gb262)); have n4_ := Aside0.mk ((by rw [hg]; exact bsz bl_ : w.heap.size ≤ gb262)); have n5_ := Aside0.mk ((by rw [hg]; exact Nat.ne_of_lt (blk_lt (g := gb261) (o := .cells #[.int .i64 a0_0, .string a0_1, .string a0_2, .int .i64 a0_3] 24 (0, 0)) bk_) : gb261 ≠ gb262)); have n6_ := Aside0.mk ((by rw [hg]; exact Nat.ne_of_gt (blk_lt (g := gb261) (o := .cells #[.int .i64 a0_0, .string a0_1, .string a0_2, .int .i64 a0_3] 24 (0, 0)) bk_) : gb262 ≠ gb261)); clear BK261; clear HB; have BK261 := n0_; have HB := n1_; have BK262 := n2_; have GW262 := n3_; have GE262 := n4_; have NB261_262 := n5_; have NB262_261 := n6_; clear n0_ n1_ n2_ n3_ n4_ n5_ n6_; clear hb hbox hg; have hnb4 := NB261_262.out; have hnc4 := NB262_261.out; have hcz5 := bc4 BK261.out; have hcz6 := bc4 BK262.out))
  refine bodyPost_ret (results_cell_row rfl _ _ gb262 34 #[.int .i64 a0_0, .string a0_1, .string a0_2, .int .i64 a0_3] (0, 0) _ rfl bk_ Try.underlying34 rfl (by kernel_rfl)) rfl ?_
  exact ⟨er_, bl_⟩
end Go.Proofs.Ytkkkmbgflflcnaa.PS

