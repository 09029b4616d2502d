import Derived.Test.YtjiblcncadekcaaQAxPAx0
import Derived.Test.YtjiblcncadekcaaQAxPAx2
namespace Go.Proofs.Ytjiblcncadekcaa.PA
open Go.Proofs.Ytjiblcncadekcaa.PL
open Go.RowKit Go.Proofs.YtjiblcncadekcaaW.PrintWords Go.Proofs.YtjiblcncadekcaaW.PrintLast Go.Proofs.YtjiblcncadekcaaW.PrintMore
attribute [local go_sem] max2_int min2_int bl_leq max_two min_two max_three min_three max_four min_four
set_option linter.unusedVariables false
set_option linter.unusedSimpArgs false
attribute [local go_sem high] eqA68
def value_State_Text.l0 : Nat → List (S68) → Int → Int → ByteArray → Option (ByteArray)
  | 0, _, _, _, _ => none
  | k + 1, x20, x21, x22, x429000 => if x22 < x21 then (if 0 ≤ x22 then (if x22 < (x20.length : Int) then ((codec_Out_S.f x429000 (([(rd_T68 x20 x22).f0, (rd_T68 x20 x22).f1] : List ByteArray))).bind fun t446 => (value_State_Text.l0 k x20 x21 (wrap64 (x22 + 1)) t446)) else (none)) else (none)) else ((codec_Out_Text.f x429000).bind fun bt447 => (some bt447.1))
def value_State_Text.f (k : Nat) (a0_0 : Int) (a0_1 : Int) (l0_2 : List (S68)) : Option (ByteArray) := (codec_Out_N.f (⟨#[]⟩ : ByteArray) (([a0_0] : List Int))).bind fun t432 => ((codec_Out_I.f t432 (([a0_1] : List Int))).bind fun t436 => ((codec_Out_N.f t436 (([(l0_2.length : Int)] : List Int))).bind fun t440 => (value_State_Text.l0 k l0_2 (l0_2.length : Int) 0 t440)))
def value_State_Text.T2 : Bool × List (List Nat × List Nat) := (true, [([], []), ([0], [0]), ([1], [1]), ([2], [2]), ([], []), ([4], [4]), ([5], [5]), ([3, 6, 3], [3, 6]), ([], []), ([8], [8]), ([9], [9]), ([10], [10]), ([7, 11, 7], [7, 11])])
def value_State_Text.B2 : List Nat := [0, 1, 3, 7, 0, 16, 48, 127, 0, 256, 768, 1792, 4095]
theorem value_State_Text.tab2 : rtab .any (opsOf Try.f15 2) = value_State_Text.T2 := by kernel_rfl
theorem value_State_Text.bits2 : waitsOk value_State_Text.T2.2 value_State_Text.B2 = true := by kernel_rfl
set_option maxHeartbeats 8000000 in
set_option maxRecDepth 100000 in
theorem value_State_Text.calls (k : Nat) (a0_0 : Int) (a0_1 : Int) (A0_2 : Option Addr) (c0_2 : Nat) (l0_2 : List (S68)) (r : ByteArray) (w : World) (hr0_2 : Kd.C k68 w A0_2 l0_2.length l0_2) (hc0_2 : l0_2.length ≤ c0_2) (h : value_State_Text.f k a0_0 a0_1 l0_2 = some r) :
    Calls Try.prog 15 #[.agg #[.int .i64 a0_0, .int .i64 a0_1, .slice A0_2 l0_2.length c0_2]] w fun e w' => e = .returned (.string r) ∧ Below w.heap.size w w' := by
  have hu24 := Try.underlying24
  have hu91 := Try.underlying91
  have hu68 := Try.underlying68
  have HR0_2 := Aside0.mk hr0_2
  have HC0_2 := Aside0.mk hc0_2
  clear hr0_2 hc0_2
  have HB := Aside0.mk (Below.refl w.heap.size w)
  have H : ((codec_Out_N.f (⟨#[]⟩ : ByteArray) (([a0_0] : List Int))).bind fun t432 => ((codec_Out_I.f t432 (([a0_1] : List Int))).bind fun t436 => ((codec_Out_N.f t436 (([(l0_2.length : Int)] : List Int))).bind fun t440 => (value_State_Text.l0 k l0_2 (l0_2.length : Int) 0 t440)))) = some r := h
  clear h
  obtain ⟨y429, hy429⟩ : ∃ y_ : List Int, y_ = (([a0_0] : List Int)) := ⟨_, rfl⟩
  replace H : ((codec_Out_N.f (⟨#[]⟩ : ByteArray) y429).bind fun t432 => ((codec_Out_I.f t432 (([a0_1] : List Int))).bind fun t436 => ((codec_Out_N.f t436 (([(l0_2.length : Int)] : List Int))).bind fun t440 => (value_State_Text.l0 k l0_2 (l0_2.length : Int) 0 t440)))) = some r := by first | (rw [hy429]; with_reducible exact H) | (have H2_ := (Option.bind_some _ _).symm.trans H; rw [hy429]; with_reducible exact H2_) | (have H2_ := (Option.bind_some _ _).symm.trans H; with_reducible exact H2_) | with_reducible exact H | (rw [hy429]; exact H) | exact H
  have Ny429 := Aside0.mk hy429
  clear hy429
  replace H := Option.bind_eq_some_iff.mp H
  obtain ⟨t432, A20, H⟩ := H
  replace H : ((codec_Out_I.f t432 (([a0_1] : List Int))).bind fun t436 => ((codec_Out_N.f t436 (([(l0_2.length : Int)] : List Int))).bind fun t440 => (value_State_Text.l0 k l0_2 (l0_2.length : Int) 0 t440))) = some r := H
  have A2 := Aside0.mk A20
  clear A20
  obtain ⟨y433, hy433⟩ : ∃ y_ : List Int, y_ = (([a0_1] : List Int)) := ⟨_, rfl⟩
  replace H : ((codec_Out_I.f t432 y433).bind fun t436 => ((codec_Out_N.f t436 (([(l0_2.length : Int)] : List Int))).bind fun t440 => (value_State_Text.l0 k l0_2 (l0_2.length : Int) 0 t440))) = some r := by first | (rw [hy433]; with_reducible exact H) | (have H2_ := (Option.bind_some _ _).symm.trans H; rw [hy433]; with_reducible exact H2_) | (have H2_ := (Option.bind_some _ _).symm.trans H; with_reducible exact H2_) | with_reducible exact H | (rw [hy433]; exact H) | exact H
  have Ny433 := Aside0.mk hy433
  clear hy433
  replace H := Option.bind_eq_some_iff.mp H
  obtain ⟨t436, A30, H⟩ := H
  replace H : ((codec_Out_N.f t436 (([(l0_2.length : Int)] : List Int))).bind fun t440 => (value_State_Text.l0 k l0_2 (l0_2.length : Int) 0 t440)) = some r := H
  have A3 := Aside0.mk A30
  clear A30
  obtain ⟨y437, hy437⟩ : ∃ y_ : List Int, y_ = (([(l0_2.length : Int)] : List Int)) := ⟨_, rfl⟩
  replace H : ((codec_Out_N.f t436 y437).bind fun t440 => (value_State_Text.l0 k l0_2 (l0_2.length : Int) 0 t440)) = some r := by first | (rw [hy437]; with_reducible exact H) | (have H2_ := (Option.bind_some _ _).symm.trans H; rw [hy437]; with_reducible exact H2_) | (have H2_ := (Option.bind_some _ _).symm.trans H; with_reducible exact H2_) | with_reducible exact H | (rw [hy437]; exact H) | exact H
  have Ny437 := Aside0.mk hy437
  clear hy437
  replace H := Option.bind_eq_some_iff.mp H
  obtain ⟨t440, A40, H⟩ := H
  replace H : (value_State_Text.l0 k l0_2 (l0_2.length : Int) 0 t440) = some r := H
  have A4 := Aside0.mk A40
  clear A40
  have H' := Aside0.mk H
  clear H
  go_enter Try.func15, Try.ntmps15
  try go_wp2_with (first | ((with_reducible refine gds (N := 1) rfl ?_); refine bx_ (N := 1) (cs := #[.int .i64 a0_0, .int .i64 a0_1, .slice A0_2 l0_2.length c0_2]) (t := 24) ?_; intro gb427 hg w5 hbox hb; have n0_ := Aside0.mk (bsp bl_ hb); have n1_ := Aside0.mk (hbox); have n2_ := Aside0.mk ((by rw [hg]; exact bsz bl_ : w.heap.size ≤ gb427)); have n3_ := Aside0.mk ((by rw [hg]; exact bsz bl_ : w.heap.size ≤ gb427)); clear HB; have HB := n0_; have BK427 := n1_; have GW427 := n2_; have GE427 := n3_; clear n0_ n1_ n2_ n3_; clear hb hbox hg) | ((with_reducible refine gds (N := 3) rfl ?_); refine bx_ (N := 3) (cs := #[.slice none 0 0]) (t := 91) ?_; intro gb428 hg w6 hbox hb; have n0_ := Aside0.mk (kbl (g := gb427) (o := .cells #[.int .i64 a0_0, .int .i64 a0_1, .slice A0_2 l0_2.length c0_2] 24 (0, 0)) bk_ hb); have n1_ := Aside0.mk (bsp bl_ hb); have n2_ := Aside0.mk (hbox); have n3_ := Aside0.mk ((by rw [hg]; exact bsz bl_ : w.heap.size ≤ gb428)); have n4_ := Aside0.mk ((by rw [hg]; exact bsz bl_ : w.heap.size ≤ gb428)); have n5_ := Aside0.mk ((by rw [hg]; exact Nat.ne_of_lt (blk_lt (g := gb427) (o := .cells #[.int .i64 a0_0, .int .i64 a0_1, .slice A0_2 l0_2.length c0_2] 24 (0, 0)) bk_) : gb427 ≠ gb428)); have n6_ := Aside0.mk ((by rw [hg]; exact Nat.ne_of_gt (blk_lt (g := gb427) (o := .cells #[.int .i64 a0_0, .int .i64 a0_1, .slice A0_2 l0_2.length c0_2] 24 (0, 0)) bk_) : gb428 ≠ gb427)); have n7_ := Aside0.mk ((IsS91.box hbox (by rw [hg]; exact bsz bl_ : w.heap.size ≤ gb428) : IsS91 w w6 gb428 (⟨#[]⟩ : ByteArray))); clear BK427; clear HB; have BK427 := n0_; have HB := n1_; have BK428 := n2_; have GW428 := n3_; have GE428 := n4_; have NB427_428 := n5_; have NB428_427 := n6_; have HI428 := n7_; clear n0_ n1_ n2_ n3_ n4_ n5_ n6_ n7_; clear hb hbox hg))
  have n0_ := Aside0.mk (kdw BK427.out)
  have n1_ := Aside0.mk (IsS91.drew HI428.out)
  have n2_ := Aside0.mk (bd1 HB.out)
  clear BK427
  clear HI428
  clear HB
  have BK427 := n0_
  have HI428 := n1_
  have HB := n2_
  clear n0_ n1_ n2_
  refine start_ (n := 13) (S := fun w' => True) (ds := []) #[false,false,false,false,false,false,false,false,false,false,false,false,false] (by kernel_rfl) rfl rfl trivial (fun hHeld => ?_); refine with_tabW value_State_Text.tab2 value_State_Text.bits2 (fun HT_ HW_ => ?_)
  generalize w6.drew = w7 at BK427 HI428 HB hHeld ⊢
  refine pure_ (i := 0) (N := some 6) (v := ?_) (a' := ?_) (bA 13 1) rfl rfl (any_of HT_.out (by kernel_rfl)) (fun _ _ _ h => h) (Or.inl ⟨by rfl, ?_⟩) ?_ ?_
  rotate_left; (intro w'; go_simp; with_reducible rfl); rotate_left; (simp only [Act.put, List.setIfInBounds_toArray, List.set_cons_zero, List.set_cons_succ, i64_w, i32_w]; rfl)
  refine pure_ (i := 4) (N := some 10) (v := ?_) (a' := ?_) (bA 13 17) rfl rfl (any_of HT_.out (by kernel_rfl)) (fun _ _ _ h => h) (Or.inl ⟨by rfl, ?_⟩) ?_ ?_
  rotate_left; (intro w'; go_simp; with_reducible rfl); rotate_left; (simp only [Act.put, List.setIfInBounds_toArray, List.set_cons_zero, List.set_cons_succ, i64_w, i32_w]; rfl)
  refine pure_ (i := 8) (N := some 14) (v := ?_) (a' := ?_) (bA 13 273) rfl rfl (any_of HT_.out (by kernel_rfl)) (fun _ _ _ h => h) (Or.inl ⟨by rfl, ?_⟩) ?_ ?_
  rotate_left; (intro w'; go_simp; with_reducible rfl); rotate_left; (simp only [Act.put, List.setIfInBounds_toArray, List.set_cons_zero, List.set_cons_succ, i64_w, i32_w]; rfl)
  refine inv_at [1, 2, 3, 5, 6, 7, 9, 10, 11, 12] (fun a0_ b a w' => ∃ (v430 : Value) (v434 : Value) (v438 : Value), a = putSel a0_ b [(1, 7, .int .i64 a0_0), (2, 8, v430), (3, 9, .pointer (some ⟨gb428, 0, none⟩)), (5, 11, .int .i64 a0_1), (6, 12, v434), (7, 13, .pointer (some ⟨gb428, 0, none⟩)), (9, 15, .slice A0_2 l0_2.length c0_2), (10, 16, .int .i64 (l0_2.length : Int)), (11, 17, v438), (12, 18, .pointer (some ⟨gb428, 0, none⟩))] ∧ (w'.heap[gb427]? = some (.cells #[.int .i64 a0_0, .int .i64 a0_1, .slice A0_2 l0_2.length c0_2] 24 (0, 0))) ∧ (b 3 = false → IsS91 w w' gb428 (⟨#[]⟩ : ByteArray)) ∧ (Below w.heap.size w w') ∧ (b 2 = true → Kd.R (Kd.int .i64) 3 w' w.heap.size (fun _ => True) v430 y429) ∧ (b 3 = true → b 7 = false → IsS91 w w' gb428 t432) ∧ (b 6 = true → Kd.R (Kd.int .i64) 2 w' w.heap.size (fun _ => True) v434 y433) ∧ (b 7 = true → b 12 = false → IsS91 w w' gb428 t436) ∧ (b 11 = true → Kd.R (Kd.int .i64) 3 w' w.heap.size (fun _ => True) v438 y437) ∧ (b 12 = true → IsS91 w w' gb428 t440)) HT_.out HW_.out (by kernel_rfl) (by kernel_rfl) ?_ ?_ ?_
  · exact ⟨.bool false, .bool false, .bool false, by simp only [putSel, Bool.false_eq_true, if_false], BK427.out, fun _ => HI428.out, HB.out, fun h_ => absurd h_ (by decide), fun h_ => absurd h_ (by decide), fun h_ => absurd h_ (by decide), fun h_ => absurd h_ (by decide), fun h_ => absurd h_ (by decide), fun h_ => absurd h_ (by decide)⟩
  · skip
    clear BK427 HB HI428
    refine steps_cons ?_ ?_
    · rintro b a w' ⟨v430, v434, v438, ha, Q_BK427, Q_HI428, Q_HB, Q_HO431, Q_HI428_e3, Q_HO435, Q_HI428_e7, Q_HO439, Q_HI428_e12⟩ hb_ hon hoff
      refine ⟨_, rfl, fun K hK => ?_⟩
      have e6 : a.tmps[6]? = some (.pointer (some ⟨gb427, 0, none⟩)) := by rw [ha]; exact (putSel_off rfl).trans rfl
      replace ha := Aside0.mk ha
      have BK427 := Aside0.mk Q_BK427
      have HI428 := Aside0.mk (Q_HI428 (hoff 3 (by kernel_rfl)))
      have HB := Aside0.mk Q_HB
      have hc0_ : w'.cell? ⟨gb427, 0, none⟩ = some (.int .i64 a0_0) := (kcl BK427.out 0).trans rfl
      have hc1_ : w'.cell? ⟨gb427, 1, none⟩ = some (.int .i64 a0_1) := (kcl BK427.out 1).trans rfl
      have hc2_ : w'.cell? ⟨gb427, 2, none⟩ = some (.slice A0_2 l0_2.length c0_2) := (kcl BK427.out 2).trans rfl
      refine value_ (w1 := w') (v := .int .i64 a0_0) (by rfl) rfl ?_ ?_
      · go_simp
        (try simp only [i64_w])
        try rfl
      refine hK.out _ _ ⟨v430, v434, v438, (by rw [ha.out]; exact putSel_upk 0 hb_ rfl rfl rfl), Q_BK427, Q_HI428, Q_HB, fun h0_ => absurd ((hoff 2 (by kernel_rfl)).symm.trans h0_) (by decide), fun h0_ _ => absurd ((hoff 3 (by kernel_rfl)).symm.trans h0_) (by decide), Q_HO435, fun h0_ _ => absurd ((hoff 7 (by kernel_rfl)).symm.trans h0_) (by decide), Q_HO439, fun h0_ => absurd ((hoff 12 (by kernel_rfl)).symm.trans h0_) (by decide)⟩
    refine steps_cons ?_ ?_
    · rintro b a w' ⟨v430, v434, v438, ha, Q_BK427, Q_HI428, Q_HB, Q_HO431, Q_HI428_e3, Q_HO435, Q_HI428_e7, Q_HO439, Q_HI428_e12⟩ hb_ hon hoff
      refine ⟨_, rfl, fun K hK => ?_⟩
      have e7 : a.tmps[7]? = some (.int .i64 a0_0) := by rw [ha]; exact putSel_on (e := (1, 7, .int .i64 a0_0)) 0 rfl rfl (hon 1 (by kernel_rfl)) rfl
      replace ha := Aside0.mk ha
      have BK427 := Aside0.mk Q_BK427
      have HI428 := Aside0.mk (Q_HI428 (hoff 3 (by kernel_rfl)))
      have HB := Aside0.mk Q_HB
      refine Kd.R_lit_step (Kd.int .i64) _ 3 ?hg (N := 8) ?hd (xs := ([a0_0] : List Int)) (inner := [.int .i64 a0_0]) (ok := fun _ => True) (okp := fun _ => True) ?hr ?hp (fun _ hk => hk) trivial (Below.refl _ _) (Nat.le_refl _) (by simp) ?_; (case hd => rfl); (case hg => rfl); (case hr => first | (go_simp; done) | (go_simp; rfl)); (case hp => exact (Reps.one (show Kd.M (Kd.int .i64) _ _ _ a0_0 [.int .i64 a0_0] from rfl) (Reps.none _ _)))
      intro v430 w8 ho9 hb hg_ hnew_
      clear hg_ hnew_
      (first | rw [← Ny429.out] at ho9 | (simp only [Int.reduceToNat] at ho9; rw [← Ny429.out] at ho9))
      have n0_ := Aside0.mk (Kd.R_lower ho9 (bsz (by repeat (first | (with_reducible first | exact HB.out | apply bal | apply bdn | apply bd1 | refine bst ?_ (IsS91.ge HI428.out) | refine bst ?_ GE427.out) | exact HB.out))))
      have n1_ := Aside0.mk (kbl (g := gb427) (o := .cells #[.int .i64 a0_0, .int .i64 a0_1, .slice A0_2 l0_2.length c0_2] 24 (0, 0)) bk_ hb)
      have n2_ := Aside0.mk (IsS91.below (by repeat (first | (with_reducible first | exact HI428.out | apply IsS91.alloc | apply IsS91.drewN | apply IsS91.drew | apply IsS91.set_0 | refine IsS91.farT (p := ⟨gb427, _, none⟩) (t2 := 24) ?_ ?_ (by decide) (by decide) _ | exact OutT.mk BK427.out | refine OutT.set ?_ _ _ _) | exact HI428.out)) hb)
      have n3_ := Aside0.mk (bsp (by repeat (first | (with_reducible first | exact HB.out | apply bal | apply bdn | apply bd1 | refine bst ?_ (IsS91.ge HI428.out) | refine bst ?_ GE427.out) | exact HB.out)) hb)
      have z_HO435 := fun (h0_ : b 6 = true) => (show Kd.R (Kd.int .i64) 2 w8 w.heap.size (fun _ => True) v434 y433 from by first | exact (Kd.R_below (by (with_reducible repeat (first | apply Kd.R_alloc | apply Kd.R_drewN | apply Kd.R_drew)); exact (Q_HO435 h0_)) hb) | exact Kd.R_mono (Kd.R_below (by (with_reducible repeat (first | apply Kd.R_alloc | apply Kd.R_drewN | apply Kd.R_drew)); exact (Q_HO435 h0_)) hb) (fun _ h_ => by first | trivial | exact h_ | exact h_.1))
      have z_HO439 := fun (h0_ : b 11 = true) => (show Kd.R (Kd.int .i64) 3 w8 w.heap.size (fun _ => True) v438 y437 from by first | exact (Kd.R_elder' (by (with_reducible repeat (first | apply Kd.R_alloc | apply Kd.R_drewN | apply Kd.R_drew)); exact (Q_HO439 h0_)) (Kd.R_base ho9) hb) | exact Kd.R_mono (Kd.R_elder' (by (with_reducible repeat (first | apply Kd.R_alloc | apply Kd.R_drewN | apply Kd.R_drew)); exact (Q_HO439 h0_)) (Kd.R_base ho9) hb) (fun _ h_ => by first | trivial | exact h_ | exact h_.1))
      clear BK427
      clear HI428
      clear HB
      have HO431 := n0_
      have BK427 := n1_
      have HI428 := n2_
      have HB := n3_
      clear n0_ n1_ n2_ n3_
      clear hb ho9
      refine hK.out _ _ ⟨v430, v434, v438, (by rw [ha.out]; exact putSel_upk 1 hb_ rfl rfl rfl), bk_, fun _ => (by repeat (first | (with_reducible first | exact HI428.out | apply IsS91.alloc | apply IsS91.drewN | apply IsS91.drew | apply IsS91.set_0 | refine IsS91.farT (p := ⟨gb427, _, none⟩) (t2 := 24) ?_ ?_ (by decide) (by decide) _ | exact OutT.mk BK427.out | refine OutT.set ?_ _ _ _) | exact HI428.out)), (by repeat (first | (with_reducible first | exact HB.out | apply bal | apply bdn | apply bd1 | refine bst ?_ (IsS91.ge HI428.out) | refine bst ?_ GE427.out) | exact HB.out)), fun _ => (by (with_reducible repeat (first | apply Kd.R_alloc | apply Kd.R_drewN | apply Kd.R_drew)); exact HO431.out), fun h0_ _ => absurd ((hoff 3 (by kernel_rfl)).symm.trans h0_) (by decide), z_HO435, fun h0_ _ => absurd ((hoff 7 (by kernel_rfl)).symm.trans h0_) (by decide), z_HO439, fun h0_ => absurd ((hoff 12 (by kernel_rfl)).symm.trans h0_) (by decide)⟩
    refine steps_cons ?_ ?_
    · rintro b a w' ⟨v430, v434, v438, ha, Q_BK427, Q_HI428, Q_HB, Q_HO431, Q_HI428_e3, Q_HO435, Q_HI428_e7, Q_HO439, Q_HI428_e12⟩ hb_ hon hoff
      refine ⟨_, rfl, fun K hK => ?_⟩
      have e3 : a.tmps[3]? = some (.pointer (some ⟨gb428, 0, none⟩)) := by rw [ha]; exact (putSel_off rfl).trans rfl
      have e8 : a.tmps[8]? = some (v430) := by rw [ha]; exact putSel_on (e := (2, 8, v430)) 1 rfl rfl (hon 2 (by kernel_rfl)) rfl
      replace ha := Aside0.mk ha
      have BK427 := Aside0.mk Q_BK427
      have HI428 := Aside0.mk (Q_HI428 hb_)
      have HB := Aside0.mk Q_HB
      have HO431 := Aside0.mk (Q_HO431 (hon 2 (by kernel_rfl)))
      obtain ⟨Ao11, co11, eo11⟩ := Kd.R_slice HO431.out
      (first | subst eo11 | (injection eo11 with f1_ f2_ f3_; have f4_ := f1_.symm; have f5_ := f3_.symm; clear f1_ f2_ f3_; subst f4_; subst f5_))
      refine goes_ Try.func41 (by kernel_rfl) rfl #[.pointer (some ⟨gb428, 0, none⟩), .slice Ao11 y429.length co11] (by rfl) rfl rfl (by (try simp only [List.map_toArray, List.map_cons, List.map_nil]); first | done | rfl | (simp only [List.length_drop, List.length_take]; rfl) | (simp only [Act.eval, Array.getD_eq_getD_getElem?, Option.getD_some, *]; done) | (simp only [Array.mk.injEq, List.cons.injEq, Value.int.injEq, true_and, and_true]; first | omega | (simp [IntKind.wrap, IntKind.bits, IntKind.signed]; omega))) ?_
      with_reducible refine (codec_Out_N.calls gb428 (⟨#[]⟩ : ByteArray) _ _ y429 t432 w _ ?side1 ?side2 ?side3 ?side4 ?side5 A2.out).mono ?_
      (case side1 => repeat (first | (with_reducible first | exact HI428.out | apply IsS91.alloc | apply IsS91.drewN | apply IsS91.drew | apply IsS91.set_0 | refine IsS91.farT (p := ⟨gb427, _, none⟩) (t2 := 24) ?_ ?_ (by decide) (by decide) _ | exact OutT.mk BK427.out | refine OutT.set ?_ _ _ _) | exact HI428.out))
      (case side2 => repeat (first | (with_reducible first | exact HB.out | apply bal | apply bdn | apply bd1 | refine bst ?_ (IsS91.ge HI428.out) | refine bst ?_ GE427.out) | exact HB.out))
      (case side3 => repeat (first | exact (Kd.R_reads' HO431.out).2.2 | (with_reducible refine Kd.C_alloc ?_ _) | (with_reducible refine Kd.C_drewN ?_ _) | (with_reducible refine Kd.C_drew ?_)))
      (case side4 => exact (Kd.R_reads' HO431.out).2.1)
      (case side5 => exact fun W_ hk_ => (Kd.R_reads' (KeepT.R (by (with_reducible repeat (first | apply Kd.R_alloc | apply Kd.R_drewN | apply Kd.R_drew)); exact HO431.out) hk_ (by decide))).2.2)
      rintro e w12 ⟨rfl, hi, hb, hk⟩
      refine ⟨_, rfl, ?_⟩
      have n0_ := Aside0.mk (KeepT.oblk (g := gb427) (o := .cells #[.int .i64 a0_0, .int .i64 a0_1, .slice A0_2 l0_2.length c0_2] 24 (0, 0)) bk_ hk (by intro _ _ _ h_; cases h_; decide))
      have n1_ := Aside0.mk (KeepT.R (by (with_reducible repeat (first | apply Kd.R_alloc | apply Kd.R_drewN | apply Kd.R_drew)); exact HO431.out) hk (by decide))
      have n2_ := Aside0.mk (hb)
      have n3_ := Aside0.mk (hi)
      have z_HO435 := fun (h0_ : b 6 = true) => (show Kd.R (Kd.int .i64) 2 w12 w.heap.size (fun _ => True) v434 y433 from by first | exact (KeepT.R (by (with_reducible repeat (first | apply Kd.R_alloc | apply Kd.R_drewN | apply Kd.R_drew)); exact (Q_HO435 h0_)) hk (by decide)) | exact Kd.R_mono (KeepT.R (by (with_reducible repeat (first | apply Kd.R_alloc | apply Kd.R_drewN | apply Kd.R_drew)); exact (Q_HO435 h0_)) hk (by decide)) (fun _ h_ => by first | trivial | exact h_ | exact h_.1))
      have z_HO439 := fun (h0_ : b 11 = true) => (show Kd.R (Kd.int .i64) 3 w12 w.heap.size (fun _ => True) v438 y437 from by first | exact (KeepT.R (by (with_reducible repeat (first | apply Kd.R_alloc | apply Kd.R_drewN | apply Kd.R_drew)); exact (Q_HO439 h0_)) hk (by decide)) | exact Kd.R_mono (KeepT.R (by (with_reducible repeat (first | apply Kd.R_alloc | apply Kd.R_drewN | apply Kd.R_drew)); exact (Q_HO439 h0_)) hk (by decide)) (fun _ h_ => by first | trivial | exact h_ | exact h_.1))
      clear BK427
      clear HO431
      clear HB
      clear HI428
      have BK427 := n0_
      have HO431 := n1_
      have HB := n2_
      have HI428 := n3_
      clear n0_ n1_ n2_ n3_
      (try clear hb)
      (try clear hb2)
      (try clear hk)
      (try clear hi)
      refine hK.out _ _ ⟨.slice Ao11 y429.length co11, v434, v438, (by rw [ha.out]; exact putSel_upk 2 hb_ rfl rfl rfl), bk_, fun h0_ => absurd ((up_self b 3).symm.trans h0_) (by decide), (by repeat (first | (with_reducible first | exact HB.out | apply bal | apply bdn | apply bd1 | refine bst ?_ (IsS91.ge HI428.out) | refine bst ?_ GE427.out) | exact HB.out)), fun _ => (by (with_reducible repeat (first | apply Kd.R_alloc | apply Kd.R_drewN | apply Kd.R_drew)); exact HO431.out), fun _ _ => (by repeat (first | (with_reducible first | exact HI428.out | apply IsS91.alloc | apply IsS91.drewN | apply IsS91.drew | apply IsS91.set_0 | refine IsS91.farT (p := ⟨gb427, _, none⟩) (t2 := 24) ?_ ?_ (by decide) (by decide) _ | exact OutT.mk BK427.out | refine OutT.set ?_ _ _ _) | exact HI428.out)), z_HO435, fun h0_ _ => absurd ((hoff 7 (by kernel_rfl)).symm.trans h0_) (by decide), z_HO439, fun h0_ => absurd ((hoff 12 (by kernel_rfl)).symm.trans h0_) (by decide)⟩
    refine steps_cons ?_ ?_
    · rintro b a w' ⟨v430, v434, v438, ha, Q_BK427, Q_HI428, Q_HB, Q_HO431, Q_HI428_e3, Q_HO435, Q_HI428_e7, Q_HO439, Q_HI428_e12⟩ hb_ hon hoff
      refine ⟨_, rfl, fun K hK => ?_⟩
      have e10 : a.tmps[10]? = some (.pointer (some ⟨gb427, 1, none⟩)) := by rw [ha]; exact (putSel_off rfl).trans rfl
      replace ha := Aside0.mk ha
      have BK427 := Aside0.mk Q_BK427
      have HB := Aside0.mk Q_HB
      have hc0_ : w'.cell? ⟨gb427, 0, none⟩ = some (.int .i64 a0_0) := (kcl BK427.out 0).trans rfl
      have hc1_ : w'.cell? ⟨gb427, 1, none⟩ = some (.int .i64 a0_1) := (kcl BK427.out 1).trans rfl
      have hc2_ : w'.cell? ⟨gb427, 2, none⟩ = some (.slice A0_2 l0_2.length c0_2) := (kcl BK427.out 2).trans rfl
      refine value_ (w1 := w') (v := .int .i64 a0_1) (by rfl) rfl ?_ ?_
      · go_simp
        (try simp only [i64_w])
        try rfl
      refine hK.out _ _ ⟨v430, v434, v438, (by rw [ha.out]; exact putSel_upk 3 hb_ rfl rfl rfl), Q_BK427, Q_HI428, Q_HB, Q_HO431, Q_HI428_e3, fun h0_ => absurd ((hoff 6 (by kernel_rfl)).symm.trans h0_) (by decide), fun h0_ _ => absurd ((hoff 7 (by kernel_rfl)).symm.trans h0_) (by decide), Q_HO439, fun h0_ => absurd ((hoff 12 (by kernel_rfl)).symm.trans h0_) (by decide)⟩
    refine steps_cons ?_ ?_
    · rintro b a w' ⟨v430, v434, v438, ha, Q_BK427, Q_HI428, Q_HB, Q_HO431, Q_HI428_e3, Q_HO435, Q_HI428_e7, Q_HO439, Q_HI428_e12⟩ hb_ hon hoff
      refine ⟨_, rfl, fun K hK => ?_⟩
      have e11 : a.tmps[11]? = some (.int .i64 a0_1) := by rw [ha]; exact putSel_on (e := (5, 11, .int .i64 a0_1)) 3 rfl rfl (hon 5 (by kernel_rfl)) rfl
      replace ha := Aside0.mk ha
      have BK427 := Aside0.mk Q_BK427
      have HB := Aside0.mk Q_HB
      refine Kd.R_lit_step (Kd.int .i64) _ 2 ?hg (N := 12) ?hd (xs := ([a0_1] : List Int)) (inner := [.int .i64 a0_1]) (ok := fun _ => True) (okp := fun _ => True) ?hr ?hp (fun _ hk => hk) trivial (Below.refl _ _) (Nat.le_refl _) (by simp) ?_; (case hd => rfl); (case hg => rfl); (case hr => first | (go_simp; done) | (go_simp; rfl)); (case hp => exact (Reps.one (show Kd.M (Kd.int .i64) _ _ _ a0_1 [.int .i64 a0_1] from rfl) (Reps.none _ _)))
      intro v434 w8 ho9 hb hg_ hnew_
      clear hg_ hnew_
      (first | rw [← Ny433.out] at ho9 | (simp only [Int.reduceToNat] at ho9; rw [← Ny433.out] at ho9))
      have n0_ := Aside0.mk (Kd.R_lower ho9 (bsz bl_))
      have n1_ := Aside0.mk (kbl (g := gb427) (o := .cells #[.int .i64 a0_0, .int .i64 a0_1, .slice A0_2 l0_2.length c0_2] 24 (0, 0)) bk_ hb)
      have n3_ := Aside0.mk (bsp bl_ hb)
      have z_HI428 := fun (h0_ : b 3 = false) => (show IsS91 w w8 gb428 (⟨#[]⟩ : ByteArray) from by first | exact (IsS91.below (by repeat (first | (with_reducible first | exact (Q_HI428 h0_) | apply IsS91.alloc | apply IsS91.drewN | apply IsS91.drew | apply IsS91.set_0 | refine IsS91.farT (p := ⟨gb427, _, none⟩) (t2 := 24) ?_ ?_ (by decide) (by decide) _ | exact OutT.mk BK427.out | refine OutT.set ?_ _ _ _) | exact (Q_HI428 h0_))) hb))
      have z_HO431 := fun (h0_ : b 2 = true) => (show Kd.R (Kd.int .i64) 3 w8 w.heap.size (fun _ => True) v430 y429 from by first | exact (Kd.R_below (by (with_reducible repeat (first | apply Kd.R_alloc | apply Kd.R_drewN | apply Kd.R_drew)); exact (Q_HO431 h0_)) hb) | exact Kd.R_mono (Kd.R_below (by (with_reducible repeat (first | apply Kd.R_alloc | apply Kd.R_drewN | apply Kd.R_drew)); exact (Q_HO431 h0_)) hb) (fun _ h_ => by first | trivial | exact h_ | exact h_.1))
      have z_HI428_e3 := fun (h0_ : b 3 = true) (h1_ : b 7 = false) => (show IsS91 w w8 gb428 t432 from by first | exact (IsS91.below (by repeat (first | (with_reducible first | exact (Q_HI428_e3 h0_ h1_) | apply IsS91.alloc | apply IsS91.drewN | apply IsS91.drew | apply IsS91.set_0 | refine IsS91.farT (p := ⟨gb427, _, none⟩) (t2 := 24) ?_ ?_ (by decide) (by decide) _ | exact OutT.mk BK427.out | refine OutT.set ?_ _ _ _) | exact (Q_HI428_e3 h0_ h1_))) hb))
      have z_HO439 := fun (h0_ : b 11 = true) => (show Kd.R (Kd.int .i64) 3 w8 w.heap.size (fun _ => True) v438 y437 from by first | exact (Kd.R_below (by (with_reducible repeat (first | apply Kd.R_alloc | apply Kd.R_drewN | apply Kd.R_drew)); exact (Q_HO439 h0_)) hb) | exact Kd.R_mono (Kd.R_below (by (with_reducible repeat (first | apply Kd.R_alloc | apply Kd.R_drewN | apply Kd.R_drew)); exact (Q_HO439 h0_)) hb) (fun _ h_ => by first | trivial | exact h_ | exact h_.1))
      clear BK427
      clear HB
      have HO435 := n0_
      have BK427 := n1_
      have HB := n3_
      clear n0_ n1_ n3_
      clear hb ho9
      refine hK.out _ _ ⟨v430, v434, v438, (by rw [ha.out]; exact putSel_upk 4 hb_ rfl rfl rfl), bk_, z_HI428, bl_, z_HO431, z_HI428_e3, fun _ => (by (with_reducible repeat (first | apply Kd.R_alloc | apply Kd.R_drewN | apply Kd.R_drew)); exact HO435.out), fun h0_ _ => absurd ((hoff 7 (by kernel_rfl)).symm.trans h0_) (by decide), z_HO439, fun h0_ => absurd ((hoff 12 (by kernel_rfl)).symm.trans h0_) (by decide)⟩
    refine steps_cons ?_ ?_
    · rintro b a w' ⟨v430, v434, v438, ha, Q_BK427, Q_HI428, Q_HB, Q_HO431, Q_HI428_e3, Q_HO435, Q_HI428_e7, Q_HO439, Q_HI428_e12⟩ hb_ hon hoff
      refine ⟨_, rfl, fun K hK => ?_⟩
      have e9 : a.tmps[9]? = some (.pointer (some ⟨gb428, 0, none⟩)) := by rw [ha]; exact putSel_on (e := (3, 9, .pointer (some ⟨gb428, 0, none⟩))) 2 rfl rfl (hon 3 (by kernel_rfl)) rfl
      have e12 : a.tmps[12]? = some (v434) := by rw [ha]; exact putSel_on (e := (6, 12, v434)) 4 rfl rfl (hon 6 (by kernel_rfl)) rfl
      replace ha := Aside0.mk ha
      have BK427 := Aside0.mk Q_BK427
      have HB := Aside0.mk Q_HB
      have HO431 := Aside0.mk (Q_HO431 (hon 2 (by kernel_rfl)))
      have HI428 := Aside0.mk (Q_HI428_e3 (hon 3 (by kernel_rfl)) hb_)
      have HO435 := Aside0.mk (Q_HO435 (hon 6 (by kernel_rfl)))
      obtain ⟨Ao15, co15, eo15⟩ := Kd.R_slice HO435.out
      (first | subst eo15 | (injection eo15 with f1_ f2_ f3_; have f4_ := f1_.symm; have f5_ := f3_.symm; clear f1_ f2_ f3_; subst f4_; subst f5_))
      refine goes_ Try.func42 (by kernel_rfl) rfl #[.pointer (some ⟨gb428, 0, none⟩), .slice Ao15 y433.length co15] (by rfl) rfl rfl (by (try simp only [List.map_toArray, List.map_cons, List.map_nil]); first | done | rfl | (simp only [List.length_drop, List.length_take]; rfl) | (simp only [Act.eval, Array.getD_eq_getD_getElem?, Option.getD_some, *]; done) | (simp only [Array.mk.injEq, List.cons.injEq, Value.int.injEq, true_and, and_true]; first | omega | (simp [IntKind.wrap, IntKind.bits, IntKind.signed]; omega))) ?_
      with_reducible refine (codec_Out_I.calls gb428 t432 _ _ y433 t436 w _ ?side1 ?side2 ?side3 ?side4 ?side5 A3.out).mono ?_
      (case side1 => repeat (first | (with_reducible first | exact HI428.out | apply IsS91.alloc | apply IsS91.drewN | apply IsS91.drew | apply IsS91.set_0 | refine IsS91.farT (p := ⟨gb427, _, none⟩) (t2 := 24) ?_ ?_ (by decide) (by decide) _ | exact OutT.mk BK427.out | refine OutT.set ?_ _ _ _) | exact HI428.out))
      (case side2 => repeat (first | (with_reducible first | exact HB.out | apply bal | apply bdn | apply bd1 | refine bst ?_ (IsS91.ge HI428.out) | refine bst ?_ GE427.out) | exact HB.out))
      (case side3 => repeat (first | exact (Kd.R_reads' HO435.out).2.2 | (with_reducible refine Kd.C_alloc ?_ _) | (with_reducible refine Kd.C_drewN ?_ _) | (with_reducible refine Kd.C_drew ?_)))
      (case side4 => exact (Kd.R_reads' HO435.out).2.1)
      (case side5 => exact fun W_ hk_ => (Kd.R_reads' (KeepT.R (by (with_reducible repeat (first | apply Kd.R_alloc | apply Kd.R_drewN | apply Kd.R_drew)); exact HO435.out) hk_ (by decide))).2.2)
      rintro e w16 ⟨rfl, hi, hb, hk⟩
      refine ⟨_, rfl, ?_⟩
      have n0_ := Aside0.mk (KeepT.oblk (g := gb427) (o := .cells #[.int .i64 a0_0, .int .i64 a0_1, .slice A0_2 l0_2.length c0_2] 24 (0, 0)) bk_ hk (by intro _ _ _ h_; cases h_; decide))
      have n1_ := Aside0.mk (KeepT.R (by (with_reducible repeat (first | apply Kd.R_alloc | apply Kd.R_drewN | apply Kd.R_drew)); exact HO431.out) hk (by decide))
      have n2_ := Aside0.mk (KeepT.R (by (with_reducible repeat (first | apply Kd.R_alloc | apply Kd.R_drewN | apply Kd.R_drew)); exact HO435.out) hk (by decide))
      have n3_ := Aside0.mk (hb)
      have n4_ := Aside0.mk (hi)
      have z_HO439 := fun (h0_ : b 11 = true) => (show Kd.R (Kd.int .i64) 3 w16 w.heap.size (fun _ => True) v438 y437 from by first | exact (KeepT.R (by (with_reducible repeat (first | apply Kd.R_alloc | apply Kd.R_drewN | apply Kd.R_drew)); exact (Q_HO439 h0_)) hk (by decide)) | exact Kd.R_mono (KeepT.R (by (with_reducible repeat (first | apply Kd.R_alloc | apply Kd.R_drewN | apply Kd.R_drew)); exact (Q_HO439 h0_)) hk (by decide)) (fun _ h_ => by first | trivial | exact h_ | exact h_.1))
      clear BK427
      clear HO431
      clear HO435
      clear HB
      clear HI428
      have BK427 := n0_
      have HO431 := n1_
      have HO435 := n2_
      have HB := n3_
      have HI428 := n4_
      clear n0_ n1_ n2_ n3_ n4_
      (try clear hb)
      (try clear hb2)
      (try clear hk)
      (try clear hi)
      refine hK.out _ _ ⟨v430, .slice Ao15 y433.length co15, v438, (by rw [ha.out]; exact putSel_upk 5 hb_ rfl rfl rfl), bk_, fun h0_ => absurd ((hon 3 (by kernel_rfl)).symm.trans h0_) (by decide), (by repeat (first | (with_reducible first | exact HB.out | apply bal | apply bdn | apply bd1 | refine bst ?_ (IsS91.ge HI428.out) | refine bst ?_ GE427.out) | exact HB.out)), fun _ => (by (with_reducible repeat (first | apply Kd.R_alloc | apply Kd.R_drewN | apply Kd.R_drew)); exact HO431.out), fun _ h1_ => absurd ((up_self b 7).symm.trans h1_) (by decide), fun _ => (by (with_reducible repeat (first | apply Kd.R_alloc | apply Kd.R_drewN | apply Kd.R_drew)); exact HO435.out), fun _ _ => (by repeat (first | (with_reducible first | exact HI428.out | apply IsS91.alloc | apply IsS91.drewN | apply IsS91.drew | apply IsS91.set_0 | refine IsS91.farT (p := ⟨gb427, _, none⟩) (t2 := 24) ?_ ?_ (by decide) (by decide) _ | exact OutT.mk BK427.out | refine OutT.set ?_ _ _ _) | exact HI428.out)), z_HO439, fun h0_ => absurd ((hoff 12 (by kernel_rfl)).symm.trans h0_) (by decide)⟩
    refine steps_cons ?_ ?_
    · rintro b a w' ⟨v430, v434, v438, ha, Q_BK427, Q_HI428, Q_HB, Q_HO431, Q_HI428_e3, Q_HO435, Q_HI428_e7, Q_HO439, Q_HI428_e12⟩ hb_ hon hoff
      refine ⟨_, rfl, fun K hK => ?_⟩
      have e14 : a.tmps[14]? = some (.pointer (some ⟨gb427, 2, none⟩)) := by rw [ha]; exact (putSel_off rfl).trans rfl
      replace ha := Aside0.mk ha
      have BK427 := Aside0.mk Q_BK427
      have HB := Aside0.mk Q_HB
      have hc0_ : w'.cell? ⟨gb427, 0, none⟩ = some (.int .i64 a0_0) := (kcl BK427.out 0).trans rfl
      have hc1_ : w'.cell? ⟨gb427, 1, none⟩ = some (.int .i64 a0_1) := (kcl BK427.out 1).trans rfl
      have hc2_ : w'.cell? ⟨gb427, 2, none⟩ = some (.slice A0_2 l0_2.length c0_2) := (kcl BK427.out 2).trans rfl
      refine value_ (w1 := w') (v := .slice A0_2 l0_2.length c0_2) (by rfl) rfl ?_ ?_
      · go_simp
        (try simp only [i64_w])
        try rfl
      refine hK.out _ _ ⟨v430, v434, v438, (by rw [ha.out]; exact putSel_upk 6 hb_ rfl rfl rfl), Q_BK427, Q_HI428, Q_HB, Q_HO431, Q_HI428_e3, Q_HO435, Q_HI428_e7, fun h0_ => absurd ((hoff 11 (by kernel_rfl)).symm.trans h0_) (by decide), fun h0_ => absurd ((hoff 12 (by kernel_rfl)).symm.trans h0_) (by decide)⟩
    refine steps_cons ?_ ?_
    · rintro b a w' ⟨v430, v434, v438, ha, Q_BK427, Q_HI428, Q_HB, Q_HO431, Q_HI428_e3, Q_HO435, Q_HI428_e7, Q_HO439, Q_HI428_e12⟩ hb_ hon hoff
      refine ⟨_, rfl, fun K hK => ?_⟩
      have e15 : a.tmps[15]? = some (.slice A0_2 l0_2.length c0_2) := by rw [ha]; exact putSel_on (e := (9, 15, .slice A0_2 l0_2.length c0_2)) 6 rfl rfl (hon 9 (by kernel_rfl)) rfl
      replace ha := Aside0.mk ha
      have BK427 := Aside0.mk Q_BK427
      have HB := Aside0.mk Q_HB
      refine value_ (w1 := w') (v := .int .i64 (l0_2.length : Int)) (by rfl) rfl ?_ ?_
      · go_simp
        (try simp only [i64_w])
        try rfl
      refine hK.out _ _ ⟨v430, v434, v438, (by rw [ha.out]; exact putSel_upk 7 hb_ rfl rfl rfl), Q_BK427, Q_HI428, Q_HB, Q_HO431, Q_HI428_e3, Q_HO435, Q_HI428_e7, fun h0_ => absurd ((hoff 11 (by kernel_rfl)).symm.trans h0_) (by decide), fun h0_ => absurd ((hoff 12 (by kernel_rfl)).symm.trans h0_) (by decide)⟩
    refine steps_cons ?_ ?_
    · rintro b a w' ⟨v430, v434, v438, ha, Q_BK427, Q_HI428, Q_HB, Q_HO431, Q_HI428_e3, Q_HO435, Q_HI428_e7, Q_HO439, Q_HI428_e12⟩ hb_ hon hoff
      refine ⟨_, rfl, fun K hK => ?_⟩
      have e16 : a.tmps[16]? = some (.int .i64 (l0_2.length : Int)) := by rw [ha]; exact putSel_on (e := (10, 16, .int .i64 (l0_2.length : Int))) 7 rfl rfl (hon 10 (by kernel_rfl)) rfl
      replace ha := Aside0.mk ha
      have BK427 := Aside0.mk Q_BK427
      have HB := Aside0.mk Q_HB
      refine Kd.R_lit_step (Kd.int .i64) _ 3 ?hg (N := 17) ?hd (xs := ([(l0_2.length : Int)] : List Int)) (inner := [.int .i64 (l0_2.length : Int)]) (ok := fun _ => True) (okp := fun _ => True) ?hr ?hp (fun _ hk => hk) trivial (Below.refl _ _) (Nat.le_refl _) (by simp) ?_; (case hd => rfl); (case hg => rfl); (case hr => first | (go_simp; done) | (go_simp; rfl)); (case hp => exact (Reps.one (show Kd.M (Kd.int .i64) _ _ _ (l0_2.length : Int) [.int .i64 (l0_2.length : Int)] from rfl) (Reps.none _ _)))
      intro v438 w8 ho9 hb hg_ hnew_
      clear hg_ hnew_
      (first | rw [← Ny437.out] at ho9 | (simp only [Int.reduceToNat] at ho9; rw [← Ny437.out] at ho9))
      have n0_ := Aside0.mk (Kd.R_lower ho9 (bsz bl_))
      have n1_ := Aside0.mk (kbl (g := gb427) (o := .cells #[.int .i64 a0_0, .int .i64 a0_1, .slice A0_2 l0_2.length c0_2] 24 (0, 0)) bk_ hb)
      have n3_ := Aside0.mk (bsp bl_ hb)
      have z_HI428 := fun (h0_ : b 3 = false) => (show IsS91 w w8 gb428 (⟨#[]⟩ : ByteArray) from by first | exact (IsS91.below (by repeat (first | (with_reducible first | exact (Q_HI428 h0_) | apply IsS91.alloc | apply IsS91.drewN | apply IsS91.drew | apply IsS91.set_0 | refine IsS91.farT (p := ⟨gb427, _, none⟩) (t2 := 24) ?_ ?_ (by decide) (by decide) _ | exact OutT.mk BK427.out | refine OutT.set ?_ _ _ _) | exact (Q_HI428 h0_))) hb))
      have z_HO431 := fun (h0_ : b 2 = true) => (show Kd.R (Kd.int .i64) 3 w8 w.heap.size (fun _ => True) v430 y429 from by first | exact (Kd.R_elder' (by (with_reducible repeat (first | apply Kd.R_alloc | apply Kd.R_drewN | apply Kd.R_drew)); exact (Q_HO431 h0_)) (Kd.R_base ho9) hb) | exact Kd.R_mono (Kd.R_elder' (by (with_reducible repeat (first | apply Kd.R_alloc | apply Kd.R_drewN | apply Kd.R_drew)); exact (Q_HO431 h0_)) (Kd.R_base ho9) hb) (fun _ h_ => by first | trivial | exact h_ | exact h_.1))
      have z_HI428_e3 := fun (h0_ : b 3 = true) (h1_ : b 7 = false) => (show IsS91 w w8 gb428 t432 from by first | exact (IsS91.below (by repeat (first | (with_reducible first | exact (Q_HI428_e3 h0_ h1_) | apply IsS91.alloc | apply IsS91.drewN | apply IsS91.drew | apply IsS91.set_0 | refine IsS91.farT (p := ⟨gb427, _, none⟩) (t2 := 24) ?_ ?_ (by decide) (by decide) _ | exact OutT.mk BK427.out | refine OutT.set ?_ _ _ _) | exact (Q_HI428_e3 h0_ h1_))) hb))
      have z_HO435 := fun (h0_ : b 6 = true) => (show Kd.R (Kd.int .i64) 2 w8 w.heap.size (fun _ => True) v434 y433 from by first | exact (Kd.R_below (by (with_reducible repeat (first | apply Kd.R_alloc | apply Kd.R_drewN | apply Kd.R_drew)); exact (Q_HO435 h0_)) hb) | exact Kd.R_mono (Kd.R_below (by (with_reducible repeat (first | apply Kd.R_alloc | apply Kd.R_drewN | apply Kd.R_drew)); exact (Q_HO435 h0_)) hb) (fun _ h_ => by first | trivial | exact h_ | exact h_.1))
      have z_HI428_e7 := fun (h0_ : b 7 = true) (h1_ : b 12 = false) => (show IsS91 w w8 gb428 t436 from by first | exact (IsS91.below (by repeat (first | (with_reducible first | exact (Q_HI428_e7 h0_ h1_) | apply IsS91.alloc | apply IsS91.drewN | apply IsS91.drew | apply IsS91.set_0 | refine IsS91.farT (p := ⟨gb427, _, none⟩) (t2 := 24) ?_ ?_ (by decide) (by decide) _ | exact OutT.mk BK427.out | refine OutT.set ?_ _ _ _) | exact (Q_HI428_e7 h0_ h1_))) hb))
      clear BK427
      clear HB
      have HO439 := n0_
      have BK427 := n1_
      have HB := n3_
      clear n0_ n1_ n3_
      clear hb ho9
      refine hK.out _ _ ⟨v430, v434, v438, (by rw [ha.out]; exact putSel_upk 8 hb_ rfl rfl rfl), bk_, z_HI428, bl_, z_HO431, z_HI428_e3, z_HO435, z_HI428_e7, fun _ => (by (with_reducible repeat (first | apply Kd.R_alloc | apply Kd.R_drewN | apply Kd.R_drew)); exact HO439.out), fun h0_ => absurd ((hoff 12 (by kernel_rfl)).symm.trans h0_) (by decide)⟩
    refine steps_cons ?_ ?_
    · rintro b a w' ⟨v430, v434, v438, ha, Q_BK427, Q_HI428, Q_HB, Q_HO431, Q_HI428_e3, Q_HO435, Q_HI428_e7, Q_HO439, Q_HI428_e12⟩ hb_ hon hoff
      refine ⟨_, rfl, fun K hK => ?_⟩
      have e13 : a.tmps[13]? = some (.pointer (some ⟨gb428, 0, none⟩)) := by rw [ha]; exact putSel_on (e := (7, 13, .pointer (some ⟨gb428, 0, none⟩))) 5 rfl rfl (hon 7 (by kernel_rfl)) rfl
      have e17 : a.tmps[17]? = some (v438) := by rw [ha]; exact putSel_on (e := (11, 17, v438)) 8 rfl rfl (hon 11 (by kernel_rfl)) rfl
      replace ha := Aside0.mk ha
      have BK427 := Aside0.mk Q_BK427
      have HB := Aside0.mk Q_HB
      have HO431 := Aside0.mk (Q_HO431 (hon 2 (by kernel_rfl)))
      have HO435 := Aside0.mk (Q_HO435 (hon 6 (by kernel_rfl)))
      have HI428 := Aside0.mk (Q_HI428_e7 (hon 7 (by kernel_rfl)) hb_)
      have HO439 := Aside0.mk (Q_HO439 (hon 11 (by kernel_rfl)))
      obtain ⟨Ao19, co19, eo19⟩ := Kd.R_slice HO439.out
      (first | subst eo19 | (injection eo19 with f1_ f2_ f3_; have f4_ := f1_.symm; have f5_ := f3_.symm; clear f1_ f2_ f3_; subst f4_; subst f5_))
      refine goes_ Try.func41 (by kernel_rfl) rfl #[.pointer (some ⟨gb428, 0, none⟩), .slice Ao19 y437.length co19] (by rfl) rfl rfl (by (try simp only [List.map_toArray, List.map_cons, List.map_nil]); first | done | rfl | (simp only [List.length_drop, List.length_take]; rfl) | (simp only [Act.eval, Array.getD_eq_getD_getElem?, Option.getD_some, *]; done) | (simp only [Array.mk.injEq, List.cons.injEq, Value.int.injEq, true_and, and_true]; first | omega | (simp [IntKind.wrap, IntKind.bits, IntKind.signed]; omega))) ?_
      with_reducible refine (codec_Out_N.calls gb428 t436 _ _ y437 t440 w _ ?side1 ?side2 ?side3 ?side4 ?side5 A4.out).mono ?_
      (case side1 => repeat (first | (with_reducible first | exact HI428.out | apply IsS91.alloc | apply IsS91.drewN | apply IsS91.drew | apply IsS91.set_0 | refine IsS91.farT (p := ⟨gb427, _, none⟩) (t2 := 24) ?_ ?_ (by decide) (by decide) _ | exact OutT.mk BK427.out | refine OutT.set ?_ _ _ _) | exact HI428.out))
      (case side2 => repeat (first | (with_reducible first | exact HB.out | apply bal | apply bdn | apply bd1 | refine bst ?_ (IsS91.ge HI428.out) | refine bst ?_ GE427.out) | exact HB.out))
      (case side3 => repeat (first | exact (Kd.R_reads' HO439.out).2.2 | (with_reducible refine Kd.C_alloc ?_ _) | (with_reducible refine Kd.C_drewN ?_ _) | (with_reducible refine Kd.C_drew ?_)))
      (case side4 => exact (Kd.R_reads' HO439.out).2.1)
      (case side5 => exact fun W_ hk_ => (Kd.R_reads' (KeepT.R (by (with_reducible repeat (first | apply Kd.R_alloc | apply Kd.R_drewN | apply Kd.R_drew)); exact HO439.out) hk_ (by decide))).2.2)
      rintro e w20 ⟨rfl, hi, hb, hk⟩
      refine ⟨_, rfl, ?_⟩
      have n0_ := Aside0.mk (KeepT.oblk (g := gb427) (o := .cells #[.int .i64 a0_0, .int .i64 a0_1, .slice A0_2 l0_2.length c0_2] 24 (0, 0)) bk_ hk (by intro _ _ _ h_; cases h_; decide))
      have n1_ := Aside0.mk (KeepT.R (by (with_reducible repeat (first | apply Kd.R_alloc | apply Kd.R_drewN | apply Kd.R_drew)); exact HO431.out) hk (by decide))
      have n2_ := Aside0.mk (KeepT.R (by (with_reducible repeat (first | apply Kd.R_alloc | apply Kd.R_drewN | apply Kd.R_drew)); exact HO435.out) hk (by decide))
      have n3_ := Aside0.mk (KeepT.R (by (with_reducible repeat (first | apply Kd.R_alloc | apply Kd.R_drewN | apply Kd.R_drew)); exact HO439.out) hk (by decide))
      have n4_ := Aside0.mk (hb)
      have n5_ := Aside0.mk (hi)
      clear BK427
      clear HO431
      clear HO435
      clear HO439
      clear HB
      clear HI428
      have BK427 := n0_
      have HO431 := n1_
      have HO435 := n2_
      have HO439 := n3_
      have HB := n4_
      have HI428 := n5_
      clear n0_ n1_ n2_ n3_ n4_ n5_
      (try clear hb)
      (try clear hb2)
      (try clear hk)
      (try clear hi)
      refine hK.out _ _ ⟨v430, v434, .slice Ao19 y437.length co19, (by rw [ha.out]; exact putSel_upk 9 hb_ rfl rfl rfl), bk_, fun h0_ => absurd ((hon 3 (by kernel_rfl)).symm.trans h0_) (by decide), (by repeat (first | (with_reducible first | exact HB.out | apply bal | apply bdn | apply bd1 | refine bst ?_ (IsS91.ge HI428.out) | refine bst ?_ GE427.out) | exact HB.out)), fun _ => (by (with_reducible repeat (first | apply Kd.R_alloc | apply Kd.R_drewN | apply Kd.R_drew)); exact HO431.out), fun _ h1_ => absurd ((hon 7 (by kernel_rfl)).symm.trans h1_) (by decide), fun _ => (by (with_reducible repeat (first | apply Kd.R_alloc | apply Kd.R_drewN | apply Kd.R_drew)); exact HO435.out), fun _ h1_ => absurd ((up_self b 12).symm.trans h1_) (by decide), fun _ => (by (with_reducible repeat (first | apply Kd.R_alloc | apply Kd.R_drewN | apply Kd.R_drew)); exact HO439.out), fun _ => (by repeat (first | (with_reducible first | exact HI428.out | apply IsS91.alloc | apply IsS91.drewN | apply IsS91.drew | apply IsS91.set_0 | refine IsS91.farT (p := ⟨gb427, _, none⟩) (t2 := 24) ?_ ?_ (by decide) (by decide) _ | exact OutT.mk BK427.out | refine OutT.set ?_ _ _ _) | exact HI428.out))⟩
    exact steps_nil
  rintro b a w20 hall ⟨v430, v434, v438, ha, Q_BK427, Q_HI428, Q_HB, Q_HO431, Q_HI428_e3, Q_HO435, Q_HI428_e7, Q_HO439, Q_HI428_e12⟩
  clear BK427 HB HI428
  have hb1_ := hall 1 (by kernel_rfl)
  have hb2_ := hall 2 (by kernel_rfl)
  have hb3_ := hall 3 (by kernel_rfl)
  have hb5_ := hall 5 (by kernel_rfl)
  have hb6_ := hall 6 (by kernel_rfl)
  have hb7_ := hall 7 (by kernel_rfl)
  have hb9_ := hall 9 (by kernel_rfl)
  have hb10_ := hall 10 (by kernel_rfl)
  have hb11_ := hall 11 (by kernel_rfl)
  have hb12_ := hall 12 (by kernel_rfl)
  subst ha
  simp only [putSel, hb1_, hb2_, hb3_, hb5_, hb6_, hb7_, hb9_, hb10_, hb11_, hb12_, if_true, Act.put, List.setIfInBounds_toArray, List.set_cons_zero, List.set_cons_succ]
  have BK427 := Aside0.mk Q_BK427
  clear Q_BK427
  clear Q_HI428
  have HB := Aside0.mk Q_HB
  clear Q_HB
  have HO431 := Aside0.mk (Q_HO431 hb2_)
  clear Q_HO431
  clear Q_HI428_e3
  have HO435 := Aside0.mk (Q_HO435 hb6_)
  clear Q_HO435
  clear Q_HI428_e7
  have HO439 := Aside0.mk (Q_HO439 hb11_)
  clear Q_HO439
  have HI428 := Aside0.mk (Q_HI428_e12 hb12_)
  clear Q_HI428_e12
  clear hall hb1_ hb2_ hb3_ hb5_ hb6_ hb7_ hb9_ hb10_ hb11_ hb12_
  have hnb21 := NB427_428.out
  have hnc21 := NB428_427.out
  have hcz22 := bc3 BK427.out
  try go_wp2
  go_loopg [22] k (fun kq v22 w' => ∃ (x22_1 : Int) (x429000_1 : ByteArray), v22 = .int .i64 x22_1 ∧ Aside0 (value_State_Text.l0 kq l0_2 (l0_2.length : Int) x22_1 x429000_1 = some r) ∧ Aside0 (kq ≤ k) ∧ Aside0 (w'.heap[gb427]? = some (.cells #[.int .i64 a0_0, .int .i64 a0_1, (.slice A0_2 l0_2.length c0_2)] 24 (0, 0))) ∧ Aside0 (IsS91 w w' gb428 x429000_1) ∧ Aside0 (Below w.heap.size w w'))
  case atStart => exact ⟨(0), (t440), eqv_, H', ⟨Nat.le_refl _⟩, ⟨bk_⟩, ⟨by repeat (first | (with_reducible first | exact HI428.out | apply IsS91.alloc | apply IsS91.drewN | apply IsS91.drew | apply IsS91.set_0 | refine IsS91.farT (p := ⟨gb427, _, none⟩) (t2 := 24) ?_ ?_ (by decide) (by decide) _ | exact OutT.mk BK427.out | refine OutT.set ?_ _ _ _) | exact HI428.out)⟩, ⟨by repeat (first | (with_reducible first | exact HB.out | apply bal | apply bdn | apply bd1 | refine bst ?_ (IsS91.ge HI428.out) | refine bst ?_ GE427.out) | exact HB.out)⟩⟩
  clear H'
  try clear c1
  try clear c2
  try clear p2
  try clear c4
  try clear c15
  try clear c21
  try clear hcz22
  obtain ⟨x22_1, x429000_1, rfl, HA, HK1, BK427, HI428, HB⟩ := hrel
  cases gk with
  | zero => exact absurd HA.out (by simp [value_State_Text.l0])
  | succ k1 =>
    have H := HA.out
    clear HA
    simp only [value_State_Text.l0] at H
    by_cases c23 : x22_1 < (l0_2.length : Int)
    rotate_left
    · rw [if_neg c23] at H
      have c23b0 : decide (x22_1 < (l0_2.length : Int)) = false := decide_eq_false c23
      clear c23
      replace H := Option.bind_eq_some_iff.mp H
      obtain ⟨⟨t447, t448⟩, A350, H⟩ := H
      replace H : (some t447) = some r := H
      have A35 := Aside0.mk A350
      clear A350
      obtain rfl := Option.some.inj H
      go_wp2_with (first | ((with_reducible refine gcl (f := 44) rfl ?_); refine gl_ (some 33) rfl rfl Try.func44 (by kernel_rfl) rfl #[.pointer (some ⟨gb428, 0, none⟩)] rfl ar_ ?_; (with_reducible refine (codec_Out_Text.calls gb428 x429000_1 t447 t448 w _ ?side1 ?side2 A35.out).mono ?_); (case side1 => repeat (first | (with_reducible first | exact HI428.out | apply IsS91.alloc | apply IsS91.drewN | apply IsS91.drew | apply IsS91.set_0 | refine IsS91.farT (p := ⟨gb427, _, none⟩) (t2 := 24) ?_ ?_ (by decide) (by decide) _ | exact OutT.mk BK427.out | refine OutT.set ?_ _ _ _) | exact HI428.out)); (case side2 => repeat (first | (with_reducible first | exact HB.out | apply bal | apply bdn | apply bd1 | refine bst ?_ (IsS91.ge HI428.out) | refine bst ?_ GE427.out) | exact HB.out)); rintro e w36 ⟨rfl, hi, hb, hk⟩; refine ⟨_, rfl, ?_⟩; have n0_ := Aside0.mk (KeepT.oblk (g := gb427) (o := .cells #[.int .i64 a0_0, .int .i64 a0_1, .slice A0_2 l0_2.length c0_2] 24 (0, 0)) bk_ hk (by intro _ _ _ h_; cases h_; decide)); have n1_ := Aside0.mk (hb); have n2_ := Aside0.mk (hi); clear BK427; clear HB; clear HI428; have BK427 := n0_; have HB := n1_; have HI428 := n2_; clear n0_ n1_ n2_; (try clear hb); (try clear hb2); (try clear hk); (try clear hi)))
      go_ret
      exact ⟨er_, by repeat (first | (with_reducible first | exact HB.out | apply bal | apply bdn | apply bd1 | refine bst ?_ (IsS91.ge HI428.out) | refine bst ?_ GE427.out) | exact HB.out)⟩
    rw [if_pos c23] at H
    have c23b0 : decide (x22_1 < (l0_2.length : Int)) = true := decide_eq_true c23
    clear c23
    by_cases c24 : 0 ≤ x22_1
    rotate_left
    · rw [if_neg c24] at H
      exact absurd H (by simp)
    rw [if_pos c24] at H
    have c24b0 : decide (0 ≤ x22_1) = true := decide_eq_true c24
    clear c24
    by_cases c25 : x22_1 < (l0_2.length : Int)
    rotate_left
    · rw [if_neg c25] at H
      exact absurd H (by simp)
    rw [if_pos c25] at H
    have c25b0 : decide (x22_1 < (l0_2.length : Int)) = true := decide_eq_true c25
    clear c25
    obtain ⟨y443, hy443⟩ : ∃ y_ : List ByteArray, y_ = (([(rd_T68 l0_2 x22_1).f0, (rd_T68 l0_2 x22_1).f1] : List ByteArray)) := ⟨_, rfl⟩
    replace H : ((codec_Out_S.f x429000_1 y443).bind fun t446 => (value_State_Text.l0 k1 l0_2 (l0_2.length : Int) (wrap64 (x22_1 + 1)) t446)) = some r := by first | (rw [hy443]; with_reducible exact H) | (have H2_ := (Option.bind_some _ _).symm.trans H; rw [hy443]; with_reducible exact H2_) | (have H2_ := (Option.bind_some _ _).symm.trans H; with_reducible exact H2_) | with_reducible exact H | (rw [hy443]; exact H) | exact H
    have Ny443 := Aside0.mk hy443
    clear hy443
    replace H := Option.bind_eq_some_iff.mp H
    obtain ⟨t446, A260, H⟩ := H
    replace H : (value_State_Text.l0 k1 l0_2 (l0_2.length : Int) (wrap64 (x22_1 + 1)) t446) = some r := H
    have A26 := Aside0.mk A260
    clear A260
    have H' := Aside0.mk H
    clear H
    have p441 : 0 ≤ (x22_1 : Int) := of_decide_eq_true (by first | (with_reducible assumption) | assumption)
    have q441 : x22_1 < (l0_2.length : Int) := of_decide_eq_true (by first | (with_reducible assumption) | assumption)
    obtain ⟨ad441, e441, hx441_0, hx441_1⟩ := at_T68 HR0_2.out x22_1 p441 q441
    cases e441
    replace hx441_0 := (HB.out.cell (World.block_lt_of_cell? w _ hx441_0)).trans hx441_0
    replace hx441_1 := (HB.out.cell (World.block_lt_of_cell? w _ hx441_1)).trans hx441_1
    replace p441 := eq_true p441
    replace q441 := eq_true q441
    go_wp2_with (first | ((with_reducible refine gds (N := 5) rfl ?_); refine bx_ (N := 5) (cs := #[.string (⟨#[]⟩ : ByteArray), .string (⟨#[]⟩ : ByteArray)]) (t := 68) ?_; intro gb442 hg w27 hbox hb; have n0_ := Aside0.mk (kbl (g := gb427) (o := .cells #[.int .i64 a0_0, .int .i64 a0_1, .slice (some ad441) l0_2.length c0_2] 24 (0, 0)) bk_ hb); have n1_ := Aside0.mk (IsS91.below (by repeat (first | (with_reducible first | exact HI428.out | apply IsS91.alloc | apply IsS91.drewN | apply IsS91.drew | apply IsS91.set_0 | refine IsS91.farT (p := ⟨gb427, _, none⟩) (t2 := 24) ?_ ?_ (by decide) (by decide) _ | exact OutT.mk BK427.out | refine OutT.set ?_ _ _ _) | exact HI428.out)) hb); have n2_ := Aside0.mk (bsp (by repeat (first | (with_reducible first | exact HB.out | apply bal | apply bdn | apply bd1 | refine bst ?_ (IsS91.ge HI428.out) | refine bst ?_ GE427.out) | exact HB.out)) hb); have n3_ := Aside0.mk (hbox); have n4_ := Aside0.mk ((by rw [hg]; exact (bsz (by repeat (first | (with_reducible first | exact HB.out | apply bal | apply bdn | apply bd1 | refine bst ?_ (IsS91.ge HI428.out) | refine bst ?_ GE427.out) | exact HB.out))) : w.heap.size ≤ gb442)); have n5_ := Aside0.mk ((by rw [hg]; exact (bsz (by repeat (first | (with_reducible first | exact HB.out | apply bal | apply bdn | apply bd1 | refine bst ?_ (IsS91.ge HI428.out) | refine bst ?_ GE427.out) | exact HB.out))) : w.heap.size ≤ gb442)); have n6_ := Aside0.mk ((by rw [hg]; exact Nat.ne_of_lt (blk_lt (g := gb427) (o := .cells #[.int .i64 a0_0, .int .i64 a0_1, .slice (some ad441) l0_2.length c0_2] 24 (0, 0)) bk_) : gb427 ≠ gb442)); have n7_ := Aside0.mk ((by rw [hg]; exact Nat.ne_of_gt (blk_lt (g := gb427) (o := .cells #[.int .i64 a0_0, .int .i64 a0_1, .slice (some ad441) l0_2.length c0_2] 24 (0, 0)) bk_) : gb442 ≠ gb427)); have n8_ := Aside0.mk ((by rw [hg]; exact Nat.ne_of_lt (IsS91.lt (show IsS91 w _ gb428 x429000_1 from by repeat (first | (with_reducible first | exact HI428.out | apply IsS91.alloc | apply IsS91.drewN | apply IsS91.drew | apply IsS91.set_0 | refine IsS91.farT (p := ⟨gb427, _, none⟩) (t2 := 24) ?_ ?_ (by decide) (by decide) _ | exact OutT.mk BK427.out | refine OutT.set ?_ _ _ _) | exact HI428.out))) : gb428 ≠ gb442)); have n9_ := Aside0.mk ((by rw [hg]; exact Nat.ne_of_gt (IsS91.lt (show IsS91 w _ gb428 x429000_1 from by repeat (first | (with_reducible first | exact HI428.out | apply IsS91.alloc | apply IsS91.drewN | apply IsS91.drew | apply IsS91.set_0 | refine IsS91.farT (p := ⟨gb427, _, none⟩) (t2 := 24) ?_ ?_ (by decide) (by decide) _ | exact OutT.mk BK427.out | refine OutT.set ?_ _ _ _) | exact HI428.out))) : gb442 ≠ gb428)); clear BK427; clear HI428; clear HB; have BK427 := n0_; have HI428 := n1_; have HB := n2_; have BK442 := n3_; have GW442 := n4_; have GE442 := n5_; have NB427_442 := n6_; have NB442_427 := n7_; have NB428_442 := n8_; have NB442_428 := n9_; clear n0_ n1_ n2_ n3_ n4_ n5_ n6_ n7_ n8_ n9_; clear hb hbox hg; have hnb28 := NB442_427.out; have hnc28 := NB427_442.out; have hnb29 := NB442_428.out; have hnc29 := NB428_442.out; have hcz30 := bc2 BK442.out) | ((with_reducible refine gds (N := 30) rfl ?_); refine Kd.R_lit Kd.string _ 9 ?hg (N := 30) ?hd (xs := ([(rd_T68 l0_2 x22_1).f0, (rd_T68 l0_2 x22_1).f1] : List ByteArray)) (inner := [.string ((rd_T68 l0_2 x22_1).f0), .string ((rd_T68 l0_2 x22_1).f1)]) (ok := fun _ => True) (okp := fun _ => True) ?hr ?hp (fun _ hk => hk) trivial (Below.refl _ _) (Nat.le_refl _) (by simp) ?_; (case hd => rfl); (case hg => rfl); (case hr => first | (go_simp; done) | (go_simp; rfl)); (case hp => exact (Reps.one (show Kd.M Kd.string _ _ _ ((rd_T68 l0_2 x22_1).f0) [.string ((rd_T68 l0_2 x22_1).f0)] from rfl) (Reps.one (show Kd.M Kd.string _ _ _ ((rd_T68 l0_2 x22_1).f1) [.string ((rd_T68 l0_2 x22_1).f1)] from rfl) (Reps.none _ _)))); intro v444 w31 ho32 hb hg_ hnew_; clear hg_ hnew_; (first | rw [← Ny443.out] at ho32 | (simp only [Int.reduceToNat] at ho32; rw [← Ny443.out] at ho32)); have n0_ := Aside0.mk (Kd.R_lower ho32 (bsz (by repeat (first | (with_reducible first | exact HB.out | apply bal | apply bdn | apply bd1 | refine bst ?_ (IsS91.ge HI428.out) | refine bst ?_ GE427.out | refine bst ?_ GE442.out) | exact HB.out)))); have n1_ := Aside0.mk (kbl (g := gb427) (o := .cells #[.int .i64 a0_0, .int .i64 a0_1, .slice (some ad441) l0_2.length c0_2] 24 (0, 0)) bk_ hb); have n2_ := Aside0.mk (IsS91.below (show IsS91 w ((w27.setCell ⟨gb442, 0, none⟩ (.string ((rd_T68 l0_2 x22_1).f0))).setCell ⟨gb442, 1, none⟩ (.string ((rd_T68 l0_2 x22_1).f1))) gb428 x429000_1 from by repeat (first | (with_reducible first | exact HI428.out | apply IsS91.alloc | apply IsS91.drewN | apply IsS91.drew | apply IsS91.set_0 | refine IsS91.farT (p := ⟨gb427, _, none⟩) (t2 := 24) ?_ ?_ (by decide) (by decide) _ | exact OutT.mk BK427.out | refine OutT.set ?_ _ _ _ | refine IsS91.farT (p := ⟨gb442, _, none⟩) (t2 := 68) ?_ ?_ (by decide) (by decide) _ | exact OutT.mk BK442.out | refine OutT.set ?_ _ _ _) | exact HI428.out)) hb); have n3_ := Aside0.mk (kbl (g := gb442) (o := .cells #[.string ((rd_T68 l0_2 x22_1).f0), .string ((rd_T68 l0_2 x22_1).f1)] 68 (0, 0)) bk_ hb); have n4_ := Aside0.mk (bsp (by repeat (first | (with_reducible first | exact HB.out | apply bal | apply bdn | apply bd1 | refine bst ?_ (IsS91.ge HI428.out) | refine bst ?_ GE427.out | refine bst ?_ GE442.out) | exact HB.out)) hb); clear BK427; clear HI428; clear BK442; clear HB; have HO445 := n0_; have BK427 := n1_; have HI428 := n2_; have BK442 := n3_; have HB := n4_; clear n0_ n1_ n2_ n3_ n4_; clear hb ho32; obtain ⟨Ao33, co33, eo33⟩ := Kd.R_slice HO445.out; subst eo33) | ((with_reducible refine gcl (f := 43) rfl ?_); refine gl_ (some 31) rfl rfl Try.func43 (by kernel_rfl) rfl #[.pointer (some ⟨gb428, 0, none⟩), .slice Ao33 y443.length co33] rfl ar_ ?_; (with_reducible refine (codec_Out_S.calls gb428 x429000_1 _ _ y443 t446 w _ ?side1 ?side2 ?side3 ?side4 ?side5 A26.out).mono ?_); (case side1 => repeat (first | (with_reducible first | exact HI428.out | apply IsS91.alloc | apply IsS91.drewN | apply IsS91.drew | apply IsS91.set_0 | refine IsS91.farT (p := ⟨gb427, _, none⟩) (t2 := 24) ?_ ?_ (by decide) (by decide) _ | exact OutT.mk BK427.out | refine OutT.set ?_ _ _ _ | refine IsS91.farT (p := ⟨gb442, _, none⟩) (t2 := 68) ?_ ?_ (by decide) (by decide) _ | exact OutT.mk BK442.out | refine OutT.set ?_ _ _ _) | exact HI428.out)); (case side2 => repeat (first | (with_reducible first | exact HB.out | apply bal | apply bdn | apply bd1 | refine bst ?_ (IsS91.ge HI428.out) | refine bst ?_ GE427.out | refine bst ?_ GE442.out) | exact HB.out)); (case side3 => repeat (first | exact (Kd.R_reads' HO445.out).2.2 | (with_reducible refine Kd.C_alloc ?_ _) | (with_reducible refine Kd.C_drewN ?_ _) | (with_reducible refine Kd.C_drew ?_))); (case side4 => exact (Kd.R_reads' HO445.out).2.1); (case side5 => exact fun W_ hk_ => (Kd.R_reads' (KeepT.R (by (with_reducible repeat (first | apply Kd.R_alloc | apply Kd.R_drewN | apply Kd.R_drew)); exact HO445.out) hk_ (by decide))).2.2); rintro e w34 ⟨rfl, hi, hb, hk⟩; refine ⟨_, rfl, ?_⟩; have n0_ := Aside0.mk (KeepT.oblk (g := gb427) (o := .cells #[.int .i64 a0_0, .int .i64 a0_1, .slice (some ad441) l0_2.length c0_2] 24 (0, 0)) bk_ hk (by intro _ _ _ h_; cases h_; decide)); have n1_ := Aside0.mk (KeepT.oblk (g := gb442) (o := .cells #[.string ((rd_T68 l0_2 x22_1).f0), .string ((rd_T68 l0_2 x22_1).f1)] 68 (0, 0)) bk_ hk (by intro _ _ _ h_; cases h_; decide)); have n2_ := Aside0.mk (KeepT.R (by (with_reducible repeat (first | apply Kd.R_alloc | apply Kd.R_drewN | apply Kd.R_drew)); exact HO445.out) hk (by decide)); have n3_ := Aside0.mk (hb); have n4_ := Aside0.mk (hi); clear BK427; clear BK442; clear HO445; clear HB; clear HI428; have BK427 := n0_; have BK442 := n1_; have HO445 := n2_; have HB := n3_; have HI428 := n4_; clear n0_ n1_ n2_ n3_ n4_; (try clear hb); (try clear hb2); (try clear hk); (try clear hi)))
    go_roundg k1
    case measure => have := HK1.out; omega
    case rel => exact ⟨(wrap64 (x22_1 + 1)), (t446), eqv_, H', ⟨by have := HK1.out; omega⟩, ⟨bk_⟩, ⟨by repeat (first | (with_reducible first | exact HI428.out | apply IsS91.alloc | apply IsS91.drewN | apply IsS91.drew | apply IsS91.set_0 | refine IsS91.farT (p := ⟨gb427, _, none⟩) (t2 := 24) ?_ ?_ (by decide) (by decide) _ | exact OutT.mk BK427.out | refine OutT.set ?_ _ _ _ | refine IsS91.farT (p := ⟨gb442, _, none⟩) (t2 := 68) ?_ ?_ (by decide) (by decide) _ | exact OutT.mk BK442.out | refine OutT.set ?_ _ _ _) | exact HI428.out)⟩, ⟨by repeat (first | (with_reducible first | exact HB.out | apply bal | apply bdn | apply bd1 | refine bst ?_ (IsS91.ge HI428.out) | refine bst ?_ GE427.out | refine bst ?_ GE442.out) | exact HB.out)⟩⟩
def value_Row_45.l0 : Nat → List (S68) → List (S68) → Int → Int → Option (Bool)
  | 0, _, _, _, _ => none
  | k + 1, x0, x1, x12, x13 => if x13 < x12 then (if 0 ≤ x13 then (if x13 < (x0.length : Int) then (if x13 < (x1.length : Int) then (if (!((((rd_T68 x0 x13).f0).toList) == (((rd_T68 x1 x13).f0).toList)) || (!((((rd_T68 x0 x13).f1).toList) == (((rd_T68 x1 x13).f1).toList)))) = true then (some false) else (value_Row_45.l0 k x0 x1 x12 (wrap64 (x13 + 1)))) else (none)) else (none)) else (none)) else (some true)
def value_Row_45.f (k : Nat) (l0 : List (S68)) (l1 : List (S68)) : Option (Bool) := if (l0.length : Int) = (l1.length : Int) then (value_Row_45.l0 k l0 l1 (l0.length : Int) 0) else (some false)
set_option maxHeartbeats 8000000 in
set_option maxRecDepth 100000 in
theorem value_Row_45.calls (k : Nat) (A0 : Option Addr) (c0 : Nat) (l0 : List (S68)) (A1 : Option Addr) (c1 : Nat) (l1 : List (S68)) (r : Bool) (w : World) (hr0 : Kd.C k68 w A0 l0.length l0) (hc0 : l0.length ≤ c0) (hr1 : Kd.C k68 w A1 l1.length l1) (hc1 : l1.length ≤ c1) (h : value_Row_45.f k l0 l1 = some r) :
    Calls Try.prog 45 #[.slice A0 l0.length c0, .slice A1 l1.length c1] w fun e w' => e = .returned (.bool r) ∧ Drawn0 w w' := by
  have hu68 := Try.underlying68
  have HR0 := Aside0.mk hr0
  have HC0 := Aside0.mk hc0
  clear hr0 hc0
  have HR1 := Aside0.mk hr1
  have HC1 := Aside0.mk hc1
  clear hr1 hc1
  have H : (if (l0.length : Int) = (l1.length : Int) then (value_Row_45.l0 k l0 l1 (l0.length : Int) 0) else (some false)) = some r := h
  clear h
  by_cases c3 : (l0.length : Int) = (l1.length : Int)
  rotate_left
  · rw [if_neg c3] at H
    have c3b0 : ((l0.length : Int) == (l1.length : Int)) = false := beq_eq_false_iff_ne.mpr c3
    have c3b1 : ((l0.length : Int) != (l1.length : Int)) = true := bne_iff_ne.mpr c3
    have c3b2 : (l0.length == l1.length) = false := by first | simpa using c3 | (simp at c3 ⊢; omega)
    obtain rfl := Option.some.inj H
    go_enter Try.func45, Try.ntmps45
    go_wp2
    repeat (go_quiet (fail); try go_wp2)
    go_ret
    exact ⟨by first | rfl | (simp; done) | (simp [*]; done), by repeat (first | exact Drawn0.refl _ | apply Drawn0.step)⟩
  rw [if_pos c3] at H
  have c3b0 : ((l0.length : Int) == (l1.length : Int)) = true := beq_iff_eq.mpr c3
  have c3b1 : ((l0.length : Int) != (l1.length : Int)) = false := bne_eq_false_iff_eq.mpr c3
  have c3b2 : (l0.length == l1.length) = true := by first | simpa using c3 | (simp at c3 ⊢; omega)
  clear c3
  have H' := Aside0.mk H
  clear H
  go_enter Try.func45, Try.ntmps45
  go_wp2
  repeat (go_quiet (fail); try go_wp2)
  go_loopg [13] k (fun kq v13 w' => ∃ (x13_1 : Int), v13 = .int .i64 x13_1 ∧ Aside0 (value_Row_45.l0 kq l0 l1 (l0.length : Int) x13_1 = some r) ∧ Aside0 (kq ≤ k) ∧ Drawn0 w w')
  case atStart => exact ⟨(0), eqv_, H', ⟨Nat.le_refl _⟩, by repeat (first | exact Drawn0.refl _ | apply Drawn0.step)⟩
  clear H'
  try clear c1
  try clear p2
  try clear c3
  try clear c3b0
  try clear c3b1
  try clear c3b2
  obtain ⟨x13_1, rfl, HA, HK1, ⟨m1, rfl⟩⟩ := hrel
  cases gk with
  | zero => exact absurd HA.out (by simp [value_Row_45.l0])
  | succ k1 =>
    have H := HA.out
    clear HA
    simp only [value_Row_45.l0] at H
    by_cases c4 : x13_1 < (l0.length : Int)
    rotate_left
    · rw [if_neg c4] at H
      have c4b0 : decide (x13_1 < (l0.length : Int)) = false := decide_eq_false c4
      clear c4
      obtain rfl := Option.some.inj H
      go_wp2
      repeat (go_quiet (fail); try go_wp2)
      go_ret
      exact ⟨by first | rfl | (simp; done) | (simp [*]; done), by repeat (first | exact Drawn0.refl _ | apply Drawn0.step)⟩
    rw [if_pos c4] at H
    have c4b0 : decide (x13_1 < (l0.length : Int)) = true := decide_eq_true c4
    clear c4
    by_cases c5 : 0 ≤ x13_1
    rotate_left
    · rw [if_neg c5] at H
      exact absurd H (by simp)
    rw [if_pos c5] at H
    have c5b0 : decide (0 ≤ x13_1) = true := decide_eq_true c5
    clear c5
    by_cases c6 : x13_1 < (l0.length : Int)
    rotate_left
    · rw [if_neg c6] at H
      exact absurd H (by simp)
    rw [if_pos c6] at H
    have c6b0 : decide (x13_1 < (l0.length : Int)) = true := decide_eq_true c6
    clear c6
    by_cases c7 : x13_1 < (l1.length : Int)
    rotate_left
    · rw [if_neg c7] at H
      exact absurd H (by simp)
    rw [if_pos c7] at H
    have c7b0 : decide (x13_1 < (l1.length : Int)) = true := decide_eq_true c7
    clear c7
    by_cases c8 : (!((((rd_T68 l0 x13_1).f0).toList) == (((rd_T68 l1 x13_1).f0).toList)) || (!((((rd_T68 l0 x13_1).f1).toList) == (((rd_T68 l1 x13_1).f1).toList)))) = true
    · rw [if_pos c8] at H
      have c8b0 : (!((((rd_T68 l0 x13_1).f0).toList) == (((rd_T68 l1 x13_1).f0).toList)) || (!((((rd_T68 l0 x13_1).f1).toList) == (((rd_T68 l1 x13_1).f1).toList)))) = true := c8
      clear c8
      obtain rfl := Option.some.inj H
      have p449 : 0 ≤ (x13_1 : Int) := of_decide_eq_true (by first | (with_reducible assumption) | assumption)
      have q449 : x13_1 < (l0.length : Int) := of_decide_eq_true (by first | (with_reducible assumption) | assumption)
      obtain ⟨ad449, e449, hx449_0, hx449_1⟩ := at_T68 HR0.out x13_1 p449 q449
      cases e449
      replace p449 := eq_true p449
      replace q449 := eq_true q449
      have p450 : 0 ≤ (x13_1 : Int) := of_decide_eq_true (by first | (with_reducible assumption) | assumption)
      have q450 : x13_1 < (l1.length : Int) := of_decide_eq_true (by first | (with_reducible assumption) | assumption)
      obtain ⟨ad450, e450, hx450_0, hx450_1⟩ := at_T68 HR1.out x13_1 p450 q450
      cases e450
      replace p450 := eq_true p450
      replace q450 := eq_true q450
      go_wp2
      repeat (go_quiet (fail); try go_wp2)
      go_ret
      exact ⟨by first | rfl | (simp; done) | (simp [*]; done), by repeat (first | exact Drawn0.refl _ | apply Drawn0.step)⟩
    rw [if_neg c8] at H
    have c8b0 : (!((((rd_T68 l0 x13_1).f0).toList) == (((rd_T68 l1 x13_1).f0).toList)) || (!((((rd_T68 l0 x13_1).f1).toList) == (((rd_T68 l1 x13_1).f1).toList)))) = false := by simpa using c8
    clear c8
    have H' := Aside0.mk H
    clear H
    have p449 : 0 ≤ (x13_1 : Int) := of_decide_eq_true (by first | (with_reducible assumption) | assumption)
    have q449 : x13_1 < (l0.length : Int) := of_decide_eq_true (by first | (with_reducible assumption) | assumption)
    obtain ⟨ad449, e449, hx449_0, hx449_1⟩ := at_T68 HR0.out x13_1 p449 q449
    cases e449
    replace p449 := eq_true p449
    replace q449 := eq_true q449
    have p450 : 0 ≤ (x13_1 : Int) := of_decide_eq_true (by first | (with_reducible assumption) | assumption)
    have q450 : x13_1 < (l1.length : Int) := of_decide_eq_true (by first | (with_reducible assumption) | assumption)
    obtain ⟨ad450, e450, hx450_0, hx450_1⟩ := at_T68 HR1.out x13_1 p450 q450
    cases e450
    replace p450 := eq_true p450
    replace q450 := eq_true q450
    go_wp2
    repeat (go_quiet (fail); try go_wp2)
    go_roundg k1
    case measure => have := HK1.out; omega
    case rel => exact ⟨(wrap64 (x13_1 + 1)), eqv_, H', ⟨by have := HK1.out; omega⟩, by repeat (first | exact Drawn0.refl _ | apply Drawn0.step)⟩
def value_State_Same.f (k : Nat) (a0_0 : Int) (a0_1 : Int) (l0_2 : List (S68)) (a1_0 : Int) (a1_1 : Int) (l1_2 : List (S68)) : Option (Bool) := if a0_0 = a1_0 then (if a0_1 = a1_1 then ((value_Row_45.f k l0_2 l1_2).bind fun t453 => (some t453)) else (some false)) else (some false)
set_option maxHeartbeats 8000000 in
set_option maxRecDepth 100000 in
theorem value_State_Same.calls (k : Nat) (a0_0 : Int) (a0_1 : Int) (A0_2 : Option Addr) (c0_2 : Nat) (l0_2 : List (S68)) (a1_0 : Int) (a1_1 : Int) (A1_2 : Option Addr) (c1_2 : Nat) (l1_2 : List (S68)) (r : Bool) (w : World) (hr0_2 : Kd.C k68 w A0_2 l0_2.length l0_2) (hc0_2 : l0_2.length ≤ c0_2) (hr1_2 : Kd.C k68 w A1_2 l1_2.length l1_2) (hc1_2 : l1_2.length ≤ c1_2) (h : value_State_Same.f k a0_0 a0_1 l0_2 a1_0 a1_1 l1_2 = some r) :
    Calls Try.prog 16 #[.agg #[.int .i64 a0_0, .int .i64 a0_1, .slice A0_2 l0_2.length c0_2], .agg #[.int .i64 a1_0, .int .i64 a1_1, .slice A1_2 l1_2.length c1_2]] w fun e w' => e = .returned (.bool r) ∧ Below w.heap.size w w' := by
  have hu24 := Try.underlying24
  have HR0_2 := Aside0.mk hr0_2
  have HC0_2 := Aside0.mk hc0_2
  clear hr0_2 hc0_2
  have HR1_2 := Aside0.mk hr1_2
  have HC1_2 := Aside0.mk hc1_2
  clear hr1_2 hc1_2
  have HB := Aside0.mk (Below.refl w.heap.size w)
  have H : (if a0_0 = a1_0 then (if a0_1 = a1_1 then ((value_Row_45.f k l0_2 l1_2).bind fun t453 => (some t453)) else (some false)) else (some false)) = some r := h
  clear h
  by_cases c3 : a0_0 = a1_0
  rotate_left
  · rw [if_neg c3] at H
    have c3b0 : (a0_0 == a1_0) = false := beq_eq_false_iff_ne.mpr c3
    have c3b1 : (a0_0 != a1_0) = true := bne_iff_ne.mpr c3
    obtain rfl := Option.some.inj H
    go_enter Try.func16, Try.ntmps16
    go_wp2_with (first | ((with_reducible refine gds (N := 2) rfl ?_); refine bx_ (N := 2) (cs := #[.int .i64 a0_0, .int .i64 a0_1, .slice A0_2 l0_2.length c0_2]) (t := 24) ?_; intro gb451 hg w16 hbox hb; have n0_ := Aside0.mk (bsp bl_ hb); have n1_ := Aside0.mk (hbox); have n2_ := Aside0.mk ((by rw [hg]; exact bsz bl_ : w.heap.size ≤ gb451)); have n3_ := Aside0.mk ((by rw [hg]; exact bsz bl_ : w.heap.size ≤ gb451)); clear HB; have HB := n0_; have BK451 := n1_; have GW451 := n2_; have GE451 := n3_; clear n0_ n1_ n2_ n3_; clear hb hbox hg) | ((with_reducible refine gds (N := 3) rfl ?_); refine bx_ (N := 3) (cs := #[.int .i64 a1_0, .int .i64 a1_1, .slice A1_2 l1_2.length c1_2]) (t := 24) ?_; intro gb452 hg w17 hbox hb; have n0_ := Aside0.mk (kbl (g := gb451) (o := .cells #[.int .i64 a0_0, .int .i64 a0_1, .slice A0_2 l0_2.length c0_2] 24 (0, 0)) bk_ hb); have n1_ := Aside0.mk (bsp bl_ hb); have n2_ := Aside0.mk (hbox); have n3_ := Aside0.mk ((by rw [hg]; exact bsz bl_ : w.heap.size ≤ gb452)); have n4_ := Aside0.mk ((by rw [hg]; exact bsz bl_ : w.heap.size ≤ gb452)); have n5_ := Aside0.mk ((by rw [hg]; exact Nat.ne_of_lt (blk_lt (g := gb451) (o := .cells #[.int .i64 a0_0, .int .i64 a0_1, .slice A0_2 l0_2.length c0_2] 24 (0, 0)) bk_) : gb451 ≠ gb452)); have n6_ := Aside0.mk ((by rw [hg]; exact Nat.ne_of_gt (blk_lt (g := gb451) (o := .cells #[.int .i64 a0_0, .int .i64 a0_1, .slice A0_2 l0_2.length c0_2] 24 (0, 0)) bk_) : gb452 ≠ gb451)); clear BK451; clear HB; have BK451 := n0_; have HB := n1_; have BK452 := n2_; have GW452 := n3_; have GE452 := n4_; have NB451_452 := n5_; have NB452_451 := n6_; clear n0_ n1_ n2_ n3_ n4_ n5_ n6_; clear hb hbox hg; have hnb18 := NB451_452.out; have hnc18 := NB452_451.out; have hcz19 := bc3 BK451.out; have hcz20 := bc3 BK452.out))
    go_ret
    exact ⟨er_, bl_⟩
  rw [if_pos c3] at H
  have c3b0 : (a0_0 == a1_0) = true := beq_iff_eq.mpr c3
  have c3b1 : (a0_0 != a1_0) = false := bne_eq_false_iff_eq.mpr c3
  clear c3
  by_cases c4 : a0_1 = a1_1
  rotate_left
  · rw [if_neg c4] at H
    have c4b0 : (a0_1 == a1_1) = false := beq_eq_false_iff_ne.mpr c4
    have c4b1 : (a0_1 != a1_1) = true := bne_iff_ne.mpr c4
    obtain rfl := Option.some.inj H
    go_enter Try.func16, Try.ntmps16
    go_wp2_with (first | ((with_reducible refine gds (N := 2) rfl ?_); refine bx_ (N := 2) (cs := #[.int .i64 a0_0, .int .i64 a0_1, .slice A0_2 l0_2.length c0_2]) (t := 24) ?_; intro gb451 hg w11 hbox hb; have n0_ := Aside0.mk (bsp bl_ hb); have n1_ := Aside0.mk (hbox); have n2_ := Aside0.mk ((by rw [hg]; exact bsz bl_ : w.heap.size ≤ gb451)); have n3_ := Aside0.mk ((by rw [hg]; exact bsz bl_ : w.heap.size ≤ gb451)); clear HB; have HB := n0_; have BK451 := n1_; have GW451 := n2_; have GE451 := n3_; clear n0_ n1_ n2_ n3_; clear hb hbox hg) | ((with_reducible refine gds (N := 3) rfl ?_); refine bx_ (N := 3) (cs := #[.int .i64 a1_0, .int .i64 a1_1, .slice A1_2 l1_2.length c1_2]) (t := 24) ?_; intro gb452 hg w12 hbox hb; have n0_ := Aside0.mk (kbl (g := gb451) (o := .cells #[.int .i64 a0_0, .int .i64 a0_1, .slice A0_2 l0_2.length c0_2] 24 (0, 0)) bk_ hb); have n1_ := Aside0.mk (bsp bl_ hb); have n2_ := Aside0.mk (hbox); have n3_ := Aside0.mk ((by rw [hg]; exact bsz bl_ : w.heap.size ≤ gb452)); have n4_ := Aside0.mk ((by rw [hg]; exact bsz bl_ : w.heap.size ≤ gb452)); have n5_ := Aside0.mk ((by rw [hg]; exact Nat.ne_of_lt (blk_lt (g := gb451) (o := .cells #[.int .i64 a0_0, .int .i64 a0_1, .slice A0_2 l0_2.length c0_2] 24 (0, 0)) bk_) : gb451 ≠ gb452)); have n6_ := Aside0.mk ((by rw [hg]; exact Nat.ne_of_gt (blk_lt (g := gb451) (o := .cells #[.int .i64 a0_0, .int .i64 a0_1, .slice A0_2 l0_2.length c0_2] 24 (0, 0)) bk_) : gb452 ≠ gb451)); clear BK451; clear HB; have BK451 := n0_; have HB := n1_; have BK452 := n2_; have GW452 := n3_; have GE452 := n4_; have NB451_452 := n5_; have NB452_451 := n6_; clear n0_ n1_ n2_ n3_ n4_ n5_ n6_; clear hb hbox hg; have hnb13 := NB451_452.out; have hnc13 := NB452_451.out; have hcz14 := bc3 BK451.out; have hcz15 := bc3 BK452.out))
    go_ret
    exact ⟨er_, bl_⟩
  rw [if_pos c4] at H
  have c4b0 : (a0_1 == a1_1) = true := beq_iff_eq.mpr c4
  have c4b1 : (a0_1 != a1_1) = false := bne_eq_false_iff_eq.mpr c4
  clear c4
  replace H := Option.bind_eq_some_iff.mp H
  obtain ⟨t453, A50, H⟩ := H
  replace H : (some t453) = some r := H
  have A5 := Aside0.mk A50
  clear A50
  obtain rfl := Option.some.inj H
  go_enter Try.func16, Try.ntmps16
  go_wp2_with (first | ((with_reducible refine gds (N := 2) rfl ?_); refine bx_ (N := 2) (cs := #[.int .i64 a0_0, .int .i64 a0_1, .slice A0_2 l0_2.length c0_2]) (t := 24) ?_; intro gb451 hg w6 hbox hb; have n0_ := Aside0.mk (bsp bl_ hb); have n1_ := Aside0.mk (hbox); have n2_ := Aside0.mk ((by rw [hg]; exact bsz bl_ : w.heap.size ≤ gb451)); have n3_ := Aside0.mk ((by rw [hg]; exact bsz bl_ : w.heap.size ≤ gb451)); clear HB; have HB := n0_; have BK451 := n1_; have GW451 := n2_; have GE451 := n3_; clear n0_ n1_ n2_ n3_; clear hb hbox hg) | ((with_reducible refine gds (N := 3) rfl ?_); refine bx_ (N := 3) (cs := #[.int .i64 a1_0, .int .i64 a1_1, .slice A1_2 l1_2.length c1_2]) (t := 24) ?_; intro gb452 hg w7 hbox hb; have n0_ := Aside0.mk (kbl (g := gb451) (o := .cells #[.int .i64 a0_0, .int .i64 a0_1, .slice A0_2 l0_2.length c0_2] 24 (0, 0)) bk_ hb); have n1_ := Aside0.mk (bsp bl_ hb); have n2_ := Aside0.mk (hbox); have n3_ := Aside0.mk ((by rw [hg]; exact bsz bl_ : w.heap.size ≤ gb452)); have n4_ := Aside0.mk ((by rw [hg]; exact bsz bl_ : w.heap.size ≤ gb452)); have n5_ := Aside0.mk ((by rw [hg]; exact Nat.ne_of_lt (blk_lt (g := gb451) (o := .cells #[.int .i64 a0_0, .int .i64 a0_1, .slice A0_2 l0_2.length c0_2] 24 (0, 0)) bk_) : gb451 ≠ gb452)); have n6_ := Aside0.mk ((by rw [hg]; exact Nat.ne_of_gt (blk_lt (g := gb451) (o := .cells #[.int .i64 a0_0, .int .i64 a0_1, .slice A0_2 l0_2.length c0_2] 24 (0, 0)) bk_) : gb452 ≠ gb451)); clear BK451; clear HB; have BK451 := n0_; have HB := n1_; have BK452 := n2_; have GW452 := n3_; have GE452 := n4_; have NB451_452 := n5_; have NB452_451 := n6_; clear n0_ n1_ n2_ n3_ n4_ n5_ n6_; clear hb hbox hg; have hnb8 := NB451_452.out; have hnc8 := NB452_451.out; have hcz9 := bc3 BK451.out; have hcz10 := bc3 BK452.out) | (go_at_call 45; (with_reducible refine (value_Row_45.calls k _ _ l0_2 _ _ l1_2 t453 _ ?side1 ?side2 ?side3 ?side4 A5.out).mono ?_); (case side1 => repeat (first | exact (Kd.C_below HR0_2.out HB.out) | (with_reducible refine Kd.C_alloc ?_ _) | (with_reducible refine Kd.C_drewN ?_ _) | (with_reducible refine Kd.C_drew ?_))); (case side2 => exact HC0_2.out); (case side3 => repeat (first | exact (Kd.C_below HR1_2.out HB.out) | (with_reducible refine Kd.C_alloc ?_ _) | (with_reducible refine Kd.C_drewN ?_ _) | (with_reducible refine Kd.C_drew ?_))); (case side4 => exact HC1_2.out); rintro e w' ⟨rfl, ⟨nd, rfl⟩⟩))
  go_ret
  exact ⟨er_, bl_⟩
end Go.Proofs.Ytjiblcncadekcaa.PA

