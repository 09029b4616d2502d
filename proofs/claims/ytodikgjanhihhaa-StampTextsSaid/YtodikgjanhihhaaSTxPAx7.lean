import Derived.Test.YtodikgjanhihhaaSTxPAx0
import Derived.Test.YtodikgjanhihhaaSTxPAx1
import Derived.Test.YtodikgjanhihhaaSTxPAx3
import Derived.Test.YtodikgjanhihhaaSTxPAx4
import Derived.Test.YtodikgjanhihhaaSTxPAx5
import Derived.Test.YtodikgjanhihhaaSTxPAx6
namespace Go.Proofs.Ytodikgjanhihhaa.PA
open Go.Proofs.Ytodikgjanhihhaa.PL
open Go.RowKit Go.Proofs.YtodikgjanhihhaaW.PrintWords Go.Proofs.YtodikgjanhihhaaW.PrintLast Go.Proofs.YtodikgjanhihhaaW.PrintMore
attribute [local go_sem] max2_int min2_int max_two min_two max_three min_three max_four min_four
set_option linter.unusedVariables false
set_option linter.unusedSimpArgs false
attribute [local go_sem high] eqA23
def armoirelaw04_StampTexts.j0 : Nat → Bool → Int → Int → ByteArray → Option (Bool)
  | 0, _, _, _, _ => none
  | k + 1, x18, x203000, x203001, x203002 => if x18 = true then (some false) else ((stamp_Sector_Check.f k x203000 x203001 x203002).bind fun t210 => (if t210 = 0 then ((stamp_Sector_Text.f k x203000 x203001 x203002).bind fun t211 => ((stamp_Parse.f k t211).bind fun bt212 => ((stamp_Sector_Text.f k x203000 x203001 x203002).bind fun t217 => ((armoirelaw04_Told.f x203000 x203001 x203002).bind fun bt218 => ((armoireref04_Text.f k bt218.1 bt218.2.1 bt218.2.2).bind fun t221 => (if t217.toList = t221.toList then ((stamp_Sector_Text.f k x203000 x203001 x203002).bind fun t222 => (if (t222.size : Int) = 64 then (if (bt212.1 == x203000 && (bt212.2.1 == x203001 && (bt212.2.2.1.toList == x203002.toList))) = true then (some (bt212.2.2.2 == 0)) else (some false)) else (some false))) else (some false))))))) else (some true)))
def armoirelaw04_StampTexts.f (k : Nat) (a0_0 : Int) (a0_1 : Int) (a0_2 : ByteArray) : Option (Bool) := (armoirelaw01_Cut.f a0_2 50).bind fun t203 => ((armoirelaw04_awake.f k).bind fun t204 => (if t204 = true then ((stamp_Sector_Check.f k a0_0 a0_1 t203).bind fun t205 => ((armoirelaw04_Told.f a0_0 a0_1 t203).bind fun bt206 => ((armoireref04_Check.f k bt206.1 bt206.2.1 bt206.2.2).bind fun t209 => (armoirelaw04_StampTexts.j0 k (t205 != t209) a0_0 a0_1 t203)))) else (armoirelaw04_StampTexts.j0 k true a0_0 a0_1 t203)))
def armoirelaw04_StampTexts.T2 : Bool × List (List Nat × List Nat) := (true, [([], []), ([0], [0]), ([1, 0], [1]), ([2], [2]), ([3, 2, 2], [2, 3]), ([2], [2]), ([5, 4, 2], [2, 5]), ([6, 6, 2], [2, 6]), ([4, 7, 2], [2, 4, 7]), ([2, 8], [2, 8])])
def armoirelaw04_StampTexts.B2 : List Nat := [0, 1, 3, 7, 15, 7, 63, 127, 255, 511]
theorem armoirelaw04_StampTexts.tab2 : rtab .any (opsOf Try.f3 2) = armoirelaw04_StampTexts.T2 := by kernel_rfl
theorem armoirelaw04_StampTexts.bits2 : waitsOk armoirelaw04_StampTexts.T2.2 armoirelaw04_StampTexts.B2 = true := by kernel_rfl
def armoirelaw04_StampTexts.T7 : Bool × List (List Nat × List Nat) := (true, [([], []), ([0], [0]), ([], []), ([2, 1], [2]), ([3, 3], [3]), ([1, 4], [1, 4]), ([5, 4], [5]), ([6], [6]), ([7, 6, 6], [6, 7]), ([8, 6], [6, 8]), ([9, 6], [6, 9]), ([6, 10], [6, 10]), ([11, 8], [11]), ([12], [12]), ([12], [12]), ([13, 14, 12], [12, 13, 14]), ([12, 15], [12, 15]), ([16, 12], [16]), ([17], [17]), ([18, 17], [17, 18]), ([17, 19], [17, 19]), ([20, 17, 0, 1, 2, 3, 4, 5, 6, 7, 8, 9, 10, 11, 12, 13, 14, 15, 16, 17, 18, 19, 20], [20])])
def armoirelaw04_StampTexts.B7 : List Nat := [0, 1, 0, 7, 15, 31, 63, 127, 255, 511, 1023, 2047, 4095, 8191, 8191, 32767, 65535, 131071, 262143, 524287, 1048575, 2097151]
theorem armoirelaw04_StampTexts.tab7 : rtab .any (opsOf Try.f3 7) = armoirelaw04_StampTexts.T7 := by kernel_rfl
theorem armoirelaw04_StampTexts.bits7 : waitsOk armoirelaw04_StampTexts.T7.2 armoirelaw04_StampTexts.B7 = true := by kernel_rfl
set_option maxHeartbeats 2000000 in
set_option maxRecDepth 100000 in
theorem armoirelaw04_StampTexts.calls (k : Nat) (a0_0 : Int) (a0_1 : Int) (a0_2 : ByteArray) (r : Bool) (w : World) (h : armoirelaw04_StampTexts.f k a0_0 a0_1 a0_2 = some r) :
    Calls Try.prog 3 #[.agg #[.int .i64 a0_0, .int .u8 a0_1, .string a0_2]] w fun e w' => e = .returned (.bool r) ∧ Below w.heap.size w w' := by
  have hu23 := Try.underlying23
  have HB := Aside0.mk (Below.refl w.heap.size w)
  have H : ((armoirelaw01_Cut.f a0_2 50).bind fun t203 => ((armoirelaw04_awake.f k).bind fun t204 => (if t204 = true then ((stamp_Sector_Check.f k a0_0 a0_1 t203).bind fun t205 => ((armoirelaw04_Told.f a0_0 a0_1 t203).bind fun bt206 => ((armoireref04_Check.f k bt206.1 bt206.2.1 bt206.2.2).bind fun t209 => (armoirelaw04_StampTexts.j0 k (t205 != t209) a0_0 a0_1 t203)))) else (armoirelaw04_StampTexts.j0 k true a0_0 a0_1 t203)))) = some r := h
  clear h
  replace H := Option.bind_eq_some_iff.mp H
  obtain ⟨t203, A20, H⟩ := H
  replace H : ((armoirelaw04_awake.f k).bind fun t204 => (if t204 = true then ((stamp_Sector_Check.f k a0_0 a0_1 t203).bind fun t205 => ((armoirelaw04_Told.f a0_0 a0_1 t203).bind fun bt206 => ((armoireref04_Check.f k bt206.1 bt206.2.1 bt206.2.2).bind fun t209 => (armoirelaw04_StampTexts.j0 k (t205 != t209) a0_0 a0_1 t203)))) else (armoirelaw04_StampTexts.j0 k true a0_0 a0_1 t203))) = some r := H
  have A2 := Aside0.mk A20
  clear A20
  have HC3 := Aside0.mk H
  clear H
  go_enter Try.func3, Try.ntmps3
  go_upto_region 2 with (first | ((with_reducible refine gds (N := 1) rfl ?_); (try (refine gate_guard (by rfl) ?_; dsimp only)); refine bev ?hg (N := 1) ?hd (cs := #[.int .i64 a0_0, .int .u8 a0_1, .string a0_2]) (t := 23) ?hr ?_; (case hd => rfl); (case hg => rfl); (case hr => first | (go_simp; done) | (go_simp; rfl)); intro gb202 hg w4 hbox hb; have n0_ := Aside0.mk (bsp (by repeat (first | (with_reducible first | exact HB.out | apply bal | apply bdn | apply bd1) | exact HB.out)) hb); have n1_ := Aside0.mk (hbox); have n2_ := Aside0.mk ((by rw [hg]; exact (bsz (by repeat (first | (with_reducible first | exact HB.out | apply bal | apply bdn | apply bd1) | exact HB.out))) : w.heap.size ≤ gb202)); have n3_ := Aside0.mk ((by rw [hg]; exact (bsz (by repeat (first | (with_reducible first | exact HB.out | apply bal | apply bdn | apply bd1) | exact HB.out))) : w.heap.size ≤ gb202)); clear HB; have HB := n0_; have BK202 := n1_; have GW202 := n2_; have GE202 := n3_; clear n0_ n1_ n2_ n3_; clear hb hbox hg; have hcz5_0 : w4.cell? ⟨gb202, 0, none⟩ = some (.int .i64 a0_0) := (kcl BK202.out 0).trans rfl; have hcz5_1 : w4.cell? ⟨gb202, 1, none⟩ = some (.int .u8 a0_1) := (kcl BK202.out 1).trans rfl; have hcz5_2 : w4.cell? ⟨gb202, 2, none⟩ = some (.string a0_2) := (kcl BK202.out 2).trans rfl; have hfz5_0 := kfr BK202.out 0; have hfz5_1 := kfr BK202.out 1; have hfz5_2 := kfr BK202.out 2) | ((with_reducible refine gcl (f := 7) rfl ?_); refine gl_ (some 7) rfl rfl Try.func7 (by kernel_rfl) rfl #[.string a0_2, .int .i64 50] rfl (by (try simp only [List.map_toArray, List.map_cons, List.map_nil]); first | done | rfl | (simp only [List.length_drop, List.length_take]; rfl)) ?_; (with_reducible refine (armoirelaw01_Cut.calls a0_2 50 t203 _ A2.out).mono ?_); rintro e w' ⟨rfl, ⟨nd, rfl⟩⟩; refine ⟨_, rfl, ?_⟩; (try (rw [dns w4]; generalize hq_ : World.drewN w4 _ = w4; have n0_ : Aside0 (w4.heap[gb202]? = some (.cells #[.int .i64 a0_0, .int .u8 a0_1, .string a0_2] 23 (0, 0))) := ⟨by rw [← hq_]; exact (by (with_reducible repeat (first | refine kdn ?_ _ | refine kdw ?_ | refine kal ?_ _)); exact BK202.out)⟩; have n1_ : Aside0 (Below w.heap.size w w4) := ⟨by rw [← hq_]; exact (by repeat (first | (with_reducible first | exact HB.out | apply bal | apply bdn | apply bd1 | refine bst ?_ GE202.out) | exact HB.out))⟩; clear BK202 HB hq_; have BK202 := n0_; have HB := n1_; clear n0_ n1_)); have hcz6_0 : w4.cell? ⟨gb202, 0, none⟩ = some (.int .i64 a0_0) := (kcl BK202.out 0).trans rfl; have hcz6_1 : w4.cell? ⟨gb202, 1, none⟩ = some (.int .u8 a0_1) := (kcl BK202.out 1).trans rfl; have hcz6_2 : w4.cell? ⟨gb202, 2, none⟩ = some (.string a0_2) := (kcl BK202.out 2).trans rfl; have hfz6_0 := kfr BK202.out 0; have hfz6_1 := kfr BK202.out 1; have hfz6_2 := kfr BK202.out 2))
  (try simp only [Act.put, List.setIfInBounds_toArray, List.set_cons_zero, List.set_cons_succ])
  go_cut [18] (fun v18 wc => ∃ (kq : Nat) (x18_2 : Bool), v18 = .bool x18_2 ∧ Aside0 (armoirelaw04_StampTexts.j0 kq x18_2 a0_0 a0_1 t203 = some r) ∧ Aside0 (kq ≤ k) ∧ Aside0 (wc.heap[gb202]? = some (.cells #[.int .i64 a0_0, .int .u8 a0_1, .string t203] 23 (0, 0))) ∧ Aside0 (Below w.heap.size w wc))
  case first =>
    have H := HC3.out
    clear HC3
    replace H := Option.bind_eq_some_iff.mp H
    obtain ⟨t204, A70, H⟩ := H
    replace H : (if t204 = true then ((stamp_Sector_Check.f k a0_0 a0_1 t203).bind fun t205 => ((armoirelaw04_Told.f a0_0 a0_1 t203).bind fun bt206 => ((armoireref04_Check.f k bt206.1 bt206.2.1 bt206.2.2).bind fun t209 => (armoirelaw04_StampTexts.j0 k (t205 != t209) a0_0 a0_1 t203)))) else (armoirelaw04_StampTexts.j0 k true a0_0 a0_1 t203)) = some r := H
    have A7 := Aside0.mk A70
    clear A70
    by_cases c8 : t204 = true
    rotate_left
    · replace c8 := Bool.eq_false_iff.mpr c8
      subst c8
      have H1 : (armoirelaw04_StampTexts.j0 k true a0_0 a0_1 t203) = some r := by rw [if_neg (show ¬ (false = true) by decide)] at H; exact H
      clear H
      have H := H1
      clear H1
      have H' := Aside0.mk H
      clear H
      try go_wp2
      have n0_ : Aside0 ((w4.setCell ⟨gb202, 2, none⟩ (.string t203)).heap[gb202]? = some (.cells #[.int .i64 a0_0, .int .u8 a0_1, .string t203] 23 (0, 0))) := ⟨by (with_reducible repeat (first | refine kdn ?_ _ | refine kdw ?_ | refine kal ?_ _)); refine kpt (cs := #[.int .i64 a0_0, .int .u8 a0_1, .string a0_2]) ?_ 2 _ rfl; (with_reducible repeat (first | refine kdn ?_ _ | refine kdw ?_ | refine kal ?_ _)); exact BK202.out⟩
      have n1_ : Aside0 (Below w.heap.size w (w4.setCell ⟨gb202, 2, none⟩ (.string t203))) := ⟨by repeat (first | (with_reducible first | exact HB.out | apply bal | apply bdn | apply bd1 | refine bst ?_ GE202.out) | exact HB.out)⟩
      (try clear BK202)
      (try clear HB)
      generalize (w4.setCell ⟨gb202, 2, none⟩ (.string t203)) = w18 at n0_ n1_ ⊢
      have BK202 := n0_
      have HB := n1_
      clear n0_ n1_
      have n0_ := Aside0.mk (kdw BK202.out)
      have n1_ := Aside0.mk (bd1 HB.out)
      clear BK202
      clear HB
      have BK202 := n0_
      have HB := n1_
      clear n0_ n1_
      refine start_ (n := 10) (S := fun w' => True) (ds := []) #[false,false,false,false,false,false,false,false,false,false] (by kernel_rfl) rfl rfl trivial (fun hHeld => ?_); refine with_tabW armoirelaw04_StampTexts.tab2 armoirelaw04_StampTexts.bits2 (fun HT_ HW_ => ?_)
      generalize w18.drew = w19 at BK202 HB hHeld ⊢
      refine one_ (i := 0) (N := some 9) #[true,false,false,false,false,false,false,false,false,false] rfl rfl (one_of HT_.out (by kernel_rfl)) (by decide) (fun K hK => ?_)
      refine goes_ Try.func8 (by kernel_rfl) rfl #[] (by rfl) rfl rfl (by (try simp only [List.map_toArray, List.map_cons, List.map_nil]); first | done | rfl | (simp only [List.length_drop, List.length_take]; rfl) | (simp only [Act.eval, Array.getD_eq_getD_getElem?, Option.getD_some, *]; done) | (simp only [Array.mk.injEq, List.cons.injEq, Value.int.injEq, true_and, and_true]; first | omega | (simp [IntKind.wrap, IntKind.bits, IntKind.signed]; omega))) ?_
      with_reducible refine (armoirelaw04_awake.calls k  false _ A7.out).mono ?_
      rintro e w20 ⟨rfl, hb⟩
      refine ⟨_, rfl, ?_⟩
      have n0_ := Aside0.mk (kbl (g := gb202) (o := .cells #[.int .i64 a0_0, .int .u8 a0_1, .string t203] 23 (0, 0)) (by (with_reducible repeat (first | refine kdn ?_ _ | refine kdw ?_ | refine kal ?_ _)); exact BK202.out) hb)
      have n1_ := Aside0.mk (bsp (by repeat (first | (with_reducible first | exact HB.out | apply bal | apply bdn | apply bd1 | refine bst ?_ GE202.out) | exact HB.out)) hb)
      clear BK202
      clear HB
      have BK202 := n0_
      have HB := n1_
      clear n0_ n1_
      (try clear hb)
      (try clear hb2)
      (try clear hk)
      (try clear hi)
      refine hK.out _ _ trivial (fun hHeld => ?_)
      clear hK K
      refine norm_ (a' := ?_) ?_ ?_
      rotate_left
      · show Act.put _ (some 9) _ = _
        simp only [Act.put, List.setIfInBounds_toArray, List.set_cons_zero, List.set_cons_succ, i64_w, i32_w]
        rfl
      refine pure_ (i := 1) (N := some 10) (v := ?_) (a' := ?_) (bA 10 3) rfl rfl (any_of HT_.out (by kernel_rfl)) (fun _ _ _ h => h) (Or.inl ⟨by rfl, ?_⟩) ?_ ?_
      rotate_left; (intro w'; go_simp; with_reducible rfl); rotate_left; (simp only [Act.put, List.setIfInBounds_toArray, List.set_cons_zero, List.set_cons_succ, i64_w, i32_w]; rfl)
      refine pure_ (i := 2) (N := some 11) (v := ?_) (a' := ?_) (bA 10 7) rfl rfl (any_of HT_.out (by kernel_rfl)) (fun _ _ _ h => h) (Or.inl ⟨by rfl, ?_⟩) ?_ ?_
      rotate_left; (intro w'; go_simp; with_reducible rfl); rotate_left; (simp only [Act.put, List.setIfInBounds_toArray, List.set_cons_zero, List.set_cons_succ, i64_w, i32_w]; rfl)
      refine pure_ (i := 3) (N := some 12) (v := undef) (a' := ?_) (bA 10 15) rfl rfl (any_of HT_.out (by kernel_rfl)) (fun _ _ _ h => h) (Or.inr ⟨by rfl, rfl⟩) ?_ ?_
      rotate_left; (simp only [Act.put, List.setIfInBounds_toArray, List.set_cons_zero, List.set_cons_succ, i64_w, i32_w]; rfl)
      refine pure_ (i := 4) (N := some 13) (v := undef) (a' := ?_) (bA 10 31) rfl rfl (any_of HT_.out (by kernel_rfl)) (fun _ _ _ h => h) (Or.inr ⟨by rfl, rfl⟩) ?_ ?_
      rotate_left; (simp only [Act.put, List.setIfInBounds_toArray, List.set_cons_zero, List.set_cons_succ, i64_w, i32_w]; rfl)
      refine pure_ (i := 5) (N := some 14) (v := undef) (a' := ?_) (bA 10 63) rfl rfl (any_of HT_.out (by kernel_rfl)) (fun _ _ _ h => h) (Or.inr ⟨by rfl, rfl⟩) ?_ ?_
      rotate_left; (simp only [Act.put, List.setIfInBounds_toArray, List.set_cons_zero, List.set_cons_succ, i64_w, i32_w]; rfl)
      refine pure_ (i := 6) (N := some 15) (v := undef) (a' := ?_) (bA 10 127) rfl rfl (any_of HT_.out (by kernel_rfl)) (fun _ _ _ h => h) (Or.inr ⟨by rfl, rfl⟩) ?_ ?_
      rotate_left; (simp only [Act.put, List.setIfInBounds_toArray, List.set_cons_zero, List.set_cons_succ, i64_w, i32_w]; rfl)
      refine pure_ (i := 7) (N := some 16) (v := undef) (a' := ?_) (bA 10 255) rfl rfl (any_of HT_.out (by kernel_rfl)) (fun _ _ _ h => h) (Or.inr ⟨by rfl, rfl⟩) ?_ ?_
      rotate_left; (simp only [Act.put, List.setIfInBounds_toArray, List.set_cons_zero, List.set_cons_succ, i64_w, i32_w]; rfl)
      refine pure_ (i := 8) (N := some 17) (v := undef) (a' := ?_) (bA 10 511) rfl rfl (any_of HT_.out (by kernel_rfl)) (fun _ _ _ h => h) (Or.inr ⟨by rfl, rfl⟩) ?_ ?_
      rotate_left; (simp only [Act.put, List.setIfInBounds_toArray, List.set_cons_zero, List.set_cons_succ, i64_w, i32_w]; rfl)
      refine pure_ (i := 9) (N := some 18) (v := ?_) (a' := ?_) (bA 10 1023) rfl rfl (any_of HT_.out (by kernel_rfl)) (fun _ _ _ h => h) (Or.inl ⟨by rfl, ?_⟩) ?_ ?_
      rotate_left; (intro w'; go_simp; with_reducible rfl); rotate_left; (simp only [Act.put, List.setIfInBounds_toArray, List.set_cons_zero, List.set_cons_succ, i64_w, i32_w]; rfl)
      refine done_ (done_of HT_.out (by kernel_rfl)) ?_
      try go_wp2
      go_meet
      case rel => exact ⟨_, (true), (by first | rfl | (simp; done) | (simp [*]; done) | exact emp1_ _ | exact (emp1_ _).symm | exact emp2_ _ | exact (emp2_ _).symm), H', ⟨by first | omega | exact Nat.le_refl _⟩, ⟨by (with_reducible repeat (first | refine kdn ?_ _ | refine kdw ?_ | refine kal ?_ _)); exact BK202.out⟩, ⟨by repeat (first | (with_reducible first | exact HB.out | apply bal | apply bdn | apply bd1 | refine bst ?_ GE202.out) | exact HB.out)⟩⟩
    subst c8
    have H1 : ((stamp_Sector_Check.f k a0_0 a0_1 t203).bind fun t205 => ((armoirelaw04_Told.f a0_0 a0_1 t203).bind fun bt206 => ((armoireref04_Check.f k bt206.1 bt206.2.1 bt206.2.2).bind fun t209 => (armoirelaw04_StampTexts.j0 k (t205 != t209) a0_0 a0_1 t203)))) = some r := by rw [if_pos rfl] at H; exact H
    clear H
    have H := H1
    clear H1
    replace H := Option.bind_eq_some_iff.mp H
    obtain ⟨t205, A90, H⟩ := H
    replace H : ((armoirelaw04_Told.f a0_0 a0_1 t203).bind fun bt206 => ((armoireref04_Check.f k bt206.1 bt206.2.1 bt206.2.2).bind fun t209 => (armoirelaw04_StampTexts.j0 k (t205 != t209) a0_0 a0_1 t203))) = some r := H
    have A9 := Aside0.mk A90
    clear A90
    replace H := Option.bind_eq_some_iff.mp H
    obtain ⟨⟨t206, t207, t208⟩, A100, H⟩ := H
    replace H : ((armoireref04_Check.f k t206 t207 t208).bind fun t209 => (armoirelaw04_StampTexts.j0 k (t205 != t209) a0_0 a0_1 t203)) = some r := H
    have A10 := Aside0.mk A100
    clear A100
    replace H := Option.bind_eq_some_iff.mp H
    obtain ⟨t209, A110, H⟩ := H
    replace H : (armoirelaw04_StampTexts.j0 k (t205 != t209) a0_0 a0_1 t203) = some r := H
    have A11 := Aside0.mk A110
    clear A110
    have H' := Aside0.mk H
    clear H
    try go_wp2
    have n0_ : Aside0 ((w4.setCell ⟨gb202, 2, none⟩ (.string t203)).heap[gb202]? = some (.cells #[.int .i64 a0_0, .int .u8 a0_1, .string t203] 23 (0, 0))) := ⟨by (with_reducible repeat (first | refine kdn ?_ _ | refine kdw ?_ | refine kal ?_ _)); refine kpt (cs := #[.int .i64 a0_0, .int .u8 a0_1, .string a0_2]) ?_ 2 _ rfl; (with_reducible repeat (first | refine kdn ?_ _ | refine kdw ?_ | refine kal ?_ _)); exact BK202.out⟩
    have n1_ : Aside0 (Below w.heap.size w (w4.setCell ⟨gb202, 2, none⟩ (.string t203))) := ⟨by repeat (first | (with_reducible first | exact HB.out | apply bal | apply bdn | apply bd1 | refine bst ?_ GE202.out) | exact HB.out)⟩
    (try clear BK202)
    (try clear HB)
    generalize (w4.setCell ⟨gb202, 2, none⟩ (.string t203)) = w12 at n0_ n1_ ⊢
    have BK202 := n0_
    have HB := n1_
    clear n0_ n1_
    have n0_ := Aside0.mk (kdw BK202.out)
    have n1_ := Aside0.mk (bd1 HB.out)
    clear BK202
    clear HB
    have BK202 := n0_
    have HB := n1_
    clear n0_ n1_
    refine start_ (n := 10) (S := fun w' => w'.cell? ⟨gb202, 0, none⟩ = some (.int .i64 a0_0) ∧ w'.cell? ⟨gb202, 1, none⟩ = some (.int .u8 a0_1) ∧ w'.cell? ⟨gb202, 2, none⟩ = some (.string t203)) (ds := []) #[false,false,false,false,false,false,false,false,false,false] (by kernel_rfl) rfl rfl ⟨(kcl BK202.out 0).trans rfl, (kcl BK202.out 1).trans rfl, (kcl BK202.out 2).trans rfl⟩ (fun hHeld => ?_); refine with_tabW armoirelaw04_StampTexts.tab2 armoirelaw04_StampTexts.bits2 (fun HT_ HW_ => ?_)
    generalize w12.drew = w13 at BK202 HB hHeld ⊢
    refine one_ (i := 0) (N := some 9) #[true,false,false,false,false,false,false,false,false,false] rfl rfl (one_of HT_.out (by kernel_rfl)) (by decide) (fun K hK => ?_)
    refine goes_ Try.func8 (by kernel_rfl) rfl #[] (by rfl) rfl rfl (by (try simp only [List.map_toArray, List.map_cons, List.map_nil]); first | done | rfl | (simp only [List.length_drop, List.length_take]; rfl) | (simp only [Act.eval, Array.getD_eq_getD_getElem?, Option.getD_some, *]; done) | (simp only [Array.mk.injEq, List.cons.injEq, Value.int.injEq, true_and, and_true]; first | omega | (simp [IntKind.wrap, IntKind.bits, IntKind.signed]; omega))) ?_
    with_reducible refine (armoirelaw04_awake.calls k  true _ A7.out).mono ?_
    rintro e w14 ⟨rfl, hb⟩
    refine ⟨_, rfl, ?_⟩
    have n0_ := Aside0.mk (kbl (g := gb202) (o := .cells #[.int .i64 a0_0, .int .u8 a0_1, .string t203] 23 (0, 0)) (by (with_reducible repeat (first | refine kdn ?_ _ | refine kdw ?_ | refine kal ?_ _)); exact BK202.out) hb)
    have n1_ := Aside0.mk (bsp (by repeat (first | (with_reducible first | exact HB.out | apply bal | apply bdn | apply bd1 | refine bst ?_ GE202.out) | exact HB.out)) hb)
    clear BK202
    clear HB
    have BK202 := n0_
    have HB := n1_
    clear n0_ n1_
    (try clear hb)
    (try clear hb2)
    (try clear hk)
    (try clear hi)
    refine hK.out _ _ ⟨(kcl BK202.out 0).trans rfl, (kcl BK202.out 1).trans rfl, (kcl BK202.out 2).trans rfl⟩ (fun hHeld => ?_)
    clear hK K
    refine norm_ (a' := ?_) ?_ ?_
    rotate_left
    · show Act.put _ (some 9) _ = _
      simp only [Act.put, List.setIfInBounds_toArray, List.set_cons_zero, List.set_cons_succ, i64_w, i32_w]
      rfl
    refine pure_ (i := 1) (N := some 10) (v := ?_) (a' := ?_) (bA 10 3) rfl rfl (any_of HT_.out (by kernel_rfl)) (fun _ _ _ h => h) (Or.inl ⟨by rfl, ?_⟩) ?_ ?_
    rotate_left; (intro w'; go_simp; with_reducible rfl); rotate_left; (simp only [Act.put, List.setIfInBounds_toArray, List.set_cons_zero, List.set_cons_succ, i64_w, i32_w]; rfl)
    refine pure_ (i := 2) (N := some 11) (v := ?_) (a' := ?_) (bA 10 7) rfl rfl (any_of HT_.out (by kernel_rfl)) (fun _ _ _ h => h) (Or.inl ⟨by rfl, ?_⟩) ?_ ?_
    rotate_left; (intro w'; go_simp; with_reducible rfl); rotate_left; (simp only [Act.put, List.setIfInBounds_toArray, List.set_cons_zero, List.set_cons_succ, i64_w, i32_w]; rfl)
    refine take_ (i := 3) (N := some 12) (v := ?_) (a' := ?_) #[true,true,true,true,false,false,false,false,false,false] rfl rfl (tkw HT_.out HW_.out (by kernel_rfl)) (fun _ _ _ h => h) (Or.inl ⟨by rfl, ?_⟩) hHeld ?_ ?_
    rotate_left
    · rintro w' ⟨s0, s1, s2⟩
      go_simp
      with_reducible rfl
    rotate_left; (simp only [Act.put, List.setIfInBounds_toArray, List.set_cons_zero, List.set_cons_succ, i64_w, i32_w]; rfl)
    refine take_ (i := 5) (N := some 14) (v := ?_) (a' := ?_) #[true,true,true,true,false,true,false,false,false,false] rfl rfl (tkw HT_.out HW_.out (by kernel_rfl)) (fun _ _ _ h => h) (Or.inl ⟨by rfl, ?_⟩) hHeld ?_ ?_
    rotate_left
    · rintro w' ⟨s0, s1, s2⟩
      go_simp
      with_reducible rfl
    rotate_left; (simp only [Act.put, List.setIfInBounds_toArray, List.set_cons_zero, List.set_cons_succ, i64_w, i32_w]; rfl)
    refine one_ (i := 4) (N := some 13) #[true,true,true,true,true,true,false,false,false,false] rfl rfl (one_of HT_.out (by kernel_rfl)) (by decide) (fun K hK => ?_)
    refine goes_ Try.func9 (by kernel_rfl) rfl #[.agg #[.int .i64 a0_0, .int .u8 a0_1, .string t203]] (by rfl) rfl rfl (by (try simp only [List.map_toArray, List.map_cons, List.map_nil]); first | done | rfl | (simp only [List.length_drop, List.length_take]; rfl) | (simp only [Act.eval, Array.getD_eq_getD_getElem?, Option.getD_some, *]; done) | (simp only [Array.mk.injEq, List.cons.injEq, Value.int.injEq, true_and, and_true]; first | omega | (simp [IntKind.wrap, IntKind.bits, IntKind.signed]; omega))) ?_
    with_reducible refine (stamp_Sector_Check.calls k a0_0 a0_1 t203 t205 _ A9.out).mono ?_
    rintro e w15 ⟨rfl, hb⟩
    refine ⟨_, rfl, ?_⟩
    have n0_ := Aside0.mk (kbl (g := gb202) (o := .cells #[.int .i64 a0_0, .int .u8 a0_1, .string t203] 23 (0, 0)) (by (with_reducible repeat (first | refine kdn ?_ _ | refine kdw ?_ | refine kal ?_ _)); exact BK202.out) hb)
    have n1_ := Aside0.mk (bsp (by repeat (first | (with_reducible first | exact HB.out | apply bal | apply bdn | apply bd1 | refine bst ?_ GE202.out) | exact HB.out)) hb)
    clear BK202
    clear HB
    have BK202 := n0_
    have HB := n1_
    clear n0_ n1_
    (try clear hb)
    (try clear hb2)
    (try clear hk)
    (try clear hi)
    refine hK.out _ _ ⟨(kcl BK202.out 0).trans rfl, (kcl BK202.out 1).trans rfl, (kcl BK202.out 2).trans rfl⟩ (fun hHeld => ?_)
    clear hK K
    refine norm_ (a' := ?_) ?_ ?_
    rotate_left
    · show Act.put _ (some 13) _ = _
      simp only [Act.put, List.setIfInBounds_toArray, List.set_cons_zero, List.set_cons_succ, i64_w, i32_w]
      rfl
    refine one_ (i := 6) (N := some 15) #[true,true,true,true,true,true,true,false,false,false] rfl rfl (one_of HT_.out (by kernel_rfl)) (by decide) (fun K hK => ?_)
    refine goes_ Try.func11 (by kernel_rfl) rfl #[.agg #[.int .i64 a0_0, .int .u8 a0_1, .string t203]] (by rfl) rfl rfl (by (try simp only [List.map_toArray, List.map_cons, List.map_nil]); first | done | rfl | (simp only [List.length_drop, List.length_take]; rfl) | (simp only [Act.eval, Array.getD_eq_getD_getElem?, Option.getD_some, *]; done) | (simp only [Array.mk.injEq, List.cons.injEq, Value.int.injEq, true_and, and_true]; first | omega | (simp [IntKind.wrap, IntKind.bits, IntKind.signed]; omega))) ?_
    with_reducible refine (armoirelaw04_Told.calls a0_0 a0_1 t203 t206 t207 t208 _ A10.out).mono ?_
    rintro e w16 ⟨rfl, hb⟩
    refine ⟨_, rfl, ?_⟩
    have n0_ := Aside0.mk (kbl (g := gb202) (o := .cells #[.int .i64 a0_0, .int .u8 a0_1, .string t203] 23 (0, 0)) (by (with_reducible repeat (first | refine kdn ?_ _ | refine kdw ?_ | refine kal ?_ _)); exact BK202.out) hb)
    have n1_ := Aside0.mk (bsp (by repeat (first | (with_reducible first | exact HB.out | apply bal | apply bdn | apply bd1 | refine bst ?_ GE202.out) | exact HB.out)) hb)
    clear BK202
    clear HB
    have BK202 := n0_
    have HB := n1_
    clear n0_ n1_
    (try clear hb)
    (try clear hb2)
    (try clear hk)
    (try clear hi)
    refine hK.out _ _ ⟨(kcl BK202.out 0).trans rfl, (kcl BK202.out 1).trans rfl, (kcl BK202.out 2).trans rfl⟩ (fun hHeld => ?_)
    clear hK K
    refine norm_ (a' := ?_) ?_ ?_
    rotate_left
    · show Act.put _ (some 15) _ = _
      simp only [Act.put, List.setIfInBounds_toArray, List.set_cons_zero, List.set_cons_succ, i64_w, i32_w]
      rfl
    refine one_ (i := 7) (N := some 16) #[true,true,true,true,true,true,true,true,false,false] rfl rfl (one_of HT_.out (by kernel_rfl)) (by decide) (fun K hK => ?_)
    refine goes_ Try.func10 (by kernel_rfl) rfl #[.agg #[.int .i64 t206, .int .i64 t207, .string t208]] (by rfl) rfl rfl (by (try simp only [List.map_toArray, List.map_cons, List.map_nil]); first | done | rfl | (simp only [List.length_drop, List.length_take]; rfl) | (simp only [Act.eval, Array.getD_eq_getD_getElem?, Option.getD_some, *]; done) | (simp only [Array.mk.injEq, List.cons.injEq, Value.int.injEq, true_and, and_true]; first | omega | (simp [IntKind.wrap, IntKind.bits, IntKind.signed]; omega))) ?_
    with_reducible refine (armoireref04_Check.calls k t206 t207 t208 t209 _ A11.out).mono ?_
    rintro e w17 ⟨rfl, hb⟩
    refine ⟨_, rfl, ?_⟩
    have n0_ := Aside0.mk (kbl (g := gb202) (o := .cells #[.int .i64 a0_0, .int .u8 a0_1, .string t203] 23 (0, 0)) (by (with_reducible repeat (first | refine kdn ?_ _ | refine kdw ?_ | refine kal ?_ _)); exact BK202.out) hb)
    have n1_ := Aside0.mk (bsp (by repeat (first | (with_reducible first | exact HB.out | apply bal | apply bdn | apply bd1 | refine bst ?_ GE202.out) | exact HB.out)) hb)
    clear BK202
    clear HB
    have BK202 := n0_
    have HB := n1_
    clear n0_ n1_
    (try clear hb)
    (try clear hb2)
    (try clear hk)
    (try clear hi)
    refine hK.out _ _ ⟨(kcl BK202.out 0).trans rfl, (kcl BK202.out 1).trans rfl, (kcl BK202.out 2).trans rfl⟩ (fun hHeld => ?_)
    clear hK K
    refine norm_ (a' := ?_) ?_ ?_
    rotate_left
    · show Act.put _ (some 16) _ = _
      simp only [Act.put, List.setIfInBounds_toArray, List.set_cons_zero, List.set_cons_succ, i64_w, i32_w]
      rfl
    refine pure_ (i := 8) (N := some 17) (v := ?_) (a' := ?_) (bA 10 511) rfl rfl (any_of HT_.out (by kernel_rfl)) (fun _ _ _ h => h) (Or.inl ⟨by rfl, ?_⟩) ?_ ?_
    rotate_left; (intro w'; go_simp; with_reducible rfl); rotate_left; (simp only [Act.put, List.setIfInBounds_toArray, List.set_cons_zero, List.set_cons_succ, i64_w, i32_w]; rfl)
    refine pure_ (i := 9) (N := some 18) (v := ?_) (a' := ?_) (bA 10 1023) rfl rfl (any_of HT_.out (by kernel_rfl)) (fun _ _ _ h => h) (Or.inl ⟨by rfl, ?_⟩) ?_ ?_
    rotate_left; (intro w'; go_simp; with_reducible rfl); rotate_left; (simp only [Act.put, List.setIfInBounds_toArray, List.set_cons_zero, List.set_cons_succ, i64_w, i32_w]; rfl)
    refine done_ (done_of HT_.out (by kernel_rfl)) ?_
    try go_wp2
    go_meet
    case rel => exact ⟨_, ((t205 != t209)), (by first | rfl | (simp; done) | (simp [*]; done) | exact emp1_ _ | exact (emp1_ _).symm | exact emp2_ _ | exact (emp2_ _).symm), H', ⟨by first | omega | exact Nat.le_refl _⟩, ⟨by (with_reducible repeat (first | refine kdn ?_ _ | refine kdw ?_ | refine kal ?_ _)); exact BK202.out⟩, ⟨by repeat (first | (with_reducible first | exact HB.out | apply bal | apply bdn | apply bd1 | refine bst ?_ GE202.out) | exact HB.out)⟩⟩
  clear HC3
  try clear c1
  try clear p2
  try clear c3
  try clear c7
  try clear c8
  try clear c9
  try clear c10
  try clear c11
  try clear hcz5_0
  try clear hcz5_1
  try clear hcz5_2
  try clear hcz6_0
  try clear hcz6_1
  try clear hcz6_2
  try clear hfz5_0
  try clear hfz5_1
  try clear hfz5_2
  try clear hfz6_0
  try clear hfz6_1
  try clear hfz6_2
  obtain ⟨kq, x18_2, rfl, HA, HJ2, BK202, HB⟩ := hcut
  cases kq with
  | zero => exact absurd HA.out (by simp [armoirelaw04_StampTexts.j0])
  | succ kj2 =>
    have H := HA.out
    clear HA
    simp only [armoirelaw04_StampTexts.j0] at H
    by_cases c21 : x18_2 = true
    · subst c21
      have H1 : (some false) = some r := by rw [if_pos rfl] at H; exact H
      clear H
      have H := H1
      clear H1
      obtain rfl := Option.some.inj H
      go_wp2
      go_ret
      exact ⟨by first | rfl | (simp [errW_none, errW_some] <;> rfl) | (simp [*, errW_none, errW_some] <;> rfl), by repeat (first | (with_reducible first | exact HB.out | apply bal | apply bdn | apply bd1 | refine bst ?_ GE202.out) | exact HB.out)⟩
    replace c21 := Bool.eq_false_iff.mpr c21
    subst c21
    have H1 : ((stamp_Sector_Check.f kj2 a0_0 a0_1 t203).bind fun t210 => (if t210 = 0 then ((stamp_Sector_Text.f kj2 a0_0 a0_1 t203).bind fun t211 => ((stamp_Parse.f kj2 t211).bind fun bt212 => ((stamp_Sector_Text.f kj2 a0_0 a0_1 t203).bind fun t217 => ((armoirelaw04_Told.f a0_0 a0_1 t203).bind fun bt218 => ((armoireref04_Text.f kj2 bt218.1 bt218.2.1 bt218.2.2).bind fun t221 => (if t217.toList = t221.toList then ((stamp_Sector_Text.f kj2 a0_0 a0_1 t203).bind fun t222 => (if (t222.size : Int) = 64 then (if (bt212.1 == a0_0 && (bt212.2.1 == a0_1 && (bt212.2.2.1.toList == t203.toList))) = true then (some (bt212.2.2.2 == 0)) else (some false)) else (some false))) else (some false))))))) else (some true))) = some r := by rw [if_neg (show ¬ (false = true) by decide)] at H; exact H
    clear H
    have H := H1
    clear H1
    replace H := Option.bind_eq_some_iff.mp H
    obtain ⟨t210, A220, H⟩ := H
    replace H : (if t210 = 0 then ((stamp_Sector_Text.f kj2 a0_0 a0_1 t203).bind fun t211 => ((stamp_Parse.f kj2 t211).bind fun bt212 => ((stamp_Sector_Text.f kj2 a0_0 a0_1 t203).bind fun t217 => ((armoirelaw04_Told.f a0_0 a0_1 t203).bind fun bt218 => ((armoireref04_Text.f kj2 bt218.1 bt218.2.1 bt218.2.2).bind fun t221 => (if t217.toList = t221.toList then ((stamp_Sector_Text.f kj2 a0_0 a0_1 t203).bind fun t222 => (if (t222.size : Int) = 64 then (if (bt212.1 == a0_0 && (bt212.2.1 == a0_1 && (bt212.2.2.1.toList == t203.toList))) = true then (some (bt212.2.2.2 == 0)) else (some false)) else (some false))) else (some false))))))) else (some true)) = some r := H
    have A22 := Aside0.mk A220
    clear A220
    by_cases c23 : t210 = 0
    rotate_left
    · rw [if_neg c23] at H
      have c23b0 : (t210 == 0) = false := beq_eq_false_iff_ne.mpr c23
      have c23b1 : (t210 != 0) = true := bne_iff_ne.mpr c23
      obtain rfl := Option.some.inj H
      have hcz88_0 : wc.cell? ⟨gb202, 0, none⟩ = some (.int .i64 a0_0) := (kcl BK202.out 0).trans rfl
      have hcz88_1 : wc.cell? ⟨gb202, 1, none⟩ = some (.int .u8 a0_1) := (kcl BK202.out 1).trans rfl
      have hcz88_2 : wc.cell? ⟨gb202, 2, none⟩ = some (.string t203) := (kcl BK202.out 2).trans rfl
      have hfz88_0 := kfr BK202.out 0
      have hfz88_1 := kfr BK202.out 1
      have hfz88_2 := kfr BK202.out 2
      go_wp2_with (first | ((with_reducible refine gcl (f := 9) rfl ?_); refine gl_ (some 20) rfl rfl Try.func9 (by kernel_rfl) rfl #[.agg #[.int .i64 a0_0, .int .u8 a0_1, .string t203]] rfl (by (try simp only [List.map_toArray, List.map_cons, List.map_nil]); first | done | rfl | (simp only [List.length_drop, List.length_take]; rfl)) ?_; (with_reducible refine (stamp_Sector_Check.calls kj2 a0_0 a0_1 t203 t210 _ A22.out).mono ?_); rintro e w89 ⟨rfl, hb⟩; refine ⟨_, rfl, ?_⟩; have n0_ := Aside0.mk (kbl (g := gb202) (o := .cells #[.int .i64 a0_0, .int .u8 a0_1, .string t203] 23 (0, 0)) (by (with_reducible repeat (first | refine kdn ?_ _ | refine kdw ?_ | refine kal ?_ _)); exact BK202.out) hb); have n1_ := Aside0.mk (bsp (by repeat (first | (with_reducible first | exact HB.out | apply bal | apply bdn | apply bd1 | refine bst ?_ GE202.out) | exact HB.out)) hb); clear BK202; clear HB; have BK202 := n0_; have HB := n1_; clear n0_ n1_; (try clear hb); (try clear hb2); (try clear hk); (try clear hi)))
      go_ret
      exact ⟨by first | rfl | (simp [errW_none, errW_some] <;> rfl) | (simp [*, errW_none, errW_some] <;> rfl), by repeat (first | (with_reducible first | exact HB.out | apply bal | apply bdn | apply bd1 | refine bst ?_ GE202.out) | exact HB.out)⟩
    rw [if_pos c23] at H
    have c23b0 : (t210 == 0) = true := beq_iff_eq.mpr c23
    have c23b1 : (t210 != 0) = false := bne_eq_false_iff_eq.mpr c23
    clear c23
    replace H := Option.bind_eq_some_iff.mp H
    obtain ⟨t211, A240, H⟩ := H
    replace H : ((stamp_Parse.f kj2 t211).bind fun bt212 => ((stamp_Sector_Text.f kj2 a0_0 a0_1 t203).bind fun t217 => ((armoirelaw04_Told.f a0_0 a0_1 t203).bind fun bt218 => ((armoireref04_Text.f kj2 bt218.1 bt218.2.1 bt218.2.2).bind fun t221 => (if t217.toList = t221.toList then ((stamp_Sector_Text.f kj2 a0_0 a0_1 t203).bind fun t222 => (if (t222.size : Int) = 64 then (if (bt212.1 == a0_0 && (bt212.2.1 == a0_1 && (bt212.2.2.1.toList == t203.toList))) = true then (some (bt212.2.2.2 == 0)) else (some false)) else (some false))) else (some false)))))) = some r := H
    have A24 := Aside0.mk A240
    clear A240
    replace H := Option.bind_eq_some_iff.mp H
    obtain ⟨⟨t212, t213, t214, t215⟩, A250, H⟩ := H
    replace H : ((stamp_Sector_Text.f kj2 a0_0 a0_1 t203).bind fun t217 => ((armoirelaw04_Told.f a0_0 a0_1 t203).bind fun bt218 => ((armoireref04_Text.f kj2 bt218.1 bt218.2.1 bt218.2.2).bind fun t221 => (if t217.toList = t221.toList then ((stamp_Sector_Text.f kj2 a0_0 a0_1 t203).bind fun t222 => (if (t222.size : Int) = 64 then (if (t212 == a0_0 && (t213 == a0_1 && (t214.toList == t203.toList))) = true then (some (t215 == 0)) else (some false)) else (some false))) else (some false))))) = some r := H
    have A25 := Aside0.mk A250
    clear A250
    replace H := Option.bind_eq_some_iff.mp H
    obtain ⟨t217, A260, H⟩ := H
    replace H : ((armoirelaw04_Told.f a0_0 a0_1 t203).bind fun bt218 => ((armoireref04_Text.f kj2 bt218.1 bt218.2.1 bt218.2.2).bind fun t221 => (if t217.toList = t221.toList then ((stamp_Sector_Text.f kj2 a0_0 a0_1 t203).bind fun t222 => (if (t222.size : Int) = 64 then (if (t212 == a0_0 && (t213 == a0_1 && (t214.toList == t203.toList))) = true then (some (t215 == 0)) else (some false)) else (some false))) else (some false)))) = some r := H
    have A26 := Aside0.mk A260
    clear A260
    replace H := Option.bind_eq_some_iff.mp H
    obtain ⟨⟨t218, t219, t220⟩, A270, H⟩ := H
    replace H : ((armoireref04_Text.f kj2 t218 t219 t220).bind fun t221 => (if t217.toList = t221.toList then ((stamp_Sector_Text.f kj2 a0_0 a0_1 t203).bind fun t222 => (if (t222.size : Int) = 64 then (if (t212 == a0_0 && (t213 == a0_1 && (t214.toList == t203.toList))) = true then (some (t215 == 0)) else (some false)) else (some false))) else (some false))) = some r := H
    have A27 := Aside0.mk A270
    clear A270
    replace H := Option.bind_eq_some_iff.mp H
    obtain ⟨t221, A280, H⟩ := H
    replace H : (if t217.toList = t221.toList then ((stamp_Sector_Text.f kj2 a0_0 a0_1 t203).bind fun t222 => (if (t222.size : Int) = 64 then (if (t212 == a0_0 && (t213 == a0_1 && (t214.toList == t203.toList))) = true then (some (t215 == 0)) else (some false)) else (some false))) else (some false)) = some r := H
    have A28 := Aside0.mk A280
    clear A280
    by_cases c29 : t217.toList = t221.toList
    rotate_left
    · rw [if_neg c29] at H
      have c29b0 : (t217.toList == t221.toList) = false := beq_eq_false_iff_ne.mpr c29
      have c29b1 : (t217.toList != t221.toList) = true := bne_iff_ne.mpr c29
      obtain rfl := Option.some.inj H
      have hcz75_0 : wc.cell? ⟨gb202, 0, none⟩ = some (.int .i64 a0_0) := (kcl BK202.out 0).trans rfl
      have hcz75_1 : wc.cell? ⟨gb202, 1, none⟩ = some (.int .u8 a0_1) := (kcl BK202.out 1).trans rfl
      have hcz75_2 : wc.cell? ⟨gb202, 2, none⟩ = some (.string t203) := (kcl BK202.out 2).trans rfl
      have hfz75_0 := kfr BK202.out 0
      have hfz75_1 := kfr BK202.out 1
      have hfz75_2 := kfr BK202.out 2
      try go_wp2_with (first | ((with_reducible refine gcl (f := 9) rfl ?_); refine gl_ (some 20) rfl rfl Try.func9 (by kernel_rfl) rfl #[.agg #[.int .i64 a0_0, .int .u8 a0_1, .string t203]] rfl (by (try simp only [List.map_toArray, List.map_cons, List.map_nil]); first | done | rfl | (simp only [List.length_drop, List.length_take]; rfl)) ?_; (with_reducible refine (stamp_Sector_Check.calls kj2 a0_0 a0_1 t203 t210 _ A22.out).mono ?_); rintro e w76 ⟨rfl, hb⟩; refine ⟨_, rfl, ?_⟩; have n0_ := Aside0.mk (kbl (g := gb202) (o := .cells #[.int .i64 a0_0, .int .u8 a0_1, .string t203] 23 (0, 0)) (by (with_reducible repeat (first | refine kdn ?_ _ | refine kdw ?_ | refine kal ?_ _)); exact BK202.out) hb); have n1_ := Aside0.mk (bsp (by repeat (first | (with_reducible first | exact HB.out | apply bal | apply bdn | apply bd1 | refine bst ?_ GE202.out) | exact HB.out)) hb); clear BK202; clear HB; have BK202 := n0_; have HB := n1_; clear n0_ n1_; (try clear hb); (try clear hb2); (try clear hk); (try clear hi); have hcz77_0 : w76.cell? ⟨gb202, 0, none⟩ = some (.int .i64 a0_0) := (kcl BK202.out 0).trans rfl; have hcz77_1 : w76.cell? ⟨gb202, 1, none⟩ = some (.int .u8 a0_1) := (kcl BK202.out 1).trans rfl; have hcz77_2 : w76.cell? ⟨gb202, 2, none⟩ = some (.string t203) := (kcl BK202.out 2).trans rfl; have hfz77_0 := kfr BK202.out 0; have hfz77_1 := kfr BK202.out 1; have hfz77_2 := kfr BK202.out 2) | ((with_reducible refine gcl (f := 13) rfl ?_); refine gl_ (some 24) rfl rfl Try.func13 (by kernel_rfl) rfl #[.agg #[.int .i64 a0_0, .int .u8 a0_1, .string t203]] rfl (by (try simp only [List.map_toArray, List.map_cons, List.map_nil]); first | done | rfl | (simp only [List.length_drop, List.length_take]; rfl)) ?_; (with_reducible refine (stamp_Sector_Text.calls kj2 a0_0 a0_1 t203 t211 _ A24.out).mono ?_); rintro e w78 ⟨rfl, hb⟩; refine ⟨_, rfl, ?_⟩; have n0_ := Aside0.mk (kbl (g := gb202) (o := .cells #[.int .i64 a0_0, .int .u8 a0_1, .string t203] 23 (0, 0)) (by (with_reducible repeat (first | refine kdn ?_ _ | refine kdw ?_ | refine kal ?_ _)); exact BK202.out) hb); have n1_ := Aside0.mk (bsp (by repeat (first | (with_reducible first | exact HB.out | apply bal | apply bdn | apply bd1 | refine bst ?_ GE202.out) | exact HB.out)) hb); clear BK202; clear HB; have BK202 := n0_; have HB := n1_; clear n0_ n1_; (try clear hb); (try clear hb2); (try clear hk); (try clear hi)) | ((with_reducible refine gcl (f := 12) rfl ?_); refine gl_ (some 25) rfl rfl Try.func12 (by kernel_rfl) rfl #[.string t211] rfl (by (try simp only [List.map_toArray, List.map_cons, List.map_nil]); first | done | rfl | (simp only [List.length_drop, List.length_take]; rfl)) ?_; (with_reducible refine (stamp_Parse.calls kj2 t211 t212 t213 t214 t215 _ A25.out).mono ?_); rintro e w79 ⟨rfl, hb⟩; refine ⟨_, rfl, ?_⟩; have n0_ := Aside0.mk (kbl (g := gb202) (o := .cells #[.int .i64 a0_0, .int .u8 a0_1, .string t203] 23 (0, 0)) (by (with_reducible repeat (first | refine kdn ?_ _ | refine kdw ?_ | refine kal ?_ _)); exact BK202.out) hb); have n1_ := Aside0.mk (bsp (by repeat (first | (with_reducible first | exact HB.out | apply bal | apply bdn | apply bd1 | refine bst ?_ GE202.out) | exact HB.out)) hb); clear BK202; clear HB; have BK202 := n0_; have HB := n1_; clear n0_ n1_; (try clear hb); (try clear hb2); (try clear hk); (try clear hi)) | ((with_reducible refine gds (N := 3) rfl ?_); (try (refine gate_guard (by rfl) ?_; dsimp only)); refine bev ?hg (N := 3) ?hd (cs := #[.int .i64 0, .int .u8 0, .string (⟨#[]⟩ : ByteArray)]) (t := 23) ?hr ?_; (case hd => rfl); (case hg => rfl); (case hr => first | (go_simp; done) | (go_simp; rfl)); intro gb216 hg w80 hbox hb; have n0_ := Aside0.mk (kbl (g := gb202) (o := .cells #[.int .i64 a0_0, .int .u8 a0_1, .string t203] 23 (0, 0)) (by (with_reducible repeat (first | refine kdn ?_ _ | refine kdw ?_ | refine kal ?_ _)); exact BK202.out) hb); have n1_ := Aside0.mk (bsp (by repeat (first | (with_reducible first | exact HB.out | apply bal | apply bdn | apply bd1 | refine bst ?_ GE202.out) | exact HB.out)) hb); have n2_ := Aside0.mk (hbox); have n3_ := Aside0.mk ((by rw [hg]; exact (bsz (by repeat (first | (with_reducible first | exact HB.out | apply bal | apply bdn | apply bd1 | refine bst ?_ GE202.out) | exact HB.out))) : w.heap.size ≤ gb216)); have n4_ := Aside0.mk ((by rw [hg]; exact (bsz (by repeat (first | (with_reducible first | exact HB.out | apply bal | apply bdn | apply bd1 | refine bst ?_ GE202.out) | exact HB.out))) : w.heap.size ≤ gb216)); have n5_ := Aside0.mk ((by rw [hg]; exact Nat.ne_of_lt (blk_lt (g := gb202) (o := .cells #[.int .i64 a0_0, .int .u8 a0_1, .string t203] 23 (0, 0)) (by (with_reducible repeat (first | refine kdn ?_ _ | refine kdw ?_ | refine kal ?_ _)); exact BK202.out)) : gb202 ≠ gb216)); have n6_ := Aside0.mk ((by rw [hg]; exact Nat.ne_of_gt (blk_lt (g := gb202) (o := .cells #[.int .i64 a0_0, .int .u8 a0_1, .string t203] 23 (0, 0)) (by (with_reducible repeat (first | refine kdn ?_ _ | refine kdw ?_ | refine kal ?_ _)); exact BK202.out)) : gb216 ≠ gb202)); clear BK202; clear HB; have BK202 := n0_; have HB := n1_; have BK216 := n2_; have GW216 := n3_; have GE216 := n4_; have NB202_216 := n5_; have NB216_202 := n6_; clear n0_ n1_ n2_ n3_ n4_ n5_ n6_; clear hb hbox hg; have hnb81 := NB216_202.out; have hnc81 := NB202_216.out; have hcz82_0 : w80.cell? ⟨gb216, 0, none⟩ = some (.int .i64 0) := (kcl BK216.out 0).trans rfl; have hcz82_1 : w80.cell? ⟨gb216, 1, none⟩ = some (.int .u8 0) := (kcl BK216.out 1).trans rfl; have hcz82_2 : w80.cell? ⟨gb216, 2, none⟩ = some (.string (⟨#[]⟩ : ByteArray)) := (kcl BK216.out 2).trans rfl; have hfz82_0 := kfr BK216.out 0; have hfz82_1 := kfr BK216.out 1; have hfz82_2 := kfr BK216.out 2))
      have n0_ : Aside0 ((((w80.setCell ⟨gb216, 0, none⟩ (.int .i64 t212)).setCell ⟨gb216, 1, none⟩ (.int .u8 t213)).setCell ⟨gb216, 2, none⟩ (.string t214)).heap[gb202]? = some (.cells #[.int .i64 a0_0, .int .u8 a0_1, .string t203] 23 (0, 0))) := ⟨by (with_reducible repeat (first | refine kdn ?_ _ | refine kdw ?_ | refine kal ?_ _)); refine blk_far ?_ NB202_216.out _; (with_reducible repeat (first | refine kdn ?_ _ | refine kdw ?_ | refine kal ?_ _)); refine blk_far ?_ NB202_216.out _; (with_reducible repeat (first | refine kdn ?_ _ | refine kdw ?_ | refine kal ?_ _)); refine blk_far ?_ NB202_216.out _; (with_reducible repeat (first | refine kdn ?_ _ | refine kdw ?_ | refine kal ?_ _)); exact BK202.out⟩
      have n1_ : Aside0 ((((w80.setCell ⟨gb216, 0, none⟩ (.int .i64 t212)).setCell ⟨gb216, 1, none⟩ (.int .u8 t213)).setCell ⟨gb216, 2, none⟩ (.string t214)).heap[gb216]? = some (.cells #[.int .i64 t212, .int .u8 t213, .string t214] 23 (0, 0))) := ⟨by (with_reducible repeat (first | refine kdn ?_ _ | refine kdw ?_ | refine kal ?_ _)); refine kpt (cs := #[.int .i64 t212, .int .u8 t213, .string (⟨#[]⟩ : ByteArray)]) ?_ 2 _ rfl; (with_reducible repeat (first | refine kdn ?_ _ | refine kdw ?_ | refine kal ?_ _)); refine kpt (cs := #[.int .i64 t212, .int .u8 0, .string (⟨#[]⟩ : ByteArray)]) ?_ 1 _ rfl; (with_reducible repeat (first | refine kdn ?_ _ | refine kdw ?_ | refine kal ?_ _)); refine kpt (cs := #[.int .i64 0, .int .u8 0, .string (⟨#[]⟩ : ByteArray)]) ?_ 0 _ rfl; (with_reducible repeat (first | refine kdn ?_ _ | refine kdw ?_ | refine kal ?_ _)); exact BK216.out⟩
      have n2_ : Aside0 (Below w.heap.size w (((w80.setCell ⟨gb216, 0, none⟩ (.int .i64 t212)).setCell ⟨gb216, 1, none⟩ (.int .u8 t213)).setCell ⟨gb216, 2, none⟩ (.string t214))) := ⟨by repeat (first | (with_reducible first | exact HB.out | apply bal | apply bdn | apply bd1 | refine bst ?_ GE202.out | refine bst ?_ GE216.out) | exact HB.out)⟩
      (try clear BK202)
      (try clear BK216)
      (try clear HB)
      generalize (((w80.setCell ⟨gb216, 0, none⟩ (.int .i64 t212)).setCell ⟨gb216, 1, none⟩ (.int .u8 t213)).setCell ⟨gb216, 2, none⟩ (.string t214)) = w83 at n0_ n1_ n2_ ⊢
      have BK202 := n0_
      have BK216 := n1_
      have HB := n2_
      clear n0_ n1_ n2_
      have n0_ := Aside0.mk (kdw BK202.out)
      have n1_ := Aside0.mk (kdw BK216.out)
      have n2_ := Aside0.mk (bd1 HB.out)
      clear BK202
      clear BK216
      clear HB
      have BK202 := n0_
      have BK216 := n1_
      have HB := n2_
      clear n0_ n1_ n2_
      refine start_ (n := 22) (S := fun w' => w'.cell? ⟨gb202, 0, none⟩ = some (.int .i64 a0_0) ∧ w'.cell? ⟨gb202, 1, none⟩ = some (.int .u8 a0_1) ∧ w'.cell? ⟨gb202, 2, none⟩ = some (.string t203)) (ds := []) #[false,false,false,false,false,false,false,false,false,false,false,false,false,false,false,false,false,false,false,false,false,false] (by kernel_rfl) rfl rfl ⟨(kcl BK202.out 0).trans rfl, (kcl BK202.out 1).trans rfl, (kcl BK202.out 2).trans rfl⟩ (fun hHeld => ?_); refine with_tabW armoirelaw04_StampTexts.tab7 armoirelaw04_StampTexts.bits7 (fun HT_ HW_ => ?_)
      generalize w83.drew = w84 at BK202 BK216 HB hHeld ⊢
      refine take_ (i := 0) (N := some 28) (v := ?_) (a' := ?_) #[true,false,false,false,false,false,false,false,false,false,false,false,false,false,false,false,false,false,false,false,false,false] rfl rfl (tkw HT_.out HW_.out (by kernel_rfl)) (fun _ _ _ h => h) (Or.inl ⟨by rfl, ?_⟩) hHeld ?_ ?_
      rotate_left
      · rintro w' ⟨s0, s1, s2⟩
        go_simp
        with_reducible rfl
      rotate_left; (simp only [Act.put, List.setIfInBounds_toArray, List.set_cons_zero, List.set_cons_succ, i64_w, i32_w]; rfl)
      refine take_ (i := 2) (N := some 30) (v := ?_) (a' := ?_) #[true,false,true,false,false,false,false,false,false,false,false,false,false,false,false,false,false,false,false,false,false,false] rfl rfl (tkw HT_.out HW_.out (by kernel_rfl)) (fun _ _ _ h => h) (Or.inl ⟨by rfl, ?_⟩) hHeld ?_ ?_
      rotate_left
      · rintro w' ⟨s0, s1, s2⟩
        go_simp
        with_reducible rfl
      rotate_left; (simp only [Act.put, List.setIfInBounds_toArray, List.set_cons_zero, List.set_cons_succ, i64_w, i32_w]; rfl)
      refine one_ (i := 1) (N := some 29) #[true,true,true,false,false,false,false,false,false,false,false,false,false,false,false,false,false,false,false,false,false,false] rfl rfl (one_of HT_.out (by kernel_rfl)) (by decide) (fun K hK => ?_)
      refine goes_ Try.func13 (by kernel_rfl) rfl #[.agg #[.int .i64 a0_0, .int .u8 a0_1, .string t203]] (by rfl) rfl rfl (by (try simp only [List.map_toArray, List.map_cons, List.map_nil]); first | done | rfl | (simp only [List.length_drop, List.length_take]; rfl) | (simp only [Act.eval, Array.getD_eq_getD_getElem?, Option.getD_some, *]; done) | (simp only [Array.mk.injEq, List.cons.injEq, Value.int.injEq, true_and, and_true]; first | omega | (simp [IntKind.wrap, IntKind.bits, IntKind.signed]; omega))) ?_
      with_reducible refine (stamp_Sector_Text.calls kj2 a0_0 a0_1 t203 t217 _ A26.out).mono ?_
      rintro e w85 ⟨rfl, hb⟩
      refine ⟨_, rfl, ?_⟩
      have n0_ := Aside0.mk (kbl (g := gb202) (o := .cells #[.int .i64 a0_0, .int .u8 a0_1, .string t203] 23 (0, 0)) (by (with_reducible repeat (first | refine kdn ?_ _ | refine kdw ?_ | refine kal ?_ _)); exact BK202.out) hb)
      have n1_ := Aside0.mk (kbl (g := gb216) (o := .cells #[.int .i64 t212, .int .u8 t213, .string t214] 23 (0, 0)) (by (with_reducible repeat (first | refine kdn ?_ _ | refine kdw ?_ | refine kal ?_ _)); exact BK216.out) hb)
      have n2_ := Aside0.mk (bsp (by repeat (first | (with_reducible first | exact HB.out | apply bal | apply bdn | apply bd1 | refine bst ?_ GE202.out | refine bst ?_ GE216.out) | exact HB.out)) hb)
      clear BK202
      clear BK216
      clear HB
      have BK202 := n0_
      have BK216 := n1_
      have HB := n2_
      clear n0_ n1_ n2_
      (try clear hb)
      (try clear hb2)
      (try clear hk)
      (try clear hi)
      refine hK.out _ _ ⟨(kcl BK202.out 0).trans rfl, (kcl BK202.out 1).trans rfl, (kcl BK202.out 2).trans rfl⟩ (fun hHeld => ?_)
      clear hK K
      refine norm_ (a' := ?_) ?_ ?_
      rotate_left
      · show Act.put _ (some 29) _ = _
        simp only [Act.put, List.setIfInBounds_toArray, List.set_cons_zero, List.set_cons_succ, i64_w, i32_w]
        rfl
      refine one_ (i := 3) (N := some 31) #[true,true,true,true,false,false,false,false,false,false,false,false,false,false,false,false,false,false,false,false,false,false] rfl rfl (one_of HT_.out (by kernel_rfl)) (by decide) (fun K hK => ?_)
      refine goes_ Try.func11 (by kernel_rfl) rfl #[.agg #[.int .i64 a0_0, .int .u8 a0_1, .string t203]] (by rfl) rfl rfl (by (try simp only [List.map_toArray, List.map_cons, List.map_nil]); first | done | rfl | (simp only [List.length_drop, List.length_take]; rfl) | (simp only [Act.eval, Array.getD_eq_getD_getElem?, Option.getD_some, *]; done) | (simp only [Array.mk.injEq, List.cons.injEq, Value.int.injEq, true_and, and_true]; first | omega | (simp [IntKind.wrap, IntKind.bits, IntKind.signed]; omega))) ?_
      with_reducible refine (armoirelaw04_Told.calls a0_0 a0_1 t203 t218 t219 t220 _ A27.out).mono ?_
      rintro e w86 ⟨rfl, hb⟩
      refine ⟨_, rfl, ?_⟩
      have n0_ := Aside0.mk (kbl (g := gb202) (o := .cells #[.int .i64 a0_0, .int .u8 a0_1, .string t203] 23 (0, 0)) (by (with_reducible repeat (first | refine kdn ?_ _ | refine kdw ?_ | refine kal ?_ _)); exact BK202.out) hb)
      have n1_ := Aside0.mk (kbl (g := gb216) (o := .cells #[.int .i64 t212, .int .u8 t213, .string t214] 23 (0, 0)) (by (with_reducible repeat (first | refine kdn ?_ _ | refine kdw ?_ | refine kal ?_ _)); exact BK216.out) hb)
      have n2_ := Aside0.mk (bsp (by repeat (first | (with_reducible first | exact HB.out | apply bal | apply bdn | apply bd1 | refine bst ?_ GE202.out | refine bst ?_ GE216.out) | exact HB.out)) hb)
      clear BK202
      clear BK216
      clear HB
      have BK202 := n0_
      have BK216 := n1_
      have HB := n2_
      clear n0_ n1_ n2_
      (try clear hb)
      (try clear hb2)
      (try clear hk)
      (try clear hi)
      refine hK.out _ _ ⟨(kcl BK202.out 0).trans rfl, (kcl BK202.out 1).trans rfl, (kcl BK202.out 2).trans rfl⟩ (fun hHeld => ?_)
      clear hK K
      refine norm_ (a' := ?_) ?_ ?_
      rotate_left
      · show Act.put _ (some 31) _ = _
        simp only [Act.put, List.setIfInBounds_toArray, List.set_cons_zero, List.set_cons_succ, i64_w, i32_w]
        rfl
      refine one_ (i := 4) (N := some 32) #[true,true,true,true,true,false,false,false,false,false,false,false,false,false,false,false,false,false,false,false,false,false] rfl rfl (one_of HT_.out (by kernel_rfl)) (by decide) (fun K hK => ?_)
      refine goes_ Try.func14 (by kernel_rfl) rfl #[.agg #[.int .i64 t218, .int .i64 t219, .string t220]] (by rfl) rfl rfl (by (try simp only [List.map_toArray, List.map_cons, List.map_nil]); first | done | rfl | (simp only [List.length_drop, List.length_take]; rfl) | (simp only [Act.eval, Array.getD_eq_getD_getElem?, Option.getD_some, *]; done) | (simp only [Array.mk.injEq, List.cons.injEq, Value.int.injEq, true_and, and_true]; first | omega | (simp [IntKind.wrap, IntKind.bits, IntKind.signed]; omega))) ?_
      with_reducible refine (armoireref04_Text.calls kj2 t218 t219 t220 t221 _ A28.out).mono ?_
      rintro e w87 ⟨rfl, hb⟩
      refine ⟨_, rfl, ?_⟩
      have n0_ := Aside0.mk (kbl (g := gb202) (o := .cells #[.int .i64 a0_0, .int .u8 a0_1, .string t203] 23 (0, 0)) (by (with_reducible repeat (first | refine kdn ?_ _ | refine kdw ?_ | refine kal ?_ _)); exact BK202.out) hb)
      have n1_ := Aside0.mk (kbl (g := gb216) (o := .cells #[.int .i64 t212, .int .u8 t213, .string t214] 23 (0, 0)) (by (with_reducible repeat (first | refine kdn ?_ _ | refine kdw ?_ | refine kal ?_ _)); exact BK216.out) hb)
      have n2_ := Aside0.mk (bsp (by repeat (first | (with_reducible first | exact HB.out | apply bal | apply bdn | apply bd1 | refine bst ?_ GE202.out | refine bst ?_ GE216.out) | exact HB.out)) hb)
      clear BK202
      clear BK216
      clear HB
      have BK202 := n0_
      have BK216 := n1_
      have HB := n2_
      clear n0_ n1_ n2_
      (try clear hb)
      (try clear hb2)
      (try clear hk)
      (try clear hi)
      refine hK.out _ _ ⟨(kcl BK202.out 0).trans rfl, (kcl BK202.out 1).trans rfl, (kcl BK202.out 2).trans rfl⟩ (fun hHeld => ?_)
      clear hK K
      refine norm_ (a' := ?_) ?_ ?_
      rotate_left
      · show Act.put _ (some 32) _ = _
        simp only [Act.put, List.setIfInBounds_toArray, List.set_cons_zero, List.set_cons_succ, i64_w, i32_w]
        rfl
      refine pure_ (i := 5) (N := some 33) (v := ?_) (a' := ?_) (bA 22 63) rfl rfl (any_of HT_.out (by kernel_rfl)) (fun _ _ _ h => h) (Or.inl ⟨by rfl, ?_⟩) ?_ ?_
      rotate_left; (intro w'; go_simp; with_reducible rfl); rotate_left; (simp only [Act.put, List.setIfInBounds_toArray, List.set_cons_zero, List.set_cons_succ, i64_w, i32_w]; rfl)
      refine pure_ (i := 6) (N := some 34) (v := ?_) (a' := ?_) (bA 22 127) rfl rfl (any_of HT_.out (by kernel_rfl)) (fun _ _ _ h => h) (Or.inl ⟨by rfl, ?_⟩) ?_ ?_
      rotate_left; (intro w'; go_simp; with_reducible rfl); rotate_left; (simp only [Act.put, List.setIfInBounds_toArray, List.set_cons_zero, List.set_cons_succ, i64_w, i32_w]; rfl)
      refine pure_ (i := 7) (N := some 35) (v := undef) (a' := ?_) (bA 22 255) rfl rfl (any_of HT_.out (by kernel_rfl)) (fun _ _ _ h => h) (Or.inr ⟨by rfl, rfl⟩) ?_ ?_
      rotate_left; (simp only [Act.put, List.setIfInBounds_toArray, List.set_cons_zero, List.set_cons_succ, i64_w, i32_w]; rfl)
      refine pure_ (i := 8) (N := some 36) (v := undef) (a' := ?_) (bA 22 511) rfl rfl (any_of HT_.out (by kernel_rfl)) (fun _ _ _ h => h) (Or.inr ⟨by rfl, rfl⟩) ?_ ?_
      rotate_left; (simp only [Act.put, List.setIfInBounds_toArray, List.set_cons_zero, List.set_cons_succ, i64_w, i32_w]; rfl)
      refine pure_ (i := 9) (N := some 37) (v := undef) (a' := ?_) (bA 22 1023) rfl rfl (any_of HT_.out (by kernel_rfl)) (fun _ _ _ h => h) (Or.inr ⟨by rfl, rfl⟩) ?_ ?_
      rotate_left; (simp only [Act.put, List.setIfInBounds_toArray, List.set_cons_zero, List.set_cons_succ, i64_w, i32_w]; rfl)
      refine pure_ (i := 10) (N := some 38) (v := undef) (a' := ?_) (bA 22 2047) rfl rfl (any_of HT_.out (by kernel_rfl)) (fun _ _ _ h => h) (Or.inr ⟨by rfl, rfl⟩) ?_ ?_
      rotate_left; (simp only [Act.put, List.setIfInBounds_toArray, List.set_cons_zero, List.set_cons_succ, i64_w, i32_w]; rfl)
      refine pure_ (i := 11) (N := some 39) (v := ?_) (a' := ?_) (bA 22 4095) rfl rfl (any_of HT_.out (by kernel_rfl)) (fun _ _ _ h => h) (Or.inl ⟨by rfl, ?_⟩) ?_ ?_
      rotate_left; (intro w'; go_simp; with_reducible rfl); rotate_left; (simp only [Act.put, List.setIfInBounds_toArray, List.set_cons_zero, List.set_cons_succ, i64_w, i32_w]; rfl)
      refine pure_ (i := 12) (N := some 40) (v := ?_) (a' := ?_) (bA 22 8191) rfl rfl (any_of HT_.out (by kernel_rfl)) (fun _ _ _ h => h) (Or.inl ⟨by rfl, ?_⟩) ?_ ?_
      rotate_left; (intro w'; go_simp; with_reducible rfl); rotate_left; (simp only [Act.put, List.setIfInBounds_toArray, List.set_cons_zero, List.set_cons_succ, i64_w, i32_w]; rfl)
      refine pure_ (i := 13) (N := some 41) (v := undef) (a' := ?_) (bA 22 16383) rfl rfl (any_of HT_.out (by kernel_rfl)) (fun _ _ _ h => h) (Or.inr ⟨by rfl, rfl⟩) ?_ ?_
      rotate_left; (simp only [Act.put, List.setIfInBounds_toArray, List.set_cons_zero, List.set_cons_succ, i64_w, i32_w]; rfl)
      refine pure_ (i := 14) (N := some 42) (v := undef) (a' := ?_) (bA 22 32767) rfl rfl (any_of HT_.out (by kernel_rfl)) (fun _ _ _ h => h) (Or.inr ⟨by rfl, rfl⟩) ?_ ?_
      rotate_left; (simp only [Act.put, List.setIfInBounds_toArray, List.set_cons_zero, List.set_cons_succ, i64_w, i32_w]; rfl)
      refine pure_ (i := 15) (N := some 43) (v := undef) (a' := ?_) (bA 22 65535) rfl rfl (any_of HT_.out (by kernel_rfl)) (fun _ _ _ h => h) (Or.inr ⟨by rfl, rfl⟩) ?_ ?_
      rotate_left; (simp only [Act.put, List.setIfInBounds_toArray, List.set_cons_zero, List.set_cons_succ, i64_w, i32_w]; rfl)
      refine pure_ (i := 16) (N := some 44) (v := ?_) (a' := ?_) (bA 22 131071) rfl rfl (any_of HT_.out (by kernel_rfl)) (fun _ _ _ h => h) (Or.inl ⟨by rfl, ?_⟩) ?_ ?_
      rotate_left; (intro w'; go_simp; with_reducible rfl); rotate_left; (simp only [Act.put, List.setIfInBounds_toArray, List.set_cons_zero, List.set_cons_succ, i64_w, i32_w]; rfl)
      refine pure_ (i := 17) (N := some 45) (v := ?_) (a' := ?_) (bA 22 262143) rfl rfl (any_of HT_.out (by kernel_rfl)) (fun _ _ _ h => h) (Or.inl ⟨by rfl, ?_⟩) ?_ ?_
      rotate_left; (intro w'; go_simp; with_reducible rfl); rotate_left; (simp only [Act.put, List.setIfInBounds_toArray, List.set_cons_zero, List.set_cons_succ, i64_w, i32_w]; rfl)
      refine pure_ (i := 18) (N := some 46) (v := undef) (a' := ?_) (bA 22 524287) rfl rfl (any_of HT_.out (by kernel_rfl)) (fun _ _ _ h => h) (Or.inr ⟨by rfl, rfl⟩) ?_ ?_
      rotate_left; (simp only [Act.put, List.setIfInBounds_toArray, List.set_cons_zero, List.set_cons_succ, i64_w, i32_w]; rfl)
      refine pure_ (i := 19) (N := some 47) (v := undef) (a' := ?_) (bA 22 1048575) rfl rfl (any_of HT_.out (by kernel_rfl)) (fun _ _ _ h => h) (Or.inr ⟨by rfl, rfl⟩) ?_ ?_
      rotate_left; (simp only [Act.put, List.setIfInBounds_toArray, List.set_cons_zero, List.set_cons_succ, i64_w, i32_w]; rfl)
      refine pure_ (i := 20) (N := some 48) (v := ?_) (a' := ?_) (bA 22 2097151) rfl rfl (any_of HT_.out (by kernel_rfl)) (fun _ _ _ h => h) (Or.inl ⟨by rfl, ?_⟩) ?_ ?_
      rotate_left; (intro w'; go_simp; with_reducible rfl); rotate_left; (simp only [Act.put, List.setIfInBounds_toArray, List.set_cons_zero, List.set_cons_succ, i64_w, i32_w]; rfl)
      refine pure_ (i := 21) (N := some 2) (v := ?_) (a' := ?_) (bA 22 4194303) rfl rfl (any_of HT_.out (by kernel_rfl)) (fun _ _ _ h => h) (Or.inl ⟨by rfl, ?_⟩) ?_ ?_
      rotate_left; (intro w'; go_simp; with_reducible rfl); rotate_left; (simp only [Act.put, List.setIfInBounds_toArray, List.set_cons_zero, List.set_cons_succ, i64_w, i32_w]; rfl)
      refine done_ (done_of HT_.out (by kernel_rfl)) ?_
      try go_wp2
      go_ret
      exact ⟨by first | rfl | (simp [errW_none, errW_some] <;> rfl) | (simp [*, errW_none, errW_some] <;> rfl), by repeat (first | (with_reducible first | exact HB.out | apply bal | apply bdn | apply bd1 | refine bst ?_ GE202.out | refine bst ?_ GE216.out) | exact HB.out)⟩
    rw [if_pos c29] at H
    have c29b0 : (t217.toList == t221.toList) = true := beq_iff_eq.mpr c29
    have c29b1 : (t217.toList != t221.toList) = false := bne_eq_false_iff_eq.mpr c29
    clear c29
    replace H := Option.bind_eq_some_iff.mp H
    obtain ⟨t222, A300, H⟩ := H
    replace H : (if (t222.size : Int) = 64 then (if (t212 == a0_0 && (t213 == a0_1 && (t214.toList == t203.toList))) = true then (some (t215 == 0)) else (some false)) else (some false)) = some r := H
    have A30 := Aside0.mk A300
    clear A300
    by_cases c31 : (t222.size : Int) = 64
    rotate_left
    · rw [if_neg c31] at H
      have c31b0 : ((t222.size : Int) == 64) = false := beq_eq_false_iff_ne.mpr c31
      have c31b1 : ((t222.size : Int) != 64) = true := bne_iff_ne.mpr c31
      obtain rfl := Option.some.inj H
      have hcz61_0 : wc.cell? ⟨gb202, 0, none⟩ = some (.int .i64 a0_0) := (kcl BK202.out 0).trans rfl
      have hcz61_1 : wc.cell? ⟨gb202, 1, none⟩ = some (.int .u8 a0_1) := (kcl BK202.out 1).trans rfl
      have hcz61_2 : wc.cell? ⟨gb202, 2, none⟩ = some (.string t203) := (kcl BK202.out 2).trans rfl
      have hfz61_0 := kfr BK202.out 0
      have hfz61_1 := kfr BK202.out 1
      have hfz61_2 := kfr BK202.out 2
      try go_wp2_with (first | ((with_reducible refine gcl (f := 9) rfl ?_); refine gl_ (some 20) rfl rfl Try.func9 (by kernel_rfl) rfl #[.agg #[.int .i64 a0_0, .int .u8 a0_1, .string t203]] rfl (by (try simp only [List.map_toArray, List.map_cons, List.map_nil]); first | done | rfl | (simp only [List.length_drop, List.length_take]; rfl)) ?_; (with_reducible refine (stamp_Sector_Check.calls kj2 a0_0 a0_1 t203 t210 _ A22.out).mono ?_); rintro e w62 ⟨rfl, hb⟩; refine ⟨_, rfl, ?_⟩; have n0_ := Aside0.mk (kbl (g := gb202) (o := .cells #[.int .i64 a0_0, .int .u8 a0_1, .string t203] 23 (0, 0)) (by (with_reducible repeat (first | refine kdn ?_ _ | refine kdw ?_ | refine kal ?_ _)); exact BK202.out) hb); have n1_ := Aside0.mk (bsp (by repeat (first | (with_reducible first | exact HB.out | apply bal | apply bdn | apply bd1 | refine bst ?_ GE202.out) | exact HB.out)) hb); clear BK202; clear HB; have BK202 := n0_; have HB := n1_; clear n0_ n1_; (try clear hb); (try clear hb2); (try clear hk); (try clear hi); have hcz63_0 : w62.cell? ⟨gb202, 0, none⟩ = some (.int .i64 a0_0) := (kcl BK202.out 0).trans rfl; have hcz63_1 : w62.cell? ⟨gb202, 1, none⟩ = some (.int .u8 a0_1) := (kcl BK202.out 1).trans rfl; have hcz63_2 : w62.cell? ⟨gb202, 2, none⟩ = some (.string t203) := (kcl BK202.out 2).trans rfl; have hfz63_0 := kfr BK202.out 0; have hfz63_1 := kfr BK202.out 1; have hfz63_2 := kfr BK202.out 2) | ((with_reducible refine gcl (f := 13) rfl ?_); refine gl_ (some 24) rfl rfl Try.func13 (by kernel_rfl) rfl #[.agg #[.int .i64 a0_0, .int .u8 a0_1, .string t203]] rfl (by (try simp only [List.map_toArray, List.map_cons, List.map_nil]); first | done | rfl | (simp only [List.length_drop, List.length_take]; rfl)) ?_; (with_reducible refine (stamp_Sector_Text.calls kj2 a0_0 a0_1 t203 t211 _ A24.out).mono ?_); rintro e w64 ⟨rfl, hb⟩; refine ⟨_, rfl, ?_⟩; have n0_ := Aside0.mk (kbl (g := gb202) (o := .cells #[.int .i64 a0_0, .int .u8 a0_1, .string t203] 23 (0, 0)) (by (with_reducible repeat (first | refine kdn ?_ _ | refine kdw ?_ | refine kal ?_ _)); exact BK202.out) hb); have n1_ := Aside0.mk (bsp (by repeat (first | (with_reducible first | exact HB.out | apply bal | apply bdn | apply bd1 | refine bst ?_ GE202.out) | exact HB.out)) hb); clear BK202; clear HB; have BK202 := n0_; have HB := n1_; clear n0_ n1_; (try clear hb); (try clear hb2); (try clear hk); (try clear hi)) | ((with_reducible refine gcl (f := 12) rfl ?_); refine gl_ (some 25) rfl rfl Try.func12 (by kernel_rfl) rfl #[.string t211] rfl (by (try simp only [List.map_toArray, List.map_cons, List.map_nil]); first | done | rfl | (simp only [List.length_drop, List.length_take]; rfl)) ?_; (with_reducible refine (stamp_Parse.calls kj2 t211 t212 t213 t214 t215 _ A25.out).mono ?_); rintro e w65 ⟨rfl, hb⟩; refine ⟨_, rfl, ?_⟩; have n0_ := Aside0.mk (kbl (g := gb202) (o := .cells #[.int .i64 a0_0, .int .u8 a0_1, .string t203] 23 (0, 0)) (by (with_reducible repeat (first | refine kdn ?_ _ | refine kdw ?_ | refine kal ?_ _)); exact BK202.out) hb); have n1_ := Aside0.mk (bsp (by repeat (first | (with_reducible first | exact HB.out | apply bal | apply bdn | apply bd1 | refine bst ?_ GE202.out) | exact HB.out)) hb); clear BK202; clear HB; have BK202 := n0_; have HB := n1_; clear n0_ n1_; (try clear hb); (try clear hb2); (try clear hk); (try clear hi)) | ((with_reducible refine gds (N := 3) rfl ?_); (try (refine gate_guard (by rfl) ?_; dsimp only)); refine bev ?hg (N := 3) ?hd (cs := #[.int .i64 0, .int .u8 0, .string (⟨#[]⟩ : ByteArray)]) (t := 23) ?hr ?_; (case hd => rfl); (case hg => rfl); (case hr => first | (go_simp; done) | (go_simp; rfl)); intro gb216 hg w66 hbox hb; have n0_ := Aside0.mk (kbl (g := gb202) (o := .cells #[.int .i64 a0_0, .int .u8 a0_1, .string t203] 23 (0, 0)) (by (with_reducible repeat (first | refine kdn ?_ _ | refine kdw ?_ | refine kal ?_ _)); exact BK202.out) hb); have n1_ := Aside0.mk (bsp (by repeat (first | (with_reducible first | exact HB.out | apply bal | apply bdn | apply bd1 | refine bst ?_ GE202.out) | exact HB.out)) hb); have n2_ := Aside0.mk (hbox); have n3_ := Aside0.mk ((by rw [hg]; exact (bsz (by repeat (first | (with_reducible first | exact HB.out | apply bal | apply bdn | apply bd1 | refine bst ?_ GE202.out) | exact HB.out))) : w.heap.size ≤ gb216)); have n4_ := Aside0.mk ((by rw [hg]; exact (bsz (by repeat (first | (with_reducible first | exact HB.out | apply bal | apply bdn | apply bd1 | refine bst ?_ GE202.out) | exact HB.out))) : w.heap.size ≤ gb216)); have n5_ := Aside0.mk ((by rw [hg]; exact Nat.ne_of_lt (blk_lt (g := gb202) (o := .cells #[.int .i64 a0_0, .int .u8 a0_1, .string t203] 23 (0, 0)) (by (with_reducible repeat (first | refine kdn ?_ _ | refine kdw ?_ | refine kal ?_ _)); exact BK202.out)) : gb202 ≠ gb216)); have n6_ := Aside0.mk ((by rw [hg]; exact Nat.ne_of_gt (blk_lt (g := gb202) (o := .cells #[.int .i64 a0_0, .int .u8 a0_1, .string t203] 23 (0, 0)) (by (with_reducible repeat (first | refine kdn ?_ _ | refine kdw ?_ | refine kal ?_ _)); exact BK202.out)) : gb216 ≠ gb202)); clear BK202; clear HB; have BK202 := n0_; have HB := n1_; have BK216 := n2_; have GW216 := n3_; have GE216 := n4_; have NB202_216 := n5_; have NB216_202 := n6_; clear n0_ n1_ n2_ n3_ n4_ n5_ n6_; clear hb hbox hg; have hnb67 := NB216_202.out; have hnc67 := NB202_216.out; have hcz68_0 : w66.cell? ⟨gb216, 0, none⟩ = some (.int .i64 0) := (kcl BK216.out 0).trans rfl; have hcz68_1 : w66.cell? ⟨gb216, 1, none⟩ = some (.int .u8 0) := (kcl BK216.out 1).trans rfl; have hcz68_2 : w66.cell? ⟨gb216, 2, none⟩ = some (.string (⟨#[]⟩ : ByteArray)) := (kcl BK216.out 2).trans rfl; have hfz68_0 := kfr BK216.out 0; have hfz68_1 := kfr BK216.out 1; have hfz68_2 := kfr BK216.out 2))
      have n0_ : Aside0 ((((w66.setCell ⟨gb216, 0, none⟩ (.int .i64 t212)).setCell ⟨gb216, 1, none⟩ (.int .u8 t213)).setCell ⟨gb216, 2, none⟩ (.string t214)).heap[gb202]? = some (.cells #[.int .i64 a0_0, .int .u8 a0_1, .string t203] 23 (0, 0))) := ⟨by (with_reducible repeat (first | refine kdn ?_ _ | refine kdw ?_ | refine kal ?_ _)); refine blk_far ?_ NB202_216.out _; (with_reducible repeat (first | refine kdn ?_ _ | refine kdw ?_ | refine kal ?_ _)); refine blk_far ?_ NB202_216.out _; (with_reducible repeat (first | refine kdn ?_ _ | refine kdw ?_ | refine kal ?_ _)); refine blk_far ?_ NB202_216.out _; (with_reducible repeat (first | refine kdn ?_ _ | refine kdw ?_ | refine kal ?_ _)); exact BK202.out⟩
      have n1_ : Aside0 ((((w66.setCell ⟨gb216, 0, none⟩ (.int .i64 t212)).setCell ⟨gb216, 1, none⟩ (.int .u8 t213)).setCell ⟨gb216, 2, none⟩ (.string t214)).heap[gb216]? = some (.cells #[.int .i64 t212, .int .u8 t213, .string t214] 23 (0, 0))) := ⟨by (with_reducible repeat (first | refine kdn ?_ _ | refine kdw ?_ | refine kal ?_ _)); refine kpt (cs := #[.int .i64 t212, .int .u8 t213, .string (⟨#[]⟩ : ByteArray)]) ?_ 2 _ rfl; (with_reducible repeat (first | refine kdn ?_ _ | refine kdw ?_ | refine kal ?_ _)); refine kpt (cs := #[.int .i64 t212, .int .u8 0, .string (⟨#[]⟩ : ByteArray)]) ?_ 1 _ rfl; (with_reducible repeat (first | refine kdn ?_ _ | refine kdw ?_ | refine kal ?_ _)); refine kpt (cs := #[.int .i64 0, .int .u8 0, .string (⟨#[]⟩ : ByteArray)]) ?_ 0 _ rfl; (with_reducible repeat (first | refine kdn ?_ _ | refine kdw ?_ | refine kal ?_ _)); exact BK216.out⟩
      have n2_ : Aside0 (Below w.heap.size w (((w66.setCell ⟨gb216, 0, none⟩ (.int .i64 t212)).setCell ⟨gb216, 1, none⟩ (.int .u8 t213)).setCell ⟨gb216, 2, none⟩ (.string t214))) := ⟨by repeat (first | (with_reducible first | exact HB.out | apply bal | apply bdn | apply bd1 | refine bst ?_ GE202.out | refine bst ?_ GE216.out) | exact HB.out)⟩
      (try clear BK202)
      (try clear BK216)
      (try clear HB)
      generalize (((w66.setCell ⟨gb216, 0, none⟩ (.int .i64 t212)).setCell ⟨gb216, 1, none⟩ (.int .u8 t213)).setCell ⟨gb216, 2, none⟩ (.string t214)) = w69 at n0_ n1_ n2_ ⊢
      have BK202 := n0_
      have BK216 := n1_
      have HB := n2_
      clear n0_ n1_ n2_
      have n0_ := Aside0.mk (kdw BK202.out)
      have n1_ := Aside0.mk (kdw BK216.out)
      have n2_ := Aside0.mk (bd1 HB.out)
      clear BK202
      clear BK216
      clear HB
      have BK202 := n0_
      have BK216 := n1_
      have HB := n2_
      clear n0_ n1_ n2_
      refine start_ (n := 22) (S := fun w' => w'.cell? ⟨gb202, 0, none⟩ = some (.int .i64 a0_0) ∧ w'.cell? ⟨gb202, 1, none⟩ = some (.int .u8 a0_1) ∧ w'.cell? ⟨gb202, 2, none⟩ = some (.string t203)) (ds := []) #[false,false,false,false,false,false,false,false,false,false,false,false,false,false,false,false,false,false,false,false,false,false] (by kernel_rfl) rfl rfl ⟨(kcl BK202.out 0).trans rfl, (kcl BK202.out 1).trans rfl, (kcl BK202.out 2).trans rfl⟩ (fun hHeld => ?_); refine with_tabW armoirelaw04_StampTexts.tab7 armoirelaw04_StampTexts.bits7 (fun HT_ HW_ => ?_)
      generalize w69.drew = w70 at BK202 BK216 HB hHeld ⊢
      refine take_ (i := 0) (N := some 28) (v := ?_) (a' := ?_) #[true,false,false,false,false,false,false,false,false,false,false,false,false,false,false,false,false,false,false,false,false,false] rfl rfl (tkw HT_.out HW_.out (by kernel_rfl)) (fun _ _ _ h => h) (Or.inl ⟨by rfl, ?_⟩) hHeld ?_ ?_
      rotate_left
      · rintro w' ⟨s0, s1, s2⟩
        go_simp
        with_reducible rfl
      rotate_left; (simp only [Act.put, List.setIfInBounds_toArray, List.set_cons_zero, List.set_cons_succ, i64_w, i32_w]; rfl)
      refine take_ (i := 2) (N := some 30) (v := ?_) (a' := ?_) #[true,false,true,false,false,false,false,false,false,false,false,false,false,false,false,false,false,false,false,false,false,false] rfl rfl (tkw HT_.out HW_.out (by kernel_rfl)) (fun _ _ _ h => h) (Or.inl ⟨by rfl, ?_⟩) hHeld ?_ ?_
      rotate_left
      · rintro w' ⟨s0, s1, s2⟩
        go_simp
        with_reducible rfl
      rotate_left; (simp only [Act.put, List.setIfInBounds_toArray, List.set_cons_zero, List.set_cons_succ, i64_w, i32_w]; rfl)
      refine one_ (i := 1) (N := some 29) #[true,true,true,false,false,false,false,false,false,false,false,false,false,false,false,false,false,false,false,false,false,false] rfl rfl (one_of HT_.out (by kernel_rfl)) (by decide) (fun K hK => ?_)
      refine goes_ Try.func13 (by kernel_rfl) rfl #[.agg #[.int .i64 a0_0, .int .u8 a0_1, .string t203]] (by rfl) rfl rfl (by (try simp only [List.map_toArray, List.map_cons, List.map_nil]); first | done | rfl | (simp only [List.length_drop, List.length_take]; rfl) | (simp only [Act.eval, Array.getD_eq_getD_getElem?, Option.getD_some, *]; done) | (simp only [Array.mk.injEq, List.cons.injEq, Value.int.injEq, true_and, and_true]; first | omega | (simp [IntKind.wrap, IntKind.bits, IntKind.signed]; omega))) ?_
      with_reducible refine (stamp_Sector_Text.calls kj2 a0_0 a0_1 t203 t217 _ A26.out).mono ?_
      rintro e w71 ⟨rfl, hb⟩
      refine ⟨_, rfl, ?_⟩
      have n0_ := Aside0.mk (kbl (g := gb202) (o := .cells #[.int .i64 a0_0, .int .u8 a0_1, .string t203] 23 (0, 0)) (by (with_reducible repeat (first | refine kdn ?_ _ | refine kdw ?_ | refine kal ?_ _)); exact BK202.out) hb)
      have n1_ := Aside0.mk (kbl (g := gb216) (o := .cells #[.int .i64 t212, .int .u8 t213, .string t214] 23 (0, 0)) (by (with_reducible repeat (first | refine kdn ?_ _ | refine kdw ?_ | refine kal ?_ _)); exact BK216.out) hb)
      have n2_ := Aside0.mk (bsp (by repeat (first | (with_reducible first | exact HB.out | apply bal | apply bdn | apply bd1 | refine bst ?_ GE202.out | refine bst ?_ GE216.out) | exact HB.out)) hb)
      clear BK202
      clear BK216
      clear HB
      have BK202 := n0_
      have BK216 := n1_
      have HB := n2_
      clear n0_ n1_ n2_
      (try clear hb)
      (try clear hb2)
      (try clear hk)
      (try clear hi)
      refine hK.out _ _ ⟨(kcl BK202.out 0).trans rfl, (kcl BK202.out 1).trans rfl, (kcl BK202.out 2).trans rfl⟩ (fun hHeld => ?_)
      clear hK K
      refine norm_ (a' := ?_) ?_ ?_
      rotate_left
      · show Act.put _ (some 29) _ = _
        simp only [Act.put, List.setIfInBounds_toArray, List.set_cons_zero, List.set_cons_succ, i64_w, i32_w]
        rfl
      refine one_ (i := 3) (N := some 31) #[true,true,true,true,false,false,false,false,false,false,false,false,false,false,false,false,false,false,false,false,false,false] rfl rfl (one_of HT_.out (by kernel_rfl)) (by decide) (fun K hK => ?_)
      refine goes_ Try.func11 (by kernel_rfl) rfl #[.agg #[.int .i64 a0_0, .int .u8 a0_1, .string t203]] (by rfl) rfl rfl (by (try simp only [List.map_toArray, List.map_cons, List.map_nil]); first | done | rfl | (simp only [List.length_drop, List.length_take]; rfl) | (simp only [Act.eval, Array.getD_eq_getD_getElem?, Option.getD_some, *]; done) | (simp only [Array.mk.injEq, List.cons.injEq, Value.int.injEq, true_and, and_true]; first | omega | (simp [IntKind.wrap, IntKind.bits, IntKind.signed]; omega))) ?_
      with_reducible refine (armoirelaw04_Told.calls a0_0 a0_1 t203 t218 t219 t220 _ A27.out).mono ?_
      rintro e w72 ⟨rfl, hb⟩
      refine ⟨_, rfl, ?_⟩
      have n0_ := Aside0.mk (kbl (g := gb202) (o := .cells #[.int .i64 a0_0, .int .u8 a0_1, .string t203] 23 (0, 0)) (by (with_reducible repeat (first | refine kdn ?_ _ | refine kdw ?_ | refine kal ?_ _)); exact BK202.out) hb)
      have n1_ := Aside0.mk (kbl (g := gb216) (o := .cells #[.int .i64 t212, .int .u8 t213, .string t214] 23 (0, 0)) (by (with_reducible repeat (first | refine kdn ?_ _ | refine kdw ?_ | refine kal ?_ _)); exact BK216.out) hb)
      have n2_ := Aside0.mk (bsp (by repeat (first | (with_reducible first | exact HB.out | apply bal | apply bdn | apply bd1 | refine bst ?_ GE202.out | refine bst ?_ GE216.out) | exact HB.out)) hb)
      clear BK202
      clear BK216
      clear HB
      have BK202 := n0_
      have BK216 := n1_
      have HB := n2_
      clear n0_ n1_ n2_
      (try clear hb)
      (try clear hb2)
      (try clear hk)
      (try clear hi)
      refine hK.out _ _ ⟨(kcl BK202.out 0).trans rfl, (kcl BK202.out 1).trans rfl, (kcl BK202.out 2).trans rfl⟩ (fun hHeld => ?_)
      clear hK K
      refine norm_ (a' := ?_) ?_ ?_
      rotate_left
      · show Act.put _ (some 31) _ = _
        simp only [Act.put, List.setIfInBounds_toArray, List.set_cons_zero, List.set_cons_succ, i64_w, i32_w]
        rfl
      refine one_ (i := 4) (N := some 32) #[true,true,true,true,true,false,false,false,false,false,false,false,false,false,false,false,false,false,false,false,false,false] rfl rfl (one_of HT_.out (by kernel_rfl)) (by decide) (fun K hK => ?_)
      refine goes_ Try.func14 (by kernel_rfl) rfl #[.agg #[.int .i64 t218, .int .i64 t219, .string t220]] (by rfl) rfl rfl (by (try simp only [List.map_toArray, List.map_cons, List.map_nil]); first | done | rfl | (simp only [List.length_drop, List.length_take]; rfl) | (simp only [Act.eval, Array.getD_eq_getD_getElem?, Option.getD_some, *]; done) | (simp only [Array.mk.injEq, List.cons.injEq, Value.int.injEq, true_and, and_true]; first | omega | (simp [IntKind.wrap, IntKind.bits, IntKind.signed]; omega))) ?_
      with_reducible refine (armoireref04_Text.calls kj2 t218 t219 t220 t221 _ A28.out).mono ?_
      rintro e w73 ⟨rfl, hb⟩
      refine ⟨_, rfl, ?_⟩
      have n0_ := Aside0.mk (kbl (g := gb202) (o := .cells #[.int .i64 a0_0, .int .u8 a0_1, .string t203] 23 (0, 0)) (by (with_reducible repeat (first | refine kdn ?_ _ | refine kdw ?_ | refine kal ?_ _)); exact BK202.out) hb)
      have n1_ := Aside0.mk (kbl (g := gb216) (o := .cells #[.int .i64 t212, .int .u8 t213, .string t214] 23 (0, 0)) (by (with_reducible repeat (first | refine kdn ?_ _ | refine kdw ?_ | refine kal ?_ _)); exact BK216.out) hb)
      have n2_ := Aside0.mk (bsp (by repeat (first | (with_reducible first | exact HB.out | apply bal | apply bdn | apply bd1 | refine bst ?_ GE202.out | refine bst ?_ GE216.out) | exact HB.out)) hb)
      clear BK202
      clear BK216
      clear HB
      have BK202 := n0_
      have BK216 := n1_
      have HB := n2_
      clear n0_ n1_ n2_
      (try clear hb)
      (try clear hb2)
      (try clear hk)
      (try clear hi)
      refine hK.out _ _ ⟨(kcl BK202.out 0).trans rfl, (kcl BK202.out 1).trans rfl, (kcl BK202.out 2).trans rfl⟩ (fun hHeld => ?_)
      clear hK K
      refine norm_ (a' := ?_) ?_ ?_
      rotate_left
      · show Act.put _ (some 32) _ = _
        simp only [Act.put, List.setIfInBounds_toArray, List.set_cons_zero, List.set_cons_succ, i64_w, i32_w]
        rfl
      refine pure_ (i := 5) (N := some 33) (v := ?_) (a' := ?_) (bA 22 63) rfl rfl (any_of HT_.out (by kernel_rfl)) (fun _ _ _ h => h) (Or.inl ⟨by rfl, ?_⟩) ?_ ?_
      rotate_left; (intro w'; go_simp; with_reducible rfl); rotate_left; (simp only [Act.put, List.setIfInBounds_toArray, List.set_cons_zero, List.set_cons_succ, i64_w, i32_w]; rfl)
      refine pure_ (i := 6) (N := some 34) (v := ?_) (a' := ?_) (bA 22 127) rfl rfl (any_of HT_.out (by kernel_rfl)) (fun _ _ _ h => h) (Or.inl ⟨by rfl, ?_⟩) ?_ ?_
      rotate_left; (intro w'; go_simp; with_reducible rfl); rotate_left; (simp only [Act.put, List.setIfInBounds_toArray, List.set_cons_zero, List.set_cons_succ, i64_w, i32_w]; rfl)
      refine take_ (i := 7) (N := some 35) (v := ?_) (a' := ?_) #[true,true,true,true,true,true,true,true,false,false,false,false,false,false,false,false,false,false,false,false,false,false] rfl rfl (tkw HT_.out HW_.out (by kernel_rfl)) (fun _ _ _ h => h) (Or.inl ⟨by rfl, ?_⟩) hHeld ?_ ?_
      rotate_left
      · rintro w' ⟨s0, s1, s2⟩
        go_simp
        with_reducible rfl
      rotate_left; (simp only [Act.put, List.setIfInBounds_toArray, List.set_cons_zero, List.set_cons_succ, i64_w, i32_w]; rfl)
      refine one_ (i := 8) (N := some 36) #[true,true,true,true,true,true,true,true,true,false,false,false,false,false,false,false,false,false,false,false,false,false] rfl rfl (one_of HT_.out (by kernel_rfl)) (by decide) (fun K hK => ?_)
      refine goes_ Try.func13 (by kernel_rfl) rfl #[.agg #[.int .i64 a0_0, .int .u8 a0_1, .string t203]] (by rfl) rfl rfl (by (try simp only [List.map_toArray, List.map_cons, List.map_nil]); first | done | rfl | (simp only [List.length_drop, List.length_take]; rfl) | (simp only [Act.eval, Array.getD_eq_getD_getElem?, Option.getD_some, *]; done) | (simp only [Array.mk.injEq, List.cons.injEq, Value.int.injEq, true_and, and_true]; first | omega | (simp [IntKind.wrap, IntKind.bits, IntKind.signed]; omega))) ?_
      with_reducible refine (stamp_Sector_Text.calls kj2 a0_0 a0_1 t203 t222 _ A30.out).mono ?_
      rintro e w74 ⟨rfl, hb⟩
      refine ⟨_, rfl, ?_⟩
      have n0_ := Aside0.mk (kbl (g := gb202) (o := .cells #[.int .i64 a0_0, .int .u8 a0_1, .string t203] 23 (0, 0)) (by (with_reducible repeat (first | refine kdn ?_ _ | refine kdw ?_ | refine kal ?_ _)); exact BK202.out) hb)
      have n1_ := Aside0.mk (kbl (g := gb216) (o := .cells #[.int .i64 t212, .int .u8 t213, .string t214] 23 (0, 0)) (by (with_reducible repeat (first | refine kdn ?_ _ | refine kdw ?_ | refine kal ?_ _)); exact BK216.out) hb)
      have n2_ := Aside0.mk (bsp (by repeat (first | (with_reducible first | exact HB.out | apply bal | apply bdn | apply bd1 | refine bst ?_ GE202.out | refine bst ?_ GE216.out) | exact HB.out)) hb)
      clear BK202
      clear BK216
      clear HB
      have BK202 := n0_
      have BK216 := n1_
      have HB := n2_
      clear n0_ n1_ n2_
      (try clear hb)
      (try clear hb2)
      (try clear hk)
      (try clear hi)
      refine hK.out _ _ ⟨(kcl BK202.out 0).trans rfl, (kcl BK202.out 1).trans rfl, (kcl BK202.out 2).trans rfl⟩ (fun hHeld => ?_)
      clear hK K
      refine norm_ (a' := ?_) ?_ ?_
      rotate_left
      · show Act.put _ (some 36) _ = _
        simp only [Act.put, List.setIfInBounds_toArray, List.set_cons_zero, List.set_cons_succ, i64_w, i32_w]
        rfl
      refine pure_ (i := 9) (N := some 37) (v := ?_) (a' := ?_) (bA 22 1023) rfl rfl (any_of HT_.out (by kernel_rfl)) (fun _ _ _ h => h) (Or.inl ⟨by rfl, ?_⟩) ?_ ?_
      rotate_left; (intro w'; go_simp; with_reducible rfl); rotate_left; (simp only [Act.put, List.setIfInBounds_toArray, List.set_cons_zero, List.set_cons_succ, i64_w, i32_w]; rfl)
      refine pure_ (i := 10) (N := some 38) (v := ?_) (a' := ?_) (bA 22 2047) rfl rfl (any_of HT_.out (by kernel_rfl)) (fun _ _ _ h => h) (Or.inl ⟨by rfl, ?_⟩) ?_ ?_
      rotate_left; (intro w'; go_simp; with_reducible rfl); rotate_left; (simp only [Act.put, List.setIfInBounds_toArray, List.set_cons_zero, List.set_cons_succ, i64_w, i32_w]; rfl)
      refine pure_ (i := 11) (N := some 39) (v := ?_) (a' := ?_) (bA 22 4095) rfl rfl (any_of HT_.out (by kernel_rfl)) (fun _ _ _ h => h) (Or.inl ⟨by rfl, ?_⟩) ?_ ?_
      rotate_left; (intro w'; go_simp; with_reducible rfl); rotate_left; (simp only [Act.put, List.setIfInBounds_toArray, List.set_cons_zero, List.set_cons_succ, i64_w, i32_w]; rfl)
      refine pure_ (i := 12) (N := some 40) (v := ?_) (a' := ?_) (bA 22 8191) rfl rfl (any_of HT_.out (by kernel_rfl)) (fun _ _ _ h => h) (Or.inl ⟨by rfl, ?_⟩) ?_ ?_
      rotate_left; (intro w'; go_simp; with_reducible rfl); rotate_left; (simp only [Act.put, List.setIfInBounds_toArray, List.set_cons_zero, List.set_cons_succ, i64_w, i32_w]; rfl)
      refine pure_ (i := 13) (N := some 41) (v := undef) (a' := ?_) (bA 22 16383) rfl rfl (any_of HT_.out (by kernel_rfl)) (fun _ _ _ h => h) (Or.inr ⟨by rfl, rfl⟩) ?_ ?_
      rotate_left; (simp only [Act.put, List.setIfInBounds_toArray, List.set_cons_zero, List.set_cons_succ, i64_w, i32_w]; rfl)
      refine pure_ (i := 14) (N := some 42) (v := undef) (a' := ?_) (bA 22 32767) rfl rfl (any_of HT_.out (by kernel_rfl)) (fun _ _ _ h => h) (Or.inr ⟨by rfl, rfl⟩) ?_ ?_
      rotate_left; (simp only [Act.put, List.setIfInBounds_toArray, List.set_cons_zero, List.set_cons_succ, i64_w, i32_w]; rfl)
      refine pure_ (i := 15) (N := some 43) (v := undef) (a' := ?_) (bA 22 65535) rfl rfl (any_of HT_.out (by kernel_rfl)) (fun _ _ _ h => h) (Or.inr ⟨by rfl, rfl⟩) ?_ ?_
      rotate_left; (simp only [Act.put, List.setIfInBounds_toArray, List.set_cons_zero, List.set_cons_succ, i64_w, i32_w]; rfl)
      refine pure_ (i := 16) (N := some 44) (v := ?_) (a' := ?_) (bA 22 131071) rfl rfl (any_of HT_.out (by kernel_rfl)) (fun _ _ _ h => h) (Or.inl ⟨by rfl, ?_⟩) ?_ ?_
      rotate_left; (intro w'; go_simp; with_reducible rfl); rotate_left; (simp only [Act.put, List.setIfInBounds_toArray, List.set_cons_zero, List.set_cons_succ, i64_w, i32_w]; rfl)
      refine pure_ (i := 17) (N := some 45) (v := ?_) (a' := ?_) (bA 22 262143) rfl rfl (any_of HT_.out (by kernel_rfl)) (fun _ _ _ h => h) (Or.inl ⟨by rfl, ?_⟩) ?_ ?_
      rotate_left; (intro w'; go_simp; with_reducible rfl); rotate_left; (simp only [Act.put, List.setIfInBounds_toArray, List.set_cons_zero, List.set_cons_succ, i64_w, i32_w]; rfl)
      refine pure_ (i := 18) (N := some 46) (v := undef) (a' := ?_) (bA 22 524287) rfl rfl (any_of HT_.out (by kernel_rfl)) (fun _ _ _ h => h) (Or.inr ⟨by rfl, rfl⟩) ?_ ?_
      rotate_left; (simp only [Act.put, List.setIfInBounds_toArray, List.set_cons_zero, List.set_cons_succ, i64_w, i32_w]; rfl)
      refine pure_ (i := 19) (N := some 47) (v := undef) (a' := ?_) (bA 22 1048575) rfl rfl (any_of HT_.out (by kernel_rfl)) (fun _ _ _ h => h) (Or.inr ⟨by rfl, rfl⟩) ?_ ?_
      rotate_left; (simp only [Act.put, List.setIfInBounds_toArray, List.set_cons_zero, List.set_cons_succ, i64_w, i32_w]; rfl)
      refine pure_ (i := 20) (N := some 48) (v := ?_) (a' := ?_) (bA 22 2097151) rfl rfl (any_of HT_.out (by kernel_rfl)) (fun _ _ _ h => h) (Or.inl ⟨by rfl, ?_⟩) ?_ ?_
      rotate_left; (intro w'; go_simp; with_reducible rfl); rotate_left; (simp only [Act.put, List.setIfInBounds_toArray, List.set_cons_zero, List.set_cons_succ, i64_w, i32_w]; rfl)
      refine pure_ (i := 21) (N := some 2) (v := ?_) (a' := ?_) (bA 22 4194303) rfl rfl (any_of HT_.out (by kernel_rfl)) (fun _ _ _ h => h) (Or.inl ⟨by rfl, ?_⟩) ?_ ?_
      rotate_left; (intro w'; go_simp; with_reducible rfl); rotate_left; (simp only [Act.put, List.setIfInBounds_toArray, List.set_cons_zero, List.set_cons_succ, i64_w, i32_w]; rfl)
      refine done_ (done_of HT_.out (by kernel_rfl)) ?_
      try go_wp2
      go_ret
      exact ⟨by first | rfl | (simp [errW_none, errW_some] <;> rfl) | (simp [*, errW_none, errW_some] <;> rfl), by repeat (first | (with_reducible first | exact HB.out | apply bal | apply bdn | apply bd1 | refine bst ?_ GE202.out | refine bst ?_ GE216.out) | exact HB.out)⟩
    rw [if_pos c31] at H
    have c31b0 : ((t222.size : Int) == 64) = true := beq_iff_eq.mpr c31
    have c31b1 : ((t222.size : Int) != 64) = false := bne_eq_false_iff_eq.mpr c31
    clear c31
    by_cases c32 : (t212 == a0_0 && (t213 == a0_1 && (t214.toList == t203.toList))) = true
    · rw [if_pos c32] at H
      have c32b0 : (t212 == a0_0 && (t213 == a0_1 && (t214.toList == t203.toList))) = true := c32
      (try (have c32b1 : decide (t212 = a0_0 && (t213 == a0_1 && (t214.toList == t203.toList))) = true := by simpa using c32))
      (try (have c32b2 : (t212 == a0_0 && (t213 == a0_1 && (t214.toList == t203.toList))) = true := by simpa using c32))
      clear c32
      obtain rfl := Option.some.inj H
      have hcz33_0 : wc.cell? ⟨gb202, 0, none⟩ = some (.int .i64 a0_0) := (kcl BK202.out 0).trans rfl
      have hcz33_1 : wc.cell? ⟨gb202, 1, none⟩ = some (.int .u8 a0_1) := (kcl BK202.out 1).trans rfl
      have hcz33_2 : wc.cell? ⟨gb202, 2, none⟩ = some (.string t203) := (kcl BK202.out 2).trans rfl
      have hfz33_0 := kfr BK202.out 0
      have hfz33_1 := kfr BK202.out 1
      have hfz33_2 := kfr BK202.out 2
      try go_wp2_with (first | ((with_reducible refine gcl (f := 9) rfl ?_); refine gl_ (some 20) rfl rfl Try.func9 (by kernel_rfl) rfl #[.agg #[.int .i64 a0_0, .int .u8 a0_1, .string t203]] rfl (by (try simp only [List.map_toArray, List.map_cons, List.map_nil]); first | done | rfl | (simp only [List.length_drop, List.length_take]; rfl)) ?_; (with_reducible refine (stamp_Sector_Check.calls kj2 a0_0 a0_1 t203 t210 _ A22.out).mono ?_); rintro e w34 ⟨rfl, hb⟩; refine ⟨_, rfl, ?_⟩; have n0_ := Aside0.mk (kbl (g := gb202) (o := .cells #[.int .i64 a0_0, .int .u8 a0_1, .string t203] 23 (0, 0)) (by (with_reducible repeat (first | refine kdn ?_ _ | refine kdw ?_ | refine kal ?_ _)); exact BK202.out) hb); have n1_ := Aside0.mk (bsp (by repeat (first | (with_reducible first | exact HB.out | apply bal | apply bdn | apply bd1 | refine bst ?_ GE202.out) | exact HB.out)) hb); clear BK202; clear HB; have BK202 := n0_; have HB := n1_; clear n0_ n1_; (try clear hb); (try clear hb2); (try clear hk); (try clear hi); have hcz35_0 : w34.cell? ⟨gb202, 0, none⟩ = some (.int .i64 a0_0) := (kcl BK202.out 0).trans rfl; have hcz35_1 : w34.cell? ⟨gb202, 1, none⟩ = some (.int .u8 a0_1) := (kcl BK202.out 1).trans rfl; have hcz35_2 : w34.cell? ⟨gb202, 2, none⟩ = some (.string t203) := (kcl BK202.out 2).trans rfl; have hfz35_0 := kfr BK202.out 0; have hfz35_1 := kfr BK202.out 1; have hfz35_2 := kfr BK202.out 2) | ((with_reducible refine gcl (f := 13) rfl ?_); refine gl_ (some 24) rfl rfl Try.func13 (by kernel_rfl) rfl #[.agg #[.int .i64 a0_0, .int .u8 a0_1, .string t203]] rfl (by (try simp only [List.map_toArray, List.map_cons, List.map_nil]); first | done | rfl | (simp only [List.length_drop, List.length_take]; rfl)) ?_; (with_reducible refine (stamp_Sector_Text.calls kj2 a0_0 a0_1 t203 t211 _ A24.out).mono ?_); rintro e w36 ⟨rfl, hb⟩; refine ⟨_, rfl, ?_⟩; have n0_ := Aside0.mk (kbl (g := gb202) (o := .cells #[.int .i64 a0_0, .int .u8 a0_1, .string t203] 23 (0, 0)) (by (with_reducible repeat (first | refine kdn ?_ _ | refine kdw ?_ | refine kal ?_ _)); exact BK202.out) hb); have n1_ := Aside0.mk (bsp (by repeat (first | (with_reducible first | exact HB.out | apply bal | apply bdn | apply bd1 | refine bst ?_ GE202.out) | exact HB.out)) hb); clear BK202; clear HB; have BK202 := n0_; have HB := n1_; clear n0_ n1_; (try clear hb); (try clear hb2); (try clear hk); (try clear hi)) | ((with_reducible refine gcl (f := 12) rfl ?_); refine gl_ (some 25) rfl rfl Try.func12 (by kernel_rfl) rfl #[.string t211] rfl (by (try simp only [List.map_toArray, List.map_cons, List.map_nil]); first | done | rfl | (simp only [List.length_drop, List.length_take]; rfl)) ?_; (with_reducible refine (stamp_Parse.calls kj2 t211 t212 t213 t214 t215 _ A25.out).mono ?_); rintro e w37 ⟨rfl, hb⟩; refine ⟨_, rfl, ?_⟩; have n0_ := Aside0.mk (kbl (g := gb202) (o := .cells #[.int .i64 a0_0, .int .u8 a0_1, .string t203] 23 (0, 0)) (by (with_reducible repeat (first | refine kdn ?_ _ | refine kdw ?_ | refine kal ?_ _)); exact BK202.out) hb); have n1_ := Aside0.mk (bsp (by repeat (first | (with_reducible first | exact HB.out | apply bal | apply bdn | apply bd1 | refine bst ?_ GE202.out) | exact HB.out)) hb); clear BK202; clear HB; have BK202 := n0_; have HB := n1_; clear n0_ n1_; (try clear hb); (try clear hb2); (try clear hk); (try clear hi)) | ((with_reducible refine gds (N := 3) rfl ?_); (try (refine gate_guard (by rfl) ?_; dsimp only)); refine bev ?hg (N := 3) ?hd (cs := #[.int .i64 0, .int .u8 0, .string (⟨#[]⟩ : ByteArray)]) (t := 23) ?hr ?_; (case hd => rfl); (case hg => rfl); (case hr => first | (go_simp; done) | (go_simp; rfl)); intro gb216 hg w38 hbox hb; have n0_ := Aside0.mk (kbl (g := gb202) (o := .cells #[.int .i64 a0_0, .int .u8 a0_1, .string t203] 23 (0, 0)) (by (with_reducible repeat (first | refine kdn ?_ _ | refine kdw ?_ | refine kal ?_ _)); exact BK202.out) hb); have n1_ := Aside0.mk (bsp (by repeat (first | (with_reducible first | exact HB.out | apply bal | apply bdn | apply bd1 | refine bst ?_ GE202.out) | exact HB.out)) hb); have n2_ := Aside0.mk (hbox); have n3_ := Aside0.mk ((by rw [hg]; exact (bsz (by repeat (first | (with_reducible first | exact HB.out | apply bal | apply bdn | apply bd1 | refine bst ?_ GE202.out) | exact HB.out))) : w.heap.size ≤ gb216)); have n4_ := Aside0.mk ((by rw [hg]; exact (bsz (by repeat (first | (with_reducible first | exact HB.out | apply bal | apply bdn | apply bd1 | refine bst ?_ GE202.out) | exact HB.out))) : w.heap.size ≤ gb216)); have n5_ := Aside0.mk ((by rw [hg]; exact Nat.ne_of_lt (blk_lt (g := gb202) (o := .cells #[.int .i64 a0_0, .int .u8 a0_1, .string t203] 23 (0, 0)) (by (with_reducible repeat (first | refine kdn ?_ _ | refine kdw ?_ | refine kal ?_ _)); exact BK202.out)) : gb202 ≠ gb216)); have n6_ := Aside0.mk ((by rw [hg]; exact Nat.ne_of_gt (blk_lt (g := gb202) (o := .cells #[.int .i64 a0_0, .int .u8 a0_1, .string t203] 23 (0, 0)) (by (with_reducible repeat (first | refine kdn ?_ _ | refine kdw ?_ | refine kal ?_ _)); exact BK202.out)) : gb216 ≠ gb202)); clear BK202; clear HB; have BK202 := n0_; have HB := n1_; have BK216 := n2_; have GW216 := n3_; have GE216 := n4_; have NB202_216 := n5_; have NB216_202 := n6_; clear n0_ n1_ n2_ n3_ n4_ n5_ n6_; clear hb hbox hg; have hnb39 := NB216_202.out; have hnc39 := NB202_216.out; have hcz40_0 : w38.cell? ⟨gb216, 0, none⟩ = some (.int .i64 0) := (kcl BK216.out 0).trans rfl; have hcz40_1 : w38.cell? ⟨gb216, 1, none⟩ = some (.int .u8 0) := (kcl BK216.out 1).trans rfl; have hcz40_2 : w38.cell? ⟨gb216, 2, none⟩ = some (.string (⟨#[]⟩ : ByteArray)) := (kcl BK216.out 2).trans rfl; have hfz40_0 := kfr BK216.out 0; have hfz40_1 := kfr BK216.out 1; have hfz40_2 := kfr BK216.out 2))
      have n0_ : Aside0 ((((w38.setCell ⟨gb216, 0, none⟩ (.int .i64 t212)).setCell ⟨gb216, 1, none⟩ (.int .u8 t213)).setCell ⟨gb216, 2, none⟩ (.string t214)).heap[gb202]? = some (.cells #[.int .i64 a0_0, .int .u8 a0_1, .string t203] 23 (0, 0))) := ⟨by (with_reducible repeat (first | refine kdn ?_ _ | refine kdw ?_ | refine kal ?_ _)); refine blk_far ?_ NB202_216.out _; (with_reducible repeat (first | refine kdn ?_ _ | refine kdw ?_ | refine kal ?_ _)); refine blk_far ?_ NB202_216.out _; (with_reducible repeat (first | refine kdn ?_ _ | refine kdw ?_ | refine kal ?_ _)); refine blk_far ?_ NB202_216.out _; (with_reducible repeat (first | refine kdn ?_ _ | refine kdw ?_ | refine kal ?_ _)); exact BK202.out⟩
      have n1_ : Aside0 ((((w38.setCell ⟨gb216, 0, none⟩ (.int .i64 t212)).setCell ⟨gb216, 1, none⟩ (.int .u8 t213)).setCell ⟨gb216, 2, none⟩ (.string t214)).heap[gb216]? = some (.cells #[.int .i64 t212, .int .u8 t213, .string t214] 23 (0, 0))) := ⟨by (with_reducible repeat (first | refine kdn ?_ _ | refine kdw ?_ | refine kal ?_ _)); refine kpt (cs := #[.int .i64 t212, .int .u8 t213, .string (⟨#[]⟩ : ByteArray)]) ?_ 2 _ rfl; (with_reducible repeat (first | refine kdn ?_ _ | refine kdw ?_ | refine kal ?_ _)); refine kpt (cs := #[.int .i64 t212, .int .u8 0, .string (⟨#[]⟩ : ByteArray)]) ?_ 1 _ rfl; (with_reducible repeat (first | refine kdn ?_ _ | refine kdw ?_ | refine kal ?_ _)); refine kpt (cs := #[.int .i64 0, .int .u8 0, .string (⟨#[]⟩ : ByteArray)]) ?_ 0 _ rfl; (with_reducible repeat (first | refine kdn ?_ _ | refine kdw ?_ | refine kal ?_ _)); exact BK216.out⟩
      have n2_ : Aside0 (Below w.heap.size w (((w38.setCell ⟨gb216, 0, none⟩ (.int .i64 t212)).setCell ⟨gb216, 1, none⟩ (.int .u8 t213)).setCell ⟨gb216, 2, none⟩ (.string t214))) := ⟨by repeat (first | (with_reducible first | exact HB.out | apply bal | apply bdn | apply bd1 | refine bst ?_ GE202.out | refine bst ?_ GE216.out) | exact HB.out)⟩
      (try clear BK202)
      (try clear BK216)
      (try clear HB)
      generalize (((w38.setCell ⟨gb216, 0, none⟩ (.int .i64 t212)).setCell ⟨gb216, 1, none⟩ (.int .u8 t213)).setCell ⟨gb216, 2, none⟩ (.string t214)) = w41 at n0_ n1_ n2_ ⊢
      have BK202 := n0_
      have BK216 := n1_
      have HB := n2_
      clear n0_ n1_ n2_
      have n0_ := Aside0.mk (kdw BK202.out)
      have n1_ := Aside0.mk (kdw BK216.out)
      have n2_ := Aside0.mk (bd1 HB.out)
      clear BK202
      clear BK216
      clear HB
      have BK202 := n0_
      have BK216 := n1_
      have HB := n2_
      clear n0_ n1_ n2_
      refine start_ (n := 22) (S := fun w' => w'.cell? ⟨gb202, 0, none⟩ = some (.int .i64 a0_0) ∧ w'.cell? ⟨gb202, 1, none⟩ = some (.int .u8 a0_1) ∧ w'.cell? ⟨gb202, 2, none⟩ = some (.string t203) ∧ w'.cell? ⟨gb216, 0, none⟩ = some (.int .i64 t212) ∧ w'.cell? ⟨gb216, 1, none⟩ = some (.int .u8 t213) ∧ w'.cell? ⟨gb216, 2, none⟩ = some (.string t214)) (ds := []) #[false,false,false,false,false,false,false,false,false,false,false,false,false,false,false,false,false,false,false,false,false,false] (by kernel_rfl) rfl rfl ⟨(kcl BK202.out 0).trans rfl, (kcl BK202.out 1).trans rfl, (kcl BK202.out 2).trans rfl, (kcl BK216.out 0).trans rfl, (kcl BK216.out 1).trans rfl, (kcl BK216.out 2).trans rfl⟩ (fun hHeld => ?_); refine with_tabW armoirelaw04_StampTexts.tab7 armoirelaw04_StampTexts.bits7 (fun HT_ HW_ => ?_)
      generalize w41.drew = w42 at BK202 BK216 HB hHeld ⊢
      refine take_ (i := 0) (N := some 28) (v := ?_) (a' := ?_) #[true,false,false,false,false,false,false,false,false,false,false,false,false,false,false,false,false,false,false,false,false,false] rfl rfl (tkw HT_.out HW_.out (by kernel_rfl)) (fun _ _ _ h => h) (Or.inl ⟨by rfl, ?_⟩) hHeld ?_ ?_
      rotate_left
      · rintro w' ⟨s0, s1, s2, s3, s4, s5⟩
        go_simp
        with_reducible rfl
      rotate_left; (simp only [Act.put, List.setIfInBounds_toArray, List.set_cons_zero, List.set_cons_succ, i64_w, i32_w]; rfl)
      refine take_ (i := 2) (N := some 30) (v := ?_) (a' := ?_) #[true,false,true,false,false,false,false,false,false,false,false,false,false,false,false,false,false,false,false,false,false,false] rfl rfl (tkw HT_.out HW_.out (by kernel_rfl)) (fun _ _ _ h => h) (Or.inl ⟨by rfl, ?_⟩) hHeld ?_ ?_
      rotate_left
      · rintro w' ⟨s0, s1, s2, s3, s4, s5⟩
        go_simp
        with_reducible rfl
      rotate_left; (simp only [Act.put, List.setIfInBounds_toArray, List.set_cons_zero, List.set_cons_succ, i64_w, i32_w]; rfl)
      refine one_ (i := 1) (N := some 29) #[true,true,true,false,false,false,false,false,false,false,false,false,false,false,false,false,false,false,false,false,false,false] rfl rfl (one_of HT_.out (by kernel_rfl)) (by decide) (fun K hK => ?_)
      refine goes_ Try.func13 (by kernel_rfl) rfl #[.agg #[.int .i64 a0_0, .int .u8 a0_1, .string t203]] (by rfl) rfl rfl (by (try simp only [List.map_toArray, List.map_cons, List.map_nil]); first | done | rfl | (simp only [List.length_drop, List.length_take]; rfl) | (simp only [Act.eval, Array.getD_eq_getD_getElem?, Option.getD_some, *]; done) | (simp only [Array.mk.injEq, List.cons.injEq, Value.int.injEq, true_and, and_true]; first | omega | (simp [IntKind.wrap, IntKind.bits, IntKind.signed]; omega))) ?_
      with_reducible refine (stamp_Sector_Text.calls kj2 a0_0 a0_1 t203 t217 _ A26.out).mono ?_
      rintro e w43 ⟨rfl, hb⟩
      refine ⟨_, rfl, ?_⟩
      have n0_ := Aside0.mk (kbl (g := gb202) (o := .cells #[.int .i64 a0_0, .int .u8 a0_1, .string t203] 23 (0, 0)) (by (with_reducible repeat (first | refine kdn ?_ _ | refine kdw ?_ | refine kal ?_ _)); exact BK202.out) hb)
      have n1_ := Aside0.mk (kbl (g := gb216) (o := .cells #[.int .i64 t212, .int .u8 t213, .string t214] 23 (0, 0)) (by (with_reducible repeat (first | refine kdn ?_ _ | refine kdw ?_ | refine kal ?_ _)); exact BK216.out) hb)
      have n2_ := Aside0.mk (bsp (by repeat (first | (with_reducible first | exact HB.out | apply bal | apply bdn | apply bd1 | refine bst ?_ GE202.out | refine bst ?_ GE216.out) | exact HB.out)) hb)
      clear BK202
      clear BK216
      clear HB
      have BK202 := n0_
      have BK216 := n1_
      have HB := n2_
      clear n0_ n1_ n2_
      (try clear hb)
      (try clear hb2)
      (try clear hk)
      (try clear hi)
      refine hK.out _ _ ⟨(kcl BK202.out 0).trans rfl, (kcl BK202.out 1).trans rfl, (kcl BK202.out 2).trans rfl, (kcl BK216.out 0).trans rfl, (kcl BK216.out 1).trans rfl, (kcl BK216.out 2).trans rfl⟩ (fun hHeld => ?_)
      clear hK K
      refine norm_ (a' := ?_) ?_ ?_
      rotate_left
      · show Act.put _ (some 29) _ = _
        simp only [Act.put, List.setIfInBounds_toArray, List.set_cons_zero, List.set_cons_succ, i64_w, i32_w]
        rfl
      refine one_ (i := 3) (N := some 31) #[true,true,true,true,false,false,false,false,false,false,false,false,false,false,false,false,false,false,false,false,false,false] rfl rfl (one_of HT_.out (by kernel_rfl)) (by decide) (fun K hK => ?_)
      refine goes_ Try.func11 (by kernel_rfl) rfl #[.agg #[.int .i64 a0_0, .int .u8 a0_1, .string t203]] (by rfl) rfl rfl (by (try simp only [List.map_toArray, List.map_cons, List.map_nil]); first | done | rfl | (simp only [List.length_drop, List.length_take]; rfl) | (simp only [Act.eval, Array.getD_eq_getD_getElem?, Option.getD_some, *]; done) | (simp only [Array.mk.injEq, List.cons.injEq, Value.int.injEq, true_and, and_true]; first | omega | (simp [IntKind.wrap, IntKind.bits, IntKind.signed]; omega))) ?_
      with_reducible refine (armoirelaw04_Told.calls a0_0 a0_1 t203 t218 t219 t220 _ A27.out).mono ?_
      rintro e w44 ⟨rfl, hb⟩
      refine ⟨_, rfl, ?_⟩
      have n0_ := Aside0.mk (kbl (g := gb202) (o := .cells #[.int .i64 a0_0, .int .u8 a0_1, .string t203] 23 (0, 0)) (by (with_reducible repeat (first | refine kdn ?_ _ | refine kdw ?_ | refine kal ?_ _)); exact BK202.out) hb)
      have n1_ := Aside0.mk (kbl (g := gb216) (o := .cells #[.int .i64 t212, .int .u8 t213, .string t214] 23 (0, 0)) (by (with_reducible repeat (first | refine kdn ?_ _ | refine kdw ?_ | refine kal ?_ _)); exact BK216.out) hb)
      have n2_ := Aside0.mk (bsp (by repeat (first | (with_reducible first | exact HB.out | apply bal | apply bdn | apply bd1 | refine bst ?_ GE202.out | refine bst ?_ GE216.out) | exact HB.out)) hb)
      clear BK202
      clear BK216
      clear HB
      have BK202 := n0_
      have BK216 := n1_
      have HB := n2_
      clear n0_ n1_ n2_
      (try clear hb)
      (try clear hb2)
      (try clear hk)
      (try clear hi)
      refine hK.out _ _ ⟨(kcl BK202.out 0).trans rfl, (kcl BK202.out 1).trans rfl, (kcl BK202.out 2).trans rfl, (kcl BK216.out 0).trans rfl, (kcl BK216.out 1).trans rfl, (kcl BK216.out 2).trans rfl⟩ (fun hHeld => ?_)
      clear hK K
      refine norm_ (a' := ?_) ?_ ?_
      rotate_left
      · show Act.put _ (some 31) _ = _
        simp only [Act.put, List.setIfInBounds_toArray, List.set_cons_zero, List.set_cons_succ, i64_w, i32_w]
        rfl
      refine one_ (i := 4) (N := some 32) #[true,true,true,true,true,false,false,false,false,false,false,false,false,false,false,false,false,false,false,false,false,false] rfl rfl (one_of HT_.out (by kernel_rfl)) (by decide) (fun K hK => ?_)
      refine goes_ Try.func14 (by kernel_rfl) rfl #[.agg #[.int .i64 t218, .int .i64 t219, .string t220]] (by rfl) rfl rfl (by (try simp only [List.map_toArray, List.map_cons, List.map_nil]); first | done | rfl | (simp only [List.length_drop, List.length_take]; rfl) | (simp only [Act.eval, Array.getD_eq_getD_getElem?, Option.getD_some, *]; done) | (simp only [Array.mk.injEq, List.cons.injEq, Value.int.injEq, true_and, and_true]; first | omega | (simp [IntKind.wrap, IntKind.bits, IntKind.signed]; omega))) ?_
      with_reducible refine (armoireref04_Text.calls kj2 t218 t219 t220 t221 _ A28.out).mono ?_
      rintro e w45 ⟨rfl, hb⟩
      refine ⟨_, rfl, ?_⟩
      have n0_ := Aside0.mk (kbl (g := gb202) (o := .cells #[.int .i64 a0_0, .int .u8 a0_1, .string t203] 23 (0, 0)) (by (with_reducible repeat (first | refine kdn ?_ _ | refine kdw ?_ | refine kal ?_ _)); exact BK202.out) hb)
      have n1_ := Aside0.mk (kbl (g := gb216) (o := .cells #[.int .i64 t212, .int .u8 t213, .string t214] 23 (0, 0)) (by (with_reducible repeat (first | refine kdn ?_ _ | refine kdw ?_ | refine kal ?_ _)); exact BK216.out) hb)
      have n2_ := Aside0.mk (bsp (by repeat (first | (with_reducible first | exact HB.out | apply bal | apply bdn | apply bd1 | refine bst ?_ GE202.out | refine bst ?_ GE216.out) | exact HB.out)) hb)
      clear BK202
      clear BK216
      clear HB
      have BK202 := n0_
      have BK216 := n1_
      have HB := n2_
      clear n0_ n1_ n2_
      (try clear hb)
      (try clear hb2)
      (try clear hk)
      (try clear hi)
      refine hK.out _ _ ⟨(kcl BK202.out 0).trans rfl, (kcl BK202.out 1).trans rfl, (kcl BK202.out 2).trans rfl, (kcl BK216.out 0).trans rfl, (kcl BK216.out 1).trans rfl, (kcl BK216.out 2).trans rfl⟩ (fun hHeld => ?_)
      clear hK K
      refine norm_ (a' := ?_) ?_ ?_
      rotate_left
      · show Act.put _ (some 32) _ = _
        simp only [Act.put, List.setIfInBounds_toArray, List.set_cons_zero, List.set_cons_succ, i64_w, i32_w]
        rfl
      refine pure_ (i := 5) (N := some 33) (v := ?_) (a' := ?_) (bA 22 63) rfl rfl (any_of HT_.out (by kernel_rfl)) (fun _ _ _ h => h) (Or.inl ⟨by rfl, ?_⟩) ?_ ?_
      rotate_left; (intro w'; go_simp; with_reducible rfl); rotate_left; (simp only [Act.put, List.setIfInBounds_toArray, List.set_cons_zero, List.set_cons_succ, i64_w, i32_w]; rfl)
      refine pure_ (i := 6) (N := some 34) (v := ?_) (a' := ?_) (bA 22 127) rfl rfl (any_of HT_.out (by kernel_rfl)) (fun _ _ _ h => h) (Or.inl ⟨by rfl, ?_⟩) ?_ ?_
      rotate_left; (intro w'; go_simp; with_reducible rfl); rotate_left; (simp only [Act.put, List.setIfInBounds_toArray, List.set_cons_zero, List.set_cons_succ, i64_w, i32_w]; rfl)
      refine take_ (i := 7) (N := some 35) (v := ?_) (a' := ?_) #[true,true,true,true,true,true,true,true,false,false,false,false,false,false,false,false,false,false,false,false,false,false] rfl rfl (tkw HT_.out HW_.out (by kernel_rfl)) (fun _ _ _ h => h) (Or.inl ⟨by rfl, ?_⟩) hHeld ?_ ?_
      rotate_left
      · rintro w' ⟨s0, s1, s2, s3, s4, s5⟩
        go_simp
        with_reducible rfl
      rotate_left; (simp only [Act.put, List.setIfInBounds_toArray, List.set_cons_zero, List.set_cons_succ, i64_w, i32_w]; rfl)
      refine one_ (i := 8) (N := some 36) #[true,true,true,true,true,true,true,true,true,false,false,false,false,false,false,false,false,false,false,false,false,false] rfl rfl (one_of HT_.out (by kernel_rfl)) (by decide) (fun K hK => ?_)
      refine goes_ Try.func13 (by kernel_rfl) rfl #[.agg #[.int .i64 a0_0, .int .u8 a0_1, .string t203]] (by rfl) rfl rfl (by (try simp only [List.map_toArray, List.map_cons, List.map_nil]); first | done | rfl | (simp only [List.length_drop, List.length_take]; rfl) | (simp only [Act.eval, Array.getD_eq_getD_getElem?, Option.getD_some, *]; done) | (simp only [Array.mk.injEq, List.cons.injEq, Value.int.injEq, true_and, and_true]; first | omega | (simp [IntKind.wrap, IntKind.bits, IntKind.signed]; omega))) ?_
      with_reducible refine (stamp_Sector_Text.calls kj2 a0_0 a0_1 t203 t222 _ A30.out).mono ?_
      rintro e w46 ⟨rfl, hb⟩
      refine ⟨_, rfl, ?_⟩
      have n0_ := Aside0.mk (kbl (g := gb202) (o := .cells #[.int .i64 a0_0, .int .u8 a0_1, .string t203] 23 (0, 0)) (by (with_reducible repeat (first | refine kdn ?_ _ | refine kdw ?_ | refine kal ?_ _)); exact BK202.out) hb)
      have n1_ := Aside0.mk (kbl (g := gb216) (o := .cells #[.int .i64 t212, .int .u8 t213, .string t214] 23 (0, 0)) (by (with_reducible repeat (first | refine kdn ?_ _ | refine kdw ?_ | refine kal ?_ _)); exact BK216.out) hb)
      have n2_ := Aside0.mk (bsp (by repeat (first | (with_reducible first | exact HB.out | apply bal | apply bdn | apply bd1 | refine bst ?_ GE202.out | refine bst ?_ GE216.out) | exact HB.out)) hb)
      clear BK202
      clear BK216
      clear HB
      have BK202 := n0_
      have BK216 := n1_
      have HB := n2_
      clear n0_ n1_ n2_
      (try clear hb)
      (try clear hb2)
      (try clear hk)
      (try clear hi)
      refine hK.out _ _ ⟨(kcl BK202.out 0).trans rfl, (kcl BK202.out 1).trans rfl, (kcl BK202.out 2).trans rfl, (kcl BK216.out 0).trans rfl, (kcl BK216.out 1).trans rfl, (kcl BK216.out 2).trans rfl⟩ (fun hHeld => ?_)
      clear hK K
      refine norm_ (a' := ?_) ?_ ?_
      rotate_left
      · show Act.put _ (some 36) _ = _
        simp only [Act.put, List.setIfInBounds_toArray, List.set_cons_zero, List.set_cons_succ, i64_w, i32_w]
        rfl
      refine pure_ (i := 9) (N := some 37) (v := ?_) (a' := ?_) (bA 22 1023) rfl rfl (any_of HT_.out (by kernel_rfl)) (fun _ _ _ h => h) (Or.inl ⟨by rfl, ?_⟩) ?_ ?_
      rotate_left; (intro w'; go_simp; with_reducible rfl); rotate_left; (simp only [Act.put, List.setIfInBounds_toArray, List.set_cons_zero, List.set_cons_succ, i64_w, i32_w]; rfl)
      refine pure_ (i := 10) (N := some 38) (v := ?_) (a' := ?_) (bA 22 2047) rfl rfl (any_of HT_.out (by kernel_rfl)) (fun _ _ _ h => h) (Or.inl ⟨by rfl, ?_⟩) ?_ ?_
      rotate_left; (intro w'; go_simp; with_reducible rfl); rotate_left; (simp only [Act.put, List.setIfInBounds_toArray, List.set_cons_zero, List.set_cons_succ, i64_w, i32_w]; rfl)
      refine pure_ (i := 11) (N := some 39) (v := ?_) (a' := ?_) (bA 22 4095) rfl rfl (any_of HT_.out (by kernel_rfl)) (fun _ _ _ h => h) (Or.inl ⟨by rfl, ?_⟩) ?_ ?_
      rotate_left; (intro w'; go_simp; with_reducible rfl); rotate_left; (simp only [Act.put, List.setIfInBounds_toArray, List.set_cons_zero, List.set_cons_succ, i64_w, i32_w]; rfl)
      refine pure_ (i := 12) (N := some 40) (v := ?_) (a' := ?_) (bA 22 8191) rfl rfl (any_of HT_.out (by kernel_rfl)) (fun _ _ _ h => h) (Or.inl ⟨by rfl, ?_⟩) ?_ ?_
      rotate_left; (intro w'; go_simp; with_reducible rfl); rotate_left; (simp only [Act.put, List.setIfInBounds_toArray, List.set_cons_zero, List.set_cons_succ, i64_w, i32_w]; rfl)
      refine take_ (i := 13) (N := some 41) (v := ?_) (a' := ?_) #[true,true,true,true,true,true,true,true,true,true,true,true,true,true,false,false,false,false,false,false,false,false] rfl rfl (tkw HT_.out HW_.out (by kernel_rfl)) (fun _ _ _ h => h) (Or.inl ⟨by rfl, ?_⟩) hHeld ?_ ?_
      rotate_left
      · rintro w' ⟨s0, s1, s2, s3, s4, s5⟩
        go_simp
        with_reducible rfl
      rotate_left; (simp only [Act.put, List.setIfInBounds_toArray, List.set_cons_zero, List.set_cons_succ, i64_w, i32_w]; rfl)
      refine take_ (i := 14) (N := some 42) (v := ?_) (a' := ?_) #[true,true,true,true,true,true,true,true,true,true,true,true,true,true,true,false,false,false,false,false,false,false] rfl rfl (tkw HT_.out HW_.out (by kernel_rfl)) (fun _ _ _ h => h) (Or.inl ⟨by rfl, ?_⟩) hHeld ?_ ?_
      rotate_left
      · rintro w' ⟨s0, s1, s2, s3, s4, s5⟩
        go_simp
        with_reducible rfl
      rotate_left; (simp only [Act.put, List.setIfInBounds_toArray, List.set_cons_zero, List.set_cons_succ, i64_w, i32_w]; rfl)
      refine pure_ (i := 15) (N := some 43) (v := ?_) (a' := ?_) (bA 22 65535) rfl rfl (any_of HT_.out (by kernel_rfl)) (fun _ _ _ h => h) (Or.inl ⟨by rfl, ?_⟩) ?_ ?_
      rotate_left; (intro w'; go_simp; with_reducible rfl); rotate_left; (simp only [Act.put, List.setIfInBounds_toArray, List.set_cons_zero, List.set_cons_succ, i64_w, i32_w]; rfl)
      refine pure_ (i := 16) (N := some 44) (v := ?_) (a' := ?_) (bA 22 131071) rfl rfl (any_of HT_.out (by kernel_rfl)) (fun _ _ _ h => h) (Or.inl ⟨by rfl, ?_⟩) ?_ ?_
      rotate_left; (intro w'; go_simp; with_reducible rfl); rotate_left; (simp only [Act.put, List.setIfInBounds_toArray, List.set_cons_zero, List.set_cons_succ, i64_w, i32_w]; rfl)
      refine pure_ (i := 17) (N := some 45) (v := ?_) (a' := ?_) (bA 22 262143) rfl rfl (any_of HT_.out (by kernel_rfl)) (fun _ _ _ h => h) (Or.inl ⟨by rfl, ?_⟩) ?_ ?_
      rotate_left; (intro w'; go_simp; with_reducible rfl); rotate_left; (simp only [Act.put, List.setIfInBounds_toArray, List.set_cons_zero, List.set_cons_succ, i64_w, i32_w]; rfl)
      refine pure_ (i := 18) (N := some 46) (v := ?_) (a' := ?_) (bA 22 524287) rfl rfl (any_of HT_.out (by kernel_rfl)) (fun _ _ _ h => h) (Or.inl ⟨by rfl, ?_⟩) ?_ ?_
      rotate_left; (intro w'; go_simp; with_reducible rfl); rotate_left; (simp only [Act.put, List.setIfInBounds_toArray, List.set_cons_zero, List.set_cons_succ, i64_w, i32_w]; rfl)
      refine pure_ (i := 19) (N := some 47) (v := ?_) (a' := ?_) (bA 22 1048575) rfl rfl (any_of HT_.out (by kernel_rfl)) (fun _ _ _ h => h) (Or.inl ⟨by rfl, ?_⟩) ?_ ?_
      rotate_left; (intro w'; go_simp; with_reducible rfl); rotate_left; (simp only [Act.put, List.setIfInBounds_toArray, List.set_cons_zero, List.set_cons_succ, i64_w, i32_w]; rfl)
      refine pure_ (i := 20) (N := some 48) (v := ?_) (a' := ?_) (bA 22 2097151) rfl rfl (any_of HT_.out (by kernel_rfl)) (fun _ _ _ h => h) (Or.inl ⟨by rfl, ?_⟩) ?_ ?_
      rotate_left; (intro w'; go_simp; with_reducible rfl); rotate_left; (simp only [Act.put, List.setIfInBounds_toArray, List.set_cons_zero, List.set_cons_succ, i64_w, i32_w]; rfl)
      refine pure_ (i := 21) (N := some 2) (v := ?_) (a' := ?_) (bA 22 4194303) rfl rfl (any_of HT_.out (by kernel_rfl)) (fun _ _ _ h => h) (Or.inl ⟨by rfl, ?_⟩) ?_ ?_
      rotate_left; (intro w'; go_simp; with_reducible rfl); rotate_left; (simp only [Act.put, List.setIfInBounds_toArray, List.set_cons_zero, List.set_cons_succ, i64_w, i32_w]; rfl)
      refine done_ (done_of HT_.out (by kernel_rfl)) ?_
      try go_wp2
      go_ret
      exact ⟨by first | rfl | (simp [errW_none, errW_some] <;> rfl) | (simp [*, errW_none, errW_some] <;> rfl), by repeat (first | (with_reducible first | exact HB.out | apply bal | apply bdn | apply bd1 | refine bst ?_ GE202.out | refine bst ?_ GE216.out) | exact HB.out)⟩
    rw [if_neg c32] at H
    have c32b0 : (t212 == a0_0 && (t213 == a0_1 && (t214.toList == t203.toList))) = false := by simpa using c32
    (try (have c32b1 : decide (t212 = a0_0 && (t213 == a0_1 && (t214.toList == t203.toList))) = false := by simpa using c32))
    (try (have c32b2 : (t212 == a0_0 && (t213 == a0_1 && (t214.toList == t203.toList))) = false := by simpa using c32))
    (try (have c32b3 : ¬ (t212 = a0_0 && (t213 == a0_1 && (t214.toList == t203.toList))) := by simpa using c32))
    clear c32
    obtain rfl := Option.some.inj H
    have hcz47_0 : wc.cell? ⟨gb202, 0, none⟩ = some (.int .i64 a0_0) := (kcl BK202.out 0).trans rfl
    have hcz47_1 : wc.cell? ⟨gb202, 1, none⟩ = some (.int .u8 a0_1) := (kcl BK202.out 1).trans rfl
    have hcz47_2 : wc.cell? ⟨gb202, 2, none⟩ = some (.string t203) := (kcl BK202.out 2).trans rfl
    have hfz47_0 := kfr BK202.out 0
    have hfz47_1 := kfr BK202.out 1
    have hfz47_2 := kfr BK202.out 2
    try go_wp2_with (first | ((with_reducible refine gcl (f := 9) rfl ?_); refine gl_ (some 20) rfl rfl Try.func9 (by kernel_rfl) rfl #[.agg #[.int .i64 a0_0, .int .u8 a0_1, .string t203]] rfl (by (try simp only [List.map_toArray, List.map_cons, List.map_nil]); first | done | rfl | (simp only [List.length_drop, List.length_take]; rfl)) ?_; (with_reducible refine (stamp_Sector_Check.calls kj2 a0_0 a0_1 t203 t210 _ A22.out).mono ?_); rintro e w48 ⟨rfl, hb⟩; refine ⟨_, rfl, ?_⟩; have n0_ := Aside0.mk (kbl (g := gb202) (o := .cells #[.int .i64 a0_0, .int .u8 a0_1, .string t203] 23 (0, 0)) (by (with_reducible repeat (first | refine kdn ?_ _ | refine kdw ?_ | refine kal ?_ _)); exact BK202.out) hb); have n1_ := Aside0.mk (bsp (by repeat (first | (with_reducible first | exact HB.out | apply bal | apply bdn | apply bd1 | refine bst ?_ GE202.out) | exact HB.out)) hb); clear BK202; clear HB; have BK202 := n0_; have HB := n1_; clear n0_ n1_; (try clear hb); (try clear hb2); (try clear hk); (try clear hi); have hcz49_0 : w48.cell? ⟨gb202, 0, none⟩ = some (.int .i64 a0_0) := (kcl BK202.out 0).trans rfl; have hcz49_1 : w48.cell? ⟨gb202, 1, none⟩ = some (.int .u8 a0_1) := (kcl BK202.out 1).trans rfl; have hcz49_2 : w48.cell? ⟨gb202, 2, none⟩ = some (.string t203) := (kcl BK202.out 2).trans rfl; have hfz49_0 := kfr BK202.out 0; have hfz49_1 := kfr BK202.out 1; have hfz49_2 := kfr BK202.out 2) | ((with_reducible refine gcl (f := 13) rfl ?_); refine gl_ (some 24) rfl rfl Try.func13 (by kernel_rfl) rfl #[.agg #[.int .i64 a0_0, .int .u8 a0_1, .string t203]] rfl (by (try simp only [List.map_toArray, List.map_cons, List.map_nil]); first | done | rfl | (simp only [List.length_drop, List.length_take]; rfl)) ?_; (with_reducible refine (stamp_Sector_Text.calls kj2 a0_0 a0_1 t203 t211 _ A24.out).mono ?_); rintro e w50 ⟨rfl, hb⟩; refine ⟨_, rfl, ?_⟩; have n0_ := Aside0.mk (kbl (g := gb202) (o := .cells #[.int .i64 a0_0, .int .u8 a0_1, .string t203] 23 (0, 0)) (by (with_reducible repeat (first | refine kdn ?_ _ | refine kdw ?_ | refine kal ?_ _)); exact BK202.out) hb); have n1_ := Aside0.mk (bsp (by repeat (first | (with_reducible first | exact HB.out | apply bal | apply bdn | apply bd1 | refine bst ?_ GE202.out) | exact HB.out)) hb); clear BK202; clear HB; have BK202 := n0_; have HB := n1_; clear n0_ n1_; (try clear hb); (try clear hb2); (try clear hk); (try clear hi)) | ((with_reducible refine gcl (f := 12) rfl ?_); refine gl_ (some 25) rfl rfl Try.func12 (by kernel_rfl) rfl #[.string t211] rfl (by (try simp only [List.map_toArray, List.map_cons, List.map_nil]); first | done | rfl | (simp only [List.length_drop, List.length_take]; rfl)) ?_; (with_reducible refine (stamp_Parse.calls kj2 t211 t212 t213 t214 t215 _ A25.out).mono ?_); rintro e w51 ⟨rfl, hb⟩; refine ⟨_, rfl, ?_⟩; have n0_ := Aside0.mk (kbl (g := gb202) (o := .cells #[.int .i64 a0_0, .int .u8 a0_1, .string t203] 23 (0, 0)) (by (with_reducible repeat (first | refine kdn ?_ _ | refine kdw ?_ | refine kal ?_ _)); exact BK202.out) hb); have n1_ := Aside0.mk (bsp (by repeat (first | (with_reducible first | exact HB.out | apply bal | apply bdn | apply bd1 | refine bst ?_ GE202.out) | exact HB.out)) hb); clear BK202; clear HB; have BK202 := n0_; have HB := n1_; clear n0_ n1_; (try clear hb); (try clear hb2); (try clear hk); (try clear hi)) | ((with_reducible refine gds (N := 3) rfl ?_); (try (refine gate_guard (by rfl) ?_; dsimp only)); refine bev ?hg (N := 3) ?hd (cs := #[.int .i64 0, .int .u8 0, .string (⟨#[]⟩ : ByteArray)]) (t := 23) ?hr ?_; (case hd => rfl); (case hg => rfl); (case hr => first | (go_simp; done) | (go_simp; rfl)); intro gb216 hg w52 hbox hb; have n0_ := Aside0.mk (kbl (g := gb202) (o := .cells #[.int .i64 a0_0, .int .u8 a0_1, .string t203] 23 (0, 0)) (by (with_reducible repeat (first | refine kdn ?_ _ | refine kdw ?_ | refine kal ?_ _)); exact BK202.out) hb); have n1_ := Aside0.mk (bsp (by repeat (first | (with_reducible first | exact HB.out | apply bal | apply bdn | apply bd1 | refine bst ?_ GE202.out) | exact HB.out)) hb); have n2_ := Aside0.mk (hbox); have n3_ := Aside0.mk ((by rw [hg]; exact (bsz (by repeat (first | (with_reducible first | exact HB.out | apply bal | apply bdn | apply bd1 | refine bst ?_ GE202.out) | exact HB.out))) : w.heap.size ≤ gb216)); have n4_ := Aside0.mk ((by rw [hg]; exact (bsz (by repeat (first | (with_reducible first | exact HB.out | apply bal | apply bdn | apply bd1 | refine bst ?_ GE202.out) | exact HB.out))) : w.heap.size ≤ gb216)); have n5_ := Aside0.mk ((by rw [hg]; exact Nat.ne_of_lt (blk_lt (g := gb202) (o := .cells #[.int .i64 a0_0, .int .u8 a0_1, .string t203] 23 (0, 0)) (by (with_reducible repeat (first | refine kdn ?_ _ | refine kdw ?_ | refine kal ?_ _)); exact BK202.out)) : gb202 ≠ gb216)); have n6_ := Aside0.mk ((by rw [hg]; exact Nat.ne_of_gt (blk_lt (g := gb202) (o := .cells #[.int .i64 a0_0, .int .u8 a0_1, .string t203] 23 (0, 0)) (by (with_reducible repeat (first | refine kdn ?_ _ | refine kdw ?_ | refine kal ?_ _)); exact BK202.out)) : gb216 ≠ gb202)); clear BK202; clear HB; have BK202 := n0_; have HB := n1_; have BK216 := n2_; have GW216 := n3_; have GE216 := n4_; have NB202_216 := n5_; have NB216_202 := n6_; clear n0_ n1_ n2_ n3_ n4_ n5_ n6_; clear hb hbox hg; have hnb53 := NB216_202.out; have hnc53 := NB202_216.out; have hcz54_0 : w52.cell? ⟨gb216, 0, none⟩ = some (.int .i64 0) := (kcl BK216.out 0).trans rfl; have hcz54_1 : w52.cell? ⟨gb216, 1, none⟩ = some (.int .u8 0) := (kcl BK216.out 1).trans rfl; have hcz54_2 : w52.cell? ⟨gb216, 2, none⟩ = some (.string (⟨#[]⟩ : ByteArray)) := (kcl BK216.out 2).trans rfl; have hfz54_0 := kfr BK216.out 0; have hfz54_1 := kfr BK216.out 1; have hfz54_2 := kfr BK216.out 2))
    have n0_ : Aside0 ((((w52.setCell ⟨gb216, 0, none⟩ (.int .i64 t212)).setCell ⟨gb216, 1, none⟩ (.int .u8 t213)).setCell ⟨gb216, 2, none⟩ (.string t214)).heap[gb202]? = some (.cells #[.int .i64 a0_0, .int .u8 a0_1, .string t203] 23 (0, 0))) := ⟨by (with_reducible repeat (first | refine kdn ?_ _ | refine kdw ?_ | refine kal ?_ _)); refine blk_far ?_ NB202_216.out _; (with_reducible repeat (first | refine kdn ?_ _ | refine kdw ?_ | refine kal ?_ _)); refine blk_far ?_ NB202_216.out _; (with_reducible repeat (first | refine kdn ?_ _ | refine kdw ?_ | refine kal ?_ _)); refine blk_far ?_ NB202_216.out _; (with_reducible repeat (first | refine kdn ?_ _ | refine kdw ?_ | refine kal ?_ _)); exact BK202.out⟩
    have n1_ : Aside0 ((((w52.setCell ⟨gb216, 0, none⟩ (.int .i64 t212)).setCell ⟨gb216, 1, none⟩ (.int .u8 t213)).setCell ⟨gb216, 2, none⟩ (.string t214)).heap[gb216]? = some (.cells #[.int .i64 t212, .int .u8 t213, .string t214] 23 (0, 0))) := ⟨by (with_reducible repeat (first | refine kdn ?_ _ | refine kdw ?_ | refine kal ?_ _)); refine kpt (cs := #[.int .i64 t212, .int .u8 t213, .string (⟨#[]⟩ : ByteArray)]) ?_ 2 _ rfl; (with_reducible repeat (first | refine kdn ?_ _ | refine kdw ?_ | refine kal ?_ _)); refine kpt (cs := #[.int .i64 t212, .int .u8 0, .string (⟨#[]⟩ : ByteArray)]) ?_ 1 _ rfl; (with_reducible repeat (first | refine kdn ?_ _ | refine kdw ?_ | refine kal ?_ _)); refine kpt (cs := #[.int .i64 0, .int .u8 0, .string (⟨#[]⟩ : ByteArray)]) ?_ 0 _ rfl; (with_reducible repeat (first | refine kdn ?_ _ | refine kdw ?_ | refine kal ?_ _)); exact BK216.out⟩
    have n2_ : Aside0 (Below w.heap.size w (((w52.setCell ⟨gb216, 0, none⟩ (.int .i64 t212)).setCell ⟨gb216, 1, none⟩ (.int .u8 t213)).setCell ⟨gb216, 2, none⟩ (.string t214))) := ⟨by repeat (first | (with_reducible first | exact HB.out | apply bal | apply bdn | apply bd1 | refine bst ?_ GE202.out | refine bst ?_ GE216.out) | exact HB.out)⟩
    (try clear BK202)
    (try clear BK216)
    (try clear HB)
    generalize (((w52.setCell ⟨gb216, 0, none⟩ (.int .i64 t212)).setCell ⟨gb216, 1, none⟩ (.int .u8 t213)).setCell ⟨gb216, 2, none⟩ (.string t214)) = w55 at n0_ n1_ n2_ ⊢
    have BK202 := n0_
    have BK216 := n1_
    have HB := n2_
    clear n0_ n1_ n2_
    have n0_ := Aside0.mk (kdw BK202.out)
    have n1_ := Aside0.mk (kdw BK216.out)
    have n2_ := Aside0.mk (bd1 HB.out)
    clear BK202
    clear BK216
    clear HB
    have BK202 := n0_
    have BK216 := n1_
    have HB := n2_
    clear n0_ n1_ n2_
    refine start_ (n := 22) (S := fun w' => w'.cell? ⟨gb202, 0, none⟩ = some (.int .i64 a0_0) ∧ w'.cell? ⟨gb202, 1, none⟩ = some (.int .u8 a0_1) ∧ w'.cell? ⟨gb202, 2, none⟩ = some (.string t203) ∧ w'.cell? ⟨gb216, 0, none⟩ = some (.int .i64 t212) ∧ w'.cell? ⟨gb216, 1, none⟩ = some (.int .u8 t213) ∧ w'.cell? ⟨gb216, 2, none⟩ = some (.string t214)) (ds := []) #[false,false,false,false,false,false,false,false,false,false,false,false,false,false,false,false,false,false,false,false,false,false] (by kernel_rfl) rfl rfl ⟨(kcl BK202.out 0).trans rfl, (kcl BK202.out 1).trans rfl, (kcl BK202.out 2).trans rfl, (kcl BK216.out 0).trans rfl, (kcl BK216.out 1).trans rfl, (kcl BK216.out 2).trans rfl⟩ (fun hHeld => ?_); refine with_tabW armoirelaw04_StampTexts.tab7 armoirelaw04_StampTexts.bits7 (fun HT_ HW_ => ?_)
    generalize w55.drew = w56 at BK202 BK216 HB hHeld ⊢
    refine take_ (i := 0) (N := some 28) (v := ?_) (a' := ?_) #[true,false,false,false,false,false,false,false,false,false,false,false,false,false,false,false,false,false,false,false,false,false] rfl rfl (tkw HT_.out HW_.out (by kernel_rfl)) (fun _ _ _ h => h) (Or.inl ⟨by rfl, ?_⟩) hHeld ?_ ?_
    rotate_left
    · rintro w' ⟨s0, s1, s2, s3, s4, s5⟩
      go_simp
      with_reducible rfl
    rotate_left; (simp only [Act.put, List.setIfInBounds_toArray, List.set_cons_zero, List.set_cons_succ, i64_w, i32_w]; rfl)
    refine take_ (i := 2) (N := some 30) (v := ?_) (a' := ?_) #[true,false,true,false,false,false,false,false,false,false,false,false,false,false,false,false,false,false,false,false,false,false] rfl rfl (tkw HT_.out HW_.out (by kernel_rfl)) (fun _ _ _ h => h) (Or.inl ⟨by rfl, ?_⟩) hHeld ?_ ?_
    rotate_left
    · rintro w' ⟨s0, s1, s2, s3, s4, s5⟩
      go_simp
      with_reducible rfl
    rotate_left; (simp only [Act.put, List.setIfInBounds_toArray, List.set_cons_zero, List.set_cons_succ, i64_w, i32_w]; rfl)
    refine one_ (i := 1) (N := some 29) #[true,true,true,false,false,false,false,false,false,false,false,false,false,false,false,false,false,false,false,false,false,false] rfl rfl (one_of HT_.out (by kernel_rfl)) (by decide) (fun K hK => ?_)
    refine goes_ Try.func13 (by kernel_rfl) rfl #[.agg #[.int .i64 a0_0, .int .u8 a0_1, .string t203]] (by rfl) rfl rfl (by (try simp only [List.map_toArray, List.map_cons, List.map_nil]); first | done | rfl | (simp only [List.length_drop, List.length_take]; rfl) | (simp only [Act.eval, Array.getD_eq_getD_getElem?, Option.getD_some, *]; done) | (simp only [Array.mk.injEq, List.cons.injEq, Value.int.injEq, true_and, and_true]; first | omega | (simp [IntKind.wrap, IntKind.bits, IntKind.signed]; omega))) ?_
    with_reducible refine (stamp_Sector_Text.calls kj2 a0_0 a0_1 t203 t217 _ A26.out).mono ?_
    rintro e w57 ⟨rfl, hb⟩
    refine ⟨_, rfl, ?_⟩
    have n0_ := Aside0.mk (kbl (g := gb202) (o := .cells #[.int .i64 a0_0, .int .u8 a0_1, .string t203] 23 (0, 0)) (by (with_reducible repeat (first | refine kdn ?_ _ | refine kdw ?_ | refine kal ?_ _)); exact BK202.out) hb)
    have n1_ := Aside0.mk (kbl (g := gb216) (o := .cells #[.int .i64 t212, .int .u8 t213, .string t214] 23 (0, 0)) (by (with_reducible repeat (first | refine kdn ?_ _ | refine kdw ?_ | refine kal ?_ _)); exact BK216.out) hb)
    have n2_ := Aside0.mk (bsp (by repeat (first | (with_reducible first | exact HB.out | apply bal | apply bdn | apply bd1 | refine bst ?_ GE202.out | refine bst ?_ GE216.out) | exact HB.out)) hb)
    clear BK202
    clear BK216
    clear HB
    have BK202 := n0_
    have BK216 := n1_
    have HB := n2_
    clear n0_ n1_ n2_
    (try clear hb)
    (try clear hb2)
    (try clear hk)
    (try clear hi)
    refine hK.out _ _ ⟨(kcl BK202.out 0).trans rfl, (kcl BK202.out 1).trans rfl, (kcl BK202.out 2).trans rfl, (kcl BK216.out 0).trans rfl, (kcl BK216.out 1).trans rfl, (kcl BK216.out 2).trans rfl⟩ (fun hHeld => ?_)
    clear hK K
    refine norm_ (a' := ?_) ?_ ?_
    rotate_left
    · show Act.put _ (some 29) _ = _
      simp only [Act.put, List.setIfInBounds_toArray, List.set_cons_zero, List.set_cons_succ, i64_w, i32_w]
      rfl
    refine one_ (i := 3) (N := some 31) #[true,true,true,true,false,false,false,false,false,false,false,false,false,false,false,false,false,false,false,false,false,false] rfl rfl (one_of HT_.out (by kernel_rfl)) (by decide) (fun K hK => ?_)
    refine goes_ Try.func11 (by kernel_rfl) rfl #[.agg #[.int .i64 a0_0, .int .u8 a0_1, .string t203]] (by rfl) rfl rfl (by (try simp only [List.map_toArray, List.map_cons, List.map_nil]); first | done | rfl | (simp only [List.length_drop, List.length_take]; rfl) | (simp only [Act.eval, Array.getD_eq_getD_getElem?, Option.getD_some, *]; done) | (simp only [Array.mk.injEq, List.cons.injEq, Value.int.injEq, true_and, and_true]; first | omega | (simp [IntKind.wrap, IntKind.bits, IntKind.signed]; omega))) ?_
    with_reducible refine (armoirelaw04_Told.calls a0_0 a0_1 t203 t218 t219 t220 _ A27.out).mono ?_
    rintro e w58 ⟨rfl, hb⟩
    refine ⟨_, rfl, ?_⟩
    have n0_ := Aside0.mk (kbl (g := gb202) (o := .cells #[.int .i64 a0_0, .int .u8 a0_1, .string t203] 23 (0, 0)) (by (with_reducible repeat (first | refine kdn ?_ _ | refine kdw ?_ | refine kal ?_ _)); exact BK202.out) hb)
    have n1_ := Aside0.mk (kbl (g := gb216) (o := .cells #[.int .i64 t212, .int .u8 t213, .string t214] 23 (0, 0)) (by (with_reducible repeat (first | refine kdn ?_ _ | refine kdw ?_ | refine kal ?_ _)); exact BK216.out) hb)
    have n2_ := Aside0.mk (bsp (by repeat (first | (with_reducible first | exact HB.out | apply bal | apply bdn | apply bd1 | refine bst ?_ GE202.out | refine bst ?_ GE216.out) | exact HB.out)) hb)
    clear BK202
    clear BK216
    clear HB
    have BK202 := n0_
    have BK216 := n1_
    have HB := n2_
    clear n0_ n1_ n2_
    (try clear hb)
    (try clear hb2)
    (try clear hk)
    (try clear hi)
    refine hK.out _ _ ⟨(kcl BK202.out 0).trans rfl, (kcl BK202.out 1).trans rfl, (kcl BK202.out 2).trans rfl, (kcl BK216.out 0).trans rfl, (kcl BK216.out 1).trans rfl, (kcl BK216.out 2).trans rfl⟩ (fun hHeld => ?_)
    clear hK K
    refine norm_ (a' := ?_) ?_ ?_
    rotate_left
    · show Act.put _ (some 31) _ = _
      simp only [Act.put, List.setIfInBounds_toArray, List.set_cons_zero, List.set_cons_succ, i64_w, i32_w]
      rfl
    refine one_ (i := 4) (N := some 32) #[true,true,true,true,true,false,false,false,false,false,false,false,false,false,false,false,false,false,false,false,false,false] rfl rfl (one_of HT_.out (by kernel_rfl)) (by decide) (fun K hK => ?_)
    refine goes_ Try.func14 (by kernel_rfl) rfl #[.agg #[.int .i64 t218, .int .i64 t219, .string t220]] (by rfl) rfl rfl (by (try simp only [List.map_toArray, List.map_cons, List.map_nil]); first | done | rfl | (simp only [List.length_drop, List.length_take]; rfl) | (simp only [Act.eval, Array.getD_eq_getD_getElem?, Option.getD_some, *]; done) | (simp only [Array.mk.injEq, List.cons.injEq, Value.int.injEq, true_and, and_true]; first | omega | (simp [IntKind.wrap, IntKind.bits, IntKind.signed]; omega))) ?_
    with_reducible refine (armoireref04_Text.calls kj2 t218 t219 t220 t221 _ A28.out).mono ?_
    rintro e w59 ⟨rfl, hb⟩
    refine ⟨_, rfl, ?_⟩
    have n0_ := Aside0.mk (kbl (g := gb202) (o := .cells #[.int .i64 a0_0, .int .u8 a0_1, .string t203] 23 (0, 0)) (by (with_reducible repeat (first | refine kdn ?_ _ | refine kdw ?_ | refine kal ?_ _)); exact BK202.out) hb)
    have n1_ := Aside0.mk (kbl (g := gb216) (o := .cells #[.int .i64 t212, .int .u8 t213, .string t214] 23 (0, 0)) (by (with_reducible repeat (first | refine kdn ?_ _ | refine kdw ?_ | refine kal ?_ _)); exact BK216.out) hb)
    have n2_ := Aside0.mk (bsp (by repeat (first | (with_reducible first | exact HB.out | apply bal | apply bdn | apply bd1 | refine bst ?_ GE202.out | refine bst ?_ GE216.out) | exact HB.out)) hb)
    clear BK202
    clear BK216
    clear HB
    have BK202 := n0_
    have BK216 := n1_
    have HB := n2_
    clear n0_ n1_ n2_
    (try clear hb)
    (try clear hb2)
    (try clear hk)
    (try clear hi)
    refine hK.out _ _ ⟨(kcl BK202.out 0).trans rfl, (kcl BK202.out 1).trans rfl, (kcl BK202.out 2).trans rfl, (kcl BK216.out 0).trans rfl, (kcl BK216.out 1).trans rfl, (kcl BK216.out 2).trans rfl⟩ (fun hHeld => ?_)
    clear hK K
    refine norm_ (a' := ?_) ?_ ?_
    rotate_left
    · show Act.put _ (some 32) _ = _
      simp only [Act.put, List.setIfInBounds_toArray, List.set_cons_zero, List.set_cons_succ, i64_w, i32_w]
      rfl
    refine pure_ (i := 5) (N := some 33) (v := ?_) (a' := ?_) (bA 22 63) rfl rfl (any_of HT_.out (by kernel_rfl)) (fun _ _ _ h => h) (Or.inl ⟨by rfl, ?_⟩) ?_ ?_
    rotate_left; (intro w'; go_simp; with_reducible rfl); rotate_left; (simp only [Act.put, List.setIfInBounds_toArray, List.set_cons_zero, List.set_cons_succ, i64_w, i32_w]; rfl)
    refine pure_ (i := 6) (N := some 34) (v := ?_) (a' := ?_) (bA 22 127) rfl rfl (any_of HT_.out (by kernel_rfl)) (fun _ _ _ h => h) (Or.inl ⟨by rfl, ?_⟩) ?_ ?_
    rotate_left; (intro w'; go_simp; with_reducible rfl); rotate_left; (simp only [Act.put, List.setIfInBounds_toArray, List.set_cons_zero, List.set_cons_succ, i64_w, i32_w]; rfl)
    refine take_ (i := 7) (N := some 35) (v := ?_) (a' := ?_) #[true,true,true,true,true,true,true,true,false,false,false,false,false,false,false,false,false,false,false,false,false,false] rfl rfl (tkw HT_.out HW_.out (by kernel_rfl)) (fun _ _ _ h => h) (Or.inl ⟨by rfl, ?_⟩) hHeld ?_ ?_
    rotate_left
    · rintro w' ⟨s0, s1, s2, s3, s4, s5⟩
      go_simp
      with_reducible rfl
    rotate_left; (simp only [Act.put, List.setIfInBounds_toArray, List.set_cons_zero, List.set_cons_succ, i64_w, i32_w]; rfl)
    refine one_ (i := 8) (N := some 36) #[true,true,true,true,true,true,true,true,true,false,false,false,false,false,false,false,false,false,false,false,false,false] rfl rfl (one_of HT_.out (by kernel_rfl)) (by decide) (fun K hK => ?_)
    refine goes_ Try.func13 (by kernel_rfl) rfl #[.agg #[.int .i64 a0_0, .int .u8 a0_1, .string t203]] (by rfl) rfl rfl (by (try simp only [List.map_toArray, List.map_cons, List.map_nil]); first | done | rfl | (simp only [List.length_drop, List.length_take]; rfl) | (simp only [Act.eval, Array.getD_eq_getD_getElem?, Option.getD_some, *]; done) | (simp only [Array.mk.injEq, List.cons.injEq, Value.int.injEq, true_and, and_true]; first | omega | (simp [IntKind.wrap, IntKind.bits, IntKind.signed]; omega))) ?_
    with_reducible refine (stamp_Sector_Text.calls kj2 a0_0 a0_1 t203 t222 _ A30.out).mono ?_
    rintro e w60 ⟨rfl, hb⟩
    refine ⟨_, rfl, ?_⟩
    have n0_ := Aside0.mk (kbl (g := gb202) (o := .cells #[.int .i64 a0_0, .int .u8 a0_1, .string t203] 23 (0, 0)) (by (with_reducible repeat (first | refine kdn ?_ _ | refine kdw ?_ | refine kal ?_ _)); exact BK202.out) hb)
    have n1_ := Aside0.mk (kbl (g := gb216) (o := .cells #[.int .i64 t212, .int .u8 t213, .string t214] 23 (0, 0)) (by (with_reducible repeat (first | refine kdn ?_ _ | refine kdw ?_ | refine kal ?_ _)); exact BK216.out) hb)
    have n2_ := Aside0.mk (bsp (by repeat (first | (with_reducible first | exact HB.out | apply bal | apply bdn | apply bd1 | refine bst ?_ GE202.out | refine bst ?_ GE216.out) | exact HB.out)) hb)
    clear BK202
    clear BK216
    clear HB
    have BK202 := n0_
    have BK216 := n1_
    have HB := n2_
    clear n0_ n1_ n2_
    (try clear hb)
    (try clear hb2)
    (try clear hk)
    (try clear hi)
    refine hK.out _ _ ⟨(kcl BK202.out 0).trans rfl, (kcl BK202.out 1).trans rfl, (kcl BK202.out 2).trans rfl, (kcl BK216.out 0).trans rfl, (kcl BK216.out 1).trans rfl, (kcl BK216.out 2).trans rfl⟩ (fun hHeld => ?_)
    clear hK K
    refine norm_ (a' := ?_) ?_ ?_
    rotate_left
    · show Act.put _ (some 36) _ = _
      simp only [Act.put, List.setIfInBounds_toArray, List.set_cons_zero, List.set_cons_succ, i64_w, i32_w]
      rfl
    refine pure_ (i := 9) (N := some 37) (v := ?_) (a' := ?_) (bA 22 1023) rfl rfl (any_of HT_.out (by kernel_rfl)) (fun _ _ _ h => h) (Or.inl ⟨by rfl, ?_⟩) ?_ ?_
    rotate_left; (intro w'; go_simp; with_reducible rfl); rotate_left; (simp only [Act.put, List.setIfInBounds_toArray, List.set_cons_zero, List.set_cons_succ, i64_w, i32_w]; rfl)
    refine pure_ (i := 10) (N := some 38) (v := ?_) (a' := ?_) (bA 22 2047) rfl rfl (any_of HT_.out (by kernel_rfl)) (fun _ _ _ h => h) (Or.inl ⟨by rfl, ?_⟩) ?_ ?_
    rotate_left; (intro w'; go_simp; with_reducible rfl); rotate_left; (simp only [Act.put, List.setIfInBounds_toArray, List.set_cons_zero, List.set_cons_succ, i64_w, i32_w]; rfl)
    refine pure_ (i := 11) (N := some 39) (v := ?_) (a' := ?_) (bA 22 4095) rfl rfl (any_of HT_.out (by kernel_rfl)) (fun _ _ _ h => h) (Or.inl ⟨by rfl, ?_⟩) ?_ ?_
    rotate_left; (intro w'; go_simp; with_reducible rfl); rotate_left; (simp only [Act.put, List.setIfInBounds_toArray, List.set_cons_zero, List.set_cons_succ, i64_w, i32_w]; rfl)
    refine pure_ (i := 12) (N := some 40) (v := ?_) (a' := ?_) (bA 22 8191) rfl rfl (any_of HT_.out (by kernel_rfl)) (fun _ _ _ h => h) (Or.inl ⟨by rfl, ?_⟩) ?_ ?_
    rotate_left; (intro w'; go_simp; with_reducible rfl); rotate_left; (simp only [Act.put, List.setIfInBounds_toArray, List.set_cons_zero, List.set_cons_succ, i64_w, i32_w]; rfl)
    refine take_ (i := 13) (N := some 41) (v := ?_) (a' := ?_) #[true,true,true,true,true,true,true,true,true,true,true,true,true,true,false,false,false,false,false,false,false,false] rfl rfl (tkw HT_.out HW_.out (by kernel_rfl)) (fun _ _ _ h => h) (Or.inl ⟨by rfl, ?_⟩) hHeld ?_ ?_
    rotate_left
    · rintro w' ⟨s0, s1, s2, s3, s4, s5⟩
      go_simp
      with_reducible rfl
    rotate_left; (simp only [Act.put, List.setIfInBounds_toArray, List.set_cons_zero, List.set_cons_succ, i64_w, i32_w]; rfl)
    refine take_ (i := 14) (N := some 42) (v := ?_) (a' := ?_) #[true,true,true,true,true,true,true,true,true,true,true,true,true,true,true,false,false,false,false,false,false,false] rfl rfl (tkw HT_.out HW_.out (by kernel_rfl)) (fun _ _ _ h => h) (Or.inl ⟨by rfl, ?_⟩) hHeld ?_ ?_
    rotate_left
    · rintro w' ⟨s0, s1, s2, s3, s4, s5⟩
      go_simp
      with_reducible rfl
    rotate_left; (simp only [Act.put, List.setIfInBounds_toArray, List.set_cons_zero, List.set_cons_succ, i64_w, i32_w]; rfl)
    refine pure_ (i := 15) (N := some 43) (v := ?_) (a' := ?_) (bA 22 65535) rfl rfl (any_of HT_.out (by kernel_rfl)) (fun _ _ _ h => h) (Or.inl ⟨by rfl, ?_⟩) ?_ ?_
    rotate_left; (intro w'; go_simp; with_reducible rfl); rotate_left; (simp only [Act.put, List.setIfInBounds_toArray, List.set_cons_zero, List.set_cons_succ, i64_w, i32_w]; rfl)
    refine pure_ (i := 16) (N := some 44) (v := ?_) (a' := ?_) (bA 22 131071) rfl rfl (any_of HT_.out (by kernel_rfl)) (fun _ _ _ h => h) (Or.inl ⟨by rfl, ?_⟩) ?_ ?_
    rotate_left; (intro w'; go_simp; with_reducible rfl); rotate_left; (simp only [Act.put, List.setIfInBounds_toArray, List.set_cons_zero, List.set_cons_succ, i64_w, i32_w]; rfl)
    refine pure_ (i := 17) (N := some 45) (v := ?_) (a' := ?_) (bA 22 262143) rfl rfl (any_of HT_.out (by kernel_rfl)) (fun _ _ _ h => h) (Or.inl ⟨by rfl, ?_⟩) ?_ ?_
    rotate_left; (intro w'; go_simp; with_reducible rfl); rotate_left; (simp only [Act.put, List.setIfInBounds_toArray, List.set_cons_zero, List.set_cons_succ, i64_w, i32_w]; rfl)
    refine pure_ (i := 18) (N := some 46) (v := undef) (a' := ?_) (bA 22 524287) rfl rfl (any_of HT_.out (by kernel_rfl)) (fun _ _ _ h => h) (Or.inr ⟨by rfl, rfl⟩) ?_ ?_
    rotate_left; (simp only [Act.put, List.setIfInBounds_toArray, List.set_cons_zero, List.set_cons_succ, i64_w, i32_w]; rfl)
    refine pure_ (i := 19) (N := some 47) (v := undef) (a' := ?_) (bA 22 1048575) rfl rfl (any_of HT_.out (by kernel_rfl)) (fun _ _ _ h => h) (Or.inr ⟨by rfl, rfl⟩) ?_ ?_
    rotate_left; (simp only [Act.put, List.setIfInBounds_toArray, List.set_cons_zero, List.set_cons_succ, i64_w, i32_w]; rfl)
    refine pure_ (i := 20) (N := some 48) (v := ?_) (a' := ?_) (bA 22 2097151) rfl rfl (any_of HT_.out (by kernel_rfl)) (fun _ _ _ h => h) (Or.inl ⟨by rfl, ?_⟩) ?_ ?_
    rotate_left; (intro w'; go_simp; with_reducible rfl); rotate_left; (simp only [Act.put, List.setIfInBounds_toArray, List.set_cons_zero, List.set_cons_succ, i64_w, i32_w]; rfl)
    refine pure_ (i := 21) (N := some 2) (v := ?_) (a' := ?_) (bA 22 4194303) rfl rfl (any_of HT_.out (by kernel_rfl)) (fun _ _ _ h => h) (Or.inl ⟨by rfl, ?_⟩) ?_ ?_
    rotate_left; (intro w'; go_simp; with_reducible rfl); rotate_left; (simp only [Act.put, List.setIfInBounds_toArray, List.set_cons_zero, List.set_cons_succ, i64_w, i32_w]; rfl)
    refine done_ (done_of HT_.out (by kernel_rfl)) ?_
    try go_wp2
    go_ret
    exact ⟨by first | rfl | (simp [errW_none, errW_some] <;> rfl) | (simp [*, errW_none, errW_some] <;> rfl), by repeat (first | (with_reducible first | exact HB.out | apply bal | apply bdn | apply bd1 | refine bst ?_ GE202.out | refine bst ?_ GE216.out) | exact HB.out)⟩
def armoirelaw04_StampTexts.Pure : Prop := ∀ (a0_0 : Int) (a0_1 : Int) (a0_2 : ByteArray), ((Lit.int .i64 a0_0).wf = true ∧ (Lit.int .u8 a0_1).wf = true ∧ a0_2.size ≤ maxLen) → ∃ k, armoirelaw04_StampTexts.f k a0_0 a0_1 a0_2 = some true
theorem armoirelaw04_StampTexts.walk (P : armoirelaw04_StampTexts.Pure) (a0_0 : Int) (a0_1 : Int) (a0_2 : ByteArray) (w : World) (w0 : ((Lit.int .i64 a0_0).wf = true ∧ (Lit.int .u8 a0_1).wf = true ∧ a0_2.size ≤ maxLen)) :
    Calls Try.prog 3 #[.agg #[.int .i64 a0_0, .int .u8 a0_1, .string a0_2]] w fun e w' => e = .returned (.bool true) ∧ Below w.heap.size w w' := by
  obtain ⟨k, h⟩ := P a0_0 a0_1 a0_2 w0
  refine (armoirelaw04_StampTexts.calls k a0_0 a0_1 a0_2 true w h).mono ?_
  rintro e w' ⟨rfl, hd⟩
  exact ⟨rfl, hd⟩
end Go.Proofs.Ytodikgjanhihhaa.PA

