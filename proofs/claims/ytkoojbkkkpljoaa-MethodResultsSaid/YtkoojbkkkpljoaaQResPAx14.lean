import Derived.Test.YtkoojbkkkpljoaaQResPAx0
import Derived.Test.YtkoojbkkkpljoaaQResPAx2
import Derived.Test.YtkoojbkkkpljoaaQResPAx7
import Derived.Test.YtkoojbkkkpljoaaQResPAx10
import Derived.Test.YtkoojbkkkpljoaaQResPAx12
import Derived.Test.YtkoojbkkkpljoaaQResPAx13
namespace Go.Proofs.Ytkoojbkkkpljoaa.PA
open Go.Proofs.Ytkoojbkkkpljoaa.PL
open Go.RowKit Go.Proofs.YtkoojbkkkpljoaaW.PrintWords Go.Proofs.YtkoojbkkkpljoaaW.PrintLast Go.Proofs.YtkoojbkkkpljoaaW.PrintMore
attribute [local go_sem] max2_int min2_int max_two min_two max_three min_three max_four min_four
set_option linter.unusedVariables false
set_option linter.unusedSimpArgs false
attribute [local go_sem high] eqA29
def armoirelaw12_MethodResults.j0 : Nat → Bool → Int → ByteArray → Int → Option (Bool)
  | 0, _, _, _, _ => none
  | k + 1, x18, x318000, x318001, x318002 => if x18 = true then (some false) else ((method_Result_Check.f k x318000 x318001 x318002).bind fun t322 => (if t322 = 0 then ((method_Result_Put.f x318000 x318001 x318002 (⟨#[]⟩ : ByteArray)).bind fun t324 => ((codec_Out_Text.f t324).bind fun bt325 => ((codec_Read.f bt325.1).bind fun bt327 => ((method_ReadResult.f k bt327.1 bt327.2).bind fun bt330 => ((codec_Out_Text.f bt325.2).bind fun bt336 => ((armoireref12_TextResult.f k x318000 x318001 x318002).bind fun t338 => (if bt336.1.toList = t338.toList then (if (bt330.1 == x318000 && (bt330.2.1.toList == x318001.toList && (bt330.2.2.1 == x318002))) = true then ((codec_In_End.f bt330.2.2.2.1 bt330.2.2.2.2).bind fun bt339 => (some (bt339.1 == 0))) else (some false)) else (some false)))))))) else (some true)))
def armoirelaw12_MethodResults.f (k : Nat) (a0_0 : Int) (a0_1 : ByteArray) (a0_2 : Int) : Option (Bool) := (armoirelaw01_Cut.f a0_1 28).bind fun t318 => ((armoirelaw12_awake.f k).bind fun t319 => (if t319 = true then ((method_Result_Check.f k a0_0 t318 a0_2).bind fun t320 => ((armoireref12_CheckResult.f k a0_0 t318 a0_2).bind fun t321 => (armoirelaw12_MethodResults.j0 k (t320 != t321) a0_0 t318 a0_2))) else (armoirelaw12_MethodResults.j0 k true a0_0 t318 a0_2)))
def armoirelaw12_MethodResults.T2 : Bool × List (List Nat × List Nat) := (true, [([], []), ([0], [0]), ([1, 0], [1]), ([2], [2]), ([3, 2, 2], [2, 3]), ([2], [2]), ([5, 4, 2], [2, 5]), ([4, 6, 2], [2, 4, 6]), ([2, 7], [2, 7])])
def armoirelaw12_MethodResults.B2 : List Nat := [0, 1, 3, 7, 15, 7, 63, 127, 255]
theorem armoirelaw12_MethodResults.tab2 : rtab .any (opsOf Try.f5 2) = armoirelaw12_MethodResults.T2 := by kernel_rfl
theorem armoirelaw12_MethodResults.bits2 : waitsOk armoirelaw12_MethodResults.T2.2 armoirelaw12_MethodResults.B2 = true := by kernel_rfl
def armoirelaw12_MethodResults.T10 : Bool × List (List Nat × List Nat) := (true, [([], []), ([], []), ([1, 0], [1]), ([0, 2], [0, 2]), ([3, 2], [3]), ([4], [4]), ([4], [4]), ([5, 6, 4], [4, 5, 6]), ([4, 7], [4, 7]), ([8, 4], [8]), ([9], [9]), ([10, 9, 9], [9, 10]), ([11, 9], [9, 11]), ([9, 12], [9, 12]), ([13, 11, 0, 1, 2, 3, 4, 5, 6, 7, 8, 9, 10, 11, 12, 13], [13])])
def armoirelaw12_MethodResults.B10 : List Nat := [0, 0, 3, 7, 15, 31, 31, 127, 255, 511, 1023, 2047, 4095, 8191, 16383]
theorem armoirelaw12_MethodResults.tab10 : rtab .any (opsOf Try.f5 10) = armoirelaw12_MethodResults.T10 := by kernel_rfl
theorem armoirelaw12_MethodResults.bits10 : waitsOk armoirelaw12_MethodResults.T10.2 armoirelaw12_MethodResults.B10 = true := by kernel_rfl
set_option maxHeartbeats 2000000 in
set_option maxRecDepth 100000 in
theorem armoirelaw12_MethodResults.calls (k : Nat) (a0_0 : Int) (a0_1 : ByteArray) (a0_2 : Int) (r : Bool) (w : World) (h : armoirelaw12_MethodResults.f k a0_0 a0_1 a0_2 = some r) :
    Calls Try.prog 5 #[.agg #[.int .i64 a0_0, .string a0_1, .int .i64 a0_2]] w fun e w' => e = .returned (.bool r) ∧ Below w.heap.size w w' := by
  have hu29 := Try.underlying29
  have hu50 := Try.underlying50
  have HB := Aside0.mk (Below.refl w.heap.size w)
  have H : ((armoirelaw01_Cut.f a0_1 28).bind fun t318 => ((armoirelaw12_awake.f k).bind fun t319 => (if t319 = true then ((method_Result_Check.f k a0_0 t318 a0_2).bind fun t320 => ((armoireref12_CheckResult.f k a0_0 t318 a0_2).bind fun t321 => (armoirelaw12_MethodResults.j0 k (t320 != t321) a0_0 t318 a0_2))) else (armoirelaw12_MethodResults.j0 k true a0_0 t318 a0_2)))) = some r := h
  clear h
  replace H := Option.bind_eq_some_iff.mp H
  obtain ⟨t318, A20, H⟩ := H
  replace H : ((armoirelaw12_awake.f k).bind fun t319 => (if t319 = true then ((method_Result_Check.f k a0_0 t318 a0_2).bind fun t320 => ((armoireref12_CheckResult.f k a0_0 t318 a0_2).bind fun t321 => (armoirelaw12_MethodResults.j0 k (t320 != t321) a0_0 t318 a0_2))) else (armoirelaw12_MethodResults.j0 k true a0_0 t318 a0_2))) = some r := H
  have A2 := Aside0.mk A20
  clear A20
  have HC3 := Aside0.mk H
  clear H
  go_enter Try.func5, Try.ntmps5
  go_upto_region 2 with (first | ((with_reducible refine gate_dst (N := 1) rfl ?_); refine box_event ?hg (N := 1) ?hd (cs := #[.int .i64 a0_0, .string a0_1, .int .i64 a0_2]) (t := 29) ?hr ?_; (case hd => rfl); (case hg => rfl); (case hr => first | (go_simp; done) | (go_simp; rfl)); intro gb317 hg w4 hbox hb; have n0_ := Aside0.mk (below_step (by repeat (first | (with_reducible first | exact HB.out | apply below_alloc | apply pw_below_drewN | apply below_drew1) | exact HB.out)) hb); have n1_ := Aside0.mk (hbox); have n2_ := Aside0.mk ((by rw [hg]; exact (below_size (by repeat (first | (with_reducible first | exact HB.out | apply below_alloc | apply pw_below_drewN | apply below_drew1) | exact HB.out))) : w.heap.size ≤ gb317)); have n3_ := Aside0.mk ((by rw [hg]; exact (below_size (by repeat (first | (with_reducible first | exact HB.out | apply below_alloc | apply pw_below_drewN | apply below_drew1) | exact HB.out))) : w.heap.size ≤ gb317)); clear HB; have HB := n0_; have BK317 := n1_; have GW317 := n2_; have GE317 := n3_; clear n0_ n1_ n2_ n3_; clear hb hbox hg; have hcz5_0 : w4.cell? ⟨gb317, 0, none⟩ = some (.int .i64 a0_0) := (blk_cell BK317.out 0).trans rfl; have hcz5_1 : w4.cell? ⟨gb317, 1, none⟩ = some (.string a0_1) := (blk_cell BK317.out 1).trans rfl; have hcz5_2 : w4.cell? ⟨gb317, 2, none⟩ = some (.int .i64 a0_2) := (blk_cell BK317.out 2).trans rfl; have hfz5_0 := blk_frozen BK317.out 0; have hfz5_1 := blk_frozen BK317.out 1; have hfz5_2 := blk_frozen BK317.out 2) | ((with_reducible refine gate_callee (f := 18) rfl ?_); refine goesL_ (some 8) rfl rfl Try.func18 (by kernel_rfl) rfl #[.string a0_1, .int .i64 28] rfl (by (try simp only [List.map_toArray, List.map_cons, List.map_nil]); first | done | rfl | (simp only [List.length_drop, List.length_take]; rfl)) ?_; (with_reducible refine (armoirelaw01_Cut.calls a0_1 28 t318 _ A2.out).mono ?_); rintro e w' ⟨rfl, ⟨nd, rfl⟩⟩; refine ⟨_, rfl, ?_⟩; (try (rw [drewN_self w4]; generalize hq_ : World.drewN w4 _ = w4; have n0_ : Aside0 (w4.heap[gb317]? = some (.cells #[.int .i64 a0_0, .string a0_1, .int .i64 a0_2] 29 (0, 0))) := ⟨by rw [← hq_]; exact (by (with_reducible repeat (first | refine blk_drewN ?_ _ | refine blk_drew ?_ | refine blk_alloc ?_ _)); exact BK317.out)⟩; have n1_ : Aside0 (Below w.heap.size w w4) := ⟨by rw [← hq_]; exact (by repeat (first | (with_reducible first | exact HB.out | apply below_alloc | apply pw_below_drewN | apply below_drew1 | refine below_set ?_ GE317.out) | exact HB.out))⟩; clear BK317 HB hq_; have BK317 := n0_; have HB := n1_; clear n0_ n1_)); have hcz6_0 : w4.cell? ⟨gb317, 0, none⟩ = some (.int .i64 a0_0) := (blk_cell BK317.out 0).trans rfl; have hcz6_1 : w4.cell? ⟨gb317, 1, none⟩ = some (.string a0_1) := (blk_cell BK317.out 1).trans rfl; have hcz6_2 : w4.cell? ⟨gb317, 2, none⟩ = some (.int .i64 a0_2) := (blk_cell BK317.out 2).trans rfl; have hfz6_0 := blk_frozen BK317.out 0; have hfz6_1 := blk_frozen BK317.out 1; have hfz6_2 := blk_frozen BK317.out 2))
  (try simp only [Act.put, List.setIfInBounds_toArray, List.set_cons_zero, List.set_cons_succ])
  go_cut [18] (fun v18 wc => ∃ (kq : Nat) (x18_2 : Bool), v18 = .bool x18_2 ∧ Aside0 (armoirelaw12_MethodResults.j0 kq x18_2 a0_0 t318 a0_2 = some r) ∧ Aside0 (kq ≤ k) ∧ Aside0 (wc.heap[gb317]? = some (.cells #[.int .i64 a0_0, .string t318, .int .i64 a0_2] 29 (0, 0))) ∧ Aside0 (Below w.heap.size w wc))
  case first =>
    have H := HC3.out
    clear HC3
    replace H := Option.bind_eq_some_iff.mp H
    obtain ⟨t319, A70, H⟩ := H
    replace H : (if t319 = true then ((method_Result_Check.f k a0_0 t318 a0_2).bind fun t320 => ((armoireref12_CheckResult.f k a0_0 t318 a0_2).bind fun t321 => (armoirelaw12_MethodResults.j0 k (t320 != t321) a0_0 t318 a0_2))) else (armoirelaw12_MethodResults.j0 k true a0_0 t318 a0_2)) = some r := H
    have A7 := Aside0.mk A70
    clear A70
    by_cases c8 : t319 = true
    rotate_left
    · replace c8 := Bool.eq_false_iff.mpr c8
      subst c8
      have H1 : (armoirelaw12_MethodResults.j0 k true a0_0 t318 a0_2) = some r := by rw [if_neg (show ¬ (false = true) by decide)] at H; exact H
      clear H
      have H := H1
      clear H1
      have H' := Aside0.mk H
      clear H
      try go_wp2
      have n0_ : Aside0 ((w4.setCell ⟨gb317, 1, none⟩ (.string t318)).heap[gb317]? = some (.cells #[.int .i64 a0_0, .string t318, .int .i64 a0_2] 29 (0, 0))) := ⟨by (with_reducible repeat (first | refine blk_drewN ?_ _ | refine blk_drew ?_ | refine blk_alloc ?_ _)); refine blk_put (cs := #[.int .i64 a0_0, .string a0_1, .int .i64 a0_2]) ?_ 1 _ rfl; (with_reducible repeat (first | refine blk_drewN ?_ _ | refine blk_drew ?_ | refine blk_alloc ?_ _)); exact BK317.out⟩
      have n1_ : Aside0 (Below w.heap.size w (w4.setCell ⟨gb317, 1, none⟩ (.string t318))) := ⟨by repeat (first | (with_reducible first | exact HB.out | apply below_alloc | apply pw_below_drewN | apply below_drew1 | refine below_set ?_ GE317.out) | exact HB.out)⟩
      (try clear BK317)
      (try clear HB)
      generalize (w4.setCell ⟨gb317, 1, none⟩ (.string t318)) = w16 at n0_ n1_ ⊢
      have BK317 := n0_
      have HB := n1_
      clear n0_ n1_
      have n0_ := Aside0.mk (blk_drew BK317.out)
      have n1_ := Aside0.mk (below_drew1 HB.out)
      clear BK317
      clear HB
      have BK317 := n0_
      have HB := n1_
      clear n0_ n1_
      refine start_ (n := 9) (S := fun w' => True) (ds := []) #[false,false,false,false,false,false,false,false,false] (by kernel_rfl) rfl rfl trivial (fun hHeld => ?_); refine with_tabW armoirelaw12_MethodResults.tab2 armoirelaw12_MethodResults.bits2 (fun HT_ HW_ => ?_)
      generalize w16.drew = w17 at BK317 HB hHeld ⊢
      refine one_ (i := 0) (N := some 10) #[true,false,false,false,false,false,false,false,false] rfl rfl (one_of HT_.out (by kernel_rfl)) (by decide) (fun K hK => ?_)
      refine goes_ Try.func9 (by kernel_rfl) rfl #[] (by rfl) rfl rfl (by (try simp only [List.map_toArray, List.map_cons, List.map_nil]); first | done | rfl | (simp only [List.length_drop, List.length_take]; rfl) | (simp only [Act.eval, Array.getD_eq_getD_getElem?, Option.getD_some, *]; done) | (simp only [Array.mk.injEq, List.cons.injEq, Value.int.injEq, true_and, and_true]; first | omega | (simp [IntKind.wrap, IntKind.bits, IntKind.signed]; omega))) ?_
      with_reducible refine (armoirelaw12_awake.calls k  false _ A7.out).mono ?_
      rintro e w18 ⟨rfl, hb⟩
      refine ⟨_, rfl, ?_⟩
      have n0_ := Aside0.mk (blk_below (g := gb317) (o := .cells #[.int .i64 a0_0, .string t318, .int .i64 a0_2] 29 (0, 0)) (by (with_reducible repeat (first | refine blk_drewN ?_ _ | refine blk_drew ?_ | refine blk_alloc ?_ _)); exact BK317.out) hb)
      have n1_ := Aside0.mk (below_step (by repeat (first | (with_reducible first | exact HB.out | apply below_alloc | apply pw_below_drewN | apply below_drew1 | refine below_set ?_ GE317.out) | exact HB.out)) hb)
      clear BK317
      clear HB
      have BK317 := n0_
      have HB := n1_
      clear n0_ n1_
      (try clear hb)
      (try clear hb2)
      (try clear hk)
      (try clear hi)
      refine hK.out _ _ trivial (fun hHeld => ?_)
      clear hK K
      refine norm_ (a' := ?_) ?_ ?_
      rotate_left
      · show Act.put _ (some 10) _ = _
        simp only [Act.put, List.setIfInBounds_toArray, List.set_cons_zero, List.set_cons_succ, i64_w, i32_w]
        rfl
      refine pure_ (i := 1) (N := some 11) (v := ?_) (a' := ?_) (bA 9 3) rfl rfl (any_of HT_.out (by kernel_rfl)) (fun _ _ _ h => h) (Or.inl ⟨by rfl, ?_⟩) ?_ ?_
      rotate_left; (intro w'; go_simp; with_reducible rfl); rotate_left; (simp only [Act.put, List.setIfInBounds_toArray, List.set_cons_zero, List.set_cons_succ, i64_w, i32_w]; rfl)
      refine pure_ (i := 2) (N := some 12) (v := ?_) (a' := ?_) (bA 9 7) rfl rfl (any_of HT_.out (by kernel_rfl)) (fun _ _ _ h => h) (Or.inl ⟨by rfl, ?_⟩) ?_ ?_
      rotate_left; (intro w'; go_simp; with_reducible rfl); rotate_left; (simp only [Act.put, List.setIfInBounds_toArray, List.set_cons_zero, List.set_cons_succ, i64_w, i32_w]; rfl)
      refine pure_ (i := 3) (N := some 13) (v := undef) (a' := ?_) (bA 9 15) rfl rfl (any_of HT_.out (by kernel_rfl)) (fun _ _ _ h => h) (Or.inr ⟨by rfl, rfl⟩) ?_ ?_
      rotate_left; (simp only [Act.put, List.setIfInBounds_toArray, List.set_cons_zero, List.set_cons_succ, i64_w, i32_w]; rfl)
      refine pure_ (i := 4) (N := some 14) (v := undef) (a' := ?_) (bA 9 31) rfl rfl (any_of HT_.out (by kernel_rfl)) (fun _ _ _ h => h) (Or.inr ⟨by rfl, rfl⟩) ?_ ?_
      rotate_left; (simp only [Act.put, List.setIfInBounds_toArray, List.set_cons_zero, List.set_cons_succ, i64_w, i32_w]; rfl)
      refine pure_ (i := 5) (N := some 15) (v := undef) (a' := ?_) (bA 9 63) rfl rfl (any_of HT_.out (by kernel_rfl)) (fun _ _ _ h => h) (Or.inr ⟨by rfl, rfl⟩) ?_ ?_
      rotate_left; (simp only [Act.put, List.setIfInBounds_toArray, List.set_cons_zero, List.set_cons_succ, i64_w, i32_w]; rfl)
      refine pure_ (i := 6) (N := some 16) (v := undef) (a' := ?_) (bA 9 127) rfl rfl (any_of HT_.out (by kernel_rfl)) (fun _ _ _ h => h) (Or.inr ⟨by rfl, rfl⟩) ?_ ?_
      rotate_left; (simp only [Act.put, List.setIfInBounds_toArray, List.set_cons_zero, List.set_cons_succ, i64_w, i32_w]; rfl)
      refine pure_ (i := 7) (N := some 17) (v := undef) (a' := ?_) (bA 9 255) rfl rfl (any_of HT_.out (by kernel_rfl)) (fun _ _ _ h => h) (Or.inr ⟨by rfl, rfl⟩) ?_ ?_
      rotate_left; (simp only [Act.put, List.setIfInBounds_toArray, List.set_cons_zero, List.set_cons_succ, i64_w, i32_w]; rfl)
      refine pure_ (i := 8) (N := some 18) (v := ?_) (a' := ?_) (bA 9 511) rfl rfl (any_of HT_.out (by kernel_rfl)) (fun _ _ _ h => h) (Or.inl ⟨by rfl, ?_⟩) ?_ ?_
      rotate_left; (intro w'; go_simp; with_reducible rfl); rotate_left; (simp only [Act.put, List.setIfInBounds_toArray, List.set_cons_zero, List.set_cons_succ, i64_w, i32_w]; rfl)
      refine done_ (done_of HT_.out (by kernel_rfl)) ?_
      try go_wp2
      go_meet
      case rel => exact ⟨_, (true), (by first | rfl | (simp; done) | (simp [*]; done) | exact emp1_ _ | exact (emp1_ _).symm | exact emp2_ _ | exact (emp2_ _).symm), H', ⟨by first | omega | exact Nat.le_refl _⟩, ⟨by (with_reducible repeat (first | refine blk_drewN ?_ _ | refine blk_drew ?_ | refine blk_alloc ?_ _)); exact BK317.out⟩, ⟨by repeat (first | (with_reducible first | exact HB.out | apply below_alloc | apply pw_below_drewN | apply below_drew1 | refine below_set ?_ GE317.out) | exact HB.out)⟩⟩
    subst c8
    have H1 : ((method_Result_Check.f k a0_0 t318 a0_2).bind fun t320 => ((armoireref12_CheckResult.f k a0_0 t318 a0_2).bind fun t321 => (armoirelaw12_MethodResults.j0 k (t320 != t321) a0_0 t318 a0_2))) = some r := by rw [if_pos rfl] at H; exact H
    clear H
    have H := H1
    clear H1
    replace H := Option.bind_eq_some_iff.mp H
    obtain ⟨t320, A90, H⟩ := H
    replace H : ((armoireref12_CheckResult.f k a0_0 t318 a0_2).bind fun t321 => (armoirelaw12_MethodResults.j0 k (t320 != t321) a0_0 t318 a0_2)) = some r := H
    have A9 := Aside0.mk A90
    clear A90
    replace H := Option.bind_eq_some_iff.mp H
    obtain ⟨t321, A100, H⟩ := H
    replace H : (armoirelaw12_MethodResults.j0 k (t320 != t321) a0_0 t318 a0_2) = some r := H
    have A10 := Aside0.mk A100
    clear A100
    have H' := Aside0.mk H
    clear H
    try go_wp2
    have n0_ : Aside0 ((w4.setCell ⟨gb317, 1, none⟩ (.string t318)).heap[gb317]? = some (.cells #[.int .i64 a0_0, .string t318, .int .i64 a0_2] 29 (0, 0))) := ⟨by (with_reducible repeat (first | refine blk_drewN ?_ _ | refine blk_drew ?_ | refine blk_alloc ?_ _)); refine blk_put (cs := #[.int .i64 a0_0, .string a0_1, .int .i64 a0_2]) ?_ 1 _ rfl; (with_reducible repeat (first | refine blk_drewN ?_ _ | refine blk_drew ?_ | refine blk_alloc ?_ _)); exact BK317.out⟩
    have n1_ : Aside0 (Below w.heap.size w (w4.setCell ⟨gb317, 1, none⟩ (.string t318))) := ⟨by repeat (first | (with_reducible first | exact HB.out | apply below_alloc | apply pw_below_drewN | apply below_drew1 | refine below_set ?_ GE317.out) | exact HB.out)⟩
    (try clear BK317)
    (try clear HB)
    generalize (w4.setCell ⟨gb317, 1, none⟩ (.string t318)) = w11 at n0_ n1_ ⊢
    have BK317 := n0_
    have HB := n1_
    clear n0_ n1_
    have n0_ := Aside0.mk (blk_drew BK317.out)
    have n1_ := Aside0.mk (below_drew1 HB.out)
    clear BK317
    clear HB
    have BK317 := n0_
    have HB := n1_
    clear n0_ n1_
    refine start_ (n := 9) (S := fun w' => w'.cell? ⟨gb317, 0, none⟩ = some (.int .i64 a0_0) ∧ w'.cell? ⟨gb317, 1, none⟩ = some (.string t318) ∧ w'.cell? ⟨gb317, 2, none⟩ = some (.int .i64 a0_2)) (ds := []) #[false,false,false,false,false,false,false,false,false] (by kernel_rfl) rfl rfl ⟨(blk_cell BK317.out 0).trans rfl, (blk_cell BK317.out 1).trans rfl, (blk_cell BK317.out 2).trans rfl⟩ (fun hHeld => ?_); refine with_tabW armoirelaw12_MethodResults.tab2 armoirelaw12_MethodResults.bits2 (fun HT_ HW_ => ?_)
    generalize w11.drew = w12 at BK317 HB hHeld ⊢
    refine one_ (i := 0) (N := some 10) #[true,false,false,false,false,false,false,false,false] rfl rfl (one_of HT_.out (by kernel_rfl)) (by decide) (fun K hK => ?_)
    refine goes_ Try.func9 (by kernel_rfl) rfl #[] (by rfl) rfl rfl (by (try simp only [List.map_toArray, List.map_cons, List.map_nil]); first | done | rfl | (simp only [List.length_drop, List.length_take]; rfl) | (simp only [Act.eval, Array.getD_eq_getD_getElem?, Option.getD_some, *]; done) | (simp only [Array.mk.injEq, List.cons.injEq, Value.int.injEq, true_and, and_true]; first | omega | (simp [IntKind.wrap, IntKind.bits, IntKind.signed]; omega))) ?_
    with_reducible refine (armoirelaw12_awake.calls k  true _ A7.out).mono ?_
    rintro e w13 ⟨rfl, hb⟩
    refine ⟨_, rfl, ?_⟩
    have n0_ := Aside0.mk (blk_below (g := gb317) (o := .cells #[.int .i64 a0_0, .string t318, .int .i64 a0_2] 29 (0, 0)) (by (with_reducible repeat (first | refine blk_drewN ?_ _ | refine blk_drew ?_ | refine blk_alloc ?_ _)); exact BK317.out) hb)
    have n1_ := Aside0.mk (below_step (by repeat (first | (with_reducible first | exact HB.out | apply below_alloc | apply pw_below_drewN | apply below_drew1 | refine below_set ?_ GE317.out) | exact HB.out)) hb)
    clear BK317
    clear HB
    have BK317 := n0_
    have HB := n1_
    clear n0_ n1_
    (try clear hb)
    (try clear hb2)
    (try clear hk)
    (try clear hi)
    refine hK.out _ _ ⟨(blk_cell BK317.out 0).trans rfl, (blk_cell BK317.out 1).trans rfl, (blk_cell BK317.out 2).trans rfl⟩ (fun hHeld => ?_)
    clear hK K
    refine norm_ (a' := ?_) ?_ ?_
    rotate_left
    · show Act.put _ (some 10) _ = _
      simp only [Act.put, List.setIfInBounds_toArray, List.set_cons_zero, List.set_cons_succ, i64_w, i32_w]
      rfl
    refine pure_ (i := 1) (N := some 11) (v := ?_) (a' := ?_) (bA 9 3) rfl rfl (any_of HT_.out (by kernel_rfl)) (fun _ _ _ h => h) (Or.inl ⟨by rfl, ?_⟩) ?_ ?_
    rotate_left; (intro w'; go_simp; with_reducible rfl); rotate_left; (simp only [Act.put, List.setIfInBounds_toArray, List.set_cons_zero, List.set_cons_succ, i64_w, i32_w]; rfl)
    refine pure_ (i := 2) (N := some 12) (v := ?_) (a' := ?_) (bA 9 7) rfl rfl (any_of HT_.out (by kernel_rfl)) (fun _ _ _ h => h) (Or.inl ⟨by rfl, ?_⟩) ?_ ?_
    rotate_left; (intro w'; go_simp; with_reducible rfl); rotate_left; (simp only [Act.put, List.setIfInBounds_toArray, List.set_cons_zero, List.set_cons_succ, i64_w, i32_w]; rfl)
    refine take_ (i := 3) (N := some 13) (v := ?_) (a' := ?_) #[true,true,true,true,false,false,false,false,false] rfl rfl (take_ofW HT_.out HW_.out (by kernel_rfl)) (fun _ _ _ h => h) (Or.inl ⟨by rfl, ?_⟩) hHeld ?_ ?_
    rotate_left
    · rintro w' ⟨s0, s1, s2⟩
      go_simp
      with_reducible rfl
    rotate_left; (simp only [Act.put, List.setIfInBounds_toArray, List.set_cons_zero, List.set_cons_succ, i64_w, i32_w]; rfl)
    refine take_ (i := 5) (N := some 15) (v := ?_) (a' := ?_) #[true,true,true,true,false,true,false,false,false] rfl rfl (take_ofW HT_.out HW_.out (by kernel_rfl)) (fun _ _ _ h => h) (Or.inl ⟨by rfl, ?_⟩) hHeld ?_ ?_
    rotate_left
    · rintro w' ⟨s0, s1, s2⟩
      go_simp
      with_reducible rfl
    rotate_left; (simp only [Act.put, List.setIfInBounds_toArray, List.set_cons_zero, List.set_cons_succ, i64_w, i32_w]; rfl)
    refine one_ (i := 4) (N := some 14) #[true,true,true,true,true,true,false,false,false] rfl rfl (one_of HT_.out (by kernel_rfl)) (by decide) (fun K hK => ?_)
    refine goes_ Try.func29 (by kernel_rfl) rfl #[.agg #[.int .i64 a0_0, .string t318, .int .i64 a0_2]] (by rfl) rfl rfl (by (try simp only [List.map_toArray, List.map_cons, List.map_nil]); first | done | rfl | (simp only [List.length_drop, List.length_take]; rfl) | (simp only [Act.eval, Array.getD_eq_getD_getElem?, Option.getD_some, *]; done) | (simp only [Array.mk.injEq, List.cons.injEq, Value.int.injEq, true_and, and_true]; first | omega | (simp [IntKind.wrap, IntKind.bits, IntKind.signed]; omega))) ?_
    with_reducible refine (method_Result_Check.calls k a0_0 t318 a0_2 t320 _ A9.out).mono ?_
    rintro e w14 ⟨rfl, hb⟩
    refine ⟨_, rfl, ?_⟩
    have n0_ := Aside0.mk (blk_below (g := gb317) (o := .cells #[.int .i64 a0_0, .string t318, .int .i64 a0_2] 29 (0, 0)) (by (with_reducible repeat (first | refine blk_drewN ?_ _ | refine blk_drew ?_ | refine blk_alloc ?_ _)); exact BK317.out) hb)
    have n1_ := Aside0.mk (below_step (by repeat (first | (with_reducible first | exact HB.out | apply below_alloc | apply pw_below_drewN | apply below_drew1 | refine below_set ?_ GE317.out) | exact HB.out)) hb)
    clear BK317
    clear HB
    have BK317 := n0_
    have HB := n1_
    clear n0_ n1_
    (try clear hb)
    (try clear hb2)
    (try clear hk)
    (try clear hi)
    refine hK.out _ _ ⟨(blk_cell BK317.out 0).trans rfl, (blk_cell BK317.out 1).trans rfl, (blk_cell BK317.out 2).trans rfl⟩ (fun hHeld => ?_)
    clear hK K
    refine norm_ (a' := ?_) ?_ ?_
    rotate_left
    · show Act.put _ (some 14) _ = _
      simp only [Act.put, List.setIfInBounds_toArray, List.set_cons_zero, List.set_cons_succ, i64_w, i32_w]
      rfl
    refine one_ (i := 6) (N := some 16) #[true,true,true,true,true,true,true,false,false] rfl rfl (one_of HT_.out (by kernel_rfl)) (by decide) (fun K hK => ?_)
    refine goes_ Try.func30 (by kernel_rfl) rfl #[.agg #[.int .i64 a0_0, .string t318, .int .i64 a0_2]] (by rfl) rfl rfl (by (try simp only [List.map_toArray, List.map_cons, List.map_nil]); first | done | rfl | (simp only [List.length_drop, List.length_take]; rfl) | (simp only [Act.eval, Array.getD_eq_getD_getElem?, Option.getD_some, *]; done) | (simp only [Array.mk.injEq, List.cons.injEq, Value.int.injEq, true_and, and_true]; first | omega | (simp [IntKind.wrap, IntKind.bits, IntKind.signed]; omega))) ?_
    with_reducible refine (armoireref12_CheckResult.calls k a0_0 t318 a0_2 t321 _ A10.out).mono ?_
    rintro e w15 ⟨rfl, hb⟩
    refine ⟨_, rfl, ?_⟩
    have n0_ := Aside0.mk (blk_below (g := gb317) (o := .cells #[.int .i64 a0_0, .string t318, .int .i64 a0_2] 29 (0, 0)) (by (with_reducible repeat (first | refine blk_drewN ?_ _ | refine blk_drew ?_ | refine blk_alloc ?_ _)); exact BK317.out) hb)
    have n1_ := Aside0.mk (below_step (by repeat (first | (with_reducible first | exact HB.out | apply below_alloc | apply pw_below_drewN | apply below_drew1 | refine below_set ?_ GE317.out) | exact HB.out)) hb)
    clear BK317
    clear HB
    have BK317 := n0_
    have HB := n1_
    clear n0_ n1_
    (try clear hb)
    (try clear hb2)
    (try clear hk)
    (try clear hi)
    refine hK.out _ _ ⟨(blk_cell BK317.out 0).trans rfl, (blk_cell BK317.out 1).trans rfl, (blk_cell BK317.out 2).trans rfl⟩ (fun hHeld => ?_)
    clear hK K
    refine norm_ (a' := ?_) ?_ ?_
    rotate_left
    · show Act.put _ (some 16) _ = _
      simp only [Act.put, List.setIfInBounds_toArray, List.set_cons_zero, List.set_cons_succ, i64_w, i32_w]
      rfl
    refine pure_ (i := 7) (N := some 17) (v := ?_) (a' := ?_) (bA 9 255) rfl rfl (any_of HT_.out (by kernel_rfl)) (fun _ _ _ h => h) (Or.inl ⟨by rfl, ?_⟩) ?_ ?_
    rotate_left; (intro w'; go_simp; with_reducible rfl); rotate_left; (simp only [Act.put, List.setIfInBounds_toArray, List.set_cons_zero, List.set_cons_succ, i64_w, i32_w]; rfl)
    refine pure_ (i := 8) (N := some 18) (v := ?_) (a' := ?_) (bA 9 511) rfl rfl (any_of HT_.out (by kernel_rfl)) (fun _ _ _ h => h) (Or.inl ⟨by rfl, ?_⟩) ?_ ?_
    rotate_left; (intro w'; go_simp; with_reducible rfl); rotate_left; (simp only [Act.put, List.setIfInBounds_toArray, List.set_cons_zero, List.set_cons_succ, i64_w, i32_w]; rfl)
    refine done_ (done_of HT_.out (by kernel_rfl)) ?_
    try go_wp2
    go_meet
    case rel => exact ⟨_, ((t320 != t321)), (by first | rfl | (simp; done) | (simp [*]; done) | exact emp1_ _ | exact (emp1_ _).symm | exact emp2_ _ | exact (emp2_ _).symm), H', ⟨by first | omega | exact Nat.le_refl _⟩, ⟨by (with_reducible repeat (first | refine blk_drewN ?_ _ | refine blk_drew ?_ | refine blk_alloc ?_ _)); exact BK317.out⟩, ⟨by repeat (first | (with_reducible first | exact HB.out | apply below_alloc | apply pw_below_drewN | apply below_drew1 | refine below_set ?_ GE317.out) | exact HB.out)⟩⟩
  clear HC3
  try clear c1
  try clear c2
  try clear p2
  try clear c3
  try clear c5
  try clear c8
  try clear c9
  try clear c18
  try clear hcz5_0
  try clear hcz5_1
  try clear hcz5_2
  try clear hcz6_0
  try clear hcz6_1
  try clear hcz6_2
  try clear hfz5_0
  try clear hfz5_1
  try clear hfz5_2
  try clear hfz6_0
  try clear hfz6_1
  try clear hfz6_2
  obtain ⟨kq, x18_2, rfl, HA, HJ2, BK317, HB⟩ := hcut
  cases kq with
  | zero => exact absurd HA.out (by simp [armoirelaw12_MethodResults.j0])
  | succ kj2 =>
    have H := HA.out
    clear HA
    simp only [armoirelaw12_MethodResults.j0] at H
    by_cases c19 : x18_2 = true
    · subst c19
      have H1 : (some false) = some r := by rw [if_pos rfl] at H; exact H
      clear H
      have H := H1
      clear H1
      obtain rfl := Option.some.inj H
      go_wp2
      go_ret
      exact ⟨by first | rfl | (simp [errW_none, errW_some] <;> rfl) | (simp [*, errW_none, errW_some] <;> rfl), by repeat (first | (with_reducible first | exact HB.out | apply below_alloc | apply pw_below_drewN | apply below_drew1 | refine below_set ?_ GE317.out) | exact HB.out)⟩
    replace c19 := Bool.eq_false_iff.mpr c19
    subst c19
    have H1 : ((method_Result_Check.f kj2 a0_0 t318 a0_2).bind fun t322 => (if t322 = 0 then ((method_Result_Put.f a0_0 t318 a0_2 (⟨#[]⟩ : ByteArray)).bind fun t324 => ((codec_Out_Text.f t324).bind fun bt325 => ((codec_Read.f bt325.1).bind fun bt327 => ((method_ReadResult.f kj2 bt327.1 bt327.2).bind fun bt330 => ((codec_Out_Text.f bt325.2).bind fun bt336 => ((armoireref12_TextResult.f kj2 a0_0 t318 a0_2).bind fun t338 => (if bt336.1.toList = t338.toList then (if (bt330.1 == a0_0 && (bt330.2.1.toList == t318.toList && (bt330.2.2.1 == a0_2))) = true then ((codec_In_End.f bt330.2.2.2.1 bt330.2.2.2.2).bind fun bt339 => (some (bt339.1 == 0))) else (some false)) else (some false)))))))) else (some true))) = some r := by rw [if_neg (show ¬ (false = true) by decide)] at H; exact H
    clear H
    have H := H1
    clear H1
    replace H := Option.bind_eq_some_iff.mp H
    obtain ⟨t322, A200, H⟩ := H
    replace H : (if t322 = 0 then ((method_Result_Put.f a0_0 t318 a0_2 (⟨#[]⟩ : ByteArray)).bind fun t324 => ((codec_Out_Text.f t324).bind fun bt325 => ((codec_Read.f bt325.1).bind fun bt327 => ((method_ReadResult.f kj2 bt327.1 bt327.2).bind fun bt330 => ((codec_Out_Text.f bt325.2).bind fun bt336 => ((armoireref12_TextResult.f kj2 a0_0 t318 a0_2).bind fun t338 => (if bt336.1.toList = t338.toList then (if (bt330.1 == a0_0 && (bt330.2.1.toList == t318.toList && (bt330.2.2.1 == a0_2))) = true then ((codec_In_End.f bt330.2.2.2.1 bt330.2.2.2.2).bind fun bt339 => (some (bt339.1 == 0))) else (some false)) else (some false)))))))) else (some true)) = some r := H
    have A20 := Aside0.mk A200
    clear A200
    by_cases c21 : t322 = 0
    rotate_left
    · rw [if_neg c21] at H
      have c21b0 : (t322 == 0) = false := beq_eq_false_iff_ne.mpr c21
      have c21b1 : (t322 != 0) = true := bne_iff_ne.mpr c21
      obtain rfl := Option.some.inj H
      have hcz86_0 : wc.cell? ⟨gb317, 0, none⟩ = some (.int .i64 a0_0) := (blk_cell BK317.out 0).trans rfl
      have hcz86_1 : wc.cell? ⟨gb317, 1, none⟩ = some (.string t318) := (blk_cell BK317.out 1).trans rfl
      have hcz86_2 : wc.cell? ⟨gb317, 2, none⟩ = some (.int .i64 a0_2) := (blk_cell BK317.out 2).trans rfl
      have hfz86_0 := blk_frozen BK317.out 0
      have hfz86_1 := blk_frozen BK317.out 1
      have hfz86_2 := blk_frozen BK317.out 2
      go_wp2_with (first | ((with_reducible refine gate_callee (f := 29) rfl ?_); refine goesL_ (some 20) rfl rfl Try.func29 (by kernel_rfl) rfl #[.agg #[.int .i64 a0_0, .string t318, .int .i64 a0_2]] rfl (by (try simp only [List.map_toArray, List.map_cons, List.map_nil]); first | done | rfl | (simp only [List.length_drop, List.length_take]; rfl)) ?_; (with_reducible refine (method_Result_Check.calls kj2 a0_0 t318 a0_2 t322 _ A20.out).mono ?_); rintro e w87 ⟨rfl, hb⟩; refine ⟨_, rfl, ?_⟩; have n0_ := Aside0.mk (blk_below (g := gb317) (o := .cells #[.int .i64 a0_0, .string t318, .int .i64 a0_2] 29 (0, 0)) (by (with_reducible repeat (first | refine blk_drewN ?_ _ | refine blk_drew ?_ | refine blk_alloc ?_ _)); exact BK317.out) hb); have n1_ := Aside0.mk (below_step (by repeat (first | (with_reducible first | exact HB.out | apply below_alloc | apply pw_below_drewN | apply below_drew1 | refine below_set ?_ GE317.out) | exact HB.out)) hb); clear BK317; clear HB; have BK317 := n0_; have HB := n1_; clear n0_ n1_; (try clear hb); (try clear hb2); (try clear hk); (try clear hi)))
      go_ret
      exact ⟨by first | rfl | (simp [errW_none, errW_some] <;> rfl) | (simp [*, errW_none, errW_some] <;> rfl), by repeat (first | (with_reducible first | exact HB.out | apply below_alloc | apply pw_below_drewN | apply below_drew1 | refine below_set ?_ GE317.out) | exact HB.out)⟩
    rw [if_pos c21] at H
    have c21b0 : (t322 == 0) = true := beq_iff_eq.mpr c21
    have c21b1 : (t322 != 0) = false := bne_eq_false_iff_eq.mpr c21
    clear c21
    replace H := Option.bind_eq_some_iff.mp H
    obtain ⟨t324, A220, H⟩ := H
    replace H : ((codec_Out_Text.f t324).bind fun bt325 => ((codec_Read.f bt325.1).bind fun bt327 => ((method_ReadResult.f kj2 bt327.1 bt327.2).bind fun bt330 => ((codec_Out_Text.f bt325.2).bind fun bt336 => ((armoireref12_TextResult.f kj2 a0_0 t318 a0_2).bind fun t338 => (if bt336.1.toList = t338.toList then (if (bt330.1 == a0_0 && (bt330.2.1.toList == t318.toList && (bt330.2.2.1 == a0_2))) = true then ((codec_In_End.f bt330.2.2.2.1 bt330.2.2.2.2).bind fun bt339 => (some (bt339.1 == 0))) else (some false)) else (some false))))))) = some r := H
    have A22 := Aside0.mk A220
    clear A220
    replace H := Option.bind_eq_some_iff.mp H
    obtain ⟨⟨t325, t326⟩, A230, H⟩ := H
    replace H : ((codec_Read.f t325).bind fun bt327 => ((method_ReadResult.f kj2 bt327.1 bt327.2).bind fun bt330 => ((codec_Out_Text.f t326).bind fun bt336 => ((armoireref12_TextResult.f kj2 a0_0 t318 a0_2).bind fun t338 => (if bt336.1.toList = t338.toList then (if (bt330.1 == a0_0 && (bt330.2.1.toList == t318.toList && (bt330.2.2.1 == a0_2))) = true then ((codec_In_End.f bt330.2.2.2.1 bt330.2.2.2.2).bind fun bt339 => (some (bt339.1 == 0))) else (some false)) else (some false)))))) = some r := H
    have A23 := Aside0.mk A230
    clear A230
    replace H := Option.bind_eq_some_iff.mp H
    obtain ⟨⟨t327, t328⟩, A240, H⟩ := H
    replace H : ((method_ReadResult.f kj2 t327 t328).bind fun bt330 => ((codec_Out_Text.f t326).bind fun bt336 => ((armoireref12_TextResult.f kj2 a0_0 t318 a0_2).bind fun t338 => (if bt336.1.toList = t338.toList then (if (bt330.1 == a0_0 && (bt330.2.1.toList == t318.toList && (bt330.2.2.1 == a0_2))) = true then ((codec_In_End.f bt330.2.2.2.1 bt330.2.2.2.2).bind fun bt339 => (some (bt339.1 == 0))) else (some false)) else (some false))))) = some r := H
    have A24 := Aside0.mk A240
    clear A240
    replace H := Option.bind_eq_some_iff.mp H
    obtain ⟨⟨t330, t331, t332, t333, t334⟩, A250, H⟩ := H
    replace H : ((codec_Out_Text.f t326).bind fun bt336 => ((armoireref12_TextResult.f kj2 a0_0 t318 a0_2).bind fun t338 => (if bt336.1.toList = t338.toList then (if (t330 == a0_0 && (t331.toList == t318.toList && (t332 == a0_2))) = true then ((codec_In_End.f t333 t334).bind fun bt339 => (some (bt339.1 == 0))) else (some false)) else (some false)))) = some r := H
    have A25 := Aside0.mk A250
    clear A250
    replace H := Option.bind_eq_some_iff.mp H
    obtain ⟨⟨t336, t337⟩, A260, H⟩ := H
    replace H : ((armoireref12_TextResult.f kj2 a0_0 t318 a0_2).bind fun t338 => (if t336.toList = t338.toList then (if (t330 == a0_0 && (t331.toList == t318.toList && (t332 == a0_2))) = true then ((codec_In_End.f t333 t334).bind fun bt339 => (some (bt339.1 == 0))) else (some false)) else (some false))) = some r := H
    have A26 := Aside0.mk A260
    clear A260
    replace H := Option.bind_eq_some_iff.mp H
    obtain ⟨t338, A270, H⟩ := H
    replace H : (if t336.toList = t338.toList then (if (t330 == a0_0 && (t331.toList == t318.toList && (t332 == a0_2))) = true then ((codec_In_End.f t333 t334).bind fun bt339 => (some (bt339.1 == 0))) else (some false)) else (some false)) = some r := H
    have A27 := Aside0.mk A270
    clear A270
    by_cases c28 : t336.toList = t338.toList
    rotate_left
    · rw [if_neg c28] at H
      have c28b0 : (t336.toList == t338.toList) = false := beq_eq_false_iff_ne.mpr c28
      have c28b1 : (t336.toList != t338.toList) = true := bne_iff_ne.mpr c28
      obtain rfl := Option.some.inj H
      have hcz68_0 : wc.cell? ⟨gb317, 0, none⟩ = some (.int .i64 a0_0) := (blk_cell BK317.out 0).trans rfl
      have hcz68_1 : wc.cell? ⟨gb317, 1, none⟩ = some (.string t318) := (blk_cell BK317.out 1).trans rfl
      have hcz68_2 : wc.cell? ⟨gb317, 2, none⟩ = some (.int .i64 a0_2) := (blk_cell BK317.out 2).trans rfl
      have hfz68_0 := blk_frozen BK317.out 0
      have hfz68_1 := blk_frozen BK317.out 1
      have hfz68_2 := blk_frozen BK317.out 2
      try go_wp2_with (first | ((with_reducible refine gate_callee (f := 29) rfl ?_); refine goesL_ (some 20) rfl rfl Try.func29 (by kernel_rfl) rfl #[.agg #[.int .i64 a0_0, .string t318, .int .i64 a0_2]] rfl (by (try simp only [List.map_toArray, List.map_cons, List.map_nil]); first | done | rfl | (simp only [List.length_drop, List.length_take]; rfl)) ?_; (with_reducible refine (method_Result_Check.calls kj2 a0_0 t318 a0_2 t322 _ A20.out).mono ?_); rintro e w69 ⟨rfl, hb⟩; refine ⟨_, rfl, ?_⟩; have n0_ := Aside0.mk (blk_below (g := gb317) (o := .cells #[.int .i64 a0_0, .string t318, .int .i64 a0_2] 29 (0, 0)) (by (with_reducible repeat (first | refine blk_drewN ?_ _ | refine blk_drew ?_ | refine blk_alloc ?_ _)); exact BK317.out) hb); have n1_ := Aside0.mk (below_step (by repeat (first | (with_reducible first | exact HB.out | apply below_alloc | apply pw_below_drewN | apply below_drew1 | refine below_set ?_ GE317.out) | exact HB.out)) hb); clear BK317; clear HB; have BK317 := n0_; have HB := n1_; clear n0_ n1_; (try clear hb); (try clear hb2); (try clear hk); (try clear hi)) | ((with_reducible refine gate_dst (N := 3) rfl ?_); refine box_event ?hg (N := 3) ?hd (cs := #[.slice none 0 0]) (t := 50) ?hr ?_; (case hd => rfl); (case hg => rfl); (case hr => first | (go_simp; done) | (go_simp; rfl)); intro gb323 hg w70 hbox hb; have n0_ := Aside0.mk (blk_below (g := gb317) (o := .cells #[.int .i64 a0_0, .string t318, .int .i64 a0_2] 29 (0, 0)) (by (with_reducible repeat (first | refine blk_drewN ?_ _ | refine blk_drew ?_ | refine blk_alloc ?_ _)); exact BK317.out) hb); have n1_ := Aside0.mk (below_step (by repeat (first | (with_reducible first | exact HB.out | apply below_alloc | apply pw_below_drewN | apply below_drew1 | refine below_set ?_ GE317.out) | exact HB.out)) hb); have n2_ := Aside0.mk (hbox); have n3_ := Aside0.mk ((by rw [hg]; exact (below_size (by repeat (first | (with_reducible first | exact HB.out | apply below_alloc | apply pw_below_drewN | apply below_drew1 | refine below_set ?_ GE317.out) | exact HB.out))) : w.heap.size ≤ gb323)); have n4_ := Aside0.mk ((by rw [hg]; exact (below_size (by repeat (first | (with_reducible first | exact HB.out | apply below_alloc | apply pw_below_drewN | apply below_drew1 | refine below_set ?_ GE317.out) | exact HB.out))) : w.heap.size ≤ gb323)); have n5_ := Aside0.mk ((by rw [hg]; exact Nat.ne_of_lt (blk_lt (g := gb317) (o := .cells #[.int .i64 a0_0, .string t318, .int .i64 a0_2] 29 (0, 0)) (by (with_reducible repeat (first | refine blk_drewN ?_ _ | refine blk_drew ?_ | refine blk_alloc ?_ _)); exact BK317.out)) : gb317 ≠ gb323)); have n6_ := Aside0.mk ((by rw [hg]; exact Nat.ne_of_gt (blk_lt (g := gb317) (o := .cells #[.int .i64 a0_0, .string t318, .int .i64 a0_2] 29 (0, 0)) (by (with_reducible repeat (first | refine blk_drewN ?_ _ | refine blk_drew ?_ | refine blk_alloc ?_ _)); exact BK317.out)) : gb323 ≠ gb317)); have n7_ := Aside0.mk ((IsS50.box hbox (by rw [hg]; exact (below_size (by repeat (first | (with_reducible first | exact HB.out | apply below_alloc | apply pw_below_drewN | apply below_drew1 | refine below_set ?_ GE317.out) | exact HB.out))) : w.heap.size ≤ gb323) : IsS50 w w70 gb323 (⟨#[]⟩ : ByteArray))); clear BK317; clear HB; have BK317 := n0_; have HB := n1_; have BK323 := n2_; have GW323 := n3_; have GE323 := n4_; have NB317_323 := n5_; have NB323_317 := n6_; have HI323 := n7_; clear n0_ n1_ n2_ n3_ n4_ n5_ n6_ n7_; clear hb hbox hg; have hnb71 := NB317_323.out; have hnc71 := NB323_317.out; have hcz72_0 : w70.cell? ⟨gb317, 0, none⟩ = some (.int .i64 a0_0) := (blk_cell BK317.out 0).trans rfl; have hcz72_1 : w70.cell? ⟨gb317, 1, none⟩ = some (.string t318) := (blk_cell BK317.out 1).trans rfl; have hcz72_2 : w70.cell? ⟨gb317, 2, none⟩ = some (.int .i64 a0_2) := (blk_cell BK317.out 2).trans rfl; have hfz72_0 := blk_frozen BK317.out 0; have hfz72_1 := blk_frozen BK317.out 1; have hfz72_2 := blk_frozen BK317.out 2) | ((with_reducible refine gate_callee (f := 31) rfl ?_); refine goesL_ (some 23) rfl rfl Try.func31 (by kernel_rfl) rfl #[.agg #[.int .i64 a0_0, .string t318, .int .i64 a0_2], .pointer (some ⟨gb323, 0, none⟩)] rfl (by (try simp only [List.map_toArray, List.map_cons, List.map_nil]); first | done | rfl | (simp only [List.length_drop, List.length_take]; rfl)) ?_; (with_reducible refine (method_Result_Put.calls a0_0 t318 a0_2 gb323 (⟨#[]⟩ : ByteArray) t324 w _ ?side1 ?side2 A22.out).mono ?_); (case side1 => repeat (first | (with_reducible first | exact HI323.out | apply IsS50.alloc | apply IsS50.drewN | apply IsS50.drew | apply IsS50.set_0 | refine IsS50.farT (p := ⟨gb317, _, none⟩) (t2 := 29) ?_ ?_ (by decide) (by decide) _ | exact OutT.mk BK317.out | refine OutT.set ?_ _ _ _) | exact HI323.out)); (case side2 => repeat (first | (with_reducible first | exact HB.out | apply below_alloc | apply pw_below_drewN | apply below_drew1 | refine below_set ?_ (IsS50.ge HI323.out) | refine below_set ?_ GE317.out) | exact HB.out)); rintro e w73 ⟨rfl, hi, hb, hk⟩; refine ⟨_, rfl, ?_⟩; have n0_ := Aside0.mk (KeepT.oblk (g := gb317) (o := .cells #[.int .i64 a0_0, .string t318, .int .i64 a0_2] 29 (0, 0)) (by (with_reducible repeat (first | refine blk_drewN ?_ _ | refine blk_drew ?_ | refine blk_alloc ?_ _)); exact BK317.out) hk (by intro _ _ _ h_; cases h_; decide)); have n1_ := Aside0.mk (hb); have n2_ := Aside0.mk (hi); clear BK317; clear HB; clear HI323; have BK317 := n0_; have HB := n1_; have HI323 := n2_; clear n0_ n1_ n2_; (try clear hb); (try clear hb2); (try clear hk); (try clear hi)) | ((with_reducible refine gate_callee (f := 25) rfl ?_); refine goesL_ (some 24) rfl rfl Try.func25 (by kernel_rfl) rfl #[.pointer (some ⟨gb323, 0, none⟩)] rfl (by (try simp only [List.map_toArray, List.map_cons, List.map_nil]); first | done | rfl | (simp only [List.length_drop, List.length_take]; rfl)) ?_; (with_reducible refine (codec_Out_Text.calls gb323 t324 t325 t326 w _ ?side1 ?side2 A23.out).mono ?_); (case side1 => repeat (first | (with_reducible first | exact HI323.out | apply IsS50.alloc | apply IsS50.drewN | apply IsS50.drew | apply IsS50.set_0 | refine IsS50.farT (p := ⟨gb317, _, none⟩) (t2 := 29) ?_ ?_ (by decide) (by decide) _ | exact OutT.mk BK317.out | refine OutT.set ?_ _ _ _) | exact HI323.out)); (case side2 => repeat (first | (with_reducible first | exact HB.out | apply below_alloc | apply pw_below_drewN | apply below_drew1 | refine below_set ?_ (IsS50.ge HI323.out) | refine below_set ?_ GE317.out) | exact HB.out)); rintro e w74 ⟨rfl, hi, hb, hk⟩; refine ⟨_, rfl, ?_⟩; have n0_ := Aside0.mk (KeepT.oblk (g := gb317) (o := .cells #[.int .i64 a0_0, .string t318, .int .i64 a0_2] 29 (0, 0)) (by (with_reducible repeat (first | refine blk_drewN ?_ _ | refine blk_drew ?_ | refine blk_alloc ?_ _)); exact BK317.out) hk (by intro _ _ _ h_; cases h_; decide)); have n1_ := Aside0.mk (hb); have n2_ := Aside0.mk (hi); clear BK317; clear HB; clear HI323; have BK317 := n0_; have HB := n1_; have HI323 := n2_; clear n0_ n1_ n2_; (try clear hb); (try clear hb2); (try clear hk); (try clear hi)) | ((with_reducible refine gate_callee (f := 24) rfl ?_); refine goesL_ (some 25) rfl rfl Try.func24 (by kernel_rfl) rfl #[.string t325] rfl (by (try simp only [List.map_toArray, List.map_cons, List.map_nil]); first | done | rfl | (simp only [List.length_drop, List.length_take]; rfl)) ?_; (with_reducible refine (codec_Read.calls t325 t327 t328 w _ ?side1 A24.out).mono ?_); (case side1 => repeat (first | (with_reducible first | exact HB.out | apply below_alloc | apply pw_below_drewN | apply below_drew1 | refine below_set ?_ (IsS50.ge HI323.out) | refine below_set ?_ GE317.out) | exact HB.out)); rintro e w75 ⟨g329, rfl, hi, hb, hb2⟩; refine ⟨_, rfl, ?_⟩; have n0_ := Aside0.mk (blk_below (g := gb317) (o := .cells #[.int .i64 a0_0, .string t318, .int .i64 a0_2] 29 (0, 0)) (by (with_reducible repeat (first | refine blk_drewN ?_ _ | refine blk_drew ?_ | refine blk_alloc ?_ _)); exact BK317.out) hb2); have n1_ := Aside0.mk (IsS50.below (by repeat (first | (with_reducible first | exact HI323.out | apply IsS50.alloc | apply IsS50.drewN | apply IsS50.drew | apply IsS50.set_0 | refine IsS50.farT (p := ⟨gb317, _, none⟩) (t2 := 29) ?_ ?_ (by decide) (by decide) _ | exact OutT.mk BK317.out | refine OutT.set ?_ _ _ _) | exact HI323.out)) hb2); have n2_ := Aside0.mk (hb); have n3_ := Aside0.mk (hi); have n4_ := Aside0.mk (IsS80.ne_blk hi (blk_below (g := gb317) (o := .cells #[.int .i64 a0_0, .string t318, .int .i64 a0_2] 29 (0, 0)) (by (with_reducible repeat (first | refine blk_drewN ?_ _ | refine blk_drew ?_ | refine blk_alloc ?_ _)); exact BK317.out) hb2) (by decide)); have n5_ := Aside0.mk (Ne.symm (IsS80.ne_blk hi (blk_below (g := gb317) (o := .cells #[.int .i64 a0_0, .string t318, .int .i64 a0_2] 29 (0, 0)) (by (with_reducible repeat (first | refine blk_drewN ?_ _ | refine blk_drew ?_ | refine blk_alloc ?_ _)); exact BK317.out) hb2) (by decide))); clear BK317; clear HI323; clear HB; have BK317 := n0_; have HI323 := n1_; have HB := n2_; have HI329 := n3_; have NB329_317 := n4_; have NB317_329 := n5_; clear n0_ n1_ n2_ n3_ n4_ n5_; (try clear hb); (try clear hb2); (try clear hk); (try clear hi)) | ((with_reducible refine gate_callee (f := 32) rfl ?_); refine goesL_ (some 27) rfl rfl Try.func32 (by kernel_rfl) rfl #[.pointer (some ⟨g329, 0, none⟩)] rfl (by (try simp only [List.map_toArray, List.map_cons, List.map_nil]); first | done | rfl | (simp only [List.length_drop, List.length_take]; rfl)) ?_; (with_reducible refine (method_ReadResult.calls kj2 g329 t327 t328 t330 t331 t332 t333 t334 w _ ?side1 ?side2 A25.out).mono ?_); (case side1 => repeat (first | (with_reducible first | exact HI329.out | apply IsS80.alloc | apply IsS80.drewN | apply IsS80.drew | apply IsS80.set_0 | apply IsS80.set_1 | refine IsS80.far ?_ NB329_317.out _) | exact HI329.out)); (case side2 => repeat (first | (with_reducible first | exact HB.out | apply below_alloc | apply pw_below_drewN | apply below_drew1 | refine below_set ?_ (IsS50.ge HI323.out) | refine below_set ?_ (IsS80.ge HI329.out) | refine below_set ?_ GE317.out) | exact HB.out)); rintro e w76 ⟨rfl, hi, hb, hk⟩; refine ⟨_, rfl, ?_⟩; have n0_ := Aside0.mk (KeepBut.blk hk (g' := gb317) (o := .cells #[.int .i64 a0_0, .string t318, .int .i64 a0_2] 29 (0, 0)) (by (with_reducible repeat (first | refine blk_drewN ?_ _ | refine blk_drew ?_ | refine blk_alloc ?_ _)); exact BK317.out) NB317_329.out (by simp)); have n1_ := Aside0.mk (IsS50.keepB (show IsS50 w _ gb323 t326 from by repeat (first | (with_reducible first | exact HI323.out | apply IsS50.alloc | apply IsS50.drewN | apply IsS50.drew | apply IsS50.set_0 | refine IsS50.farT (p := ⟨gb317, _, none⟩) (t2 := 29) ?_ ?_ (by decide) (by decide) _ | exact OutT.mk BK317.out | refine OutT.set ?_ _ _ _) | exact HI323.out)) hk ((show IsS80 w _ g329 t327 t328 from by repeat (first | (with_reducible first | exact HI329.out | apply IsS80.alloc | apply IsS80.drewN | apply IsS80.drew | apply IsS80.set_0 | apply IsS80.set_1 | refine IsS80.far ?_ NB329_317.out _) | exact HI329.out))).1 (by decide) (by decide)); have n2_ := Aside0.mk (hb); have n3_ := Aside0.mk (hi); clear BK317; clear HI323; clear HB; clear HI329; have BK317 := n0_; have HI323 := n1_; have HB := n2_; have HI329 := n3_; clear n0_ n1_ n2_ n3_; (try clear hb); (try clear hb2); (try clear hk); (try clear hi)) | ((with_reducible refine gate_dst (N := 5) rfl ?_); refine box_event ?hg (N := 5) ?hd (cs := #[.int .i64 0, .string (⟨#[]⟩ : ByteArray), .int .i64 0]) (t := 29) ?hr ?_; (case hd => rfl); (case hg => rfl); (case hr => first | (go_simp; done) | (go_simp; rfl)); intro gb335 hg w77 hbox hb; have n0_ := Aside0.mk (blk_below (g := gb317) (o := .cells #[.int .i64 a0_0, .string t318, .int .i64 a0_2] 29 (0, 0)) (by (with_reducible repeat (first | refine blk_drewN ?_ _ | refine blk_drew ?_ | refine blk_alloc ?_ _)); exact BK317.out) hb); have n1_ := Aside0.mk (IsS50.below (by repeat (first | (with_reducible first | exact HI323.out | apply IsS50.alloc | apply IsS50.drewN | apply IsS50.drew | apply IsS50.set_0 | refine IsS50.farT (p := ⟨gb317, _, none⟩) (t2 := 29) ?_ ?_ (by decide) (by decide) _ | exact OutT.mk BK317.out | refine OutT.set ?_ _ _ _) | exact HI323.out)) hb); have n2_ := Aside0.mk (IsS80.below (by repeat (first | (with_reducible first | exact HI329.out | apply IsS80.alloc | apply IsS80.drewN | apply IsS80.drew | apply IsS80.set_0 | apply IsS80.set_1 | refine IsS80.far ?_ NB329_317.out _) | exact HI329.out)) hb); have n3_ := Aside0.mk (below_step (by repeat (first | (with_reducible first | exact HB.out | apply below_alloc | apply pw_below_drewN | apply below_drew1 | refine below_set ?_ (IsS50.ge HI323.out) | refine below_set ?_ (IsS80.ge HI329.out) | refine below_set ?_ GE317.out) | exact HB.out)) hb); have n4_ := Aside0.mk (hbox); have n5_ := Aside0.mk ((by rw [hg]; exact (below_size (by repeat (first | (with_reducible first | exact HB.out | apply below_alloc | apply pw_below_drewN | apply below_drew1 | refine below_set ?_ (IsS50.ge HI323.out) | refine below_set ?_ (IsS80.ge HI329.out) | refine below_set ?_ GE317.out) | exact HB.out))) : w.heap.size ≤ gb335)); have n6_ := Aside0.mk ((by rw [hg]; exact (below_size (by repeat (first | (with_reducible first | exact HB.out | apply below_alloc | apply pw_below_drewN | apply below_drew1 | refine below_set ?_ (IsS50.ge HI323.out) | refine below_set ?_ (IsS80.ge HI329.out) | refine below_set ?_ GE317.out) | exact HB.out))) : w.heap.size ≤ gb335)); have n7_ := Aside0.mk ((by rw [hg]; exact Nat.ne_of_lt (blk_lt (g := gb317) (o := .cells #[.int .i64 a0_0, .string t318, .int .i64 a0_2] 29 (0, 0)) (by (with_reducible repeat (first | refine blk_drewN ?_ _ | refine blk_drew ?_ | refine blk_alloc ?_ _)); exact BK317.out)) : gb317 ≠ gb335)); have n8_ := Aside0.mk ((by rw [hg]; exact Nat.ne_of_gt (blk_lt (g := gb317) (o := .cells #[.int .i64 a0_0, .string t318, .int .i64 a0_2] 29 (0, 0)) (by (with_reducible repeat (first | refine blk_drewN ?_ _ | refine blk_drew ?_ | refine blk_alloc ?_ _)); exact BK317.out)) : gb335 ≠ gb317)); have n9_ := Aside0.mk ((by rw [hg]; exact Nat.ne_of_lt (IsS50.lt (show IsS50 w _ gb323 t326 from by repeat (first | (with_reducible first | exact HI323.out | apply IsS50.alloc | apply IsS50.drewN | apply IsS50.drew | apply IsS50.set_0 | refine IsS50.farT (p := ⟨gb317, _, none⟩) (t2 := 29) ?_ ?_ (by decide) (by decide) _ | exact OutT.mk BK317.out | refine OutT.set ?_ _ _ _) | exact HI323.out))) : gb323 ≠ gb335)); have n10_ := Aside0.mk ((by rw [hg]; exact Nat.ne_of_gt (IsS50.lt (show IsS50 w _ gb323 t326 from by repeat (first | (with_reducible first | exact HI323.out | apply IsS50.alloc | apply IsS50.drewN | apply IsS50.drew | apply IsS50.set_0 | refine IsS50.farT (p := ⟨gb317, _, none⟩) (t2 := 29) ?_ ?_ (by decide) (by decide) _ | exact OutT.mk BK317.out | refine OutT.set ?_ _ _ _) | exact HI323.out))) : gb335 ≠ gb323)); have n11_ := Aside0.mk ((by rw [hg]; exact Nat.ne_of_lt (IsS80.lt (show IsS80 w _ g329 t333 t334 from by repeat (first | (with_reducible first | exact HI329.out | apply IsS80.alloc | apply IsS80.drewN | apply IsS80.drew | apply IsS80.set_0 | apply IsS80.set_1 | refine IsS80.far ?_ NB329_317.out _) | exact HI329.out))) : g329 ≠ gb335)); have n12_ := Aside0.mk ((by rw [hg]; exact Nat.ne_of_gt (IsS80.lt (show IsS80 w _ g329 t333 t334 from by repeat (first | (with_reducible first | exact HI329.out | apply IsS80.alloc | apply IsS80.drewN | apply IsS80.drew | apply IsS80.set_0 | apply IsS80.set_1 | refine IsS80.far ?_ NB329_317.out _) | exact HI329.out))) : gb335 ≠ g329)); clear BK317; clear HI323; clear HI329; clear HB; have BK317 := n0_; have HI323 := n1_; have HI329 := n2_; have HB := n3_; have BK335 := n4_; have GW335 := n5_; have GE335 := n6_; have NB317_335 := n7_; have NB335_317 := n8_; have NB323_335 := n9_; have NB335_323 := n10_; have NB329_335 := n11_; have NB335_329 := n12_; clear n0_ n1_ n2_ n3_ n4_ n5_ n6_ n7_ n8_ n9_ n10_ n11_ n12_; clear hb hbox hg; have hnb78 := NB335_317.out; have hnc78 := NB317_335.out; have hnb79 := NB335_323.out; have hnc79 := NB323_335.out; have hnb80 := NB335_329.out; have hnc80 := NB329_335.out; have hcz81_0 : w77.cell? ⟨gb335, 0, none⟩ = some (.int .i64 0) := (blk_cell BK335.out 0).trans rfl; have hcz81_1 : w77.cell? ⟨gb335, 1, none⟩ = some (.string (⟨#[]⟩ : ByteArray)) := (blk_cell BK335.out 1).trans rfl; have hcz81_2 : w77.cell? ⟨gb335, 2, none⟩ = some (.int .i64 0) := (blk_cell BK335.out 2).trans rfl; have hfz81_0 := blk_frozen BK335.out 0; have hfz81_1 := blk_frozen BK335.out 1; have hfz81_2 := blk_frozen BK335.out 2))
      have n0_ : Aside0 ((((w77.setCell ⟨gb335, 0, none⟩ (.int .i64 t330)).setCell ⟨gb335, 1, none⟩ (.string t331)).setCell ⟨gb335, 2, none⟩ (.int .i64 t332)).heap[gb317]? = some (.cells #[.int .i64 a0_0, .string t318, .int .i64 a0_2] 29 (0, 0))) := ⟨by (with_reducible repeat (first | refine blk_drewN ?_ _ | refine blk_drew ?_ | refine blk_alloc ?_ _)); refine blk_far ?_ NB317_335.out _; (with_reducible repeat (first | refine blk_drewN ?_ _ | refine blk_drew ?_ | refine blk_alloc ?_ _)); refine blk_far ?_ NB317_335.out _; (with_reducible repeat (first | refine blk_drewN ?_ _ | refine blk_drew ?_ | refine blk_alloc ?_ _)); refine blk_far ?_ NB317_335.out _; (with_reducible repeat (first | refine blk_drewN ?_ _ | refine blk_drew ?_ | refine blk_alloc ?_ _)); exact BK317.out⟩
      have n1_ : Aside0 ((((w77.setCell ⟨gb335, 0, none⟩ (.int .i64 t330)).setCell ⟨gb335, 1, none⟩ (.string t331)).setCell ⟨gb335, 2, none⟩ (.int .i64 t332)).heap[gb335]? = some (.cells #[.int .i64 t330, .string t331, .int .i64 t332] 29 (0, 0))) := ⟨by (with_reducible repeat (first | refine blk_drewN ?_ _ | refine blk_drew ?_ | refine blk_alloc ?_ _)); refine blk_put (cs := #[.int .i64 t330, .string t331, .int .i64 0]) ?_ 2 _ rfl; (with_reducible repeat (first | refine blk_drewN ?_ _ | refine blk_drew ?_ | refine blk_alloc ?_ _)); refine blk_put (cs := #[.int .i64 t330, .string (⟨#[]⟩ : ByteArray), .int .i64 0]) ?_ 1 _ rfl; (with_reducible repeat (first | refine blk_drewN ?_ _ | refine blk_drew ?_ | refine blk_alloc ?_ _)); refine blk_put (cs := #[.int .i64 0, .string (⟨#[]⟩ : ByteArray), .int .i64 0]) ?_ 0 _ rfl; (with_reducible repeat (first | refine blk_drewN ?_ _ | refine blk_drew ?_ | refine blk_alloc ?_ _)); exact BK335.out⟩
      have n2_ : Aside0 (IsS50 w (((w77.setCell ⟨gb335, 0, none⟩ (.int .i64 t330)).setCell ⟨gb335, 1, none⟩ (.string t331)).setCell ⟨gb335, 2, none⟩ (.int .i64 t332)) gb323 t326) := ⟨by repeat (first | (with_reducible first | exact HI323.out | apply IsS50.alloc | apply IsS50.drewN | apply IsS50.drew | apply IsS50.set_0 | refine IsS50.farT (p := ⟨gb317, _, none⟩) (t2 := 29) ?_ ?_ (by decide) (by decide) _ | exact OutT.mk BK317.out | refine OutT.set ?_ _ _ _ | refine IsS50.farT (p := ⟨gb335, _, none⟩) (t2 := 29) ?_ ?_ (by decide) (by decide) _ | exact OutT.mk BK335.out | refine OutT.set ?_ _ _ _) | exact HI323.out)⟩
      have n3_ : Aside0 (IsS80 w (((w77.setCell ⟨gb335, 0, none⟩ (.int .i64 t330)).setCell ⟨gb335, 1, none⟩ (.string t331)).setCell ⟨gb335, 2, none⟩ (.int .i64 t332)) g329 t333 t334) := ⟨by repeat (first | (with_reducible first | exact HI329.out | apply IsS80.alloc | apply IsS80.drewN | apply IsS80.drew | apply IsS80.set_0 | apply IsS80.set_1 | refine IsS80.far ?_ NB329_317.out _ | refine IsS80.far ?_ NB329_335.out _) | exact HI329.out)⟩
      have n4_ : Aside0 (Below w.heap.size w (((w77.setCell ⟨gb335, 0, none⟩ (.int .i64 t330)).setCell ⟨gb335, 1, none⟩ (.string t331)).setCell ⟨gb335, 2, none⟩ (.int .i64 t332))) := ⟨by repeat (first | (with_reducible first | exact HB.out | apply below_alloc | apply pw_below_drewN | apply below_drew1 | refine below_set ?_ (IsS50.ge HI323.out) | refine below_set ?_ (IsS80.ge HI329.out) | refine below_set ?_ GE317.out | refine below_set ?_ GE335.out) | exact HB.out)⟩
      (try clear BK317)
      (try clear BK335)
      (try clear HI323)
      (try clear HI329)
      (try clear HB)
      generalize (((w77.setCell ⟨gb335, 0, none⟩ (.int .i64 t330)).setCell ⟨gb335, 1, none⟩ (.string t331)).setCell ⟨gb335, 2, none⟩ (.int .i64 t332)) = w82 at n0_ n1_ n2_ n3_ n4_ ⊢
      have BK317 := n0_
      have BK335 := n1_
      have HI323 := n2_
      have HI329 := n3_
      have HB := n4_
      clear n0_ n1_ n2_ n3_ n4_
      have n0_ := Aside0.mk (blk_drew BK317.out)
      have n1_ := Aside0.mk (blk_drew BK335.out)
      have n2_ := Aside0.mk (IsS50.drew HI323.out)
      have n3_ := Aside0.mk (IsS80.drew HI329.out)
      have n4_ := Aside0.mk (below_drew1 HB.out)
      clear BK317
      clear BK335
      clear HI323
      clear HI329
      clear HB
      have BK317 := n0_
      have BK335 := n1_
      have HI323 := n2_
      have HI329 := n3_
      have HB := n4_
      clear n0_ n1_ n2_ n3_ n4_
      refine start_ (n := 15) (S := fun w' => w'.cell? ⟨gb317, 0, none⟩ = some (.int .i64 a0_0) ∧ w'.cell? ⟨gb317, 1, none⟩ = some (.string t318) ∧ w'.cell? ⟨gb317, 2, none⟩ = some (.int .i64 a0_2)) (ds := []) #[false,false,false,false,false,false,false,false,false,false,false,false,false,false,false] (by kernel_rfl) rfl rfl ⟨(blk_cell BK317.out 0).trans rfl, (blk_cell BK317.out 1).trans rfl, (blk_cell BK317.out 2).trans rfl⟩ (fun hHeld => ?_); refine with_tabW armoirelaw12_MethodResults.tab10 armoirelaw12_MethodResults.bits10 (fun HT_ HW_ => ?_)
      generalize w82.drew = w83 at BK317 BK335 HI323 HI329 HB hHeld ⊢
      refine take_ (i := 1) (N := some 29) (v := ?_) (a' := ?_) #[false,true,false,false,false,false,false,false,false,false,false,false,false,false,false] rfl rfl (take_ofW HT_.out HW_.out (by kernel_rfl)) (fun _ _ _ h => h) (Or.inl ⟨by rfl, ?_⟩) hHeld ?_ ?_
      rotate_left
      · rintro w' ⟨s0, s1, s2⟩
        go_simp
        with_reducible rfl
      rotate_left; (simp only [Act.put, List.setIfInBounds_toArray, List.set_cons_zero, List.set_cons_succ, i64_w, i32_w]; rfl)
      refine one_ (i := 0) (N := some 28) #[true,true,false,false,false,false,false,false,false,false,false,false,false,false,false] rfl rfl (one_of HT_.out (by kernel_rfl)) (by decide) (fun K hK => ?_)
      refine goes_ Try.func25 (by kernel_rfl) rfl #[.pointer (some ⟨gb323, 0, none⟩)] (by rfl) rfl rfl (by (try simp only [List.map_toArray, List.map_cons, List.map_nil]); first | done | rfl | (simp only [List.length_drop, List.length_take]; rfl) | (simp only [Act.eval, Array.getD_eq_getD_getElem?, Option.getD_some, *]; done) | (simp only [Array.mk.injEq, List.cons.injEq, Value.int.injEq, true_and, and_true]; first | omega | (simp [IntKind.wrap, IntKind.bits, IntKind.signed]; omega))) ?_
      with_reducible refine (codec_Out_Text.calls gb323 t326 t336 t337 w _ ?side1 ?side2 A26.out).mono ?_
      (case side1 => repeat (first | (with_reducible first | exact HI323.out | apply IsS50.alloc | apply IsS50.drewN | apply IsS50.drew | apply IsS50.set_0 | refine IsS50.farT (p := ⟨gb317, _, none⟩) (t2 := 29) ?_ ?_ (by decide) (by decide) _ | exact OutT.mk BK317.out | refine OutT.set ?_ _ _ _ | refine IsS50.farT (p := ⟨gb335, _, none⟩) (t2 := 29) ?_ ?_ (by decide) (by decide) _ | exact OutT.mk BK335.out | refine OutT.set ?_ _ _ _) | exact HI323.out))
      (case side2 => repeat (first | (with_reducible first | exact HB.out | apply below_alloc | apply pw_below_drewN | apply below_drew1 | refine below_set ?_ (IsS50.ge HI323.out) | refine below_set ?_ (IsS80.ge HI329.out) | refine below_set ?_ GE317.out | refine below_set ?_ GE335.out) | exact HB.out))
      rintro e w84 ⟨rfl, hi, hb, hk⟩
      refine ⟨_, rfl, ?_⟩
      have n0_ := Aside0.mk (KeepT.oblk (g := gb317) (o := .cells #[.int .i64 a0_0, .string t318, .int .i64 a0_2] 29 (0, 0)) (by (with_reducible repeat (first | refine blk_drewN ?_ _ | refine blk_drew ?_ | refine blk_alloc ?_ _)); exact BK317.out) hk (by intro _ _ _ h_; cases h_; decide))
      have n1_ := Aside0.mk ((show IsS80 w w84 g329 t333 t334 from ⟨KeepT.blk ((show IsS80 w _ g329 t333 t334 from by repeat (first | (with_reducible first | exact HI329.out | apply IsS80.alloc | apply IsS80.drewN | apply IsS80.drew | apply IsS80.set_0 | apply IsS80.set_1 | refine IsS80.far ?_ NB329_317.out _ | refine IsS80.far ?_ NB329_335.out _) | exact HI329.out))).1 hk (by decide), ((show IsS80 w _ g329 t333 t334 from by repeat (first | (with_reducible first | exact HI329.out | apply IsS80.alloc | apply IsS80.drewN | apply IsS80.drew | apply IsS80.set_0 | apply IsS80.set_1 | refine IsS80.far ?_ NB329_317.out _ | refine IsS80.far ?_ NB329_335.out _) | exact HI329.out))).2⟩))
      have n2_ := Aside0.mk (KeepT.oblk (g := gb335) (o := .cells #[.int .i64 t330, .string t331, .int .i64 t332] 29 (0, 0)) (by (with_reducible repeat (first | refine blk_drewN ?_ _ | refine blk_drew ?_ | refine blk_alloc ?_ _)); exact BK335.out) hk (by intro _ _ _ h_; cases h_; decide))
      have n3_ := Aside0.mk (hb)
      have n4_ := Aside0.mk (hi)
      clear BK317
      clear HI329
      clear BK335
      clear HB
      clear HI323
      have BK317 := n0_
      have HI329 := n1_
      have BK335 := n2_
      have HB := n3_
      have HI323 := n4_
      clear n0_ n1_ n2_ n3_ n4_
      (try clear hb)
      (try clear hb2)
      (try clear hk)
      (try clear hi)
      refine hK.out _ _ ⟨(blk_cell BK317.out 0).trans rfl, (blk_cell BK317.out 1).trans rfl, (blk_cell BK317.out 2).trans rfl⟩ (fun hHeld => ?_)
      clear hK K
      refine norm_ (a' := ?_) ?_ ?_
      rotate_left
      · show Act.put _ (some 28) _ = _
        simp only [Act.put, List.setIfInBounds_toArray, List.set_cons_zero, List.set_cons_succ, i64_w, i32_w]
        rfl
      refine one_ (i := 2) (N := some 30) #[true,true,true,false,false,false,false,false,false,false,false,false,false,false,false] rfl rfl (one_of HT_.out (by kernel_rfl)) (by decide) (fun K hK => ?_)
      refine goes_ Try.func33 (by kernel_rfl) rfl #[.agg #[.int .i64 a0_0, .string t318, .int .i64 a0_2]] (by rfl) rfl rfl (by (try simp only [List.map_toArray, List.map_cons, List.map_nil]); first | done | rfl | (simp only [List.length_drop, List.length_take]; rfl) | (simp only [Act.eval, Array.getD_eq_getD_getElem?, Option.getD_some, *]; done) | (simp only [Array.mk.injEq, List.cons.injEq, Value.int.injEq, true_and, and_true]; first | omega | (simp [IntKind.wrap, IntKind.bits, IntKind.signed]; omega))) ?_
      with_reducible refine (armoireref12_TextResult.calls kj2 a0_0 t318 a0_2 t338 _ A27.out).mono ?_
      rintro e w85 ⟨rfl, hb⟩
      refine ⟨_, rfl, ?_⟩
      have n0_ := Aside0.mk (blk_below (g := gb317) (o := .cells #[.int .i64 a0_0, .string t318, .int .i64 a0_2] 29 (0, 0)) (by (with_reducible repeat (first | refine blk_drewN ?_ _ | refine blk_drew ?_ | refine blk_alloc ?_ _)); exact BK317.out) hb)
      have n1_ := Aside0.mk (IsS50.below (by repeat (first | (with_reducible first | exact HI323.out | apply IsS50.alloc | apply IsS50.drewN | apply IsS50.drew | apply IsS50.set_0 | refine IsS50.farT (p := ⟨gb317, _, none⟩) (t2 := 29) ?_ ?_ (by decide) (by decide) _ | exact OutT.mk BK317.out | refine OutT.set ?_ _ _ _ | refine IsS50.farT (p := ⟨gb335, _, none⟩) (t2 := 29) ?_ ?_ (by decide) (by decide) _ | exact OutT.mk BK335.out | refine OutT.set ?_ _ _ _) | exact HI323.out)) hb)
      have n2_ := Aside0.mk (IsS80.below (by repeat (first | (with_reducible first | exact HI329.out | apply IsS80.alloc | apply IsS80.drewN | apply IsS80.drew | apply IsS80.set_0 | apply IsS80.set_1 | refine IsS80.far ?_ NB329_317.out _ | refine IsS80.far ?_ NB329_335.out _) | exact HI329.out)) hb)
      have n3_ := Aside0.mk (blk_below (g := gb335) (o := .cells #[.int .i64 t330, .string t331, .int .i64 t332] 29 (0, 0)) (by (with_reducible repeat (first | refine blk_drewN ?_ _ | refine blk_drew ?_ | refine blk_alloc ?_ _)); exact BK335.out) hb)
      have n4_ := Aside0.mk (below_step (by repeat (first | (with_reducible first | exact HB.out | apply below_alloc | apply pw_below_drewN | apply below_drew1 | refine below_set ?_ (IsS50.ge HI323.out) | refine below_set ?_ (IsS80.ge HI329.out) | refine below_set ?_ GE317.out | refine below_set ?_ GE335.out) | exact HB.out)) hb)
      clear BK317
      clear HI323
      clear HI329
      clear BK335
      clear HB
      have BK317 := n0_
      have HI323 := n1_
      have HI329 := n2_
      have BK335 := n3_
      have HB := n4_
      clear n0_ n1_ n2_ n3_ n4_
      (try clear hb)
      (try clear hb2)
      (try clear hk)
      (try clear hi)
      refine hK.out _ _ ⟨(blk_cell BK317.out 0).trans rfl, (blk_cell BK317.out 1).trans rfl, (blk_cell BK317.out 2).trans rfl⟩ (fun hHeld => ?_)
      clear hK K
      refine norm_ (a' := ?_) ?_ ?_
      rotate_left
      · show Act.put _ (some 30) _ = _
        simp only [Act.put, List.setIfInBounds_toArray, List.set_cons_zero, List.set_cons_succ, i64_w, i32_w]
        rfl
      refine pure_ (i := 3) (N := some 31) (v := ?_) (a' := ?_) (bA 15 15) rfl rfl (any_of HT_.out (by kernel_rfl)) (fun _ _ _ h => h) (Or.inl ⟨by rfl, ?_⟩) ?_ ?_
      rotate_left; (intro w'; go_simp; with_reducible rfl); rotate_left; (simp only [Act.put, List.setIfInBounds_toArray, List.set_cons_zero, List.set_cons_succ, i64_w, i32_w]; rfl)
      refine pure_ (i := 4) (N := some 32) (v := ?_) (a' := ?_) (bA 15 31) rfl rfl (any_of HT_.out (by kernel_rfl)) (fun _ _ _ h => h) (Or.inl ⟨by rfl, ?_⟩) ?_ ?_
      rotate_left; (intro w'; go_simp; with_reducible rfl); rotate_left; (simp only [Act.put, List.setIfInBounds_toArray, List.set_cons_zero, List.set_cons_succ, i64_w, i32_w]; rfl)
      refine pure_ (i := 5) (N := some 33) (v := undef) (a' := ?_) (bA 15 63) rfl rfl (any_of HT_.out (by kernel_rfl)) (fun _ _ _ h => h) (Or.inr ⟨by rfl, rfl⟩) ?_ ?_
      rotate_left; (simp only [Act.put, List.setIfInBounds_toArray, List.set_cons_zero, List.set_cons_succ, i64_w, i32_w]; rfl)
      refine pure_ (i := 6) (N := some 34) (v := undef) (a' := ?_) (bA 15 127) rfl rfl (any_of HT_.out (by kernel_rfl)) (fun _ _ _ h => h) (Or.inr ⟨by rfl, rfl⟩) ?_ ?_
      rotate_left; (simp only [Act.put, List.setIfInBounds_toArray, List.set_cons_zero, List.set_cons_succ, i64_w, i32_w]; rfl)
      refine pure_ (i := 7) (N := some 35) (v := undef) (a' := ?_) (bA 15 255) rfl rfl (any_of HT_.out (by kernel_rfl)) (fun _ _ _ h => h) (Or.inr ⟨by rfl, rfl⟩) ?_ ?_
      rotate_left; (simp only [Act.put, List.setIfInBounds_toArray, List.set_cons_zero, List.set_cons_succ, i64_w, i32_w]; rfl)
      refine pure_ (i := 8) (N := some 36) (v := ?_) (a' := ?_) (bA 15 511) rfl rfl (any_of HT_.out (by kernel_rfl)) (fun _ _ _ h => h) (Or.inl ⟨by rfl, ?_⟩) ?_ ?_
      rotate_left; (intro w'; go_simp; with_reducible rfl); rotate_left; (simp only [Act.put, List.setIfInBounds_toArray, List.set_cons_zero, List.set_cons_succ, i64_w, i32_w]; rfl)
      refine pure_ (i := 9) (N := some 37) (v := ?_) (a' := ?_) (bA 15 1023) rfl rfl (any_of HT_.out (by kernel_rfl)) (fun _ _ _ h => h) (Or.inl ⟨by rfl, ?_⟩) ?_ ?_
      rotate_left; (intro w'; go_simp; with_reducible rfl); rotate_left; (simp only [Act.put, List.setIfInBounds_toArray, List.set_cons_zero, List.set_cons_succ, i64_w, i32_w]; rfl)
      refine pure_ (i := 10) (N := some 38) (v := undef) (a' := ?_) (bA 15 2047) rfl rfl (any_of HT_.out (by kernel_rfl)) (fun _ _ _ h => h) (Or.inr ⟨by rfl, rfl⟩) ?_ ?_
      rotate_left; (simp only [Act.put, List.setIfInBounds_toArray, List.set_cons_zero, List.set_cons_succ, i64_w, i32_w]; rfl)
      refine pure_ (i := 11) (N := some 39) (v := undef) (a' := ?_) (bA 15 4095) rfl rfl (any_of HT_.out (by kernel_rfl)) (fun _ _ _ h => h) (Or.inr ⟨by rfl, rfl⟩) ?_ ?_
      rotate_left; (simp only [Act.put, List.setIfInBounds_toArray, List.set_cons_zero, List.set_cons_succ, i64_w, i32_w]; rfl)
      refine pure_ (i := 12) (N := some 40) (v := undef) (a' := ?_) (bA 15 8191) rfl rfl (any_of HT_.out (by kernel_rfl)) (fun _ _ _ h => h) (Or.inr ⟨by rfl, rfl⟩) ?_ ?_
      rotate_left; (simp only [Act.put, List.setIfInBounds_toArray, List.set_cons_zero, List.set_cons_succ, i64_w, i32_w]; rfl)
      refine pure_ (i := 13) (N := some 41) (v := ?_) (a' := ?_) (bA 15 16383) rfl rfl (any_of HT_.out (by kernel_rfl)) (fun _ _ _ h => h) (Or.inl ⟨by rfl, ?_⟩) ?_ ?_
      rotate_left; (intro w'; go_simp; with_reducible rfl); rotate_left; (simp only [Act.put, List.setIfInBounds_toArray, List.set_cons_zero, List.set_cons_succ, i64_w, i32_w]; rfl)
      refine pure_ (i := 14) (N := some 2) (v := ?_) (a' := ?_) (bA 15 32767) rfl rfl (any_of HT_.out (by kernel_rfl)) (fun _ _ _ h => h) (Or.inl ⟨by rfl, ?_⟩) ?_ ?_
      rotate_left; (intro w'; go_simp; with_reducible rfl); rotate_left; (simp only [Act.put, List.setIfInBounds_toArray, List.set_cons_zero, List.set_cons_succ, i64_w, i32_w]; rfl)
      refine done_ (done_of HT_.out (by kernel_rfl)) ?_
      try go_wp2
      go_ret
      exact ⟨by first | rfl | (simp [errW_none, errW_some] <;> rfl) | (simp [*, errW_none, errW_some] <;> rfl), by repeat (first | (with_reducible first | exact HB.out | apply below_alloc | apply pw_below_drewN | apply below_drew1 | refine below_set ?_ (IsS50.ge HI323.out) | refine below_set ?_ (IsS80.ge HI329.out) | refine below_set ?_ GE317.out | refine below_set ?_ GE335.out) | exact HB.out)⟩
    rw [if_pos c28] at H
    have c28b0 : (t336.toList == t338.toList) = true := beq_iff_eq.mpr c28
    have c28b1 : (t336.toList != t338.toList) = false := bne_eq_false_iff_eq.mpr c28
    clear c28
    by_cases c29 : (t330 == a0_0 && (t331.toList == t318.toList && (t332 == a0_2))) = true
    rotate_left
    · rw [if_neg c29] at H
      have c29b0 : (t330 == a0_0 && (t331.toList == t318.toList && (t332 == a0_2))) = false := by simpa using c29
      (try (have c29b1 : decide (t330 = a0_0 && (t331.toList == t318.toList && (t332 == a0_2))) = false := by simpa using c29))
      (try (have c29b2 : (t330 == a0_0 && (t331.toList == t318.toList && (t332 == a0_2))) = false := by simpa using c29))
      (try (have c29b3 : ¬ (t330 = a0_0 && (t331.toList == t318.toList && (t332 == a0_2))) := by simpa using c29))
      clear c29
      obtain rfl := Option.some.inj H
      have hcz50_0 : wc.cell? ⟨gb317, 0, none⟩ = some (.int .i64 a0_0) := (blk_cell BK317.out 0).trans rfl
      have hcz50_1 : wc.cell? ⟨gb317, 1, none⟩ = some (.string t318) := (blk_cell BK317.out 1).trans rfl
      have hcz50_2 : wc.cell? ⟨gb317, 2, none⟩ = some (.int .i64 a0_2) := (blk_cell BK317.out 2).trans rfl
      have hfz50_0 := blk_frozen BK317.out 0
      have hfz50_1 := blk_frozen BK317.out 1
      have hfz50_2 := blk_frozen BK317.out 2
      try go_wp2_with (first | ((with_reducible refine gate_callee (f := 29) rfl ?_); refine goesL_ (some 20) rfl rfl Try.func29 (by kernel_rfl) rfl #[.agg #[.int .i64 a0_0, .string t318, .int .i64 a0_2]] rfl (by (try simp only [List.map_toArray, List.map_cons, List.map_nil]); first | done | rfl | (simp only [List.length_drop, List.length_take]; rfl)) ?_; (with_reducible refine (method_Result_Check.calls kj2 a0_0 t318 a0_2 t322 _ A20.out).mono ?_); rintro e w51 ⟨rfl, hb⟩; refine ⟨_, rfl, ?_⟩; have n0_ := Aside0.mk (blk_below (g := gb317) (o := .cells #[.int .i64 a0_0, .string t318, .int .i64 a0_2] 29 (0, 0)) (by (with_reducible repeat (first | refine blk_drewN ?_ _ | refine blk_drew ?_ | refine blk_alloc ?_ _)); exact BK317.out) hb); have n1_ := Aside0.mk (below_step (by repeat (first | (with_reducible first | exact HB.out | apply below_alloc | apply pw_below_drewN | apply below_drew1 | refine below_set ?_ GE317.out) | exact HB.out)) hb); clear BK317; clear HB; have BK317 := n0_; have HB := n1_; clear n0_ n1_; (try clear hb); (try clear hb2); (try clear hk); (try clear hi)) | ((with_reducible refine gate_dst (N := 3) rfl ?_); refine box_event ?hg (N := 3) ?hd (cs := #[.slice none 0 0]) (t := 50) ?hr ?_; (case hd => rfl); (case hg => rfl); (case hr => first | (go_simp; done) | (go_simp; rfl)); intro gb323 hg w52 hbox hb; have n0_ := Aside0.mk (blk_below (g := gb317) (o := .cells #[.int .i64 a0_0, .string t318, .int .i64 a0_2] 29 (0, 0)) (by (with_reducible repeat (first | refine blk_drewN ?_ _ | refine blk_drew ?_ | refine blk_alloc ?_ _)); exact BK317.out) hb); have n1_ := Aside0.mk (below_step (by repeat (first | (with_reducible first | exact HB.out | apply below_alloc | apply pw_below_drewN | apply below_drew1 | refine below_set ?_ GE317.out) | exact HB.out)) hb); have n2_ := Aside0.mk (hbox); have n3_ := Aside0.mk ((by rw [hg]; exact (below_size (by repeat (first | (with_reducible first | exact HB.out | apply below_alloc | apply pw_below_drewN | apply below_drew1 | refine below_set ?_ GE317.out) | exact HB.out))) : w.heap.size ≤ gb323)); have n4_ := Aside0.mk ((by rw [hg]; exact (below_size (by repeat (first | (with_reducible first | exact HB.out | apply below_alloc | apply pw_below_drewN | apply below_drew1 | refine below_set ?_ GE317.out) | exact HB.out))) : w.heap.size ≤ gb323)); have n5_ := Aside0.mk ((by rw [hg]; exact Nat.ne_of_lt (blk_lt (g := gb317) (o := .cells #[.int .i64 a0_0, .string t318, .int .i64 a0_2] 29 (0, 0)) (by (with_reducible repeat (first | refine blk_drewN ?_ _ | refine blk_drew ?_ | refine blk_alloc ?_ _)); exact BK317.out)) : gb317 ≠ gb323)); have n6_ := Aside0.mk ((by rw [hg]; exact Nat.ne_of_gt (blk_lt (g := gb317) (o := .cells #[.int .i64 a0_0, .string t318, .int .i64 a0_2] 29 (0, 0)) (by (with_reducible repeat (first | refine blk_drewN ?_ _ | refine blk_drew ?_ | refine blk_alloc ?_ _)); exact BK317.out)) : gb323 ≠ gb317)); have n7_ := Aside0.mk ((IsS50.box hbox (by rw [hg]; exact (below_size (by repeat (first | (with_reducible first | exact HB.out | apply below_alloc | apply pw_below_drewN | apply below_drew1 | refine below_set ?_ GE317.out) | exact HB.out))) : w.heap.size ≤ gb323) : IsS50 w w52 gb323 (⟨#[]⟩ : ByteArray))); clear BK317; clear HB; have BK317 := n0_; have HB := n1_; have BK323 := n2_; have GW323 := n3_; have GE323 := n4_; have NB317_323 := n5_; have NB323_317 := n6_; have HI323 := n7_; clear n0_ n1_ n2_ n3_ n4_ n5_ n6_ n7_; clear hb hbox hg; have hnb53 := NB317_323.out; have hnc53 := NB323_317.out; have hcz54_0 : w52.cell? ⟨gb317, 0, none⟩ = some (.int .i64 a0_0) := (blk_cell BK317.out 0).trans rfl; have hcz54_1 : w52.cell? ⟨gb317, 1, none⟩ = some (.string t318) := (blk_cell BK317.out 1).trans rfl; have hcz54_2 : w52.cell? ⟨gb317, 2, none⟩ = some (.int .i64 a0_2) := (blk_cell BK317.out 2).trans rfl; have hfz54_0 := blk_frozen BK317.out 0; have hfz54_1 := blk_frozen BK317.out 1; have hfz54_2 := blk_frozen BK317.out 2) | ((with_reducible refine gate_callee (f := 31) rfl ?_); refine goesL_ (some 23) rfl rfl Try.func31 (by kernel_rfl) rfl #[.agg #[.int .i64 a0_0, .string t318, .int .i64 a0_2], .pointer (some ⟨gb323, 0, none⟩)] rfl (by (try simp only [List.map_toArray, List.map_cons, List.map_nil]); first | done | rfl | (simp only [List.length_drop, List.length_take]; rfl)) ?_; (with_reducible refine (method_Result_Put.calls a0_0 t318 a0_2 gb323 (⟨#[]⟩ : ByteArray) t324 w _ ?side1 ?side2 A22.out).mono ?_); (case side1 => repeat (first | (with_reducible first | exact HI323.out | apply IsS50.alloc | apply IsS50.drewN | apply IsS50.drew | apply IsS50.set_0 | refine IsS50.farT (p := ⟨gb317, _, none⟩) (t2 := 29) ?_ ?_ (by decide) (by decide) _ | exact OutT.mk BK317.out | refine OutT.set ?_ _ _ _) | exact HI323.out)); (case side2 => repeat (first | (with_reducible first | exact HB.out | apply below_alloc | apply pw_below_drewN | apply below_drew1 | refine below_set ?_ (IsS50.ge HI323.out) | refine below_set ?_ GE317.out) | exact HB.out)); rintro e w55 ⟨rfl, hi, hb, hk⟩; refine ⟨_, rfl, ?_⟩; have n0_ := Aside0.mk (KeepT.oblk (g := gb317) (o := .cells #[.int .i64 a0_0, .string t318, .int .i64 a0_2] 29 (0, 0)) (by (with_reducible repeat (first | refine blk_drewN ?_ _ | refine blk_drew ?_ | refine blk_alloc ?_ _)); exact BK317.out) hk (by intro _ _ _ h_; cases h_; decide)); have n1_ := Aside0.mk (hb); have n2_ := Aside0.mk (hi); clear BK317; clear HB; clear HI323; have BK317 := n0_; have HB := n1_; have HI323 := n2_; clear n0_ n1_ n2_; (try clear hb); (try clear hb2); (try clear hk); (try clear hi)) | ((with_reducible refine gate_callee (f := 25) rfl ?_); refine goesL_ (some 24) rfl rfl Try.func25 (by kernel_rfl) rfl #[.pointer (some ⟨gb323, 0, none⟩)] rfl (by (try simp only [List.map_toArray, List.map_cons, List.map_nil]); first | done | rfl | (simp only [List.length_drop, List.length_take]; rfl)) ?_; (with_reducible refine (codec_Out_Text.calls gb323 t324 t325 t326 w _ ?side1 ?side2 A23.out).mono ?_); (case side1 => repeat (first | (with_reducible first | exact HI323.out | apply IsS50.alloc | apply IsS50.drewN | apply IsS50.drew | apply IsS50.set_0 | refine IsS50.farT (p := ⟨gb317, _, none⟩) (t2 := 29) ?_ ?_ (by decide) (by decide) _ | exact OutT.mk BK317.out | refine OutT.set ?_ _ _ _) | exact HI323.out)); (case side2 => repeat (first | (with_reducible first | exact HB.out | apply below_alloc | apply pw_below_drewN | apply below_drew1 | refine below_set ?_ (IsS50.ge HI323.out) | refine below_set ?_ GE317.out) | exact HB.out)); rintro e w56 ⟨rfl, hi, hb, hk⟩; refine ⟨_, rfl, ?_⟩; have n0_ := Aside0.mk (KeepT.oblk (g := gb317) (o := .cells #[.int .i64 a0_0, .string t318, .int .i64 a0_2] 29 (0, 0)) (by (with_reducible repeat (first | refine blk_drewN ?_ _ | refine blk_drew ?_ | refine blk_alloc ?_ _)); exact BK317.out) hk (by intro _ _ _ h_; cases h_; decide)); have n1_ := Aside0.mk (hb); have n2_ := Aside0.mk (hi); clear BK317; clear HB; clear HI323; have BK317 := n0_; have HB := n1_; have HI323 := n2_; clear n0_ n1_ n2_; (try clear hb); (try clear hb2); (try clear hk); (try clear hi)) | ((with_reducible refine gate_callee (f := 24) rfl ?_); refine goesL_ (some 25) rfl rfl Try.func24 (by kernel_rfl) rfl #[.string t325] rfl (by (try simp only [List.map_toArray, List.map_cons, List.map_nil]); first | done | rfl | (simp only [List.length_drop, List.length_take]; rfl)) ?_; (with_reducible refine (codec_Read.calls t325 t327 t328 w _ ?side1 A24.out).mono ?_); (case side1 => repeat (first | (with_reducible first | exact HB.out | apply below_alloc | apply pw_below_drewN | apply below_drew1 | refine below_set ?_ (IsS50.ge HI323.out) | refine below_set ?_ GE317.out) | exact HB.out)); rintro e w57 ⟨g329, rfl, hi, hb, hb2⟩; refine ⟨_, rfl, ?_⟩; have n0_ := Aside0.mk (blk_below (g := gb317) (o := .cells #[.int .i64 a0_0, .string t318, .int .i64 a0_2] 29 (0, 0)) (by (with_reducible repeat (first | refine blk_drewN ?_ _ | refine blk_drew ?_ | refine blk_alloc ?_ _)); exact BK317.out) hb2); have n1_ := Aside0.mk (IsS50.below (by repeat (first | (with_reducible first | exact HI323.out | apply IsS50.alloc | apply IsS50.drewN | apply IsS50.drew | apply IsS50.set_0 | refine IsS50.farT (p := ⟨gb317, _, none⟩) (t2 := 29) ?_ ?_ (by decide) (by decide) _ | exact OutT.mk BK317.out | refine OutT.set ?_ _ _ _) | exact HI323.out)) hb2); have n2_ := Aside0.mk (hb); have n3_ := Aside0.mk (hi); have n4_ := Aside0.mk (IsS80.ne_blk hi (blk_below (g := gb317) (o := .cells #[.int .i64 a0_0, .string t318, .int .i64 a0_2] 29 (0, 0)) (by (with_reducible repeat (first | refine blk_drewN ?_ _ | refine blk_drew ?_ | refine blk_alloc ?_ _)); exact BK317.out) hb2) (by decide)); have n5_ := Aside0.mk (Ne.symm (IsS80.ne_blk hi (blk_below (g := gb317) (o := .cells #[.int .i64 a0_0, .string t318, .int .i64 a0_2] 29 (0, 0)) (by (with_reducible repeat (first | refine blk_drewN ?_ _ | refine blk_drew ?_ | refine blk_alloc ?_ _)); exact BK317.out) hb2) (by decide))); clear BK317; clear HI323; clear HB; have BK317 := n0_; have HI323 := n1_; have HB := n2_; have HI329 := n3_; have NB329_317 := n4_; have NB317_329 := n5_; clear n0_ n1_ n2_ n3_ n4_ n5_; (try clear hb); (try clear hb2); (try clear hk); (try clear hi)) | ((with_reducible refine gate_callee (f := 32) rfl ?_); refine goesL_ (some 27) rfl rfl Try.func32 (by kernel_rfl) rfl #[.pointer (some ⟨g329, 0, none⟩)] rfl (by (try simp only [List.map_toArray, List.map_cons, List.map_nil]); first | done | rfl | (simp only [List.length_drop, List.length_take]; rfl)) ?_; (with_reducible refine (method_ReadResult.calls kj2 g329 t327 t328 t330 t331 t332 t333 t334 w _ ?side1 ?side2 A25.out).mono ?_); (case side1 => repeat (first | (with_reducible first | exact HI329.out | apply IsS80.alloc | apply IsS80.drewN | apply IsS80.drew | apply IsS80.set_0 | apply IsS80.set_1 | refine IsS80.far ?_ NB329_317.out _) | exact HI329.out)); (case side2 => repeat (first | (with_reducible first | exact HB.out | apply below_alloc | apply pw_below_drewN | apply below_drew1 | refine below_set ?_ (IsS50.ge HI323.out) | refine below_set ?_ (IsS80.ge HI329.out) | refine below_set ?_ GE317.out) | exact HB.out)); rintro e w58 ⟨rfl, hi, hb, hk⟩; refine ⟨_, rfl, ?_⟩; have n0_ := Aside0.mk (KeepBut.blk hk (g' := gb317) (o := .cells #[.int .i64 a0_0, .string t318, .int .i64 a0_2] 29 (0, 0)) (by (with_reducible repeat (first | refine blk_drewN ?_ _ | refine blk_drew ?_ | refine blk_alloc ?_ _)); exact BK317.out) NB317_329.out (by simp)); have n1_ := Aside0.mk (IsS50.keepB (show IsS50 w _ gb323 t326 from by repeat (first | (with_reducible first | exact HI323.out | apply IsS50.alloc | apply IsS50.drewN | apply IsS50.drew | apply IsS50.set_0 | refine IsS50.farT (p := ⟨gb317, _, none⟩) (t2 := 29) ?_ ?_ (by decide) (by decide) _ | exact OutT.mk BK317.out | refine OutT.set ?_ _ _ _) | exact HI323.out)) hk ((show IsS80 w _ g329 t327 t328 from by repeat (first | (with_reducible first | exact HI329.out | apply IsS80.alloc | apply IsS80.drewN | apply IsS80.drew | apply IsS80.set_0 | apply IsS80.set_1 | refine IsS80.far ?_ NB329_317.out _) | exact HI329.out))).1 (by decide) (by decide)); have n2_ := Aside0.mk (hb); have n3_ := Aside0.mk (hi); clear BK317; clear HI323; clear HB; clear HI329; have BK317 := n0_; have HI323 := n1_; have HB := n2_; have HI329 := n3_; clear n0_ n1_ n2_ n3_; (try clear hb); (try clear hb2); (try clear hk); (try clear hi)) | ((with_reducible refine gate_dst (N := 5) rfl ?_); refine box_event ?hg (N := 5) ?hd (cs := #[.int .i64 0, .string (⟨#[]⟩ : ByteArray), .int .i64 0]) (t := 29) ?hr ?_; (case hd => rfl); (case hg => rfl); (case hr => first | (go_simp; done) | (go_simp; rfl)); intro gb335 hg w59 hbox hb; have n0_ := Aside0.mk (blk_below (g := gb317) (o := .cells #[.int .i64 a0_0, .string t318, .int .i64 a0_2] 29 (0, 0)) (by (with_reducible repeat (first | refine blk_drewN ?_ _ | refine blk_drew ?_ | refine blk_alloc ?_ _)); exact BK317.out) hb); have n1_ := Aside0.mk (IsS50.below (by repeat (first | (with_reducible first | exact HI323.out | apply IsS50.alloc | apply IsS50.drewN | apply IsS50.drew | apply IsS50.set_0 | refine IsS50.farT (p := ⟨gb317, _, none⟩) (t2 := 29) ?_ ?_ (by decide) (by decide) _ | exact OutT.mk BK317.out | refine OutT.set ?_ _ _ _) | exact HI323.out)) hb); have n2_ := Aside0.mk (IsS80.below (by repeat (first | (with_reducible first | exact HI329.out | apply IsS80.alloc | apply IsS80.drewN | apply IsS80.drew | apply IsS80.set_0 | apply IsS80.set_1 | refine IsS80.far ?_ NB329_317.out _) | exact HI329.out)) hb); have n3_ := Aside0.mk (below_step (by repeat (first | (with_reducible first | exact HB.out | apply below_alloc | apply pw_below_drewN | apply below_drew1 | refine below_set ?_ (IsS50.ge HI323.out) | refine below_set ?_ (IsS80.ge HI329.out) | refine below_set ?_ GE317.out) | exact HB.out)) hb); have n4_ := Aside0.mk (hbox); have n5_ := Aside0.mk ((by rw [hg]; exact (below_size (by repeat (first | (with_reducible first | exact HB.out | apply below_alloc | apply pw_below_drewN | apply below_drew1 | refine below_set ?_ (IsS50.ge HI323.out) | refine below_set ?_ (IsS80.ge HI329.out) | refine below_set ?_ GE317.out) | exact HB.out))) : w.heap.size ≤ gb335)); have n6_ := Aside0.mk ((by rw [hg]; exact (below_size (by repeat (first | (with_reducible first | exact HB.out | apply below_alloc | apply pw_below_drewN | apply below_drew1 | refine below_set ?_ (IsS50.ge HI323.out) | refine below_set ?_ (IsS80.ge HI329.out) | refine below_set ?_ GE317.out) | exact HB.out))) : w.heap.size ≤ gb335)); have n7_ := Aside0.mk ((by rw [hg]; exact Nat.ne_of_lt (blk_lt (g := gb317) (o := .cells #[.int .i64 a0_0, .string t318, .int .i64 a0_2] 29 (0, 0)) (by (with_reducible repeat (first | refine blk_drewN ?_ _ | refine blk_drew ?_ | refine blk_alloc ?_ _)); exact BK317.out)) : gb317 ≠ gb335)); have n8_ := Aside0.mk ((by rw [hg]; exact Nat.ne_of_gt (blk_lt (g := gb317) (o := .cells #[.int .i64 a0_0, .string t318, .int .i64 a0_2] 29 (0, 0)) (by (with_reducible repeat (first | refine blk_drewN ?_ _ | refine blk_drew ?_ | refine blk_alloc ?_ _)); exact BK317.out)) : gb335 ≠ gb317)); have n9_ := Aside0.mk ((by rw [hg]; exact Nat.ne_of_lt (IsS50.lt (show IsS50 w _ gb323 t326 from by repeat (first | (with_reducible first | exact HI323.out | apply IsS50.alloc | apply IsS50.drewN | apply IsS50.drew | apply IsS50.set_0 | refine IsS50.farT (p := ⟨gb317, _, none⟩) (t2 := 29) ?_ ?_ (by decide) (by decide) _ | exact OutT.mk BK317.out | refine OutT.set ?_ _ _ _) | exact HI323.out))) : gb323 ≠ gb335)); have n10_ := Aside0.mk ((by rw [hg]; exact Nat.ne_of_gt (IsS50.lt (show IsS50 w _ gb323 t326 from by repeat (first | (with_reducible first | exact HI323.out | apply IsS50.alloc | apply IsS50.drewN | apply IsS50.drew | apply IsS50.set_0 | refine IsS50.farT (p := ⟨gb317, _, none⟩) (t2 := 29) ?_ ?_ (by decide) (by decide) _ | exact OutT.mk BK317.out | refine OutT.set ?_ _ _ _) | exact HI323.out))) : gb335 ≠ gb323)); have n11_ := Aside0.mk ((by rw [hg]; exact Nat.ne_of_lt (IsS80.lt (show IsS80 w _ g329 t333 t334 from by repeat (first | (with_reducible first | exact HI329.out | apply IsS80.alloc | apply IsS80.drewN | apply IsS80.drew | apply IsS80.set_0 | apply IsS80.set_1 | refine IsS80.far ?_ NB329_317.out _) | exact HI329.out))) : g329 ≠ gb335)); have n12_ := Aside0.mk ((by rw [hg]; exact Nat.ne_of_gt (IsS80.lt (show IsS80 w _ g329 t333 t334 from by repeat (first | (with_reducible first | exact HI329.out | apply IsS80.alloc | apply IsS80.drewN | apply IsS80.drew | apply IsS80.set_0 | apply IsS80.set_1 | refine IsS80.far ?_ NB329_317.out _) | exact HI329.out))) : gb335 ≠ g329)); clear BK317; clear HI323; clear HI329; clear HB; have BK317 := n0_; have HI323 := n1_; have HI329 := n2_; have HB := n3_; have BK335 := n4_; have GW335 := n5_; have GE335 := n6_; have NB317_335 := n7_; have NB335_317 := n8_; have NB323_335 := n9_; have NB335_323 := n10_; have NB329_335 := n11_; have NB335_329 := n12_; clear n0_ n1_ n2_ n3_ n4_ n5_ n6_ n7_ n8_ n9_ n10_ n11_ n12_; clear hb hbox hg; have hnb60 := NB335_317.out; have hnc60 := NB317_335.out; have hnb61 := NB335_323.out; have hnc61 := NB323_335.out; have hnb62 := NB335_329.out; have hnc62 := NB329_335.out; have hcz63_0 : w59.cell? ⟨gb335, 0, none⟩ = some (.int .i64 0) := (blk_cell BK335.out 0).trans rfl; have hcz63_1 : w59.cell? ⟨gb335, 1, none⟩ = some (.string (⟨#[]⟩ : ByteArray)) := (blk_cell BK335.out 1).trans rfl; have hcz63_2 : w59.cell? ⟨gb335, 2, none⟩ = some (.int .i64 0) := (blk_cell BK335.out 2).trans rfl; have hfz63_0 := blk_frozen BK335.out 0; have hfz63_1 := blk_frozen BK335.out 1; have hfz63_2 := blk_frozen BK335.out 2))
      have n0_ : Aside0 ((((w59.setCell ⟨gb335, 0, none⟩ (.int .i64 t330)).setCell ⟨gb335, 1, none⟩ (.string t331)).setCell ⟨gb335, 2, none⟩ (.int .i64 t332)).heap[gb317]? = some (.cells #[.int .i64 a0_0, .string t318, .int .i64 a0_2] 29 (0, 0))) := ⟨by (with_reducible repeat (first | refine blk_drewN ?_ _ | refine blk_drew ?_ | refine blk_alloc ?_ _)); refine blk_far ?_ NB317_335.out _; (with_reducible repeat (first | refine blk_drewN ?_ _ | refine blk_drew ?_ | refine blk_alloc ?_ _)); refine blk_far ?_ NB317_335.out _; (with_reducible repeat (first | refine blk_drewN ?_ _ | refine blk_drew ?_ | refine blk_alloc ?_ _)); refine blk_far ?_ NB317_335.out _; (with_reducible repeat (first | refine blk_drewN ?_ _ | refine blk_drew ?_ | refine blk_alloc ?_ _)); exact BK317.out⟩
      have n1_ : Aside0 ((((w59.setCell ⟨gb335, 0, none⟩ (.int .i64 t330)).setCell ⟨gb335, 1, none⟩ (.string t331)).setCell ⟨gb335, 2, none⟩ (.int .i64 t332)).heap[gb335]? = some (.cells #[.int .i64 t330, .string t331, .int .i64 t332] 29 (0, 0))) := ⟨by (with_reducible repeat (first | refine blk_drewN ?_ _ | refine blk_drew ?_ | refine blk_alloc ?_ _)); refine blk_put (cs := #[.int .i64 t330, .string t331, .int .i64 0]) ?_ 2 _ rfl; (with_reducible repeat (first | refine blk_drewN ?_ _ | refine blk_drew ?_ | refine blk_alloc ?_ _)); refine blk_put (cs := #[.int .i64 t330, .string (⟨#[]⟩ : ByteArray), .int .i64 0]) ?_ 1 _ rfl; (with_reducible repeat (first | refine blk_drewN ?_ _ | refine blk_drew ?_ | refine blk_alloc ?_ _)); refine blk_put (cs := #[.int .i64 0, .string (⟨#[]⟩ : ByteArray), .int .i64 0]) ?_ 0 _ rfl; (with_reducible repeat (first | refine blk_drewN ?_ _ | refine blk_drew ?_ | refine blk_alloc ?_ _)); exact BK335.out⟩
      have n2_ : Aside0 (IsS50 w (((w59.setCell ⟨gb335, 0, none⟩ (.int .i64 t330)).setCell ⟨gb335, 1, none⟩ (.string t331)).setCell ⟨gb335, 2, none⟩ (.int .i64 t332)) gb323 t326) := ⟨by repeat (first | (with_reducible first | exact HI323.out | apply IsS50.alloc | apply IsS50.drewN | apply IsS50.drew | apply IsS50.set_0 | refine IsS50.farT (p := ⟨gb317, _, none⟩) (t2 := 29) ?_ ?_ (by decide) (by decide) _ | exact OutT.mk BK317.out | refine OutT.set ?_ _ _ _ | refine IsS50.farT (p := ⟨gb335, _, none⟩) (t2 := 29) ?_ ?_ (by decide) (by decide) _ | exact OutT.mk BK335.out | refine OutT.set ?_ _ _ _) | exact HI323.out)⟩
      have n3_ : Aside0 (IsS80 w (((w59.setCell ⟨gb335, 0, none⟩ (.int .i64 t330)).setCell ⟨gb335, 1, none⟩ (.string t331)).setCell ⟨gb335, 2, none⟩ (.int .i64 t332)) g329 t333 t334) := ⟨by repeat (first | (with_reducible first | exact HI329.out | apply IsS80.alloc | apply IsS80.drewN | apply IsS80.drew | apply IsS80.set_0 | apply IsS80.set_1 | refine IsS80.far ?_ NB329_317.out _ | refine IsS80.far ?_ NB329_335.out _) | exact HI329.out)⟩
      have n4_ : Aside0 (Below w.heap.size w (((w59.setCell ⟨gb335, 0, none⟩ (.int .i64 t330)).setCell ⟨gb335, 1, none⟩ (.string t331)).setCell ⟨gb335, 2, none⟩ (.int .i64 t332))) := ⟨by repeat (first | (with_reducible first | exact HB.out | apply below_alloc | apply pw_below_drewN | apply below_drew1 | refine below_set ?_ (IsS50.ge HI323.out) | refine below_set ?_ (IsS80.ge HI329.out) | refine below_set ?_ GE317.out | refine below_set ?_ GE335.out) | exact HB.out)⟩
      (try clear BK317)
      (try clear BK335)
      (try clear HI323)
      (try clear HI329)
      (try clear HB)
      generalize (((w59.setCell ⟨gb335, 0, none⟩ (.int .i64 t330)).setCell ⟨gb335, 1, none⟩ (.string t331)).setCell ⟨gb335, 2, none⟩ (.int .i64 t332)) = w64 at n0_ n1_ n2_ n3_ n4_ ⊢
      have BK317 := n0_
      have BK335 := n1_
      have HI323 := n2_
      have HI329 := n3_
      have HB := n4_
      clear n0_ n1_ n2_ n3_ n4_
      have n0_ := Aside0.mk (blk_drew BK317.out)
      have n1_ := Aside0.mk (blk_drew BK335.out)
      have n2_ := Aside0.mk (IsS50.drew HI323.out)
      have n3_ := Aside0.mk (IsS80.drew HI329.out)
      have n4_ := Aside0.mk (below_drew1 HB.out)
      clear BK317
      clear BK335
      clear HI323
      clear HI329
      clear HB
      have BK317 := n0_
      have BK335 := n1_
      have HI323 := n2_
      have HI329 := n3_
      have HB := n4_
      clear n0_ n1_ n2_ n3_ n4_
      refine start_ (n := 15) (S := fun w' => w'.cell? ⟨gb317, 0, none⟩ = some (.int .i64 a0_0) ∧ w'.cell? ⟨gb317, 1, none⟩ = some (.string t318) ∧ w'.cell? ⟨gb317, 2, none⟩ = some (.int .i64 a0_2) ∧ w'.cell? ⟨gb335, 0, none⟩ = some (.int .i64 t330) ∧ w'.cell? ⟨gb335, 1, none⟩ = some (.string t331) ∧ w'.cell? ⟨gb335, 2, none⟩ = some (.int .i64 t332)) (ds := []) #[false,false,false,false,false,false,false,false,false,false,false,false,false,false,false] (by kernel_rfl) rfl rfl ⟨(blk_cell BK317.out 0).trans rfl, (blk_cell BK317.out 1).trans rfl, (blk_cell BK317.out 2).trans rfl, (blk_cell BK335.out 0).trans rfl, (blk_cell BK335.out 1).trans rfl, (blk_cell BK335.out 2).trans rfl⟩ (fun hHeld => ?_); refine with_tabW armoirelaw12_MethodResults.tab10 armoirelaw12_MethodResults.bits10 (fun HT_ HW_ => ?_)
      generalize w64.drew = w65 at BK317 BK335 HI323 HI329 HB hHeld ⊢
      refine take_ (i := 1) (N := some 29) (v := ?_) (a' := ?_) #[false,true,false,false,false,false,false,false,false,false,false,false,false,false,false] rfl rfl (take_ofW HT_.out HW_.out (by kernel_rfl)) (fun _ _ _ h => h) (Or.inl ⟨by rfl, ?_⟩) hHeld ?_ ?_
      rotate_left
      · rintro w' ⟨s0, s1, s2, s3, s4, s5⟩
        go_simp
        with_reducible rfl
      rotate_left; (simp only [Act.put, List.setIfInBounds_toArray, List.set_cons_zero, List.set_cons_succ, i64_w, i32_w]; rfl)
      refine one_ (i := 0) (N := some 28) #[true,true,false,false,false,false,false,false,false,false,false,false,false,false,false] rfl rfl (one_of HT_.out (by kernel_rfl)) (by decide) (fun K hK => ?_)
      refine goes_ Try.func25 (by kernel_rfl) rfl #[.pointer (some ⟨gb323, 0, none⟩)] (by rfl) rfl rfl (by (try simp only [List.map_toArray, List.map_cons, List.map_nil]); first | done | rfl | (simp only [List.length_drop, List.length_take]; rfl) | (simp only [Act.eval, Array.getD_eq_getD_getElem?, Option.getD_some, *]; done) | (simp only [Array.mk.injEq, List.cons.injEq, Value.int.injEq, true_and, and_true]; first | omega | (simp [IntKind.wrap, IntKind.bits, IntKind.signed]; omega))) ?_
      with_reducible refine (codec_Out_Text.calls gb323 t326 t336 t337 w _ ?side1 ?side2 A26.out).mono ?_
      (case side1 => repeat (first | (with_reducible first | exact HI323.out | apply IsS50.alloc | apply IsS50.drewN | apply IsS50.drew | apply IsS50.set_0 | refine IsS50.farT (p := ⟨gb317, _, none⟩) (t2 := 29) ?_ ?_ (by decide) (by decide) _ | exact OutT.mk BK317.out | refine OutT.set ?_ _ _ _ | refine IsS50.farT (p := ⟨gb335, _, none⟩) (t2 := 29) ?_ ?_ (by decide) (by decide) _ | exact OutT.mk BK335.out | refine OutT.set ?_ _ _ _) | exact HI323.out))
      (case side2 => repeat (first | (with_reducible first | exact HB.out | apply below_alloc | apply pw_below_drewN | apply below_drew1 | refine below_set ?_ (IsS50.ge HI323.out) | refine below_set ?_ (IsS80.ge HI329.out) | refine below_set ?_ GE317.out | refine below_set ?_ GE335.out) | exact HB.out))
      rintro e w66 ⟨rfl, hi, hb, hk⟩
      refine ⟨_, rfl, ?_⟩
      have n0_ := Aside0.mk (KeepT.oblk (g := gb317) (o := .cells #[.int .i64 a0_0, .string t318, .int .i64 a0_2] 29 (0, 0)) (by (with_reducible repeat (first | refine blk_drewN ?_ _ | refine blk_drew ?_ | refine blk_alloc ?_ _)); exact BK317.out) hk (by intro _ _ _ h_; cases h_; decide))
      have n1_ := Aside0.mk ((show IsS80 w w66 g329 t333 t334 from ⟨KeepT.blk ((show IsS80 w _ g329 t333 t334 from by repeat (first | (with_reducible first | exact HI329.out | apply IsS80.alloc | apply IsS80.drewN | apply IsS80.drew | apply IsS80.set_0 | apply IsS80.set_1 | refine IsS80.far ?_ NB329_317.out _ | refine IsS80.far ?_ NB329_335.out _) | exact HI329.out))).1 hk (by decide), ((show IsS80 w _ g329 t333 t334 from by repeat (first | (with_reducible first | exact HI329.out | apply IsS80.alloc | apply IsS80.drewN | apply IsS80.drew | apply IsS80.set_0 | apply IsS80.set_1 | refine IsS80.far ?_ NB329_317.out _ | refine IsS80.far ?_ NB329_335.out _) | exact HI329.out))).2⟩))
      have n2_ := Aside0.mk (KeepT.oblk (g := gb335) (o := .cells #[.int .i64 t330, .string t331, .int .i64 t332] 29 (0, 0)) (by (with_reducible repeat (first | refine blk_drewN ?_ _ | refine blk_drew ?_ | refine blk_alloc ?_ _)); exact BK335.out) hk (by intro _ _ _ h_; cases h_; decide))
      have n3_ := Aside0.mk (hb)
      have n4_ := Aside0.mk (hi)
      clear BK317
      clear HI329
      clear BK335
      clear HB
      clear HI323
      have BK317 := n0_
      have HI329 := n1_
      have BK335 := n2_
      have HB := n3_
      have HI323 := n4_
      clear n0_ n1_ n2_ n3_ n4_
      (try clear hb)
      (try clear hb2)
      (try clear hk)
      (try clear hi)
      refine hK.out _ _ ⟨(blk_cell BK317.out 0).trans rfl, (blk_cell BK317.out 1).trans rfl, (blk_cell BK317.out 2).trans rfl, (blk_cell BK335.out 0).trans rfl, (blk_cell BK335.out 1).trans rfl, (blk_cell BK335.out 2).trans rfl⟩ (fun hHeld => ?_)
      clear hK K
      refine norm_ (a' := ?_) ?_ ?_
      rotate_left
      · show Act.put _ (some 28) _ = _
        simp only [Act.put, List.setIfInBounds_toArray, List.set_cons_zero, List.set_cons_succ, i64_w, i32_w]
        rfl
      refine one_ (i := 2) (N := some 30) #[true,true,true,false,false,false,false,false,false,false,false,false,false,false,false] rfl rfl (one_of HT_.out (by kernel_rfl)) (by decide) (fun K hK => ?_)
      refine goes_ Try.func33 (by kernel_rfl) rfl #[.agg #[.int .i64 a0_0, .string t318, .int .i64 a0_2]] (by rfl) rfl rfl (by (try simp only [List.map_toArray, List.map_cons, List.map_nil]); first | done | rfl | (simp only [List.length_drop, List.length_take]; rfl) | (simp only [Act.eval, Array.getD_eq_getD_getElem?, Option.getD_some, *]; done) | (simp only [Array.mk.injEq, List.cons.injEq, Value.int.injEq, true_and, and_true]; first | omega | (simp [IntKind.wrap, IntKind.bits, IntKind.signed]; omega))) ?_
      with_reducible refine (armoireref12_TextResult.calls kj2 a0_0 t318 a0_2 t338 _ A27.out).mono ?_
      rintro e w67 ⟨rfl, hb⟩
      refine ⟨_, rfl, ?_⟩
      have n0_ := Aside0.mk (blk_below (g := gb317) (o := .cells #[.int .i64 a0_0, .string t318, .int .i64 a0_2] 29 (0, 0)) (by (with_reducible repeat (first | refine blk_drewN ?_ _ | refine blk_drew ?_ | refine blk_alloc ?_ _)); exact BK317.out) hb)
      have n1_ := Aside0.mk (IsS50.below (by repeat (first | (with_reducible first | exact HI323.out | apply IsS50.alloc | apply IsS50.drewN | apply IsS50.drew | apply IsS50.set_0 | refine IsS50.farT (p := ⟨gb317, _, none⟩) (t2 := 29) ?_ ?_ (by decide) (by decide) _ | exact OutT.mk BK317.out | refine OutT.set ?_ _ _ _ | refine IsS50.farT (p := ⟨gb335, _, none⟩) (t2 := 29) ?_ ?_ (by decide) (by decide) _ | exact OutT.mk BK335.out | refine OutT.set ?_ _ _ _) | exact HI323.out)) hb)
      have n2_ := Aside0.mk (IsS80.below (by repeat (first | (with_reducible first | exact HI329.out | apply IsS80.alloc | apply IsS80.drewN | apply IsS80.drew | apply IsS80.set_0 | apply IsS80.set_1 | refine IsS80.far ?_ NB329_317.out _ | refine IsS80.far ?_ NB329_335.out _) | exact HI329.out)) hb)
      have n3_ := Aside0.mk (blk_below (g := gb335) (o := .cells #[.int .i64 t330, .string t331, .int .i64 t332] 29 (0, 0)) (by (with_reducible repeat (first | refine blk_drewN ?_ _ | refine blk_drew ?_ | refine blk_alloc ?_ _)); exact BK335.out) hb)
      have n4_ := Aside0.mk (below_step (by repeat (first | (with_reducible first | exact HB.out | apply below_alloc | apply pw_below_drewN | apply below_drew1 | refine below_set ?_ (IsS50.ge HI323.out) | refine below_set ?_ (IsS80.ge HI329.out) | refine below_set ?_ GE317.out | refine below_set ?_ GE335.out) | exact HB.out)) hb)
      clear BK317
      clear HI323
      clear HI329
      clear BK335
      clear HB
      have BK317 := n0_
      have HI323 := n1_
      have HI329 := n2_
      have BK335 := n3_
      have HB := n4_
      clear n0_ n1_ n2_ n3_ n4_
      (try clear hb)
      (try clear hb2)
      (try clear hk)
      (try clear hi)
      refine hK.out _ _ ⟨(blk_cell BK317.out 0).trans rfl, (blk_cell BK317.out 1).trans rfl, (blk_cell BK317.out 2).trans rfl, (blk_cell BK335.out 0).trans rfl, (blk_cell BK335.out 1).trans rfl, (blk_cell BK335.out 2).trans rfl⟩ (fun hHeld => ?_)
      clear hK K
      refine norm_ (a' := ?_) ?_ ?_
      rotate_left
      · show Act.put _ (some 30) _ = _
        simp only [Act.put, List.setIfInBounds_toArray, List.set_cons_zero, List.set_cons_succ, i64_w, i32_w]
        rfl
      refine pure_ (i := 3) (N := some 31) (v := ?_) (a' := ?_) (bA 15 15) rfl rfl (any_of HT_.out (by kernel_rfl)) (fun _ _ _ h => h) (Or.inl ⟨by rfl, ?_⟩) ?_ ?_
      rotate_left; (intro w'; go_simp; with_reducible rfl); rotate_left; (simp only [Act.put, List.setIfInBounds_toArray, List.set_cons_zero, List.set_cons_succ, i64_w, i32_w]; rfl)
      refine pure_ (i := 4) (N := some 32) (v := ?_) (a' := ?_) (bA 15 31) rfl rfl (any_of HT_.out (by kernel_rfl)) (fun _ _ _ h => h) (Or.inl ⟨by rfl, ?_⟩) ?_ ?_
      rotate_left; (intro w'; go_simp; with_reducible rfl); rotate_left; (simp only [Act.put, List.setIfInBounds_toArray, List.set_cons_zero, List.set_cons_succ, i64_w, i32_w]; rfl)
      refine take_ (i := 5) (N := some 33) (v := ?_) (a' := ?_) #[true,true,true,true,true,true,false,false,false,false,false,false,false,false,false] rfl rfl (take_ofW HT_.out HW_.out (by kernel_rfl)) (fun _ _ _ h => h) (Or.inl ⟨by rfl, ?_⟩) hHeld ?_ ?_
      rotate_left
      · rintro w' ⟨s0, s1, s2, s3, s4, s5⟩
        go_simp
        with_reducible rfl
      rotate_left; (simp only [Act.put, List.setIfInBounds_toArray, List.set_cons_zero, List.set_cons_succ, i64_w, i32_w]; rfl)
      refine take_ (i := 6) (N := some 34) (v := ?_) (a' := ?_) #[true,true,true,true,true,true,true,false,false,false,false,false,false,false,false] rfl rfl (take_ofW HT_.out HW_.out (by kernel_rfl)) (fun _ _ _ h => h) (Or.inl ⟨by rfl, ?_⟩) hHeld ?_ ?_
      rotate_left
      · rintro w' ⟨s0, s1, s2, s3, s4, s5⟩
        go_simp
        with_reducible rfl
      rotate_left; (simp only [Act.put, List.setIfInBounds_toArray, List.set_cons_zero, List.set_cons_succ, i64_w, i32_w]; rfl)
      refine pure_ (i := 7) (N := some 35) (v := ?_) (a' := ?_) (bA 15 255) rfl rfl (any_of HT_.out (by kernel_rfl)) (fun _ _ _ h => h) (Or.inl ⟨by rfl, ?_⟩) ?_ ?_
      rotate_left; (intro w'; go_simp; with_reducible rfl); rotate_left; (simp only [Act.put, List.setIfInBounds_toArray, List.set_cons_zero, List.set_cons_succ, i64_w, i32_w]; rfl)
      refine pure_ (i := 8) (N := some 36) (v := ?_) (a' := ?_) (bA 15 511) rfl rfl (any_of HT_.out (by kernel_rfl)) (fun _ _ _ h => h) (Or.inl ⟨by rfl, ?_⟩) ?_ ?_
      rotate_left; (intro w'; go_simp; with_reducible rfl); rotate_left; (simp only [Act.put, List.setIfInBounds_toArray, List.set_cons_zero, List.set_cons_succ, i64_w, i32_w]; rfl)
      refine pure_ (i := 9) (N := some 37) (v := ?_) (a' := ?_) (bA 15 1023) rfl rfl (any_of HT_.out (by kernel_rfl)) (fun _ _ _ h => h) (Or.inl ⟨by rfl, ?_⟩) ?_ ?_
      rotate_left; (intro w'; go_simp; with_reducible rfl); rotate_left; (simp only [Act.put, List.setIfInBounds_toArray, List.set_cons_zero, List.set_cons_succ, i64_w, i32_w]; rfl)
      refine pure_ (i := 10) (N := some 38) (v := undef) (a' := ?_) (bA 15 2047) rfl rfl (any_of HT_.out (by kernel_rfl)) (fun _ _ _ h => h) (Or.inr ⟨by rfl, rfl⟩) ?_ ?_
      rotate_left; (simp only [Act.put, List.setIfInBounds_toArray, List.set_cons_zero, List.set_cons_succ, i64_w, i32_w]; rfl)
      refine pure_ (i := 11) (N := some 39) (v := undef) (a' := ?_) (bA 15 4095) rfl rfl (any_of HT_.out (by kernel_rfl)) (fun _ _ _ h => h) (Or.inr ⟨by rfl, rfl⟩) ?_ ?_
      rotate_left; (simp only [Act.put, List.setIfInBounds_toArray, List.set_cons_zero, List.set_cons_succ, i64_w, i32_w]; rfl)
      refine pure_ (i := 12) (N := some 40) (v := undef) (a' := ?_) (bA 15 8191) rfl rfl (any_of HT_.out (by kernel_rfl)) (fun _ _ _ h => h) (Or.inr ⟨by rfl, rfl⟩) ?_ ?_
      rotate_left; (simp only [Act.put, List.setIfInBounds_toArray, List.set_cons_zero, List.set_cons_succ, i64_w, i32_w]; rfl)
      refine pure_ (i := 13) (N := some 41) (v := ?_) (a' := ?_) (bA 15 16383) rfl rfl (any_of HT_.out (by kernel_rfl)) (fun _ _ _ h => h) (Or.inl ⟨by rfl, ?_⟩) ?_ ?_
      rotate_left; (intro w'; go_simp; with_reducible rfl); rotate_left; (simp only [Act.put, List.setIfInBounds_toArray, List.set_cons_zero, List.set_cons_succ, i64_w, i32_w]; rfl)
      refine pure_ (i := 14) (N := some 2) (v := ?_) (a' := ?_) (bA 15 32767) rfl rfl (any_of HT_.out (by kernel_rfl)) (fun _ _ _ h => h) (Or.inl ⟨by rfl, ?_⟩) ?_ ?_
      rotate_left; (intro w'; go_simp; with_reducible rfl); rotate_left; (simp only [Act.put, List.setIfInBounds_toArray, List.set_cons_zero, List.set_cons_succ, i64_w, i32_w]; rfl)
      refine done_ (done_of HT_.out (by kernel_rfl)) ?_
      try go_wp2
      go_ret
      exact ⟨by first | rfl | (simp [errW_none, errW_some] <;> rfl) | (simp [*, errW_none, errW_some] <;> rfl), by repeat (first | (with_reducible first | exact HB.out | apply below_alloc | apply pw_below_drewN | apply below_drew1 | refine below_set ?_ (IsS50.ge HI323.out) | refine below_set ?_ (IsS80.ge HI329.out) | refine below_set ?_ GE317.out | refine below_set ?_ GE335.out) | exact HB.out)⟩
    rw [if_pos c29] at H
    have c29b0 : (t330 == a0_0 && (t331.toList == t318.toList && (t332 == a0_2))) = true := c29
    (try (have c29b1 : decide (t330 = a0_0 && (t331.toList == t318.toList && (t332 == a0_2))) = true := by simpa using c29))
    (try (have c29b2 : (t330 == a0_0 && (t331.toList == t318.toList && (t332 == a0_2))) = true := by simpa using c29))
    clear c29
    replace H := Option.bind_eq_some_iff.mp H
    obtain ⟨⟨t339, t340, t341⟩, A300, H⟩ := H
    replace H : (some (t339 == 0)) = some r := H
    have A30 := Aside0.mk A300
    clear A300
    obtain rfl := Option.some.inj H
    have hcz31_0 : wc.cell? ⟨gb317, 0, none⟩ = some (.int .i64 a0_0) := (blk_cell BK317.out 0).trans rfl
    have hcz31_1 : wc.cell? ⟨gb317, 1, none⟩ = some (.string t318) := (blk_cell BK317.out 1).trans rfl
    have hcz31_2 : wc.cell? ⟨gb317, 2, none⟩ = some (.int .i64 a0_2) := (blk_cell BK317.out 2).trans rfl
    have hfz31_0 := blk_frozen BK317.out 0
    have hfz31_1 := blk_frozen BK317.out 1
    have hfz31_2 := blk_frozen BK317.out 2
    try go_wp2_with (first | ((with_reducible refine gate_callee (f := 29) rfl ?_); refine goesL_ (some 20) rfl rfl Try.func29 (by kernel_rfl) rfl #[.agg #[.int .i64 a0_0, .string t318, .int .i64 a0_2]] rfl (by (try simp only [List.map_toArray, List.map_cons, List.map_nil]); first | done | rfl | (simp only [List.length_drop, List.length_take]; rfl)) ?_; (with_reducible refine (method_Result_Check.calls kj2 a0_0 t318 a0_2 t322 _ A20.out).mono ?_); rintro e w32 ⟨rfl, hb⟩; refine ⟨_, rfl, ?_⟩; have n0_ := Aside0.mk (blk_below (g := gb317) (o := .cells #[.int .i64 a0_0, .string t318, .int .i64 a0_2] 29 (0, 0)) (by (with_reducible repeat (first | refine blk_drewN ?_ _ | refine blk_drew ?_ | refine blk_alloc ?_ _)); exact BK317.out) hb); have n1_ := Aside0.mk (below_step (by repeat (first | (with_reducible first | exact HB.out | apply below_alloc | apply pw_below_drewN | apply below_drew1 | refine below_set ?_ GE317.out) | exact HB.out)) hb); clear BK317; clear HB; have BK317 := n0_; have HB := n1_; clear n0_ n1_; (try clear hb); (try clear hb2); (try clear hk); (try clear hi)) | ((with_reducible refine gate_dst (N := 3) rfl ?_); refine box_event ?hg (N := 3) ?hd (cs := #[.slice none 0 0]) (t := 50) ?hr ?_; (case hd => rfl); (case hg => rfl); (case hr => first | (go_simp; done) | (go_simp; rfl)); intro gb323 hg w33 hbox hb; have n0_ := Aside0.mk (blk_below (g := gb317) (o := .cells #[.int .i64 a0_0, .string t318, .int .i64 a0_2] 29 (0, 0)) (by (with_reducible repeat (first | refine blk_drewN ?_ _ | refine blk_drew ?_ | refine blk_alloc ?_ _)); exact BK317.out) hb); have n1_ := Aside0.mk (below_step (by repeat (first | (with_reducible first | exact HB.out | apply below_alloc | apply pw_below_drewN | apply below_drew1 | refine below_set ?_ GE317.out) | exact HB.out)) hb); have n2_ := Aside0.mk (hbox); have n3_ := Aside0.mk ((by rw [hg]; exact (below_size (by repeat (first | (with_reducible first | exact HB.out | apply below_alloc | apply pw_below_drewN | apply below_drew1 | refine below_set ?_ GE317.out) | exact HB.out))) : w.heap.size ≤ gb323)); have n4_ := Aside0.mk ((by rw [hg]; exact (below_size (by repeat (first | (with_reducible first | exact HB.out | apply below_alloc | apply pw_below_drewN | apply below_drew1 | refine below_set ?_ GE317.out) | exact HB.out))) : w.heap.size ≤ gb323)); have n5_ := Aside0.mk ((by rw [hg]; exact Nat.ne_of_lt (blk_lt (g := gb317) (o := .cells #[.int .i64 a0_0, .string t318, .int .i64 a0_2] 29 (0, 0)) (by (with_reducible repeat (first | refine blk_drewN ?_ _ | refine blk_drew ?_ | refine blk_alloc ?_ _)); exact BK317.out)) : gb317 ≠ gb323)); have n6_ := Aside0.mk ((by rw [hg]; exact Nat.ne_of_gt (blk_lt (g := gb317) (o := .cells #[.int .i64 a0_0, .string t318, .int .i64 a0_2] 29 (0, 0)) (by (with_reducible repeat (first | refine blk_drewN ?_ _ | refine blk_drew ?_ | refine blk_alloc ?_ _)); exact BK317.out)) : gb323 ≠ gb317)); have n7_ := Aside0.mk ((IsS50.box hbox (by rw [hg]; exact (below_size (by repeat (first | (with_reducible first | exact HB.out | apply below_alloc | apply pw_below_drewN | apply below_drew1 | refine below_set ?_ GE317.out) | exact HB.out))) : w.heap.size ≤ gb323) : IsS50 w w33 gb323 (⟨#[]⟩ : ByteArray))); clear BK317; clear HB; have BK317 := n0_; have HB := n1_; have BK323 := n2_; have GW323 := n3_; have GE323 := n4_; have NB317_323 := n5_; have NB323_317 := n6_; have HI323 := n7_; clear n0_ n1_ n2_ n3_ n4_ n5_ n6_ n7_; clear hb hbox hg; have hnb34 := NB317_323.out; have hnc34 := NB323_317.out; have hcz35_0 : w33.cell? ⟨gb317, 0, none⟩ = some (.int .i64 a0_0) := (blk_cell BK317.out 0).trans rfl; have hcz35_1 : w33.cell? ⟨gb317, 1, none⟩ = some (.string t318) := (blk_cell BK317.out 1).trans rfl; have hcz35_2 : w33.cell? ⟨gb317, 2, none⟩ = some (.int .i64 a0_2) := (blk_cell BK317.out 2).trans rfl; have hfz35_0 := blk_frozen BK317.out 0; have hfz35_1 := blk_frozen BK317.out 1; have hfz35_2 := blk_frozen BK317.out 2) | ((with_reducible refine gate_callee (f := 31) rfl ?_); refine goesL_ (some 23) rfl rfl Try.func31 (by kernel_rfl) rfl #[.agg #[.int .i64 a0_0, .string t318, .int .i64 a0_2], .pointer (some ⟨gb323, 0, none⟩)] rfl (by (try simp only [List.map_toArray, List.map_cons, List.map_nil]); first | done | rfl | (simp only [List.length_drop, List.length_take]; rfl)) ?_; (with_reducible refine (method_Result_Put.calls a0_0 t318 a0_2 gb323 (⟨#[]⟩ : ByteArray) t324 w _ ?side1 ?side2 A22.out).mono ?_); (case side1 => repeat (first | (with_reducible first | exact HI323.out | apply IsS50.alloc | apply IsS50.drewN | apply IsS50.drew | apply IsS50.set_0 | refine IsS50.farT (p := ⟨gb317, _, none⟩) (t2 := 29) ?_ ?_ (by decide) (by decide) _ | exact OutT.mk BK317.out | refine OutT.set ?_ _ _ _) | exact HI323.out)); (case side2 => repeat (first | (with_reducible first | exact HB.out | apply below_alloc | apply pw_below_drewN | apply below_drew1 | refine below_set ?_ (IsS50.ge HI323.out) | refine below_set ?_ GE317.out) | exact HB.out)); rintro e w36 ⟨rfl, hi, hb, hk⟩; refine ⟨_, rfl, ?_⟩; have n0_ := Aside0.mk (KeepT.oblk (g := gb317) (o := .cells #[.int .i64 a0_0, .string t318, .int .i64 a0_2] 29 (0, 0)) (by (with_reducible repeat (first | refine blk_drewN ?_ _ | refine blk_drew ?_ | refine blk_alloc ?_ _)); exact BK317.out) hk (by intro _ _ _ h_; cases h_; decide)); have n1_ := Aside0.mk (hb); have n2_ := Aside0.mk (hi); clear BK317; clear HB; clear HI323; have BK317 := n0_; have HB := n1_; have HI323 := n2_; clear n0_ n1_ n2_; (try clear hb); (try clear hb2); (try clear hk); (try clear hi)) | ((with_reducible refine gate_callee (f := 25) rfl ?_); refine goesL_ (some 24) rfl rfl Try.func25 (by kernel_rfl) rfl #[.pointer (some ⟨gb323, 0, none⟩)] rfl (by (try simp only [List.map_toArray, List.map_cons, List.map_nil]); first | done | rfl | (simp only [List.length_drop, List.length_take]; rfl)) ?_; (with_reducible refine (codec_Out_Text.calls gb323 t324 t325 t326 w _ ?side1 ?side2 A23.out).mono ?_); (case side1 => repeat (first | (with_reducible first | exact HI323.out | apply IsS50.alloc | apply IsS50.drewN | apply IsS50.drew | apply IsS50.set_0 | refine IsS50.farT (p := ⟨gb317, _, none⟩) (t2 := 29) ?_ ?_ (by decide) (by decide) _ | exact OutT.mk BK317.out | refine OutT.set ?_ _ _ _) | exact HI323.out)); (case side2 => repeat (first | (with_reducible first | exact HB.out | apply below_alloc | apply pw_below_drewN | apply below_drew1 | refine below_set ?_ (IsS50.ge HI323.out) | refine below_set ?_ GE317.out) | exact HB.out)); rintro e w37 ⟨rfl, hi, hb, hk⟩; refine ⟨_, rfl, ?_⟩; have n0_ := Aside0.mk (KeepT.oblk (g := gb317) (o := .cells #[.int .i64 a0_0, .string t318, .int .i64 a0_2] 29 (0, 0)) (by (with_reducible repeat (first | refine blk_drewN ?_ _ | refine blk_drew ?_ | refine blk_alloc ?_ _)); exact BK317.out) hk (by intro _ _ _ h_; cases h_; decide)); have n1_ := Aside0.mk (hb); have n2_ := Aside0.mk (hi); clear BK317; clear HB; clear HI323; have BK317 := n0_; have HB := n1_; have HI323 := n2_; clear n0_ n1_ n2_; (try clear hb); (try clear hb2); (try clear hk); (try clear hi)) | ((with_reducible refine gate_callee (f := 24) rfl ?_); refine goesL_ (some 25) rfl rfl Try.func24 (by kernel_rfl) rfl #[.string t325] rfl (by (try simp only [List.map_toArray, List.map_cons, List.map_nil]); first | done | rfl | (simp only [List.length_drop, List.length_take]; rfl)) ?_; (with_reducible refine (codec_Read.calls t325 t327 t328 w _ ?side1 A24.out).mono ?_); (case side1 => repeat (first | (with_reducible first | exact HB.out | apply below_alloc | apply pw_below_drewN | apply below_drew1 | refine below_set ?_ (IsS50.ge HI323.out) | refine below_set ?_ GE317.out) | exact HB.out)); rintro e w38 ⟨g329, rfl, hi, hb, hb2⟩; refine ⟨_, rfl, ?_⟩; have n0_ := Aside0.mk (blk_below (g := gb317) (o := .cells #[.int .i64 a0_0, .string t318, .int .i64 a0_2] 29 (0, 0)) (by (with_reducible repeat (first | refine blk_drewN ?_ _ | refine blk_drew ?_ | refine blk_alloc ?_ _)); exact BK317.out) hb2); have n1_ := Aside0.mk (IsS50.below (by repeat (first | (with_reducible first | exact HI323.out | apply IsS50.alloc | apply IsS50.drewN | apply IsS50.drew | apply IsS50.set_0 | refine IsS50.farT (p := ⟨gb317, _, none⟩) (t2 := 29) ?_ ?_ (by decide) (by decide) _ | exact OutT.mk BK317.out | refine OutT.set ?_ _ _ _) | exact HI323.out)) hb2); have n2_ := Aside0.mk (hb); have n3_ := Aside0.mk (hi); have n4_ := Aside0.mk (IsS80.ne_blk hi (blk_below (g := gb317) (o := .cells #[.int .i64 a0_0, .string t318, .int .i64 a0_2] 29 (0, 0)) (by (with_reducible repeat (first | refine blk_drewN ?_ _ | refine blk_drew ?_ | refine blk_alloc ?_ _)); exact BK317.out) hb2) (by decide)); have n5_ := Aside0.mk (Ne.symm (IsS80.ne_blk hi (blk_below (g := gb317) (o := .cells #[.int .i64 a0_0, .string t318, .int .i64 a0_2] 29 (0, 0)) (by (with_reducible repeat (first | refine blk_drewN ?_ _ | refine blk_drew ?_ | refine blk_alloc ?_ _)); exact BK317.out) hb2) (by decide))); clear BK317; clear HI323; clear HB; have BK317 := n0_; have HI323 := n1_; have HB := n2_; have HI329 := n3_; have NB329_317 := n4_; have NB317_329 := n5_; clear n0_ n1_ n2_ n3_ n4_ n5_; (try clear hb); (try clear hb2); (try clear hk); (try clear hi)) | ((with_reducible refine gate_callee (f := 32) rfl ?_); refine goesL_ (some 27) rfl rfl Try.func32 (by kernel_rfl) rfl #[.pointer (some ⟨g329, 0, none⟩)] rfl (by (try simp only [List.map_toArray, List.map_cons, List.map_nil]); first | done | rfl | (simp only [List.length_drop, List.length_take]; rfl)) ?_; (with_reducible refine (method_ReadResult.calls kj2 g329 t327 t328 t330 t331 t332 t333 t334 w _ ?side1 ?side2 A25.out).mono ?_); (case side1 => repeat (first | (with_reducible first | exact HI329.out | apply IsS80.alloc | apply IsS80.drewN | apply IsS80.drew | apply IsS80.set_0 | apply IsS80.set_1 | refine IsS80.far ?_ NB329_317.out _) | exact HI329.out)); (case side2 => repeat (first | (with_reducible first | exact HB.out | apply below_alloc | apply pw_below_drewN | apply below_drew1 | refine below_set ?_ (IsS50.ge HI323.out) | refine below_set ?_ (IsS80.ge HI329.out) | refine below_set ?_ GE317.out) | exact HB.out)); rintro e w39 ⟨rfl, hi, hb, hk⟩; refine ⟨_, rfl, ?_⟩; have n0_ := Aside0.mk (KeepBut.blk hk (g' := gb317) (o := .cells #[.int .i64 a0_0, .string t318, .int .i64 a0_2] 29 (0, 0)) (by (with_reducible repeat (first | refine blk_drewN ?_ _ | refine blk_drew ?_ | refine blk_alloc ?_ _)); exact BK317.out) NB317_329.out (by simp)); have n1_ := Aside0.mk (IsS50.keepB (show IsS50 w _ gb323 t326 from by repeat (first | (with_reducible first | exact HI323.out | apply IsS50.alloc | apply IsS50.drewN | apply IsS50.drew | apply IsS50.set_0 | refine IsS50.farT (p := ⟨gb317, _, none⟩) (t2 := 29) ?_ ?_ (by decide) (by decide) _ | exact OutT.mk BK317.out | refine OutT.set ?_ _ _ _) | exact HI323.out)) hk ((show IsS80 w _ g329 t327 t328 from by repeat (first | (with_reducible first | exact HI329.out | apply IsS80.alloc | apply IsS80.drewN | apply IsS80.drew | apply IsS80.set_0 | apply IsS80.set_1 | refine IsS80.far ?_ NB329_317.out _) | exact HI329.out))).1 (by decide) (by decide)); have n2_ := Aside0.mk (hb); have n3_ := Aside0.mk (hi); clear BK317; clear HI323; clear HB; clear HI329; have BK317 := n0_; have HI323 := n1_; have HB := n2_; have HI329 := n3_; clear n0_ n1_ n2_ n3_; (try clear hb); (try clear hb2); (try clear hk); (try clear hi)) | ((with_reducible refine gate_dst (N := 5) rfl ?_); refine box_event ?hg (N := 5) ?hd (cs := #[.int .i64 0, .string (⟨#[]⟩ : ByteArray), .int .i64 0]) (t := 29) ?hr ?_; (case hd => rfl); (case hg => rfl); (case hr => first | (go_simp; done) | (go_simp; rfl)); intro gb335 hg w40 hbox hb; have n0_ := Aside0.mk (blk_below (g := gb317) (o := .cells #[.int .i64 a0_0, .string t318, .int .i64 a0_2] 29 (0, 0)) (by (with_reducible repeat (first | refine blk_drewN ?_ _ | refine blk_drew ?_ | refine blk_alloc ?_ _)); exact BK317.out) hb); have n1_ := Aside0.mk (IsS50.below (by repeat (first | (with_reducible first | exact HI323.out | apply IsS50.alloc | apply IsS50.drewN | apply IsS50.drew | apply IsS50.set_0 | refine IsS50.farT (p := ⟨gb317, _, none⟩) (t2 := 29) ?_ ?_ (by decide) (by decide) _ | exact OutT.mk BK317.out | refine OutT.set ?_ _ _ _) | exact HI323.out)) hb); have n2_ := Aside0.mk (IsS80.below (by repeat (first | (with_reducible first | exact HI329.out | apply IsS80.alloc | apply IsS80.drewN | apply IsS80.drew | apply IsS80.set_0 | apply IsS80.set_1 | refine IsS80.far ?_ NB329_317.out _) | exact HI329.out)) hb); have n3_ := Aside0.mk (below_step (by repeat (first | (with_reducible first | exact HB.out | apply below_alloc | apply pw_below_drewN | apply below_drew1 | refine below_set ?_ (IsS50.ge HI323.out) | refine below_set ?_ (IsS80.ge HI329.out) | refine below_set ?_ GE317.out) | exact HB.out)) hb); have n4_ := Aside0.mk (hbox); have n5_ := Aside0.mk ((by rw [hg]; exact (below_size (by repeat (first | (with_reducible first | exact HB.out | apply below_alloc | apply pw_below_drewN | apply below_drew1 | refine below_set ?_ (IsS50.ge HI323.out) | refine below_set ?_ (IsS80.ge HI329.out) | refine below_set ?_ GE317.out) | exact HB.out))) : w.heap.size ≤ gb335)); have n6_ := Aside0.mk ((by rw [hg]; exact (below_size (by repeat (first | (with_reducible first | exact HB.out | apply below_alloc | apply pw_below_drewN | apply below_drew1 | refine below_set ?_ (IsS50.ge HI323.out) | refine below_set ?_ (IsS80.ge HI329.out) | refine below_set ?_ GE317.out) | exact HB.out))) : w.heap.size ≤ gb335)); have n7_ := Aside0.mk ((by rw [hg]; exact Nat.ne_of_lt (blk_lt (g := gb317) (o := .cells #[.int .i64 a0_0, .string t318, .int .i64 a0_2] 29 (0, 0)) (by (with_reducible repeat (first | refine blk_drewN ?_ _ | refine blk_drew ?_ | refine blk_alloc ?_ _)); exact BK317.out)) : gb317 ≠ gb335)); have n8_ := Aside0.mk ((by rw [hg]; exact Nat.ne_of_gt (blk_lt (g := gb317) (o := .cells #[.int .i64 a0_0, .string t318, .int .i64 a0_2] 29 (0, 0)) (by (with_reducible repeat (first | refine blk_drewN ?_ _ | refine blk_drew ?_ | refine blk_alloc ?_ _)); exact BK317.out)) : gb335 ≠ gb317)); have n9_ := Aside0.mk ((by rw [hg]; exact Nat.ne_of_lt (IsS50.lt (show IsS50 w _ gb323 t326 from by repeat (first | (with_reducible first | exact HI323.out | apply IsS50.alloc | apply IsS50.drewN | apply IsS50.drew | apply IsS50.set_0 | refine IsS50.farT (p := ⟨gb317, _, none⟩) (t2 := 29) ?_ ?_ (by decide) (by decide) _ | exact OutT.mk BK317.out | refine OutT.set ?_ _ _ _) | exact HI323.out))) : gb323 ≠ gb335)); have n10_ := Aside0.mk ((by rw [hg]; exact Nat.ne_of_gt (IsS50.lt (show IsS50 w _ gb323 t326 from by repeat (first | (with_reducible first | exact HI323.out | apply IsS50.alloc | apply IsS50.drewN | apply IsS50.drew | apply IsS50.set_0 | refine IsS50.farT (p := ⟨gb317, _, none⟩) (t2 := 29) ?_ ?_ (by decide) (by decide) _ | exact OutT.mk BK317.out | refine OutT.set ?_ _ _ _) | exact HI323.out))) : gb335 ≠ gb323)); have n11_ := Aside0.mk ((by rw [hg]; exact Nat.ne_of_lt (IsS80.lt (show IsS80 w _ g329 t333 t334 from by repeat (first | (with_reducible first | exact HI329.out | apply IsS80.alloc | apply IsS80.drewN | apply IsS80.drew | apply IsS80.set_0 | apply IsS80.set_1 | refine IsS80.far ?_ NB329_317.out _) | exact HI329.out))) : g329 ≠ gb335)); have n12_ := Aside0.mk ((by rw [hg]; exact Nat.ne_of_gt (IsS80.lt (show IsS80 w _ g329 t333 t334 from by repeat (first | (with_reducible first | exact HI329.out | apply IsS80.alloc | apply IsS80.drewN | apply IsS80.drew | apply IsS80.set_0 | apply IsS80.set_1 | refine IsS80.far ?_ NB329_317.out _) | exact HI329.out))) : gb335 ≠ g329)); clear BK317; clear HI323; clear HI329; clear HB; have BK317 := n0_; have HI323 := n1_; have HI329 := n2_; have HB := n3_; have BK335 := n4_; have GW335 := n5_; have GE335 := n6_; have NB317_335 := n7_; have NB335_317 := n8_; have NB323_335 := n9_; have NB335_323 := n10_; have NB329_335 := n11_; have NB335_329 := n12_; clear n0_ n1_ n2_ n3_ n4_ n5_ n6_ n7_ n8_ n9_ n10_ n11_ n12_; clear hb hbox hg; have hnb41 := NB335_317.out; have hnc41 := NB317_335.out; have hnb42 := NB335_323.out; have hnc42 := NB323_335.out; have hnb43 := NB335_329.out; have hnc43 := NB329_335.out; have hcz44_0 : w40.cell? ⟨gb335, 0, none⟩ = some (.int .i64 0) := (blk_cell BK335.out 0).trans rfl; have hcz44_1 : w40.cell? ⟨gb335, 1, none⟩ = some (.string (⟨#[]⟩ : ByteArray)) := (blk_cell BK335.out 1).trans rfl; have hcz44_2 : w40.cell? ⟨gb335, 2, none⟩ = some (.int .i64 0) := (blk_cell BK335.out 2).trans rfl; have hfz44_0 := blk_frozen BK335.out 0; have hfz44_1 := blk_frozen BK335.out 1; have hfz44_2 := blk_frozen BK335.out 2))
    have n0_ : Aside0 ((((w40.setCell ⟨gb335, 0, none⟩ (.int .i64 t330)).setCell ⟨gb335, 1, none⟩ (.string t331)).setCell ⟨gb335, 2, none⟩ (.int .i64 t332)).heap[gb317]? = some (.cells #[.int .i64 a0_0, .string t318, .int .i64 a0_2] 29 (0, 0))) := ⟨by (with_reducible repeat (first | refine blk_drewN ?_ _ | refine blk_drew ?_ | refine blk_alloc ?_ _)); refine blk_far ?_ NB317_335.out _; (with_reducible repeat (first | refine blk_drewN ?_ _ | refine blk_drew ?_ | refine blk_alloc ?_ _)); refine blk_far ?_ NB317_335.out _; (with_reducible repeat (first | refine blk_drewN ?_ _ | refine blk_drew ?_ | refine blk_alloc ?_ _)); refine blk_far ?_ NB317_335.out _; (with_reducible repeat (first | refine blk_drewN ?_ _ | refine blk_drew ?_ | refine blk_alloc ?_ _)); exact BK317.out⟩
    have n1_ : Aside0 ((((w40.setCell ⟨gb335, 0, none⟩ (.int .i64 t330)).setCell ⟨gb335, 1, none⟩ (.string t331)).setCell ⟨gb335, 2, none⟩ (.int .i64 t332)).heap[gb335]? = some (.cells #[.int .i64 t330, .string t331, .int .i64 t332] 29 (0, 0))) := ⟨by (with_reducible repeat (first | refine blk_drewN ?_ _ | refine blk_drew ?_ | refine blk_alloc ?_ _)); refine blk_put (cs := #[.int .i64 t330, .string t331, .int .i64 0]) ?_ 2 _ rfl; (with_reducible repeat (first | refine blk_drewN ?_ _ | refine blk_drew ?_ | refine blk_alloc ?_ _)); refine blk_put (cs := #[.int .i64 t330, .string (⟨#[]⟩ : ByteArray), .int .i64 0]) ?_ 1 _ rfl; (with_reducible repeat (first | refine blk_drewN ?_ _ | refine blk_drew ?_ | refine blk_alloc ?_ _)); refine blk_put (cs := #[.int .i64 0, .string (⟨#[]⟩ : ByteArray), .int .i64 0]) ?_ 0 _ rfl; (with_reducible repeat (first | refine blk_drewN ?_ _ | refine blk_drew ?_ | refine blk_alloc ?_ _)); exact BK335.out⟩
    have n2_ : Aside0 (IsS50 w (((w40.setCell ⟨gb335, 0, none⟩ (.int .i64 t330)).setCell ⟨gb335, 1, none⟩ (.string t331)).setCell ⟨gb335, 2, none⟩ (.int .i64 t332)) gb323 t326) := ⟨by repeat (first | (with_reducible first | exact HI323.out | apply IsS50.alloc | apply IsS50.drewN | apply IsS50.drew | apply IsS50.set_0 | refine IsS50.farT (p := ⟨gb317, _, none⟩) (t2 := 29) ?_ ?_ (by decide) (by decide) _ | exact OutT.mk BK317.out | refine OutT.set ?_ _ _ _ | refine IsS50.farT (p := ⟨gb335, _, none⟩) (t2 := 29) ?_ ?_ (by decide) (by decide) _ | exact OutT.mk BK335.out | refine OutT.set ?_ _ _ _) | exact HI323.out)⟩
    have n3_ : Aside0 (IsS80 w (((w40.setCell ⟨gb335, 0, none⟩ (.int .i64 t330)).setCell ⟨gb335, 1, none⟩ (.string t331)).setCell ⟨gb335, 2, none⟩ (.int .i64 t332)) g329 t333 t334) := ⟨by repeat (first | (with_reducible first | exact HI329.out | apply IsS80.alloc | apply IsS80.drewN | apply IsS80.drew | apply IsS80.set_0 | apply IsS80.set_1 | refine IsS80.far ?_ NB329_317.out _ | refine IsS80.far ?_ NB329_335.out _) | exact HI329.out)⟩
    have n4_ : Aside0 (Below w.heap.size w (((w40.setCell ⟨gb335, 0, none⟩ (.int .i64 t330)).setCell ⟨gb335, 1, none⟩ (.string t331)).setCell ⟨gb335, 2, none⟩ (.int .i64 t332))) := ⟨by repeat (first | (with_reducible first | exact HB.out | apply below_alloc | apply pw_below_drewN | apply below_drew1 | refine below_set ?_ (IsS50.ge HI323.out) | refine below_set ?_ (IsS80.ge HI329.out) | refine below_set ?_ GE317.out | refine below_set ?_ GE335.out) | exact HB.out)⟩
    (try clear BK317)
    (try clear BK335)
    (try clear HI323)
    (try clear HI329)
    (try clear HB)
    generalize (((w40.setCell ⟨gb335, 0, none⟩ (.int .i64 t330)).setCell ⟨gb335, 1, none⟩ (.string t331)).setCell ⟨gb335, 2, none⟩ (.int .i64 t332)) = w45 at n0_ n1_ n2_ n3_ n4_ ⊢
    have BK317 := n0_
    have BK335 := n1_
    have HI323 := n2_
    have HI329 := n3_
    have HB := n4_
    clear n0_ n1_ n2_ n3_ n4_
    have n0_ := Aside0.mk (blk_drew BK317.out)
    have n1_ := Aside0.mk (blk_drew BK335.out)
    have n2_ := Aside0.mk (IsS50.drew HI323.out)
    have n3_ := Aside0.mk (IsS80.drew HI329.out)
    have n4_ := Aside0.mk (below_drew1 HB.out)
    clear BK317
    clear BK335
    clear HI323
    clear HI329
    clear HB
    have BK317 := n0_
    have BK335 := n1_
    have HI323 := n2_
    have HI329 := n3_
    have HB := n4_
    clear n0_ n1_ n2_ n3_ n4_
    refine start_ (n := 15) (S := fun w' => w'.cell? ⟨gb317, 0, none⟩ = some (.int .i64 a0_0) ∧ w'.cell? ⟨gb317, 1, none⟩ = some (.string t318) ∧ w'.cell? ⟨gb317, 2, none⟩ = some (.int .i64 a0_2) ∧ w'.cell? ⟨gb335, 0, none⟩ = some (.int .i64 t330) ∧ w'.cell? ⟨gb335, 1, none⟩ = some (.string t331) ∧ w'.cell? ⟨gb335, 2, none⟩ = some (.int .i64 t332)) (ds := []) #[false,false,false,false,false,false,false,false,false,false,false,false,false,false,false] (by kernel_rfl) rfl rfl ⟨(blk_cell BK317.out 0).trans rfl, (blk_cell BK317.out 1).trans rfl, (blk_cell BK317.out 2).trans rfl, (blk_cell BK335.out 0).trans rfl, (blk_cell BK335.out 1).trans rfl, (blk_cell BK335.out 2).trans rfl⟩ (fun hHeld => ?_); refine with_tabW armoirelaw12_MethodResults.tab10 armoirelaw12_MethodResults.bits10 (fun HT_ HW_ => ?_)
    generalize w45.drew = w46 at BK317 BK335 HI323 HI329 HB hHeld ⊢
    refine take_ (i := 1) (N := some 29) (v := ?_) (a' := ?_) #[false,true,false,false,false,false,false,false,false,false,false,false,false,false,false] rfl rfl (take_ofW HT_.out HW_.out (by kernel_rfl)) (fun _ _ _ h => h) (Or.inl ⟨by rfl, ?_⟩) hHeld ?_ ?_
    rotate_left
    · rintro w' ⟨s0, s1, s2, s3, s4, s5⟩
      go_simp
      with_reducible rfl
    rotate_left; (simp only [Act.put, List.setIfInBounds_toArray, List.set_cons_zero, List.set_cons_succ, i64_w, i32_w]; rfl)
    refine one_ (i := 0) (N := some 28) #[true,true,false,false,false,false,false,false,false,false,false,false,false,false,false] rfl rfl (one_of HT_.out (by kernel_rfl)) (by decide) (fun K hK => ?_)
    refine goes_ Try.func25 (by kernel_rfl) rfl #[.pointer (some ⟨gb323, 0, none⟩)] (by rfl) rfl rfl (by (try simp only [List.map_toArray, List.map_cons, List.map_nil]); first | done | rfl | (simp only [List.length_drop, List.length_take]; rfl) | (simp only [Act.eval, Array.getD_eq_getD_getElem?, Option.getD_some, *]; done) | (simp only [Array.mk.injEq, List.cons.injEq, Value.int.injEq, true_and, and_true]; first | omega | (simp [IntKind.wrap, IntKind.bits, IntKind.signed]; omega))) ?_
    with_reducible refine (codec_Out_Text.calls gb323 t326 t336 t337 w _ ?side1 ?side2 A26.out).mono ?_
    (case side1 => repeat (first | (with_reducible first | exact HI323.out | apply IsS50.alloc | apply IsS50.drewN | apply IsS50.drew | apply IsS50.set_0 | refine IsS50.farT (p := ⟨gb317, _, none⟩) (t2 := 29) ?_ ?_ (by decide) (by decide) _ | exact OutT.mk BK317.out | refine OutT.set ?_ _ _ _ | refine IsS50.farT (p := ⟨gb335, _, none⟩) (t2 := 29) ?_ ?_ (by decide) (by decide) _ | exact OutT.mk BK335.out | refine OutT.set ?_ _ _ _) | exact HI323.out))
    (case side2 => repeat (first | (with_reducible first | exact HB.out | apply below_alloc | apply pw_below_drewN | apply below_drew1 | refine below_set ?_ (IsS50.ge HI323.out) | refine below_set ?_ (IsS80.ge HI329.out) | refine below_set ?_ GE317.out | refine below_set ?_ GE335.out) | exact HB.out))
    rintro e w47 ⟨rfl, hi, hb, hk⟩
    refine ⟨_, rfl, ?_⟩
    have n0_ := Aside0.mk (KeepT.oblk (g := gb317) (o := .cells #[.int .i64 a0_0, .string t318, .int .i64 a0_2] 29 (0, 0)) (by (with_reducible repeat (first | refine blk_drewN ?_ _ | refine blk_drew ?_ | refine blk_alloc ?_ _)); exact BK317.out) hk (by intro _ _ _ h_; cases h_; decide))
    have n1_ := Aside0.mk ((show IsS80 w w47 g329 t333 t334 from ⟨KeepT.blk ((show IsS80 w _ g329 t333 t334 from by repeat (first | (with_reducible first | exact HI329.out | apply IsS80.alloc | apply IsS80.drewN | apply IsS80.drew | apply IsS80.set_0 | apply IsS80.set_1 | refine IsS80.far ?_ NB329_317.out _ | refine IsS80.far ?_ NB329_335.out _) | exact HI329.out))).1 hk (by decide), ((show IsS80 w _ g329 t333 t334 from by repeat (first | (with_reducible first | exact HI329.out | apply IsS80.alloc | apply IsS80.drewN | apply IsS80.drew | apply IsS80.set_0 | apply IsS80.set_1 | refine IsS80.far ?_ NB329_317.out _ | refine IsS80.far ?_ NB329_335.out _) | exact HI329.out))).2⟩))
    have n2_ := Aside0.mk (KeepT.oblk (g := gb335) (o := .cells #[.int .i64 t330, .string t331, .int .i64 t332] 29 (0, 0)) (by (with_reducible repeat (first | refine blk_drewN ?_ _ | refine blk_drew ?_ | refine blk_alloc ?_ _)); exact BK335.out) hk (by intro _ _ _ h_; cases h_; decide))
    have n3_ := Aside0.mk (hb)
    have n4_ := Aside0.mk (hi)
    clear BK317
    clear HI329
    clear BK335
    clear HB
    clear HI323
    have BK317 := n0_
    have HI329 := n1_
    have BK335 := n2_
    have HB := n3_
    have HI323 := n4_
    clear n0_ n1_ n2_ n3_ n4_
    (try clear hb)
    (try clear hb2)
    (try clear hk)
    (try clear hi)
    refine hK.out _ _ ⟨(blk_cell BK317.out 0).trans rfl, (blk_cell BK317.out 1).trans rfl, (blk_cell BK317.out 2).trans rfl, (blk_cell BK335.out 0).trans rfl, (blk_cell BK335.out 1).trans rfl, (blk_cell BK335.out 2).trans rfl⟩ (fun hHeld => ?_)
    clear hK K
    refine norm_ (a' := ?_) ?_ ?_
    rotate_left
    · show Act.put _ (some 28) _ = _
      simp only [Act.put, List.setIfInBounds_toArray, List.set_cons_zero, List.set_cons_succ, i64_w, i32_w]
      rfl
    refine one_ (i := 2) (N := some 30) #[true,true,true,false,false,false,false,false,false,false,false,false,false,false,false] rfl rfl (one_of HT_.out (by kernel_rfl)) (by decide) (fun K hK => ?_)
    refine goes_ Try.func33 (by kernel_rfl) rfl #[.agg #[.int .i64 a0_0, .string t318, .int .i64 a0_2]] (by rfl) rfl rfl (by (try simp only [List.map_toArray, List.map_cons, List.map_nil]); first | done | rfl | (simp only [List.length_drop, List.length_take]; rfl) | (simp only [Act.eval, Array.getD_eq_getD_getElem?, Option.getD_some, *]; done) | (simp only [Array.mk.injEq, List.cons.injEq, Value.int.injEq, true_and, and_true]; first | omega | (simp [IntKind.wrap, IntKind.bits, IntKind.signed]; omega))) ?_
    with_reducible refine (armoireref12_TextResult.calls kj2 a0_0 t318 a0_2 t338 _ A27.out).mono ?_
    rintro e w48 ⟨rfl, hb⟩
    refine ⟨_, rfl, ?_⟩
    have n0_ := Aside0.mk (blk_below (g := gb317) (o := .cells #[.int .i64 a0_0, .string t318, .int .i64 a0_2] 29 (0, 0)) (by (with_reducible repeat (first | refine blk_drewN ?_ _ | refine blk_drew ?_ | refine blk_alloc ?_ _)); exact BK317.out) hb)
    have n1_ := Aside0.mk (IsS50.below (by repeat (first | (with_reducible first | exact HI323.out | apply IsS50.alloc | apply IsS50.drewN | apply IsS50.drew | apply IsS50.set_0 | refine IsS50.farT (p := ⟨gb317, _, none⟩) (t2 := 29) ?_ ?_ (by decide) (by decide) _ | exact OutT.mk BK317.out | refine OutT.set ?_ _ _ _ | refine IsS50.farT (p := ⟨gb335, _, none⟩) (t2 := 29) ?_ ?_ (by decide) (by decide) _ | exact OutT.mk BK335.out | refine OutT.set ?_ _ _ _) | exact HI323.out)) hb)
    have n2_ := Aside0.mk (IsS80.below (by repeat (first | (with_reducible first | exact HI329.out | apply IsS80.alloc | apply IsS80.drewN | apply IsS80.drew | apply IsS80.set_0 | apply IsS80.set_1 | refine IsS80.far ?_ NB329_317.out _ | refine IsS80.far ?_ NB329_335.out _) | exact HI329.out)) hb)
    have n3_ := Aside0.mk (blk_below (g := gb335) (o := .cells #[.int .i64 t330, .string t331, .int .i64 t332] 29 (0, 0)) (by (with_reducible repeat (first | refine blk_drewN ?_ _ | refine blk_drew ?_ | refine blk_alloc ?_ _)); exact BK335.out) hb)
    have n4_ := Aside0.mk (below_step (by repeat (first | (with_reducible first | exact HB.out | apply below_alloc | apply pw_below_drewN | apply below_drew1 | refine below_set ?_ (IsS50.ge HI323.out) | refine below_set ?_ (IsS80.ge HI329.out) | refine below_set ?_ GE317.out | refine below_set ?_ GE335.out) | exact HB.out)) hb)
    clear BK317
    clear HI323
    clear HI329
    clear BK335
    clear HB
    have BK317 := n0_
    have HI323 := n1_
    have HI329 := n2_
    have BK335 := n3_
    have HB := n4_
    clear n0_ n1_ n2_ n3_ n4_
    (try clear hb)
    (try clear hb2)
    (try clear hk)
    (try clear hi)
    refine hK.out _ _ ⟨(blk_cell BK317.out 0).trans rfl, (blk_cell BK317.out 1).trans rfl, (blk_cell BK317.out 2).trans rfl, (blk_cell BK335.out 0).trans rfl, (blk_cell BK335.out 1).trans rfl, (blk_cell BK335.out 2).trans rfl⟩ (fun hHeld => ?_)
    clear hK K
    refine norm_ (a' := ?_) ?_ ?_
    rotate_left
    · show Act.put _ (some 30) _ = _
      simp only [Act.put, List.setIfInBounds_toArray, List.set_cons_zero, List.set_cons_succ, i64_w, i32_w]
      rfl
    refine pure_ (i := 3) (N := some 31) (v := ?_) (a' := ?_) (bA 15 15) rfl rfl (any_of HT_.out (by kernel_rfl)) (fun _ _ _ h => h) (Or.inl ⟨by rfl, ?_⟩) ?_ ?_
    rotate_left; (intro w'; go_simp; with_reducible rfl); rotate_left; (simp only [Act.put, List.setIfInBounds_toArray, List.set_cons_zero, List.set_cons_succ, i64_w, i32_w]; rfl)
    refine pure_ (i := 4) (N := some 32) (v := ?_) (a' := ?_) (bA 15 31) rfl rfl (any_of HT_.out (by kernel_rfl)) (fun _ _ _ h => h) (Or.inl ⟨by rfl, ?_⟩) ?_ ?_
    rotate_left; (intro w'; go_simp; with_reducible rfl); rotate_left; (simp only [Act.put, List.setIfInBounds_toArray, List.set_cons_zero, List.set_cons_succ, i64_w, i32_w]; rfl)
    refine take_ (i := 5) (N := some 33) (v := ?_) (a' := ?_) #[true,true,true,true,true,true,false,false,false,false,false,false,false,false,false] rfl rfl (take_ofW HT_.out HW_.out (by kernel_rfl)) (fun _ _ _ h => h) (Or.inl ⟨by rfl, ?_⟩) hHeld ?_ ?_
    rotate_left
    · rintro w' ⟨s0, s1, s2, s3, s4, s5⟩
      go_simp
      with_reducible rfl
    rotate_left; (simp only [Act.put, List.setIfInBounds_toArray, List.set_cons_zero, List.set_cons_succ, i64_w, i32_w]; rfl)
    refine take_ (i := 6) (N := some 34) (v := ?_) (a' := ?_) #[true,true,true,true,true,true,true,false,false,false,false,false,false,false,false] rfl rfl (take_ofW HT_.out HW_.out (by kernel_rfl)) (fun _ _ _ h => h) (Or.inl ⟨by rfl, ?_⟩) hHeld ?_ ?_
    rotate_left
    · rintro w' ⟨s0, s1, s2, s3, s4, s5⟩
      go_simp
      with_reducible rfl
    rotate_left; (simp only [Act.put, List.setIfInBounds_toArray, List.set_cons_zero, List.set_cons_succ, i64_w, i32_w]; rfl)
    refine pure_ (i := 7) (N := some 35) (v := ?_) (a' := ?_) (bA 15 255) rfl rfl (any_of HT_.out (by kernel_rfl)) (fun _ _ _ h => h) (Or.inl ⟨by rfl, ?_⟩) ?_ ?_
    rotate_left; (intro w'; go_simp; with_reducible rfl); rotate_left; (simp only [Act.put, List.setIfInBounds_toArray, List.set_cons_zero, List.set_cons_succ, i64_w, i32_w]; rfl)
    refine pure_ (i := 8) (N := some 36) (v := ?_) (a' := ?_) (bA 15 511) rfl rfl (any_of HT_.out (by kernel_rfl)) (fun _ _ _ h => h) (Or.inl ⟨by rfl, ?_⟩) ?_ ?_
    rotate_left; (intro w'; go_simp; with_reducible rfl); rotate_left; (simp only [Act.put, List.setIfInBounds_toArray, List.set_cons_zero, List.set_cons_succ, i64_w, i32_w]; rfl)
    refine pure_ (i := 9) (N := some 37) (v := ?_) (a' := ?_) (bA 15 1023) rfl rfl (any_of HT_.out (by kernel_rfl)) (fun _ _ _ h => h) (Or.inl ⟨by rfl, ?_⟩) ?_ ?_
    rotate_left; (intro w'; go_simp; with_reducible rfl); rotate_left; (simp only [Act.put, List.setIfInBounds_toArray, List.set_cons_zero, List.set_cons_succ, i64_w, i32_w]; rfl)
    refine pure_ (i := 10) (N := some 38) (v := ?_) (a' := ?_) (bA 15 2047) rfl rfl (any_of HT_.out (by kernel_rfl)) (fun _ _ _ h => h) (Or.inl ⟨by rfl, ?_⟩) ?_ ?_
    rotate_left; (intro w'; go_simp; with_reducible rfl); rotate_left; (simp only [Act.put, List.setIfInBounds_toArray, List.set_cons_zero, List.set_cons_succ, i64_w, i32_w]; rfl)
    refine one_ (i := 11) (N := some 39) #[true,true,true,true,true,true,true,true,true,true,true,true,false,false,false] rfl rfl (one_of HT_.out (by kernel_rfl)) (by decide) (fun K hK => ?_)
    refine goes_ Try.func28 (by kernel_rfl) rfl #[.pointer (some ⟨g329, 0, none⟩)] (by rfl) rfl rfl (by (try simp only [List.map_toArray, List.map_cons, List.map_nil]); first | done | rfl | (simp only [List.length_drop, List.length_take]; rfl) | (simp only [Act.eval, Array.getD_eq_getD_getElem?, Option.getD_some, *]; done) | (simp only [Array.mk.injEq, List.cons.injEq, Value.int.injEq, true_and, and_true]; first | omega | (simp [IntKind.wrap, IntKind.bits, IntKind.signed]; omega))) ?_
    with_reducible refine (codec_In_End.calls g329 t333 t334 t339 t340 t341 w _ ?side1 ?side2 A30.out).mono ?_
    (case side1 => repeat (first | (with_reducible first | exact HI329.out | apply IsS80.alloc | apply IsS80.drewN | apply IsS80.drew | apply IsS80.set_0 | apply IsS80.set_1 | refine IsS80.far ?_ NB329_317.out _ | refine IsS80.far ?_ NB329_335.out _) | exact HI329.out))
    (case side2 => repeat (first | (with_reducible first | exact HB.out | apply below_alloc | apply pw_below_drewN | apply below_drew1 | refine below_set ?_ (IsS50.ge HI323.out) | refine below_set ?_ (IsS80.ge HI329.out) | refine below_set ?_ GE317.out | refine below_set ?_ GE335.out) | exact HB.out))
    rintro e w49 ⟨rfl, hi, hb, hk⟩
    refine ⟨_, rfl, ?_⟩
    have n0_ := Aside0.mk (KeepBut.blk hk (g' := gb317) (o := .cells #[.int .i64 a0_0, .string t318, .int .i64 a0_2] 29 (0, 0)) (by (with_reducible repeat (first | refine blk_drewN ?_ _ | refine blk_drew ?_ | refine blk_alloc ?_ _)); exact BK317.out) NB317_329.out (by simp))
    have n1_ := Aside0.mk (IsS50.keepB (show IsS50 w _ gb323 t337 from by repeat (first | (with_reducible first | exact HI323.out | apply IsS50.alloc | apply IsS50.drewN | apply IsS50.drew | apply IsS50.set_0 | refine IsS50.farT (p := ⟨gb317, _, none⟩) (t2 := 29) ?_ ?_ (by decide) (by decide) _ | exact OutT.mk BK317.out | refine OutT.set ?_ _ _ _ | refine IsS50.farT (p := ⟨gb335, _, none⟩) (t2 := 29) ?_ ?_ (by decide) (by decide) _ | exact OutT.mk BK335.out | refine OutT.set ?_ _ _ _) | exact HI323.out)) hk ((show IsS80 w _ g329 t333 t334 from by repeat (first | (with_reducible first | exact HI329.out | apply IsS80.alloc | apply IsS80.drewN | apply IsS80.drew | apply IsS80.set_0 | apply IsS80.set_1 | refine IsS80.far ?_ NB329_317.out _ | refine IsS80.far ?_ NB329_335.out _) | exact HI329.out))).1 (by decide) (by decide))
    have n2_ := Aside0.mk (KeepBut.blk hk (g' := gb335) (o := .cells #[.int .i64 t330, .string t331, .int .i64 t332] 29 (0, 0)) (by (with_reducible repeat (first | refine blk_drewN ?_ _ | refine blk_drew ?_ | refine blk_alloc ?_ _)); exact BK335.out) NB335_329.out (by simp))
    have n3_ := Aside0.mk (hb)
    have n4_ := Aside0.mk (hi)
    clear BK317
    clear HI323
    clear BK335
    clear HB
    clear HI329
    have BK317 := n0_
    have HI323 := n1_
    have BK335 := n2_
    have HB := n3_
    have HI329 := n4_
    clear n0_ n1_ n2_ n3_ n4_
    (try clear hb)
    (try clear hb2)
    (try clear hk)
    (try clear hi)
    refine hK.out _ _ ⟨(blk_cell BK317.out 0).trans rfl, (blk_cell BK317.out 1).trans rfl, (blk_cell BK317.out 2).trans rfl, (blk_cell BK335.out 0).trans rfl, (blk_cell BK335.out 1).trans rfl, (blk_cell BK335.out 2).trans rfl⟩ (fun hHeld => ?_)
    clear hK K
    refine norm_ (a' := ?_) ?_ ?_
    rotate_left
    · show Act.put _ (some 39) _ = _
      simp only [Act.put, List.setIfInBounds_toArray, List.set_cons_zero, List.set_cons_succ, i64_w, i32_w]
      rfl
    refine pure_ (i := 12) (N := some 40) (v := ?_) (a' := ?_) (bA 15 8191) rfl rfl (any_of HT_.out (by kernel_rfl)) (fun _ _ _ h => h) (Or.inl ⟨by rfl, ?_⟩) ?_ ?_
    rotate_left; (intro w'; go_simp; with_reducible rfl); rotate_left; (simp only [Act.put, List.setIfInBounds_toArray, List.set_cons_zero, List.set_cons_succ, i64_w, i32_w]; rfl)
    refine pure_ (i := 13) (N := some 41) (v := ?_) (a' := ?_) (bA 15 16383) rfl rfl (any_of HT_.out (by kernel_rfl)) (fun _ _ _ h => h) (Or.inl ⟨by rfl, ?_⟩) ?_ ?_
    rotate_left; (intro w'; go_simp; with_reducible rfl); rotate_left; (simp only [Act.put, List.setIfInBounds_toArray, List.set_cons_zero, List.set_cons_succ, i64_w, i32_w]; rfl)
    refine pure_ (i := 14) (N := some 2) (v := ?_) (a' := ?_) (bA 15 32767) rfl rfl (any_of HT_.out (by kernel_rfl)) (fun _ _ _ h => h) (Or.inl ⟨by rfl, ?_⟩) ?_ ?_
    rotate_left; (intro w'; go_simp; with_reducible rfl); rotate_left; (simp only [Act.put, List.setIfInBounds_toArray, List.set_cons_zero, List.set_cons_succ, i64_w, i32_w]; rfl)
    refine done_ (done_of HT_.out (by kernel_rfl)) ?_
    try go_wp2
    go_ret
    exact ⟨by first | rfl | (simp [errW_none, errW_some] <;> rfl) | (simp [*, errW_none, errW_some] <;> rfl), by repeat (first | (with_reducible first | exact HB.out | apply below_alloc | apply pw_below_drewN | apply below_drew1 | refine below_set ?_ (IsS50.ge HI323.out) | refine below_set ?_ (IsS80.ge HI329.out) | refine below_set ?_ GE317.out | refine below_set ?_ GE335.out) | exact HB.out)⟩
def armoirelaw12_MethodResults.Pure : Prop := ∀ (a0_0 : Int) (a0_1 : ByteArray) (a0_2 : Int), ((Lit.int .i64 a0_0).wf = true ∧ a0_1.size ≤ maxLen ∧ (Lit.int .i64 a0_2).wf = true) → ∃ k, armoirelaw12_MethodResults.f k a0_0 a0_1 a0_2 = some true
theorem armoirelaw12_MethodResults.walk (P : armoirelaw12_MethodResults.Pure) (a0_0 : Int) (a0_1 : ByteArray) (a0_2 : Int) (w : World) (w0 : ((Lit.int .i64 a0_0).wf = true ∧ a0_1.size ≤ maxLen ∧ (Lit.int .i64 a0_2).wf = true)) :
    Calls Try.prog 5 #[.agg #[.int .i64 a0_0, .string a0_1, .int .i64 a0_2]] w fun e w' => e = .returned (.bool true) ∧ Below w.heap.size w w' := by
  obtain ⟨k, h⟩ := P a0_0 a0_1 a0_2 w0
  refine (armoirelaw12_MethodResults.calls k a0_0 a0_1 a0_2 true w h).mono ?_
  rintro e w' ⟨rfl, hd⟩
  exact ⟨rfl, hd⟩
end Go.Proofs.Ytkoojbkkkpljoaa.PA

