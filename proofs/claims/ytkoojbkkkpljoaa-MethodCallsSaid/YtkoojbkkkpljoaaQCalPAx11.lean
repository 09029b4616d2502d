import Derived.Test.YtkoojbkkkpljoaaQCalPAx0
import Derived.Test.YtkoojbkkkpljoaaQCalPAx1
import Derived.Test.YtkoojbkkkpljoaaQCalPAx6
import Derived.Test.YtkoojbkkkpljoaaQCalPAx7
import Derived.Test.YtkoojbkkkpljoaaQCalPAx8
import Derived.Test.YtkoojbkkkpljoaaQCalPAx9
import Derived.Test.YtkoojbkkkpljoaaQCalPAx10
namespace Go.Proofs.Ytkoojbkkkpljoaa.PA
open Go.Proofs.Ytkoojbkkkpljoaa.PL
open Go.RowKit Go.Proofs.YtkoojbkkkpljoaaW.PrintWords Go.Proofs.YtkoojbkkkpljoaaW.PrintLast Go.Proofs.YtkoojbkkkpljoaaW.PrintMore
attribute [local go_sem] max2_int min2_int max_two min_two max_three min_three max_four min_four
set_option linter.unusedVariables false
set_option linter.unusedSimpArgs false
attribute [local go_sem high] eqA27
mutual
def armoirelaw12_MethodCalls.j0 : Nat → Bool → Int → ByteArray → ByteArray → Int → Option (Bool)
  | 0, _, _, _, _, _ => none
  | k + 1, x1, x232000, x232001, x232002, x232003 => (armoirelaw12_awake.f k).bind fun t242 => (if t242 = true then ((method_Call_Check.f k x232000 x232001 x232002 x232003).bind fun t243 => ((armoirelaw12_Told.f x232000 x232001 x232002 x232003).bind fun bt244 => ((armoireref12_Check.f k bt244.1 bt244.2.1 bt244.2.2.1 bt244.2.2.2).bind fun t248 => (if t243 = t248 then (if x1 = true then ((method_Call_Check.f k x232000 x232001 x232002 x232003).bind fun t249 => (armoirelaw12_MethodCalls.j1 k (t249 != 0) x232000 x232001 x232002 x232003)) else (armoirelaw12_MethodCalls.j1 k false x232000 x232001 x232002 x232003)) else (armoirelaw12_MethodCalls.j1 k true x232000 x232001 x232002 x232003))))) else (armoirelaw12_MethodCalls.j1 k true x232000 x232001 x232002 x232003))
def armoirelaw12_MethodCalls.j1 : Nat → Bool → Int → ByteArray → ByteArray → Int → Option (Bool)
  | 0, _, _, _, _, _ => none
  | k + 1, x37, x232000, x232001, x232002, x232003 => if x37 = true then (some false) else ((method_Call_Check.f k x232000 x232001 x232002 x232003).bind fun t250 => (if t250 = 0 then ((method_Call_Put.f x232000 x232001 x232002 x232003 (⟨#[]⟩ : ByteArray)).bind fun t252 => ((codec_Out_Text.f t252).bind fun bt253 => ((codec_Read.f bt253.1).bind fun bt255 => ((method_ReadCall.f k bt255.1 bt255.2).bind fun bt258 => ((codec_Out_Text.f bt253.2).bind fun bt265 => ((armoirelaw12_Told.f x232000 x232001 x232002 x232003).bind fun bt267 => ((armoireref12_Text.f k bt267.1 bt267.2.1 bt267.2.2.1 bt267.2.2.2).bind fun t271 => (if bt265.1.toList = t271.toList then (if (bt258.1 == x232000 && (bt258.2.1.toList == x232001.toList && (bt258.2.2.1.toList == x232002.toList && (bt258.2.2.2.1 == x232003)))) = true then ((codec_In_End.f bt258.2.2.2.2.1 bt258.2.2.2.2.2).bind fun bt272 => (some (bt272.1 == 0))) else (some false)) else (some false))))))))) else (some true)))
end
def armoirelaw12_MethodCalls.f (k : Nat) (a0_0 : Int) (a0_1 : ByteArray) (a0_2 : ByteArray) (a0_3 : Int) (a1 : Bool) : Option (Bool) := (armoirelaw01_Cut.f a0_1 28).bind fun t232 => ((armoirelaw01_Cut.f a0_2 28).bind fun t233 => (if a1 = true then ((armoirelaw12_Tidy.f k a0_0 t232 t233 a0_3).bind fun bt234 => ((armoirelaw12_Own.f bt234.1 bt234.2.1 bt234.2.2.1 bt234.2.2.2).bind fun bt238 => (armoirelaw12_MethodCalls.j0 k a1 bt238.1 bt238.2.1 bt238.2.2.1 bt238.2.2.2))) else (armoirelaw12_MethodCalls.j0 k a1 a0_0 t232 t233 a0_3)))
def armoirelaw12_MethodCalls.T1 : Bool × List (List Nat × List Nat) := (true, [([], []), ([0], [0]), ([1], [1]), ([], []), ([3], [3]), ([4, 2], [4]), ([0, 1, 2, 3, 4], []), ([6, 2, 5, 0, 1, 2, 3, 4], [2, 6]), ([0, 1, 2, 3, 4, 5, 6, 7], []), ([8, 5, 7, 0, 1, 2, 3, 4, 5, 6, 7], [5, 8])])
def armoirelaw12_MethodCalls.B1 : List Nat := [0, 1, 3, 0, 8, 31, 31, 127, 255, 511]
theorem armoirelaw12_MethodCalls.tab1 : rtab .any (opsOf Try.f4 1) = armoirelaw12_MethodCalls.T1 := by kernel_rfl
theorem armoirelaw12_MethodCalls.bits1 : waitsOk armoirelaw12_MethodCalls.T1.2 armoirelaw12_MethodCalls.B1 = true := by kernel_rfl
def armoirelaw12_MethodCalls.T4 : Bool × List (List Nat × List Nat) := (true, [([], []), ([0], [0]), ([1, 0], [1]), ([2], [2]), ([3, 2, 2], [2, 3]), ([2], [2]), ([5, 4, 2], [2, 5]), ([6, 6, 2], [2, 6]), ([4, 7, 2], [2, 4, 7]), ([2, 8], [2, 8]), ([9, 7], [9]), ([10], [10]), ([11, 10, 10], [10, 11]), ([12], [12]), ([13, 12, 12], [12, 13]), ([14, 12], [12, 14]), ([12, 15, 10], [10, 12, 15]), ([10, 16], [10, 16])])
def armoirelaw12_MethodCalls.B4 : List Nat := [0, 1, 3, 7, 15, 7, 63, 127, 255, 511, 1023, 2047, 4095, 8191, 16383, 32767, 65535, 131071]
theorem armoirelaw12_MethodCalls.tab4 : rtab .any (opsOf Try.f4 4) = armoirelaw12_MethodCalls.T4 := by kernel_rfl
theorem armoirelaw12_MethodCalls.bits4 : waitsOk armoirelaw12_MethodCalls.T4.2 armoirelaw12_MethodCalls.B4 = true := by kernel_rfl
def armoirelaw12_MethodCalls.T12 : Bool × List (List Nat × List Nat) := (true, [([], []), ([], []), ([1, 0], [1]), ([2, 2], [2]), ([0, 3], [0, 3]), ([4, 3], [4]), ([5], [5]), ([5], [5]), ([6, 7, 5], [5, 6, 7]), ([5, 8], [5, 8]), ([9, 5], [9]), ([10], [10]), ([11, 10, 10], [10, 11]), ([12, 10], [10, 12]), ([10, 13], [10, 13]), ([14, 12, 0, 1, 2, 3, 4, 5, 6, 7, 8, 9, 10, 11, 12, 13, 14], [14])])
def armoirelaw12_MethodCalls.B12 : List Nat := [0, 0, 3, 7, 15, 31, 63, 63, 255, 511, 1023, 2047, 4095, 8191, 16383, 32767]
theorem armoirelaw12_MethodCalls.tab12 : rtab .any (opsOf Try.f4 12) = armoirelaw12_MethodCalls.T12 := by kernel_rfl
theorem armoirelaw12_MethodCalls.bits12 : waitsOk armoirelaw12_MethodCalls.T12.2 armoirelaw12_MethodCalls.B12 = true := by kernel_rfl
set_option maxHeartbeats 2000000 in
set_option maxRecDepth 100000 in
theorem armoirelaw12_MethodCalls.calls (k : Nat) (a0_0 : Int) (a0_1 : ByteArray) (a0_2 : ByteArray) (a0_3 : Int) (a1 : Bool) (r : Bool) (w : World) (h : armoirelaw12_MethodCalls.f k a0_0 a0_1 a0_2 a0_3 a1 = some r) :
    Calls Try.prog 4 #[.agg #[.int .i64 a0_0, .string a0_1, .string a0_2, .int .i64 a0_3], .bool a1] w fun e w' => e = .returned (.bool r) ∧ Below w.heap.size w w' := by
  have hu27 := Try.underlying27
  have hu50 := Try.underlying50
  have HB := Aside0.mk (Below.refl w.heap.size w)
  have H : ((armoirelaw01_Cut.f a0_1 28).bind fun t232 => ((armoirelaw01_Cut.f a0_2 28).bind fun t233 => (if a1 = true then ((armoirelaw12_Tidy.f k a0_0 t232 t233 a0_3).bind fun bt234 => ((armoirelaw12_Own.f bt234.1 bt234.2.1 bt234.2.2.1 bt234.2.2.2).bind fun bt238 => (armoirelaw12_MethodCalls.j0 k a1 bt238.1 bt238.2.1 bt238.2.2.1 bt238.2.2.2))) else (armoirelaw12_MethodCalls.j0 k a1 a0_0 t232 t233 a0_3)))) = some r := h
  clear h
  replace H := Option.bind_eq_some_iff.mp H
  obtain ⟨t232, A30, H⟩ := H
  replace H : ((armoirelaw01_Cut.f a0_2 28).bind fun t233 => (if a1 = true then ((armoirelaw12_Tidy.f k a0_0 t232 t233 a0_3).bind fun bt234 => ((armoirelaw12_Own.f bt234.1 bt234.2.1 bt234.2.2.1 bt234.2.2.2).bind fun bt238 => (armoirelaw12_MethodCalls.j0 k a1 bt238.1 bt238.2.1 bt238.2.2.1 bt238.2.2.2))) else (armoirelaw12_MethodCalls.j0 k a1 a0_0 t232 t233 a0_3))) = some r := H
  have A3 := Aside0.mk A30
  clear A30
  replace H := Option.bind_eq_some_iff.mp H
  obtain ⟨t233, A40, H⟩ := H
  replace H : (if a1 = true then ((armoirelaw12_Tidy.f k a0_0 t232 t233 a0_3).bind fun bt234 => ((armoirelaw12_Own.f bt234.1 bt234.2.1 bt234.2.2.1 bt234.2.2.2).bind fun bt238 => (armoirelaw12_MethodCalls.j0 k a1 bt238.1 bt238.2.1 bt238.2.2.1 bt238.2.2.2))) else (armoirelaw12_MethodCalls.j0 k a1 a0_0 t232 t233 a0_3)) = some r := H
  have A4 := Aside0.mk A40
  clear A40
  have HC5 := Aside0.mk H
  clear H
  go_enter Try.func4, Try.ntmps4
  try go_wp2_with (first | ((with_reducible refine gate_dst (N := 2) rfl ?_); refine box_event ?hg (N := 2) ?hd (cs := #[.int .i64 a0_0, .string a0_1, .string a0_2, .int .i64 a0_3]) (t := 27) ?hr ?_; (case hd => rfl); (case hg => rfl); (case hr => first | (go_simp; done) | (go_simp; rfl)); intro gb231 hg w6 hbox hb; have n0_ := Aside0.mk (below_step (by repeat (first | (with_reducible first | exact HB.out | apply below_alloc | apply pw_below_drewN | apply below_drew1) | exact HB.out)) hb); have n1_ := Aside0.mk (hbox); have n2_ := Aside0.mk ((by rw [hg]; exact (below_size (by repeat (first | (with_reducible first | exact HB.out | apply below_alloc | apply pw_below_drewN | apply below_drew1) | exact HB.out))) : w.heap.size ≤ gb231)); have n3_ := Aside0.mk ((by rw [hg]; exact (below_size (by repeat (first | (with_reducible first | exact HB.out | apply below_alloc | apply pw_below_drewN | apply below_drew1) | exact HB.out))) : w.heap.size ≤ gb231)); clear HB; have HB := n0_; have BK231 := n1_; have GW231 := n2_; have GE231 := n3_; clear n0_ n1_ n2_ n3_; clear hb hbox hg))
  have n0_ := Aside0.mk (blk_drew BK231.out)
  have n1_ := Aside0.mk (below_drew1 HB.out)
  clear BK231
  clear HB
  have BK231 := n0_
  have HB := n1_
  clear n0_ n1_
  refine start_ (n := 10) (S := fun w' => w'.cell? ⟨gb231, 0, none⟩ = some (.int .i64 a0_0) ∧ w'.cell? ⟨gb231, 1, none⟩ = some (.string a0_1) ∧ w'.cell? ⟨gb231, 2, none⟩ = some (.string a0_2) ∧ w'.cell? ⟨gb231, 3, none⟩ = some (.int .i64 a0_3)) (ds := [7, 9]) #[false,false,false,false,false,false,false,false,false,false] (by kernel_rfl) rfl rfl ⟨(blk_cell BK231.out 0).trans rfl, (blk_cell BK231.out 1).trans rfl, (blk_cell BK231.out 2).trans rfl, (blk_cell BK231.out 3).trans rfl⟩ (fun hHeld => ?_); refine with_tabW armoirelaw12_MethodCalls.tab1 armoirelaw12_MethodCalls.bits1 (fun HT_ HW_ => ?_)
  generalize w6.drew = w7 at BK231 HB hHeld ⊢
  refine pure_ (i := 0) (N := some 8) (v := ?_) (a' := ?_) (bA 10 1) rfl rfl (any_of HT_.out (by kernel_rfl)) (fun _ _ _ h => h) (Or.inl ⟨by rfl, ?_⟩) ?_ ?_
  rotate_left; (intro w'; go_simp; with_reducible rfl); rotate_left; (simp only [Act.put, List.setIfInBounds_toArray, List.set_cons_zero, List.set_cons_succ, i64_w, i32_w]; rfl)
  refine pure_ (i := 3) (N := some 11) (v := ?_) (a' := ?_) (bA 10 9) rfl rfl (any_of HT_.out (by kernel_rfl)) (fun _ _ _ h => h) (Or.inl ⟨by rfl, ?_⟩) ?_ ?_
  rotate_left; (intro w'; go_simp; with_reducible rfl); rotate_left; (simp only [Act.put, List.setIfInBounds_toArray, List.set_cons_zero, List.set_cons_succ, i64_w, i32_w]; rfl)
  refine take_ (i := 1) (N := some 9) (v := ?_) (a' := ?_) #[true,true,false,true,false,false,false,false,false,false] rfl rfl (take_ofW HT_.out HW_.out (by kernel_rfl)) (fun _ _ _ h => h) (Or.inl ⟨by rfl, ?_⟩) hHeld ?_ ?_
  rotate_left
  · rintro w' ⟨s0, s1, s2, s3⟩
    go_simp
    with_reducible rfl
  rotate_left; (simp only [Act.put, List.setIfInBounds_toArray, List.set_cons_zero, List.set_cons_succ, i64_w, i32_w]; rfl)
  refine take_ (i := 4) (N := some 12) (v := ?_) (a' := ?_) #[true,true,false,true,true,false,false,false,false,false] rfl rfl (take_ofW HT_.out HW_.out (by kernel_rfl)) (fun _ _ _ h => h) (Or.inl ⟨by rfl, ?_⟩) hHeld ?_ ?_
  rotate_left
  · rintro w' ⟨s0, s1, s2, s3⟩
    go_simp
    with_reducible rfl
  rotate_left; (simp only [Act.put, List.setIfInBounds_toArray, List.set_cons_zero, List.set_cons_succ, i64_w, i32_w]; rfl)
  refine one_ (i := 2) (N := some 10) #[true,true,true,true,true,false,false,false,false,false] rfl rfl (one_of HT_.out (by kernel_rfl)) (by decide) (fun K hK => ?_)
  refine goes_ Try.func18 (by kernel_rfl) rfl #[.string a0_1, .int .i64 28] (by rfl) rfl rfl (by (try simp only [List.map_toArray, List.map_cons, List.map_nil]); first | done | rfl | (simp only [List.length_drop, List.length_take]; rfl) | (simp only [Act.eval, Array.getD_eq_getD_getElem?, Option.getD_some, *]; done) | (simp only [Array.mk.injEq, List.cons.injEq, Value.int.injEq, true_and, and_true]; first | omega | (simp [IntKind.wrap, IntKind.bits, IntKind.signed]; omega))) ?_
  with_reducible refine (armoirelaw01_Cut.calls a0_1 28 t232 _ A3.out).mono ?_
  rintro e w' ⟨rfl, ⟨nd, rfl⟩⟩
  refine ⟨_, rfl, ?_⟩
  refine hK.out _ _ ⟨(blk_cell BK231.out 0).trans rfl, (blk_cell BK231.out 1).trans rfl, (blk_cell BK231.out 2).trans rfl, (blk_cell BK231.out 3).trans rfl⟩ (fun hHeld => ?_)
  clear hK K
  refine norm_ (a' := ?_) ?_ ?_
  rotate_left
  · show Act.put _ (some 10) _ = _
    simp only [Act.put, List.setIfInBounds_toArray, List.set_cons_zero, List.set_cons_succ, i64_w, i32_w]
    rfl
  refine pure_ (i := 6) (N := some 14) (v := ?_) (a' := ?_) (bA 10 95) rfl rfl (any_of HT_.out (by kernel_rfl)) (fun _ _ _ h => h) (Or.inl ⟨by rfl, ?_⟩) ?_ ?_
  rotate_left; (intro w'; go_simp; with_reducible rfl); rotate_left; (simp only [Act.put, List.setIfInBounds_toArray, List.set_cons_zero, List.set_cons_succ, i64_w, i32_w]; rfl)
  refine one_ (i := 5) (N := some 13) #[true,true,true,true,true,true,true,false,false,false] rfl rfl (one_of HT_.out (by kernel_rfl)) (by decide) (fun K hK => ?_)
  refine goes_ Try.func18 (by kernel_rfl) rfl #[.string a0_2, .int .i64 28] (by rfl) rfl rfl (by (try simp only [List.map_toArray, List.map_cons, List.map_nil]); first | done | rfl | (simp only [List.length_drop, List.length_take]; rfl) | (simp only [Act.eval, Array.getD_eq_getD_getElem?, Option.getD_some, *]; done) | (simp only [Array.mk.injEq, List.cons.injEq, Value.int.injEq, true_and, and_true]; first | omega | (simp [IntKind.wrap, IntKind.bits, IntKind.signed]; omega))) ?_
  with_reducible refine (armoirelaw01_Cut.calls a0_2 28 t233 _ A4.out).mono ?_
  rintro e w' ⟨rfl, ⟨nd, rfl⟩⟩
  refine ⟨_, rfl, ?_⟩
  refine hK.out _ _ ⟨(blk_cell BK231.out 0).trans rfl, (blk_cell BK231.out 1).trans rfl, (blk_cell BK231.out 2).trans rfl, (blk_cell BK231.out 3).trans rfl⟩ (fun hHeld => ?_)
  clear hK K
  refine norm_ (a' := ?_) ?_ ?_
  rotate_left
  · show Act.put _ (some 13) _ = _
    simp only [Act.put, List.setIfInBounds_toArray, List.set_cons_zero, List.set_cons_succ, i64_w, i32_w]
    rfl
  refine last_ (i := 7) (N := none) #[true,true,true,true,true,true,true,true,false,false] rfl rfl (one_of HT_.out (by kernel_rfl)) (by decide) (fun K hK => ?_)
  have hs8 : w7.cell? ⟨gb231, 1, none⟩ = some (.string a0_1) := (blk_cell BK231.out 1).trans rfl
  have hfs8 := blk_frozen BK231.out 1
  refine skip_ (w1 := ?_) (by rfl) rfl ?_ ?_
  rotate_left
  · go_simp
    rfl
  refine hK.out _ _ ?_
  clear hK K
  refine pure_ (i := 8) (N := some 15) (v := ?_) (a' := ?_) (bA 10 511) rfl rfl (any_of HT_.out (by kernel_rfl)) (fun _ _ _ h => h) (Or.inl ⟨by rfl, ?_⟩) ?_ ?_
  rotate_left; (intro w'; go_simp; with_reducible rfl); rotate_left; (simp only [Act.put, List.setIfInBounds_toArray, List.set_cons_zero, List.set_cons_succ, i64_w, i32_w]; rfl)
  refine last_ (i := 9) (N := none) #[true,true,true,true,true,true,true,true,true,true] rfl rfl (one_of HT_.out (by kernel_rfl)) (by decide) (fun K hK => ?_)
  have hs9 : w7.cell? ⟨gb231, 2, none⟩ = some (.string a0_2) := (blk_cell BK231.out 2).trans rfl
  have hfs9 := blk_frozen BK231.out 2
  refine skip_ (w1 := ?_) (by rfl) rfl ?_ ?_
  rotate_left
  · go_simp
    rfl
  refine hK.out _ _ ?_
  clear hK K
  refine done_ (done_of HT_.out (by kernel_rfl)) ?_
  go_upto_if 16 with (fail)
  go_cut [] (fun wc => ∃ (kq : Nat) (x232000_4 : Int) (x232001_4 : ByteArray) (x232002_4 : ByteArray) (x232003_4 : Int), Aside0 (armoirelaw12_MethodCalls.j0 kq a1 x232000_4 x232001_4 x232002_4 x232003_4 = some r) ∧ Aside0 (kq ≤ k) ∧ Aside0 (wc.heap[gb231]? = some (.cells #[.int .i64 x232000_4, .string x232001_4, .string x232002_4, .int .i64 x232003_4] 27 (0, 0))) ∧ Aside0 (Below w.heap.size w wc))
  case first =>
    have H := HC5.out
    clear HC5
    by_cases c10 : a1 = true
    rotate_left
    · replace c10 := Bool.eq_false_iff.mpr c10
      subst c10
      have H1 : (armoirelaw12_MethodCalls.j0 k false a0_0 t232 t233 a0_3) = some r := by rw [if_neg (show ¬ (false = true) by decide)] at H; exact H
      clear H
      have H := H1
      clear H1
      have H' := Aside0.mk H
      clear H
      go_wp2
      go_meet
      case rel => exact ⟨_, (a0_0), (t232), (t233), (a0_3), H', ⟨by first | omega | exact Nat.le_refl _⟩, ⟨by (with_reducible repeat (first | refine blk_drewN ?_ _ | refine blk_drew ?_ | refine blk_alloc ?_ _)); refine blk_put (cs := #[.int .i64 a0_0, .string t232, .string a0_2, .int .i64 a0_3]) ?_ 2 _ rfl; (with_reducible repeat (first | refine blk_drewN ?_ _ | refine blk_drew ?_ | refine blk_alloc ?_ _)); refine blk_put (cs := #[.int .i64 a0_0, .string a0_1, .string a0_2, .int .i64 a0_3]) ?_ 1 _ rfl; (with_reducible repeat (first | refine blk_drewN ?_ _ | refine blk_drew ?_ | refine blk_alloc ?_ _)); exact BK231.out⟩, ⟨by repeat (first | (with_reducible first | exact HB.out | apply below_alloc | apply pw_below_drewN | apply below_drew1 | refine below_set ?_ GE231.out) | exact HB.out)⟩⟩
    subst c10
    have H1 : ((armoirelaw12_Tidy.f k a0_0 t232 t233 a0_3).bind fun bt234 => ((armoirelaw12_Own.f bt234.1 bt234.2.1 bt234.2.2.1 bt234.2.2.2).bind fun bt238 => (armoirelaw12_MethodCalls.j0 k true bt238.1 bt238.2.1 bt238.2.2.1 bt238.2.2.2))) = some r := by rw [if_pos rfl] at H; exact H
    clear H
    have H := H1
    clear H1
    replace H := Option.bind_eq_some_iff.mp H
    obtain ⟨⟨t234, t235, t236, t237⟩, A110, H⟩ := H
    replace H : ((armoirelaw12_Own.f t234 t235 t236 t237).bind fun bt238 => (armoirelaw12_MethodCalls.j0 k true bt238.1 bt238.2.1 bt238.2.2.1 bt238.2.2.2)) = some r := H
    have A11 := Aside0.mk A110
    clear A110
    replace H := Option.bind_eq_some_iff.mp H
    obtain ⟨⟨t238, t239, t240, t241⟩, A120, H⟩ := H
    replace H : (armoirelaw12_MethodCalls.j0 k true t238 t239 t240 t241) = some r := H
    have A12 := Aside0.mk A120
    clear A120
    have H' := Aside0.mk H
    clear H
    have hcz13_0 : w7.cell? ⟨gb231, 0, none⟩ = some (.int .i64 a0_0) := (blk_cell BK231.out 0).trans rfl
    have hcz13_1 : w7.cell? ⟨gb231, 1, none⟩ = some (.string a0_1) := (blk_cell BK231.out 1).trans rfl
    have hcz13_2 : w7.cell? ⟨gb231, 2, none⟩ = some (.string a0_2) := (blk_cell BK231.out 2).trans rfl
    have hcz13_3 : w7.cell? ⟨gb231, 3, none⟩ = some (.int .i64 a0_3) := (blk_cell BK231.out 3).trans rfl
    have hfz13_0 := blk_frozen BK231.out 0
    have hfz13_1 := blk_frozen BK231.out 1
    have hfz13_2 := blk_frozen BK231.out 2
    have hfz13_3 := blk_frozen BK231.out 3
    go_wp2_with (first | ((with_reducible refine gate_callee (f := 20) rfl ?_); refine goesL_ (some 18) rfl rfl Try.func20 (by kernel_rfl) rfl #[.agg #[.int .i64 a0_0, .string t232, .string t233, .int .i64 a0_3]] rfl (by (try simp only [List.map_toArray, List.map_cons, List.map_nil]); first | done | rfl | (simp only [List.length_drop, List.length_take]; rfl)) ?_; (with_reducible refine (armoirelaw12_Tidy.calls k a0_0 t232 t233 a0_3 t234 t235 t236 t237 _ A11.out).mono ?_); rintro e w14 ⟨rfl, hb⟩; refine ⟨_, rfl, ?_⟩; have n0_ := Aside0.mk (blk_below (g := gb231) (o := .cells #[.int .i64 a0_0, .string t232, .string t233, .int .i64 a0_3] 27 (0, 0)) (by (with_reducible repeat (first | refine blk_drewN ?_ _ | refine blk_drew ?_ | refine blk_alloc ?_ _)); refine blk_put (cs := #[.int .i64 a0_0, .string t232, .string a0_2, .int .i64 a0_3]) ?_ 2 _ rfl; (with_reducible repeat (first | refine blk_drewN ?_ _ | refine blk_drew ?_ | refine blk_alloc ?_ _)); refine blk_put (cs := #[.int .i64 a0_0, .string a0_1, .string a0_2, .int .i64 a0_3]) ?_ 1 _ rfl; (with_reducible repeat (first | refine blk_drewN ?_ _ | refine blk_drew ?_ | refine blk_alloc ?_ _)); exact BK231.out) hb); have n1_ := Aside0.mk (below_step (by repeat (first | (with_reducible first | exact HB.out | apply below_alloc | apply pw_below_drewN | apply below_drew1 | refine below_set ?_ GE231.out) | exact HB.out)) hb); clear BK231; clear HB; have BK231 := n0_; have HB := n1_; clear n0_ n1_; (try clear hb); (try clear hb2); (try clear hk); (try clear hi)) | ((with_reducible refine gate_callee (f := 19) rfl ?_); refine goesL_ (some 19) rfl rfl Try.func19 (by kernel_rfl) rfl #[.agg #[.int .i64 t234, .string t235, .string t236, .int .i64 t237]] rfl (by (try simp only [List.map_toArray, List.map_cons, List.map_nil]); first | done | rfl | (simp only [List.length_drop, List.length_take]; rfl)) ?_; (with_reducible refine (armoirelaw12_Own.calls t234 t235 t236 t237 t238 t239 t240 t241 _ A12.out).mono ?_); rintro e w15 ⟨rfl, hb⟩; refine ⟨_, rfl, ?_⟩; have n0_ := Aside0.mk (blk_below (g := gb231) (o := .cells #[.int .i64 a0_0, .string t232, .string t233, .int .i64 a0_3] 27 (0, 0)) (by (with_reducible repeat (first | refine blk_drewN ?_ _ | refine blk_drew ?_ | refine blk_alloc ?_ _)); exact BK231.out) hb); have n1_ := Aside0.mk (below_step (by repeat (first | (with_reducible first | exact HB.out | apply below_alloc | apply pw_below_drewN | apply below_drew1 | refine below_set ?_ GE231.out) | exact HB.out)) hb); clear BK231; clear HB; have BK231 := n0_; have HB := n1_; clear n0_ n1_; (try clear hb); (try clear hb2); (try clear hk); (try clear hi); have hcz16_0 : w15.cell? ⟨gb231, 0, none⟩ = some (.int .i64 a0_0) := (blk_cell BK231.out 0).trans rfl; have hcz16_1 : w15.cell? ⟨gb231, 1, none⟩ = some (.string t232) := (blk_cell BK231.out 1).trans rfl; have hcz16_2 : w15.cell? ⟨gb231, 2, none⟩ = some (.string t233) := (blk_cell BK231.out 2).trans rfl; have hcz16_3 : w15.cell? ⟨gb231, 3, none⟩ = some (.int .i64 a0_3) := (blk_cell BK231.out 3).trans rfl; have hfz16_0 := blk_frozen BK231.out 0; have hfz16_1 := blk_frozen BK231.out 1; have hfz16_2 := blk_frozen BK231.out 2; have hfz16_3 := blk_frozen BK231.out 3))
    go_meet
    case rel => exact ⟨_, (t238), (t239), (t240), (t241), H', ⟨by first | omega | exact Nat.le_refl _⟩, ⟨by (with_reducible repeat (first | refine blk_drewN ?_ _ | refine blk_drew ?_ | refine blk_alloc ?_ _)); refine blk_put (cs := #[.int .i64 t238, .string t239, .string t240, .int .i64 a0_3]) ?_ 3 _ rfl; (with_reducible repeat (first | refine blk_drewN ?_ _ | refine blk_drew ?_ | refine blk_alloc ?_ _)); refine blk_put (cs := #[.int .i64 t238, .string t239, .string t233, .int .i64 a0_3]) ?_ 2 _ rfl; (with_reducible repeat (first | refine blk_drewN ?_ _ | refine blk_drew ?_ | refine blk_alloc ?_ _)); refine blk_put (cs := #[.int .i64 t238, .string t232, .string t233, .int .i64 a0_3]) ?_ 1 _ rfl; (with_reducible repeat (first | refine blk_drewN ?_ _ | refine blk_drew ?_ | refine blk_alloc ?_ _)); refine blk_put (cs := #[.int .i64 a0_0, .string t232, .string t233, .int .i64 a0_3]) ?_ 0 _ rfl; (with_reducible repeat (first | refine blk_drewN ?_ _ | refine blk_drew ?_ | refine blk_alloc ?_ _)); exact BK231.out⟩, ⟨by repeat (first | (with_reducible first | exact HB.out | apply below_alloc | apply pw_below_drewN | apply below_drew1 | refine below_set ?_ GE231.out) | exact HB.out)⟩⟩
  clear HC5
  try clear c1
  try clear c2
  try clear p2
  try clear c4
  try clear c10
  try clear hcz13_0
  try clear hcz13_1
  try clear hcz13_2
  try clear hcz13_3
  try clear hcz16_0
  try clear hcz16_1
  try clear hcz16_2
  try clear hcz16_3
  try clear hfz13_0
  try clear hfz13_1
  try clear hfz13_2
  try clear hfz13_3
  try clear hfz16_0
  try clear hfz16_1
  try clear hfz16_2
  try clear hfz16_3
  obtain ⟨kq, x232000_4, x232001_4, x232002_4, x232003_4, HA, HJ4, BK231, HB⟩ := hcut
  cases kq with
  | zero => exact absurd HA.out (by simp [armoirelaw12_MethodCalls.j0])
  | succ kj4 =>
    have H := HA.out
    clear HA
    simp only [armoirelaw12_MethodCalls.j0] at H
    have HC17 := Aside0.mk H
    clear H
    go_upto_region 4 with (fail)
    go_cut [37] (fun v37 wc => ∃ (kq : Nat) (x37_16 : Bool), v37 = .bool x37_16 ∧ Aside0 (armoirelaw12_MethodCalls.j1 kq x37_16 x232000_4 x232001_4 x232002_4 x232003_4 = some r) ∧ Aside0 (kq ≤ kj4) ∧ Aside0 (wc.heap[gb231]? = some (.cells #[.int .i64 x232000_4, .string x232001_4, .string x232002_4, .int .i64 x232003_4] 27 (0, 0))) ∧ Aside0 (Below w.heap.size w wc))
    case first =>
      have H := HC17.out
      clear HC17
      replace H := Option.bind_eq_some_iff.mp H
      obtain ⟨t242, A180, H⟩ := H
      replace H : (if t242 = true then ((method_Call_Check.f kj4 x232000_4 x232001_4 x232002_4 x232003_4).bind fun t243 => ((armoirelaw12_Told.f x232000_4 x232001_4 x232002_4 x232003_4).bind fun bt244 => ((armoireref12_Check.f kj4 bt244.1 bt244.2.1 bt244.2.2.1 bt244.2.2.2).bind fun t248 => (if t243 = t248 then (if a1 = true then ((method_Call_Check.f kj4 x232000_4 x232001_4 x232002_4 x232003_4).bind fun t249 => (armoirelaw12_MethodCalls.j1 kj4 (t249 != 0) x232000_4 x232001_4 x232002_4 x232003_4)) else (armoirelaw12_MethodCalls.j1 kj4 false x232000_4 x232001_4 x232002_4 x232003_4)) else (armoirelaw12_MethodCalls.j1 kj4 true x232000_4 x232001_4 x232002_4 x232003_4))))) else (armoirelaw12_MethodCalls.j1 kj4 true x232000_4 x232001_4 x232002_4 x232003_4)) = some r := H
      have A18 := Aside0.mk A180
      clear A180
      by_cases c19 : t242 = true
      rotate_left
      · replace c19 := Bool.eq_false_iff.mpr c19
        subst c19
        have H1 : (armoirelaw12_MethodCalls.j1 kj4 true x232000_4 x232001_4 x232002_4 x232003_4) = some r := by rw [if_neg (show ¬ (false = true) by decide)] at H; exact H
        clear H
        have H := H1
        clear H1
        have H' := Aside0.mk H
        clear H
        try go_wp2
        have n0_ := Aside0.mk (blk_drew BK231.out)
        have n1_ := Aside0.mk (below_drew1 HB.out)
        clear BK231
        clear HB
        have BK231 := n0_
        have HB := n1_
        clear n0_ n1_
        refine start_ (n := 18) (S := fun w' => True) (ds := []) #[false,false,false,false,false,false,false,false,false,false,false,false,false,false,false,false,false,false] (by kernel_rfl) rfl rfl trivial (fun hHeld => ?_); refine with_tabW armoirelaw12_MethodCalls.tab4 armoirelaw12_MethodCalls.bits4 (fun HT_ HW_ => ?_)
        generalize wc.drew = w42 at BK231 HB hHeld ⊢
        refine one_ (i := 0) (N := some 20) #[true,false,false,false,false,false,false,false,false,false,false,false,false,false,false,false,false,false] rfl rfl (one_of HT_.out (by kernel_rfl)) (by decide) (fun K hK => ?_)
        refine goes_ Try.func9 (by kernel_rfl) rfl #[] (by rfl) rfl rfl (by (try simp only [List.map_toArray, List.map_cons, List.map_nil]); first | done | rfl | (simp only [List.length_drop, List.length_take]; rfl) | (simp only [Act.eval, Array.getD_eq_getD_getElem?, Option.getD_some, *]; done) | (simp only [Array.mk.injEq, List.cons.injEq, Value.int.injEq, true_and, and_true]; first | omega | (simp [IntKind.wrap, IntKind.bits, IntKind.signed]; omega))) ?_
        with_reducible refine (armoirelaw12_awake.calls kj4  false _ A18.out).mono ?_
        rintro e w43 ⟨rfl, hb⟩
        refine ⟨_, rfl, ?_⟩
        have n0_ := Aside0.mk (blk_below (g := gb231) (o := .cells #[.int .i64 x232000_4, .string x232001_4, .string x232002_4, .int .i64 x232003_4] 27 (0, 0)) (by (with_reducible repeat (first | refine blk_drewN ?_ _ | refine blk_drew ?_ | refine blk_alloc ?_ _)); exact BK231.out) hb)
        have n1_ := Aside0.mk (below_step (by repeat (first | (with_reducible first | exact HB.out | apply below_alloc | apply pw_below_drewN | apply below_drew1 | refine below_set ?_ GE231.out) | exact HB.out)) hb)
        clear BK231
        clear HB
        have BK231 := n0_
        have HB := n1_
        clear n0_ n1_
        (try clear hb)
        (try clear hb2)
        (try clear hk)
        (try clear hi)
        refine hK.out _ _ trivial (fun hHeld => ?_)
        clear hK K
        refine norm_ (a' := ?_) ?_ ?_
        rotate_left
        · show Act.put _ (some 20) _ = _
          simp only [Act.put, List.setIfInBounds_toArray, List.set_cons_zero, List.set_cons_succ, i64_w, i32_w]
          rfl
        refine pure_ (i := 1) (N := some 21) (v := ?_) (a' := ?_) (bA 18 3) rfl rfl (any_of HT_.out (by kernel_rfl)) (fun _ _ _ h => h) (Or.inl ⟨by rfl, ?_⟩) ?_ ?_
        rotate_left; (intro w'; go_simp; with_reducible rfl); rotate_left; (simp only [Act.put, List.setIfInBounds_toArray, List.set_cons_zero, List.set_cons_succ, i64_w, i32_w]; rfl)
        refine pure_ (i := 2) (N := some 22) (v := ?_) (a' := ?_) (bA 18 7) rfl rfl (any_of HT_.out (by kernel_rfl)) (fun _ _ _ h => h) (Or.inl ⟨by rfl, ?_⟩) ?_ ?_
        rotate_left; (intro w'; go_simp; with_reducible rfl); rotate_left; (simp only [Act.put, List.setIfInBounds_toArray, List.set_cons_zero, List.set_cons_succ, i64_w, i32_w]; rfl)
        refine pure_ (i := 3) (N := some 23) (v := undef) (a' := ?_) (bA 18 15) rfl rfl (any_of HT_.out (by kernel_rfl)) (fun _ _ _ h => h) (Or.inr ⟨by rfl, rfl⟩) ?_ ?_
        rotate_left; (simp only [Act.put, List.setIfInBounds_toArray, List.set_cons_zero, List.set_cons_succ, i64_w, i32_w]; rfl)
        refine pure_ (i := 4) (N := some 24) (v := undef) (a' := ?_) (bA 18 31) rfl rfl (any_of HT_.out (by kernel_rfl)) (fun _ _ _ h => h) (Or.inr ⟨by rfl, rfl⟩) ?_ ?_
        rotate_left; (simp only [Act.put, List.setIfInBounds_toArray, List.set_cons_zero, List.set_cons_succ, i64_w, i32_w]; rfl)
        refine pure_ (i := 5) (N := some 25) (v := undef) (a' := ?_) (bA 18 63) rfl rfl (any_of HT_.out (by kernel_rfl)) (fun _ _ _ h => h) (Or.inr ⟨by rfl, rfl⟩) ?_ ?_
        rotate_left; (simp only [Act.put, List.setIfInBounds_toArray, List.set_cons_zero, List.set_cons_succ, i64_w, i32_w]; rfl)
        refine pure_ (i := 6) (N := some 26) (v := undef) (a' := ?_) (bA 18 127) rfl rfl (any_of HT_.out (by kernel_rfl)) (fun _ _ _ h => h) (Or.inr ⟨by rfl, rfl⟩) ?_ ?_
        rotate_left; (simp only [Act.put, List.setIfInBounds_toArray, List.set_cons_zero, List.set_cons_succ, i64_w, i32_w]; rfl)
        refine pure_ (i := 7) (N := some 27) (v := undef) (a' := ?_) (bA 18 255) rfl rfl (any_of HT_.out (by kernel_rfl)) (fun _ _ _ h => h) (Or.inr ⟨by rfl, rfl⟩) ?_ ?_
        rotate_left; (simp only [Act.put, List.setIfInBounds_toArray, List.set_cons_zero, List.set_cons_succ, i64_w, i32_w]; rfl)
        refine pure_ (i := 8) (N := some 28) (v := undef) (a' := ?_) (bA 18 511) rfl rfl (any_of HT_.out (by kernel_rfl)) (fun _ _ _ h => h) (Or.inr ⟨by rfl, rfl⟩) ?_ ?_
        rotate_left; (simp only [Act.put, List.setIfInBounds_toArray, List.set_cons_zero, List.set_cons_succ, i64_w, i32_w]; rfl)
        refine pure_ (i := 9) (N := some 29) (v := ?_) (a' := ?_) (bA 18 1023) rfl rfl (any_of HT_.out (by kernel_rfl)) (fun _ _ _ h => h) (Or.inl ⟨by rfl, ?_⟩) ?_ ?_
        rotate_left; (intro w'; go_simp; with_reducible rfl); rotate_left; (simp only [Act.put, List.setIfInBounds_toArray, List.set_cons_zero, List.set_cons_succ, i64_w, i32_w]; rfl)
        refine pure_ (i := 10) (N := some 30) (v := ?_) (a' := ?_) (bA 18 2047) rfl rfl (any_of HT_.out (by kernel_rfl)) (fun _ _ _ h => h) (Or.inl ⟨by rfl, ?_⟩) ?_ ?_
        rotate_left; (intro w'; go_simp; with_reducible rfl); rotate_left; (simp only [Act.put, List.setIfInBounds_toArray, List.set_cons_zero, List.set_cons_succ, i64_w, i32_w]; rfl)
        refine pure_ (i := 11) (N := some 31) (v := undef) (a' := ?_) (bA 18 4095) rfl rfl (any_of HT_.out (by kernel_rfl)) (fun _ _ _ h => h) (Or.inr ⟨by rfl, rfl⟩) ?_ ?_
        rotate_left; (simp only [Act.put, List.setIfInBounds_toArray, List.set_cons_zero, List.set_cons_succ, i64_w, i32_w]; rfl)
        refine pure_ (i := 12) (N := some 32) (v := undef) (a' := ?_) (bA 18 8191) rfl rfl (any_of HT_.out (by kernel_rfl)) (fun _ _ _ h => h) (Or.inr ⟨by rfl, rfl⟩) ?_ ?_
        rotate_left; (simp only [Act.put, List.setIfInBounds_toArray, List.set_cons_zero, List.set_cons_succ, i64_w, i32_w]; rfl)
        refine pure_ (i := 13) (N := some 33) (v := undef) (a' := ?_) (bA 18 16383) rfl rfl (any_of HT_.out (by kernel_rfl)) (fun _ _ _ h => h) (Or.inr ⟨by rfl, rfl⟩) ?_ ?_
        rotate_left; (simp only [Act.put, List.setIfInBounds_toArray, List.set_cons_zero, List.set_cons_succ, i64_w, i32_w]; rfl)
        refine pure_ (i := 14) (N := some 34) (v := undef) (a' := ?_) (bA 18 32767) rfl rfl (any_of HT_.out (by kernel_rfl)) (fun _ _ _ h => h) (Or.inr ⟨by rfl, rfl⟩) ?_ ?_
        rotate_left; (simp only [Act.put, List.setIfInBounds_toArray, List.set_cons_zero, List.set_cons_succ, i64_w, i32_w]; rfl)
        refine pure_ (i := 15) (N := some 35) (v := undef) (a' := ?_) (bA 18 65535) rfl rfl (any_of HT_.out (by kernel_rfl)) (fun _ _ _ h => h) (Or.inr ⟨by rfl, rfl⟩) ?_ ?_
        rotate_left; (simp only [Act.put, List.setIfInBounds_toArray, List.set_cons_zero, List.set_cons_succ, i64_w, i32_w]; rfl)
        refine pure_ (i := 16) (N := some 36) (v := undef) (a' := ?_) (bA 18 131071) rfl rfl (any_of HT_.out (by kernel_rfl)) (fun _ _ _ h => h) (Or.inr ⟨by rfl, rfl⟩) ?_ ?_
        rotate_left; (simp only [Act.put, List.setIfInBounds_toArray, List.set_cons_zero, List.set_cons_succ, i64_w, i32_w]; rfl)
        refine pure_ (i := 17) (N := some 37) (v := ?_) (a' := ?_) (bA 18 262143) rfl rfl (any_of HT_.out (by kernel_rfl)) (fun _ _ _ h => h) (Or.inl ⟨by rfl, ?_⟩) ?_ ?_
        rotate_left; (intro w'; go_simp; with_reducible rfl); rotate_left; (simp only [Act.put, List.setIfInBounds_toArray, List.set_cons_zero, List.set_cons_succ, i64_w, i32_w]; rfl)
        refine done_ (done_of HT_.out (by kernel_rfl)) ?_
        try go_wp2
        go_meet
        case rel => exact ⟨_, (true), (by first | rfl | (simp; done) | (simp [*]; done) | exact emp1_ _ | exact (emp1_ _).symm | exact emp2_ _ | exact (emp2_ _).symm), H', ⟨by have := HJ4.out; first | omega | exact Nat.le_refl _⟩, ⟨by (with_reducible repeat (first | refine blk_drewN ?_ _ | refine blk_drew ?_ | refine blk_alloc ?_ _)); exact BK231.out⟩, ⟨by repeat (first | (with_reducible first | exact HB.out | apply below_alloc | apply pw_below_drewN | apply below_drew1 | refine below_set ?_ GE231.out) | exact HB.out)⟩⟩
      subst c19
      have H1 : ((method_Call_Check.f kj4 x232000_4 x232001_4 x232002_4 x232003_4).bind fun t243 => ((armoirelaw12_Told.f x232000_4 x232001_4 x232002_4 x232003_4).bind fun bt244 => ((armoireref12_Check.f kj4 bt244.1 bt244.2.1 bt244.2.2.1 bt244.2.2.2).bind fun t248 => (if t243 = t248 then (if a1 = true then ((method_Call_Check.f kj4 x232000_4 x232001_4 x232002_4 x232003_4).bind fun t249 => (armoirelaw12_MethodCalls.j1 kj4 (t249 != 0) x232000_4 x232001_4 x232002_4 x232003_4)) else (armoirelaw12_MethodCalls.j1 kj4 false x232000_4 x232001_4 x232002_4 x232003_4)) else (armoirelaw12_MethodCalls.j1 kj4 true x232000_4 x232001_4 x232002_4 x232003_4))))) = some r := by rw [if_pos rfl] at H; exact H
      clear H
      have H := H1
      clear H1
      replace H := Option.bind_eq_some_iff.mp H
      obtain ⟨t243, A200, H⟩ := H
      replace H : ((armoirelaw12_Told.f x232000_4 x232001_4 x232002_4 x232003_4).bind fun bt244 => ((armoireref12_Check.f kj4 bt244.1 bt244.2.1 bt244.2.2.1 bt244.2.2.2).bind fun t248 => (if t243 = t248 then (if a1 = true then ((method_Call_Check.f kj4 x232000_4 x232001_4 x232002_4 x232003_4).bind fun t249 => (armoirelaw12_MethodCalls.j1 kj4 (t249 != 0) x232000_4 x232001_4 x232002_4 x232003_4)) else (armoirelaw12_MethodCalls.j1 kj4 false x232000_4 x232001_4 x232002_4 x232003_4)) else (armoirelaw12_MethodCalls.j1 kj4 true x232000_4 x232001_4 x232002_4 x232003_4)))) = some r := H
      have A20 := Aside0.mk A200
      clear A200
      replace H := Option.bind_eq_some_iff.mp H
      obtain ⟨⟨t244, t245, t246, t247⟩, A210, H⟩ := H
      replace H : ((armoireref12_Check.f kj4 t244 t245 t246 t247).bind fun t248 => (if t243 = t248 then (if a1 = true then ((method_Call_Check.f kj4 x232000_4 x232001_4 x232002_4 x232003_4).bind fun t249 => (armoirelaw12_MethodCalls.j1 kj4 (t249 != 0) x232000_4 x232001_4 x232002_4 x232003_4)) else (armoirelaw12_MethodCalls.j1 kj4 false x232000_4 x232001_4 x232002_4 x232003_4)) else (armoirelaw12_MethodCalls.j1 kj4 true x232000_4 x232001_4 x232002_4 x232003_4))) = some r := H
      have A21 := Aside0.mk A210
      clear A210
      replace H := Option.bind_eq_some_iff.mp H
      obtain ⟨t248, A220, H⟩ := H
      replace H : (if t243 = t248 then (if a1 = true then ((method_Call_Check.f kj4 x232000_4 x232001_4 x232002_4 x232003_4).bind fun t249 => (armoirelaw12_MethodCalls.j1 kj4 (t249 != 0) x232000_4 x232001_4 x232002_4 x232003_4)) else (armoirelaw12_MethodCalls.j1 kj4 false x232000_4 x232001_4 x232002_4 x232003_4)) else (armoirelaw12_MethodCalls.j1 kj4 true x232000_4 x232001_4 x232002_4 x232003_4)) = some r := H
      have A22 := Aside0.mk A220
      clear A220
      by_cases c23 : t243 = t248
      rotate_left
      · rw [if_neg c23] at H
        have c23b0 : (t243 == t248) = false := beq_eq_false_iff_ne.mpr c23
        have c23b1 : (t243 != t248) = true := bne_iff_ne.mpr c23
        (first | rw [c23b0] | (simp only [i64_w, i32_w]; rw [c23b0]) | skip)
        have H' := Aside0.mk H
        clear H
        try go_wp2
        have n0_ := Aside0.mk (blk_drew BK231.out)
        have n1_ := Aside0.mk (below_drew1 HB.out)
        clear BK231
        clear HB
        have BK231 := n0_
        have HB := n1_
        clear n0_ n1_
        refine start_ (n := 18) (S := fun w' => w'.cell? ⟨gb231, 0, none⟩ = some (.int .i64 x232000_4) ∧ w'.cell? ⟨gb231, 1, none⟩ = some (.string x232001_4) ∧ w'.cell? ⟨gb231, 2, none⟩ = some (.string x232002_4) ∧ w'.cell? ⟨gb231, 3, none⟩ = some (.int .i64 x232003_4)) (ds := []) #[false,false,false,false,false,false,false,false,false,false,false,false,false,false,false,false,false,false] (by kernel_rfl) rfl rfl ⟨(blk_cell BK231.out 0).trans rfl, (blk_cell BK231.out 1).trans rfl, (blk_cell BK231.out 2).trans rfl, (blk_cell BK231.out 3).trans rfl⟩ (fun hHeld => ?_); refine with_tabW armoirelaw12_MethodCalls.tab4 armoirelaw12_MethodCalls.bits4 (fun HT_ HW_ => ?_)
        generalize wc.drew = w37 at BK231 HB hHeld ⊢
        refine one_ (i := 0) (N := some 20) #[true,false,false,false,false,false,false,false,false,false,false,false,false,false,false,false,false,false] rfl rfl (one_of HT_.out (by kernel_rfl)) (by decide) (fun K hK => ?_)
        refine goes_ Try.func9 (by kernel_rfl) rfl #[] (by rfl) rfl rfl (by (try simp only [List.map_toArray, List.map_cons, List.map_nil]); first | done | rfl | (simp only [List.length_drop, List.length_take]; rfl) | (simp only [Act.eval, Array.getD_eq_getD_getElem?, Option.getD_some, *]; done) | (simp only [Array.mk.injEq, List.cons.injEq, Value.int.injEq, true_and, and_true]; first | omega | (simp [IntKind.wrap, IntKind.bits, IntKind.signed]; omega))) ?_
        with_reducible refine (armoirelaw12_awake.calls kj4  true _ A18.out).mono ?_
        rintro e w38 ⟨rfl, hb⟩
        refine ⟨_, rfl, ?_⟩
        have n0_ := Aside0.mk (blk_below (g := gb231) (o := .cells #[.int .i64 x232000_4, .string x232001_4, .string x232002_4, .int .i64 x232003_4] 27 (0, 0)) (by (with_reducible repeat (first | refine blk_drewN ?_ _ | refine blk_drew ?_ | refine blk_alloc ?_ _)); exact BK231.out) hb)
        have n1_ := Aside0.mk (below_step (by repeat (first | (with_reducible first | exact HB.out | apply below_alloc | apply pw_below_drewN | apply below_drew1 | refine below_set ?_ GE231.out) | exact HB.out)) hb)
        clear BK231
        clear HB
        have BK231 := n0_
        have HB := n1_
        clear n0_ n1_
        (try clear hb)
        (try clear hb2)
        (try clear hk)
        (try clear hi)
        refine hK.out _ _ ⟨(blk_cell BK231.out 0).trans rfl, (blk_cell BK231.out 1).trans rfl, (blk_cell BK231.out 2).trans rfl, (blk_cell BK231.out 3).trans rfl⟩ (fun hHeld => ?_)
        clear hK K
        refine norm_ (a' := ?_) ?_ ?_
        rotate_left
        · show Act.put _ (some 20) _ = _
          simp only [Act.put, List.setIfInBounds_toArray, List.set_cons_zero, List.set_cons_succ, i64_w, i32_w]
          rfl
        refine pure_ (i := 1) (N := some 21) (v := ?_) (a' := ?_) (bA 18 3) rfl rfl (any_of HT_.out (by kernel_rfl)) (fun _ _ _ h => h) (Or.inl ⟨by rfl, ?_⟩) ?_ ?_
        rotate_left; (intro w'; go_simp; with_reducible rfl); rotate_left; (simp only [Act.put, List.setIfInBounds_toArray, List.set_cons_zero, List.set_cons_succ, i64_w, i32_w]; rfl)
        refine pure_ (i := 2) (N := some 22) (v := ?_) (a' := ?_) (bA 18 7) rfl rfl (any_of HT_.out (by kernel_rfl)) (fun _ _ _ h => h) (Or.inl ⟨by rfl, ?_⟩) ?_ ?_
        rotate_left; (intro w'; go_simp; with_reducible rfl); rotate_left; (simp only [Act.put, List.setIfInBounds_toArray, List.set_cons_zero, List.set_cons_succ, i64_w, i32_w]; rfl)
        refine take_ (i := 3) (N := some 23) (v := ?_) (a' := ?_) #[true,true,true,true,false,false,false,false,false,false,false,false,false,false,false,false,false,false] rfl rfl (take_ofW HT_.out HW_.out (by kernel_rfl)) (fun _ _ _ h => h) (Or.inl ⟨by rfl, ?_⟩) hHeld ?_ ?_
        rotate_left
        · rintro w' ⟨s0, s1, s2, s3⟩
          go_simp
          with_reducible rfl
        rotate_left; (simp only [Act.put, List.setIfInBounds_toArray, List.set_cons_zero, List.set_cons_succ, i64_w, i32_w]; rfl)
        refine take_ (i := 5) (N := some 25) (v := ?_) (a' := ?_) #[true,true,true,true,false,true,false,false,false,false,false,false,false,false,false,false,false,false] rfl rfl (take_ofW HT_.out HW_.out (by kernel_rfl)) (fun _ _ _ h => h) (Or.inl ⟨by rfl, ?_⟩) hHeld ?_ ?_
        rotate_left
        · rintro w' ⟨s0, s1, s2, s3⟩
          go_simp
          with_reducible rfl
        rotate_left; (simp only [Act.put, List.setIfInBounds_toArray, List.set_cons_zero, List.set_cons_succ, i64_w, i32_w]; rfl)
        refine one_ (i := 4) (N := some 24) #[true,true,true,true,true,true,false,false,false,false,false,false,false,false,false,false,false,false] rfl rfl (one_of HT_.out (by kernel_rfl)) (by decide) (fun K hK => ?_)
        refine goes_ Try.func21 (by kernel_rfl) rfl #[.agg #[.int .i64 x232000_4, .string x232001_4, .string x232002_4, .int .i64 x232003_4]] (by rfl) rfl rfl (by (try simp only [List.map_toArray, List.map_cons, List.map_nil]); first | done | rfl | (simp only [List.length_drop, List.length_take]; rfl) | (simp only [Act.eval, Array.getD_eq_getD_getElem?, Option.getD_some, *]; done) | (simp only [Array.mk.injEq, List.cons.injEq, Value.int.injEq, true_and, and_true]; first | omega | (simp [IntKind.wrap, IntKind.bits, IntKind.signed]; omega))) ?_
        with_reducible refine (method_Call_Check.calls kj4 x232000_4 x232001_4 x232002_4 x232003_4 t243 _ A20.out).mono ?_
        rintro e w39 ⟨rfl, hb⟩
        refine ⟨_, rfl, ?_⟩
        have n0_ := Aside0.mk (blk_below (g := gb231) (o := .cells #[.int .i64 x232000_4, .string x232001_4, .string x232002_4, .int .i64 x232003_4] 27 (0, 0)) (by (with_reducible repeat (first | refine blk_drewN ?_ _ | refine blk_drew ?_ | refine blk_alloc ?_ _)); exact BK231.out) hb)
        have n1_ := Aside0.mk (below_step (by repeat (first | (with_reducible first | exact HB.out | apply below_alloc | apply pw_below_drewN | apply below_drew1 | refine below_set ?_ GE231.out) | exact HB.out)) hb)
        clear BK231
        clear HB
        have BK231 := n0_
        have HB := n1_
        clear n0_ n1_
        (try clear hb)
        (try clear hb2)
        (try clear hk)
        (try clear hi)
        refine hK.out _ _ ⟨(blk_cell BK231.out 0).trans rfl, (blk_cell BK231.out 1).trans rfl, (blk_cell BK231.out 2).trans rfl, (blk_cell BK231.out 3).trans rfl⟩ (fun hHeld => ?_)
        clear hK K
        refine norm_ (a' := ?_) ?_ ?_
        rotate_left
        · show Act.put _ (some 24) _ = _
          simp only [Act.put, List.setIfInBounds_toArray, List.set_cons_zero, List.set_cons_succ, i64_w, i32_w]
          rfl
        refine one_ (i := 6) (N := some 26) #[true,true,true,true,true,true,true,false,false,false,false,false,false,false,false,false,false,false] rfl rfl (one_of HT_.out (by kernel_rfl)) (by decide) (fun K hK => ?_)
        refine goes_ Try.func15 (by kernel_rfl) rfl #[.agg #[.int .i64 x232000_4, .string x232001_4, .string x232002_4, .int .i64 x232003_4]] (by rfl) rfl rfl (by (try simp only [List.map_toArray, List.map_cons, List.map_nil]); first | done | rfl | (simp only [List.length_drop, List.length_take]; rfl) | (simp only [Act.eval, Array.getD_eq_getD_getElem?, Option.getD_some, *]; done) | (simp only [Array.mk.injEq, List.cons.injEq, Value.int.injEq, true_and, and_true]; first | omega | (simp [IntKind.wrap, IntKind.bits, IntKind.signed]; omega))) ?_
        with_reducible refine (armoirelaw12_Told.calls x232000_4 x232001_4 x232002_4 x232003_4 t244 t245 t246 t247 _ A21.out).mono ?_
        rintro e w40 ⟨rfl, hb⟩
        refine ⟨_, rfl, ?_⟩
        have n0_ := Aside0.mk (blk_below (g := gb231) (o := .cells #[.int .i64 x232000_4, .string x232001_4, .string x232002_4, .int .i64 x232003_4] 27 (0, 0)) (by (with_reducible repeat (first | refine blk_drewN ?_ _ | refine blk_drew ?_ | refine blk_alloc ?_ _)); exact BK231.out) hb)
        have n1_ := Aside0.mk (below_step (by repeat (first | (with_reducible first | exact HB.out | apply below_alloc | apply pw_below_drewN | apply below_drew1 | refine below_set ?_ GE231.out) | exact HB.out)) hb)
        clear BK231
        clear HB
        have BK231 := n0_
        have HB := n1_
        clear n0_ n1_
        (try clear hb)
        (try clear hb2)
        (try clear hk)
        (try clear hi)
        refine hK.out _ _ ⟨(blk_cell BK231.out 0).trans rfl, (blk_cell BK231.out 1).trans rfl, (blk_cell BK231.out 2).trans rfl, (blk_cell BK231.out 3).trans rfl⟩ (fun hHeld => ?_)
        clear hK K
        refine norm_ (a' := ?_) ?_ ?_
        rotate_left
        · show Act.put _ (some 26) _ = _
          simp only [Act.put, List.setIfInBounds_toArray, List.set_cons_zero, List.set_cons_succ, i64_w, i32_w]
          rfl
        refine one_ (i := 7) (N := some 27) #[true,true,true,true,true,true,true,true,false,false,false,false,false,false,false,false,false,false] rfl rfl (one_of HT_.out (by kernel_rfl)) (by decide) (fun K hK => ?_)
        refine goes_ Try.func22 (by kernel_rfl) rfl #[.agg #[.int .i64 t244, .string t245, .string t246, .int .i64 t247]] (by rfl) rfl rfl (by (try simp only [List.map_toArray, List.map_cons, List.map_nil]); first | done | rfl | (simp only [List.length_drop, List.length_take]; rfl) | (simp only [Act.eval, Array.getD_eq_getD_getElem?, Option.getD_some, *]; done) | (simp only [Array.mk.injEq, List.cons.injEq, Value.int.injEq, true_and, and_true]; first | omega | (simp [IntKind.wrap, IntKind.bits, IntKind.signed]; omega))) ?_
        with_reducible refine (armoireref12_Check.calls kj4 t244 t245 t246 t247 t248 _ A22.out).mono ?_
        rintro e w41 ⟨rfl, hb⟩
        refine ⟨_, rfl, ?_⟩
        have n0_ := Aside0.mk (blk_below (g := gb231) (o := .cells #[.int .i64 x232000_4, .string x232001_4, .string x232002_4, .int .i64 x232003_4] 27 (0, 0)) (by (with_reducible repeat (first | refine blk_drewN ?_ _ | refine blk_drew ?_ | refine blk_alloc ?_ _)); exact BK231.out) hb)
        have n1_ := Aside0.mk (below_step (by repeat (first | (with_reducible first | exact HB.out | apply below_alloc | apply pw_below_drewN | apply below_drew1 | refine below_set ?_ GE231.out) | exact HB.out)) hb)
        clear BK231
        clear HB
        have BK231 := n0_
        have HB := n1_
        clear n0_ n1_
        (try clear hb)
        (try clear hb2)
        (try clear hk)
        (try clear hi)
        refine hK.out _ _ ⟨(blk_cell BK231.out 0).trans rfl, (blk_cell BK231.out 1).trans rfl, (blk_cell BK231.out 2).trans rfl, (blk_cell BK231.out 3).trans rfl⟩ (fun hHeld => ?_)
        clear hK K
        refine norm_ (a' := ?_) ?_ ?_
        rotate_left
        · show Act.put _ (some 27) _ = _
          simp only [Act.put, List.setIfInBounds_toArray, List.set_cons_zero, List.set_cons_succ, i64_w, i32_w]
          rfl
        refine pure_ (i := 8) (N := some 28) (v := ?_) (a' := ?_) (bA 18 511) rfl rfl (any_of HT_.out (by kernel_rfl)) (fun _ _ _ h => h) (Or.inl ⟨by rfl, ?_⟩) ?_ ?_
        rotate_left; (intro w'; go_simp; with_reducible rfl); rotate_left; (simp only [Act.put, List.setIfInBounds_toArray, List.set_cons_zero, List.set_cons_succ, i64_w, i32_w]; rfl)
        refine pure_ (i := 9) (N := some 29) (v := ?_) (a' := ?_) (bA 18 1023) rfl rfl (any_of HT_.out (by kernel_rfl)) (fun _ _ _ h => h) (Or.inl ⟨by rfl, ?_⟩) ?_ ?_
        rotate_left; (intro w'; go_simp; with_reducible rfl); rotate_left; (simp only [Act.put, List.setIfInBounds_toArray, List.set_cons_zero, List.set_cons_succ, i64_w, i32_w]; rfl)
        refine pure_ (i := 10) (N := some 30) (v := ?_) (a' := ?_) (bA 18 2047) rfl rfl (any_of HT_.out (by kernel_rfl)) (fun _ _ _ h => h) (Or.inl ⟨by rfl, ?_⟩) ?_ ?_
        rotate_left; (intro w'; go_simp; with_reducible rfl); rotate_left; (simp only [Act.put, List.setIfInBounds_toArray, List.set_cons_zero, List.set_cons_succ, i64_w, i32_w]; rfl)
        refine pure_ (i := 11) (N := some 31) (v := undef) (a' := ?_) (bA 18 4095) rfl rfl (any_of HT_.out (by kernel_rfl)) (fun _ _ _ h => h) (Or.inr ⟨by rfl, rfl⟩) ?_ ?_
        rotate_left; (simp only [Act.put, List.setIfInBounds_toArray, List.set_cons_zero, List.set_cons_succ, i64_w, i32_w]; rfl)
        refine pure_ (i := 12) (N := some 32) (v := undef) (a' := ?_) (bA 18 8191) rfl rfl (any_of HT_.out (by kernel_rfl)) (fun _ _ _ h => h) (Or.inr ⟨by rfl, rfl⟩) ?_ ?_
        rotate_left; (simp only [Act.put, List.setIfInBounds_toArray, List.set_cons_zero, List.set_cons_succ, i64_w, i32_w]; rfl)
        refine pure_ (i := 13) (N := some 33) (v := undef) (a' := ?_) (bA 18 16383) rfl rfl (any_of HT_.out (by kernel_rfl)) (fun _ _ _ h => h) (Or.inr ⟨by rfl, rfl⟩) ?_ ?_
        rotate_left; (simp only [Act.put, List.setIfInBounds_toArray, List.set_cons_zero, List.set_cons_succ, i64_w, i32_w]; rfl)
        refine pure_ (i := 14) (N := some 34) (v := undef) (a' := ?_) (bA 18 32767) rfl rfl (any_of HT_.out (by kernel_rfl)) (fun _ _ _ h => h) (Or.inr ⟨by rfl, rfl⟩) ?_ ?_
        rotate_left; (simp only [Act.put, List.setIfInBounds_toArray, List.set_cons_zero, List.set_cons_succ, i64_w, i32_w]; rfl)
        refine pure_ (i := 15) (N := some 35) (v := undef) (a' := ?_) (bA 18 65535) rfl rfl (any_of HT_.out (by kernel_rfl)) (fun _ _ _ h => h) (Or.inr ⟨by rfl, rfl⟩) ?_ ?_
        rotate_left; (simp only [Act.put, List.setIfInBounds_toArray, List.set_cons_zero, List.set_cons_succ, i64_w, i32_w]; rfl)
        refine pure_ (i := 16) (N := some 36) (v := undef) (a' := ?_) (bA 18 131071) rfl rfl (any_of HT_.out (by kernel_rfl)) (fun _ _ _ h => h) (Or.inr ⟨by rfl, rfl⟩) ?_ ?_
        rotate_left; (simp only [Act.put, List.setIfInBounds_toArray, List.set_cons_zero, List.set_cons_succ, i64_w, i32_w]; rfl)
        refine pure_ (i := 17) (N := some 37) (v := ?_) (a' := ?_) (bA 18 262143) rfl rfl (any_of HT_.out (by kernel_rfl)) (fun _ _ _ h => h) (Or.inl ⟨by rfl, ?_⟩) ?_ ?_
        rotate_left; (intro w'; go_simp; with_reducible rfl); rotate_left; (simp only [Act.put, List.setIfInBounds_toArray, List.set_cons_zero, List.set_cons_succ, i64_w, i32_w]; rfl)
        refine done_ (done_of HT_.out (by kernel_rfl)) ?_
        try go_wp2
        go_meet
        case rel => exact ⟨_, (true), (by first | rfl | (simp; done) | (simp [*]; done) | exact emp1_ _ | exact (emp1_ _).symm | exact emp2_ _ | exact (emp2_ _).symm), H', ⟨by have := HJ4.out; first | omega | exact Nat.le_refl _⟩, ⟨by (with_reducible repeat (first | refine blk_drewN ?_ _ | refine blk_drew ?_ | refine blk_alloc ?_ _)); exact BK231.out⟩, ⟨by repeat (first | (with_reducible first | exact HB.out | apply below_alloc | apply pw_below_drewN | apply below_drew1 | refine below_set ?_ GE231.out) | exact HB.out)⟩⟩
      rw [if_pos c23] at H
      have c23b0 : (t243 == t248) = true := beq_iff_eq.mpr c23
      have c23b1 : (t243 != t248) = false := bne_eq_false_iff_eq.mpr c23
      clear c23
      (first | rw [c23b0] | (simp only [i64_w, i32_w]; rw [c23b0]) | skip)
      by_cases c24 : a1 = true
      rotate_left
      · replace c24 := Bool.eq_false_iff.mpr c24
        subst c24
        have H1 : (armoirelaw12_MethodCalls.j1 kj4 false x232000_4 x232001_4 x232002_4 x232003_4) = some r := by rw [if_neg (show ¬ (false = true) by decide)] at H; exact H
        clear H
        have H := H1
        clear H1
        have H' := Aside0.mk H
        clear H
        try go_wp2
        have n0_ := Aside0.mk (blk_drew BK231.out)
        have n1_ := Aside0.mk (below_drew1 HB.out)
        clear BK231
        clear HB
        have BK231 := n0_
        have HB := n1_
        clear n0_ n1_
        refine start_ (n := 18) (S := fun w' => w'.cell? ⟨gb231, 0, none⟩ = some (.int .i64 x232000_4) ∧ w'.cell? ⟨gb231, 1, none⟩ = some (.string x232001_4) ∧ w'.cell? ⟨gb231, 2, none⟩ = some (.string x232002_4) ∧ w'.cell? ⟨gb231, 3, none⟩ = some (.int .i64 x232003_4)) (ds := []) #[false,false,false,false,false,false,false,false,false,false,false,false,false,false,false,false,false,false] (by kernel_rfl) rfl rfl ⟨(blk_cell BK231.out 0).trans rfl, (blk_cell BK231.out 1).trans rfl, (blk_cell BK231.out 2).trans rfl, (blk_cell BK231.out 3).trans rfl⟩ (fun hHeld => ?_); refine with_tabW armoirelaw12_MethodCalls.tab4 armoirelaw12_MethodCalls.bits4 (fun HT_ HW_ => ?_)
        generalize wc.drew = w32 at BK231 HB hHeld ⊢
        refine one_ (i := 0) (N := some 20) #[true,false,false,false,false,false,false,false,false,false,false,false,false,false,false,false,false,false] rfl rfl (one_of HT_.out (by kernel_rfl)) (by decide) (fun K hK => ?_)
        refine goes_ Try.func9 (by kernel_rfl) rfl #[] (by rfl) rfl rfl (by (try simp only [List.map_toArray, List.map_cons, List.map_nil]); first | done | rfl | (simp only [List.length_drop, List.length_take]; rfl) | (simp only [Act.eval, Array.getD_eq_getD_getElem?, Option.getD_some, *]; done) | (simp only [Array.mk.injEq, List.cons.injEq, Value.int.injEq, true_and, and_true]; first | omega | (simp [IntKind.wrap, IntKind.bits, IntKind.signed]; omega))) ?_
        with_reducible refine (armoirelaw12_awake.calls kj4  true _ A18.out).mono ?_
        rintro e w33 ⟨rfl, hb⟩
        refine ⟨_, rfl, ?_⟩
        have n0_ := Aside0.mk (blk_below (g := gb231) (o := .cells #[.int .i64 x232000_4, .string x232001_4, .string x232002_4, .int .i64 x232003_4] 27 (0, 0)) (by (with_reducible repeat (first | refine blk_drewN ?_ _ | refine blk_drew ?_ | refine blk_alloc ?_ _)); exact BK231.out) hb)
        have n1_ := Aside0.mk (below_step (by repeat (first | (with_reducible first | exact HB.out | apply below_alloc | apply pw_below_drewN | apply below_drew1 | refine below_set ?_ GE231.out) | exact HB.out)) hb)
        clear BK231
        clear HB
        have BK231 := n0_
        have HB := n1_
        clear n0_ n1_
        (try clear hb)
        (try clear hb2)
        (try clear hk)
        (try clear hi)
        refine hK.out _ _ ⟨(blk_cell BK231.out 0).trans rfl, (blk_cell BK231.out 1).trans rfl, (blk_cell BK231.out 2).trans rfl, (blk_cell BK231.out 3).trans rfl⟩ (fun hHeld => ?_)
        clear hK K
        refine norm_ (a' := ?_) ?_ ?_
        rotate_left
        · show Act.put _ (some 20) _ = _
          simp only [Act.put, List.setIfInBounds_toArray, List.set_cons_zero, List.set_cons_succ, i64_w, i32_w]
          rfl
        refine pure_ (i := 1) (N := some 21) (v := ?_) (a' := ?_) (bA 18 3) rfl rfl (any_of HT_.out (by kernel_rfl)) (fun _ _ _ h => h) (Or.inl ⟨by rfl, ?_⟩) ?_ ?_
        rotate_left; (intro w'; go_simp; with_reducible rfl); rotate_left; (simp only [Act.put, List.setIfInBounds_toArray, List.set_cons_zero, List.set_cons_succ, i64_w, i32_w]; rfl)
        refine pure_ (i := 2) (N := some 22) (v := ?_) (a' := ?_) (bA 18 7) rfl rfl (any_of HT_.out (by kernel_rfl)) (fun _ _ _ h => h) (Or.inl ⟨by rfl, ?_⟩) ?_ ?_
        rotate_left; (intro w'; go_simp; with_reducible rfl); rotate_left; (simp only [Act.put, List.setIfInBounds_toArray, List.set_cons_zero, List.set_cons_succ, i64_w, i32_w]; rfl)
        refine take_ (i := 3) (N := some 23) (v := ?_) (a' := ?_) #[true,true,true,true,false,false,false,false,false,false,false,false,false,false,false,false,false,false] rfl rfl (take_ofW HT_.out HW_.out (by kernel_rfl)) (fun _ _ _ h => h) (Or.inl ⟨by rfl, ?_⟩) hHeld ?_ ?_
        rotate_left
        · rintro w' ⟨s0, s1, s2, s3⟩
          go_simp
          with_reducible rfl
        rotate_left; (simp only [Act.put, List.setIfInBounds_toArray, List.set_cons_zero, List.set_cons_succ, i64_w, i32_w]; rfl)
        refine take_ (i := 5) (N := some 25) (v := ?_) (a' := ?_) #[true,true,true,true,false,true,false,false,false,false,false,false,false,false,false,false,false,false] rfl rfl (take_ofW HT_.out HW_.out (by kernel_rfl)) (fun _ _ _ h => h) (Or.inl ⟨by rfl, ?_⟩) hHeld ?_ ?_
        rotate_left
        · rintro w' ⟨s0, s1, s2, s3⟩
          go_simp
          with_reducible rfl
        rotate_left; (simp only [Act.put, List.setIfInBounds_toArray, List.set_cons_zero, List.set_cons_succ, i64_w, i32_w]; rfl)
        refine one_ (i := 4) (N := some 24) #[true,true,true,true,true,true,false,false,false,false,false,false,false,false,false,false,false,false] rfl rfl (one_of HT_.out (by kernel_rfl)) (by decide) (fun K hK => ?_)
        refine goes_ Try.func21 (by kernel_rfl) rfl #[.agg #[.int .i64 x232000_4, .string x232001_4, .string x232002_4, .int .i64 x232003_4]] (by rfl) rfl rfl (by (try simp only [List.map_toArray, List.map_cons, List.map_nil]); first | done | rfl | (simp only [List.length_drop, List.length_take]; rfl) | (simp only [Act.eval, Array.getD_eq_getD_getElem?, Option.getD_some, *]; done) | (simp only [Array.mk.injEq, List.cons.injEq, Value.int.injEq, true_and, and_true]; first | omega | (simp [IntKind.wrap, IntKind.bits, IntKind.signed]; omega))) ?_
        with_reducible refine (method_Call_Check.calls kj4 x232000_4 x232001_4 x232002_4 x232003_4 t243 _ A20.out).mono ?_
        rintro e w34 ⟨rfl, hb⟩
        refine ⟨_, rfl, ?_⟩
        have n0_ := Aside0.mk (blk_below (g := gb231) (o := .cells #[.int .i64 x232000_4, .string x232001_4, .string x232002_4, .int .i64 x232003_4] 27 (0, 0)) (by (with_reducible repeat (first | refine blk_drewN ?_ _ | refine blk_drew ?_ | refine blk_alloc ?_ _)); exact BK231.out) hb)
        have n1_ := Aside0.mk (below_step (by repeat (first | (with_reducible first | exact HB.out | apply below_alloc | apply pw_below_drewN | apply below_drew1 | refine below_set ?_ GE231.out) | exact HB.out)) hb)
        clear BK231
        clear HB
        have BK231 := n0_
        have HB := n1_
        clear n0_ n1_
        (try clear hb)
        (try clear hb2)
        (try clear hk)
        (try clear hi)
        refine hK.out _ _ ⟨(blk_cell BK231.out 0).trans rfl, (blk_cell BK231.out 1).trans rfl, (blk_cell BK231.out 2).trans rfl, (blk_cell BK231.out 3).trans rfl⟩ (fun hHeld => ?_)
        clear hK K
        refine norm_ (a' := ?_) ?_ ?_
        rotate_left
        · show Act.put _ (some 24) _ = _
          simp only [Act.put, List.setIfInBounds_toArray, List.set_cons_zero, List.set_cons_succ, i64_w, i32_w]
          rfl
        refine one_ (i := 6) (N := some 26) #[true,true,true,true,true,true,true,false,false,false,false,false,false,false,false,false,false,false] rfl rfl (one_of HT_.out (by kernel_rfl)) (by decide) (fun K hK => ?_)
        refine goes_ Try.func15 (by kernel_rfl) rfl #[.agg #[.int .i64 x232000_4, .string x232001_4, .string x232002_4, .int .i64 x232003_4]] (by rfl) rfl rfl (by (try simp only [List.map_toArray, List.map_cons, List.map_nil]); first | done | rfl | (simp only [List.length_drop, List.length_take]; rfl) | (simp only [Act.eval, Array.getD_eq_getD_getElem?, Option.getD_some, *]; done) | (simp only [Array.mk.injEq, List.cons.injEq, Value.int.injEq, true_and, and_true]; first | omega | (simp [IntKind.wrap, IntKind.bits, IntKind.signed]; omega))) ?_
        with_reducible refine (armoirelaw12_Told.calls x232000_4 x232001_4 x232002_4 x232003_4 t244 t245 t246 t247 _ A21.out).mono ?_
        rintro e w35 ⟨rfl, hb⟩
        refine ⟨_, rfl, ?_⟩
        have n0_ := Aside0.mk (blk_below (g := gb231) (o := .cells #[.int .i64 x232000_4, .string x232001_4, .string x232002_4, .int .i64 x232003_4] 27 (0, 0)) (by (with_reducible repeat (first | refine blk_drewN ?_ _ | refine blk_drew ?_ | refine blk_alloc ?_ _)); exact BK231.out) hb)
        have n1_ := Aside0.mk (below_step (by repeat (first | (with_reducible first | exact HB.out | apply below_alloc | apply pw_below_drewN | apply below_drew1 | refine below_set ?_ GE231.out) | exact HB.out)) hb)
        clear BK231
        clear HB
        have BK231 := n0_
        have HB := n1_
        clear n0_ n1_
        (try clear hb)
        (try clear hb2)
        (try clear hk)
        (try clear hi)
        refine hK.out _ _ ⟨(blk_cell BK231.out 0).trans rfl, (blk_cell BK231.out 1).trans rfl, (blk_cell BK231.out 2).trans rfl, (blk_cell BK231.out 3).trans rfl⟩ (fun hHeld => ?_)
        clear hK K
        refine norm_ (a' := ?_) ?_ ?_
        rotate_left
        · show Act.put _ (some 26) _ = _
          simp only [Act.put, List.setIfInBounds_toArray, List.set_cons_zero, List.set_cons_succ, i64_w, i32_w]
          rfl
        refine one_ (i := 7) (N := some 27) #[true,true,true,true,true,true,true,true,false,false,false,false,false,false,false,false,false,false] rfl rfl (one_of HT_.out (by kernel_rfl)) (by decide) (fun K hK => ?_)
        refine goes_ Try.func22 (by kernel_rfl) rfl #[.agg #[.int .i64 t244, .string t245, .string t246, .int .i64 t247]] (by rfl) rfl rfl (by (try simp only [List.map_toArray, List.map_cons, List.map_nil]); first | done | rfl | (simp only [List.length_drop, List.length_take]; rfl) | (simp only [Act.eval, Array.getD_eq_getD_getElem?, Option.getD_some, *]; done) | (simp only [Array.mk.injEq, List.cons.injEq, Value.int.injEq, true_and, and_true]; first | omega | (simp [IntKind.wrap, IntKind.bits, IntKind.signed]; omega))) ?_
        with_reducible refine (armoireref12_Check.calls kj4 t244 t245 t246 t247 t248 _ A22.out).mono ?_
        rintro e w36 ⟨rfl, hb⟩
        refine ⟨_, rfl, ?_⟩
        have n0_ := Aside0.mk (blk_below (g := gb231) (o := .cells #[.int .i64 x232000_4, .string x232001_4, .string x232002_4, .int .i64 x232003_4] 27 (0, 0)) (by (with_reducible repeat (first | refine blk_drewN ?_ _ | refine blk_drew ?_ | refine blk_alloc ?_ _)); exact BK231.out) hb)
        have n1_ := Aside0.mk (below_step (by repeat (first | (with_reducible first | exact HB.out | apply below_alloc | apply pw_below_drewN | apply below_drew1 | refine below_set ?_ GE231.out) | exact HB.out)) hb)
        clear BK231
        clear HB
        have BK231 := n0_
        have HB := n1_
        clear n0_ n1_
        (try clear hb)
        (try clear hb2)
        (try clear hk)
        (try clear hi)
        refine hK.out _ _ ⟨(blk_cell BK231.out 0).trans rfl, (blk_cell BK231.out 1).trans rfl, (blk_cell BK231.out 2).trans rfl, (blk_cell BK231.out 3).trans rfl⟩ (fun hHeld => ?_)
        clear hK K
        refine norm_ (a' := ?_) ?_ ?_
        rotate_left
        · show Act.put _ (some 27) _ = _
          simp only [Act.put, List.setIfInBounds_toArray, List.set_cons_zero, List.set_cons_succ, i64_w, i32_w]
          rfl
        refine pure_ (i := 8) (N := some 28) (v := ?_) (a' := ?_) (bA 18 511) rfl rfl (any_of HT_.out (by kernel_rfl)) (fun _ _ _ h => h) (Or.inl ⟨by rfl, ?_⟩) ?_ ?_
        rotate_left; (intro w'; go_simp; with_reducible rfl); rotate_left; (simp only [Act.put, List.setIfInBounds_toArray, List.set_cons_zero, List.set_cons_succ, i64_w, i32_w]; rfl)
        refine pure_ (i := 9) (N := some 29) (v := ?_) (a' := ?_) (bA 18 1023) rfl rfl (any_of HT_.out (by kernel_rfl)) (fun _ _ _ h => h) (Or.inl ⟨by rfl, ?_⟩) ?_ ?_
        rotate_left; (intro w'; go_simp; with_reducible rfl); rotate_left; (simp only [Act.put, List.setIfInBounds_toArray, List.set_cons_zero, List.set_cons_succ, i64_w, i32_w]; rfl)
        refine pure_ (i := 10) (N := some 30) (v := ?_) (a' := ?_) (bA 18 2047) rfl rfl (any_of HT_.out (by kernel_rfl)) (fun _ _ _ h => h) (Or.inl ⟨by rfl, ?_⟩) ?_ ?_
        rotate_left; (intro w'; go_simp; with_reducible rfl); rotate_left; (simp only [Act.put, List.setIfInBounds_toArray, List.set_cons_zero, List.set_cons_succ, i64_w, i32_w]; rfl)
        refine pure_ (i := 11) (N := some 31) (v := ?_) (a' := ?_) (bA 18 4095) rfl rfl (any_of HT_.out (by kernel_rfl)) (fun _ _ _ h => h) (Or.inl ⟨by rfl, ?_⟩) ?_ ?_
        rotate_left; (intro w'; go_simp; with_reducible rfl); rotate_left; (simp only [Act.put, List.setIfInBounds_toArray, List.set_cons_zero, List.set_cons_succ, i64_w, i32_w]; rfl)
        refine pure_ (i := 12) (N := some 32) (v := ?_) (a' := ?_) (bA 18 8191) rfl rfl (any_of HT_.out (by kernel_rfl)) (fun _ _ _ h => h) (Or.inl ⟨by rfl, ?_⟩) ?_ ?_
        rotate_left; (intro w'; go_simp; with_reducible rfl); rotate_left; (simp only [Act.put, List.setIfInBounds_toArray, List.set_cons_zero, List.set_cons_succ, i64_w, i32_w]; rfl)
        refine pure_ (i := 13) (N := some 33) (v := undef) (a' := ?_) (bA 18 16383) rfl rfl (any_of HT_.out (by kernel_rfl)) (fun _ _ _ h => h) (Or.inr ⟨by rfl, rfl⟩) ?_ ?_
        rotate_left; (simp only [Act.put, List.setIfInBounds_toArray, List.set_cons_zero, List.set_cons_succ, i64_w, i32_w]; rfl)
        refine pure_ (i := 14) (N := some 34) (v := undef) (a' := ?_) (bA 18 32767) rfl rfl (any_of HT_.out (by kernel_rfl)) (fun _ _ _ h => h) (Or.inr ⟨by rfl, rfl⟩) ?_ ?_
        rotate_left; (simp only [Act.put, List.setIfInBounds_toArray, List.set_cons_zero, List.set_cons_succ, i64_w, i32_w]; rfl)
        refine pure_ (i := 15) (N := some 35) (v := undef) (a' := ?_) (bA 18 65535) rfl rfl (any_of HT_.out (by kernel_rfl)) (fun _ _ _ h => h) (Or.inr ⟨by rfl, rfl⟩) ?_ ?_
        rotate_left; (simp only [Act.put, List.setIfInBounds_toArray, List.set_cons_zero, List.set_cons_succ, i64_w, i32_w]; rfl)
        refine pure_ (i := 16) (N := some 36) (v := ?_) (a' := ?_) (bA 18 131071) rfl rfl (any_of HT_.out (by kernel_rfl)) (fun _ _ _ h => h) (Or.inl ⟨by rfl, ?_⟩) ?_ ?_
        rotate_left; (intro w'; go_simp; with_reducible rfl); rotate_left; (simp only [Act.put, List.setIfInBounds_toArray, List.set_cons_zero, List.set_cons_succ, i64_w, i32_w]; rfl)
        refine pure_ (i := 17) (N := some 37) (v := ?_) (a' := ?_) (bA 18 262143) rfl rfl (any_of HT_.out (by kernel_rfl)) (fun _ _ _ h => h) (Or.inl ⟨by rfl, ?_⟩) ?_ ?_
        rotate_left; (intro w'; go_simp; with_reducible rfl); rotate_left; (simp only [Act.put, List.setIfInBounds_toArray, List.set_cons_zero, List.set_cons_succ, i64_w, i32_w]; rfl)
        refine done_ (done_of HT_.out (by kernel_rfl)) ?_
        try go_wp2
        go_meet
        case rel => exact ⟨_, (false), (by first | rfl | (simp; done) | (simp [*]; done) | exact emp1_ _ | exact (emp1_ _).symm | exact emp2_ _ | exact (emp2_ _).symm), H', ⟨by have := HJ4.out; first | omega | exact Nat.le_refl _⟩, ⟨by (with_reducible repeat (first | refine blk_drewN ?_ _ | refine blk_drew ?_ | refine blk_alloc ?_ _)); exact BK231.out⟩, ⟨by repeat (first | (with_reducible first | exact HB.out | apply below_alloc | apply pw_below_drewN | apply below_drew1 | refine below_set ?_ GE231.out) | exact HB.out)⟩⟩
      subst c24
      have H1 : ((method_Call_Check.f kj4 x232000_4 x232001_4 x232002_4 x232003_4).bind fun t249 => (armoirelaw12_MethodCalls.j1 kj4 (t249 != 0) x232000_4 x232001_4 x232002_4 x232003_4)) = some r := by rw [if_pos rfl] at H; exact H
      clear H
      have H := H1
      clear H1
      replace H := Option.bind_eq_some_iff.mp H
      obtain ⟨t249, A250, H⟩ := H
      replace H : (armoirelaw12_MethodCalls.j1 kj4 (t249 != 0) x232000_4 x232001_4 x232002_4 x232003_4) = some r := H
      have A25 := Aside0.mk A250
      clear A250
      have H' := Aside0.mk H
      clear H
      try go_wp2
      have n0_ := Aside0.mk (blk_drew BK231.out)
      have n1_ := Aside0.mk (below_drew1 HB.out)
      clear BK231
      clear HB
      have BK231 := n0_
      have HB := n1_
      clear n0_ n1_
      refine start_ (n := 18) (S := fun w' => w'.cell? ⟨gb231, 0, none⟩ = some (.int .i64 x232000_4) ∧ w'.cell? ⟨gb231, 1, none⟩ = some (.string x232001_4) ∧ w'.cell? ⟨gb231, 2, none⟩ = some (.string x232002_4) ∧ w'.cell? ⟨gb231, 3, none⟩ = some (.int .i64 x232003_4)) (ds := []) #[false,false,false,false,false,false,false,false,false,false,false,false,false,false,false,false,false,false] (by kernel_rfl) rfl rfl ⟨(blk_cell BK231.out 0).trans rfl, (blk_cell BK231.out 1).trans rfl, (blk_cell BK231.out 2).trans rfl, (blk_cell BK231.out 3).trans rfl⟩ (fun hHeld => ?_); refine with_tabW armoirelaw12_MethodCalls.tab4 armoirelaw12_MethodCalls.bits4 (fun HT_ HW_ => ?_)
      generalize wc.drew = w26 at BK231 HB hHeld ⊢
      refine one_ (i := 0) (N := some 20) #[true,false,false,false,false,false,false,false,false,false,false,false,false,false,false,false,false,false] rfl rfl (one_of HT_.out (by kernel_rfl)) (by decide) (fun K hK => ?_)
      refine goes_ Try.func9 (by kernel_rfl) rfl #[] (by rfl) rfl rfl (by (try simp only [List.map_toArray, List.map_cons, List.map_nil]); first | done | rfl | (simp only [List.length_drop, List.length_take]; rfl) | (simp only [Act.eval, Array.getD_eq_getD_getElem?, Option.getD_some, *]; done) | (simp only [Array.mk.injEq, List.cons.injEq, Value.int.injEq, true_and, and_true]; first | omega | (simp [IntKind.wrap, IntKind.bits, IntKind.signed]; omega))) ?_
      with_reducible refine (armoirelaw12_awake.calls kj4  true _ A18.out).mono ?_
      rintro e w27 ⟨rfl, hb⟩
      refine ⟨_, rfl, ?_⟩
      have n0_ := Aside0.mk (blk_below (g := gb231) (o := .cells #[.int .i64 x232000_4, .string x232001_4, .string x232002_4, .int .i64 x232003_4] 27 (0, 0)) (by (with_reducible repeat (first | refine blk_drewN ?_ _ | refine blk_drew ?_ | refine blk_alloc ?_ _)); exact BK231.out) hb)
      have n1_ := Aside0.mk (below_step (by repeat (first | (with_reducible first | exact HB.out | apply below_alloc | apply pw_below_drewN | apply below_drew1 | refine below_set ?_ GE231.out) | exact HB.out)) hb)
      clear BK231
      clear HB
      have BK231 := n0_
      have HB := n1_
      clear n0_ n1_
      (try clear hb)
      (try clear hb2)
      (try clear hk)
      (try clear hi)
      refine hK.out _ _ ⟨(blk_cell BK231.out 0).trans rfl, (blk_cell BK231.out 1).trans rfl, (blk_cell BK231.out 2).trans rfl, (blk_cell BK231.out 3).trans rfl⟩ (fun hHeld => ?_)
      clear hK K
      refine norm_ (a' := ?_) ?_ ?_
      rotate_left
      · show Act.put _ (some 20) _ = _
        simp only [Act.put, List.setIfInBounds_toArray, List.set_cons_zero, List.set_cons_succ, i64_w, i32_w]
        rfl
      refine pure_ (i := 1) (N := some 21) (v := ?_) (a' := ?_) (bA 18 3) rfl rfl (any_of HT_.out (by kernel_rfl)) (fun _ _ _ h => h) (Or.inl ⟨by rfl, ?_⟩) ?_ ?_
      rotate_left; (intro w'; go_simp; with_reducible rfl); rotate_left; (simp only [Act.put, List.setIfInBounds_toArray, List.set_cons_zero, List.set_cons_succ, i64_w, i32_w]; rfl)
      refine pure_ (i := 2) (N := some 22) (v := ?_) (a' := ?_) (bA 18 7) rfl rfl (any_of HT_.out (by kernel_rfl)) (fun _ _ _ h => h) (Or.inl ⟨by rfl, ?_⟩) ?_ ?_
      rotate_left; (intro w'; go_simp; with_reducible rfl); rotate_left; (simp only [Act.put, List.setIfInBounds_toArray, List.set_cons_zero, List.set_cons_succ, i64_w, i32_w]; rfl)
      refine take_ (i := 3) (N := some 23) (v := ?_) (a' := ?_) #[true,true,true,true,false,false,false,false,false,false,false,false,false,false,false,false,false,false] rfl rfl (take_ofW HT_.out HW_.out (by kernel_rfl)) (fun _ _ _ h => h) (Or.inl ⟨by rfl, ?_⟩) hHeld ?_ ?_
      rotate_left
      · rintro w' ⟨s0, s1, s2, s3⟩
        go_simp
        with_reducible rfl
      rotate_left; (simp only [Act.put, List.setIfInBounds_toArray, List.set_cons_zero, List.set_cons_succ, i64_w, i32_w]; rfl)
      refine take_ (i := 5) (N := some 25) (v := ?_) (a' := ?_) #[true,true,true,true,false,true,false,false,false,false,false,false,false,false,false,false,false,false] rfl rfl (take_ofW HT_.out HW_.out (by kernel_rfl)) (fun _ _ _ h => h) (Or.inl ⟨by rfl, ?_⟩) hHeld ?_ ?_
      rotate_left
      · rintro w' ⟨s0, s1, s2, s3⟩
        go_simp
        with_reducible rfl
      rotate_left; (simp only [Act.put, List.setIfInBounds_toArray, List.set_cons_zero, List.set_cons_succ, i64_w, i32_w]; rfl)
      refine one_ (i := 4) (N := some 24) #[true,true,true,true,true,true,false,false,false,false,false,false,false,false,false,false,false,false] rfl rfl (one_of HT_.out (by kernel_rfl)) (by decide) (fun K hK => ?_)
      refine goes_ Try.func21 (by kernel_rfl) rfl #[.agg #[.int .i64 x232000_4, .string x232001_4, .string x232002_4, .int .i64 x232003_4]] (by rfl) rfl rfl (by (try simp only [List.map_toArray, List.map_cons, List.map_nil]); first | done | rfl | (simp only [List.length_drop, List.length_take]; rfl) | (simp only [Act.eval, Array.getD_eq_getD_getElem?, Option.getD_some, *]; done) | (simp only [Array.mk.injEq, List.cons.injEq, Value.int.injEq, true_and, and_true]; first | omega | (simp [IntKind.wrap, IntKind.bits, IntKind.signed]; omega))) ?_
      with_reducible refine (method_Call_Check.calls kj4 x232000_4 x232001_4 x232002_4 x232003_4 t243 _ A20.out).mono ?_
      rintro e w28 ⟨rfl, hb⟩
      refine ⟨_, rfl, ?_⟩
      have n0_ := Aside0.mk (blk_below (g := gb231) (o := .cells #[.int .i64 x232000_4, .string x232001_4, .string x232002_4, .int .i64 x232003_4] 27 (0, 0)) (by (with_reducible repeat (first | refine blk_drewN ?_ _ | refine blk_drew ?_ | refine blk_alloc ?_ _)); exact BK231.out) hb)
      have n1_ := Aside0.mk (below_step (by repeat (first | (with_reducible first | exact HB.out | apply below_alloc | apply pw_below_drewN | apply below_drew1 | refine below_set ?_ GE231.out) | exact HB.out)) hb)
      clear BK231
      clear HB
      have BK231 := n0_
      have HB := n1_
      clear n0_ n1_
      (try clear hb)
      (try clear hb2)
      (try clear hk)
      (try clear hi)
      refine hK.out _ _ ⟨(blk_cell BK231.out 0).trans rfl, (blk_cell BK231.out 1).trans rfl, (blk_cell BK231.out 2).trans rfl, (blk_cell BK231.out 3).trans rfl⟩ (fun hHeld => ?_)
      clear hK K
      refine norm_ (a' := ?_) ?_ ?_
      rotate_left
      · show Act.put _ (some 24) _ = _
        simp only [Act.put, List.setIfInBounds_toArray, List.set_cons_zero, List.set_cons_succ, i64_w, i32_w]
        rfl
      refine one_ (i := 6) (N := some 26) #[true,true,true,true,true,true,true,false,false,false,false,false,false,false,false,false,false,false] rfl rfl (one_of HT_.out (by kernel_rfl)) (by decide) (fun K hK => ?_)
      refine goes_ Try.func15 (by kernel_rfl) rfl #[.agg #[.int .i64 x232000_4, .string x232001_4, .string x232002_4, .int .i64 x232003_4]] (by rfl) rfl rfl (by (try simp only [List.map_toArray, List.map_cons, List.map_nil]); first | done | rfl | (simp only [List.length_drop, List.length_take]; rfl) | (simp only [Act.eval, Array.getD_eq_getD_getElem?, Option.getD_some, *]; done) | (simp only [Array.mk.injEq, List.cons.injEq, Value.int.injEq, true_and, and_true]; first | omega | (simp [IntKind.wrap, IntKind.bits, IntKind.signed]; omega))) ?_
      with_reducible refine (armoirelaw12_Told.calls x232000_4 x232001_4 x232002_4 x232003_4 t244 t245 t246 t247 _ A21.out).mono ?_
      rintro e w29 ⟨rfl, hb⟩
      refine ⟨_, rfl, ?_⟩
      have n0_ := Aside0.mk (blk_below (g := gb231) (o := .cells #[.int .i64 x232000_4, .string x232001_4, .string x232002_4, .int .i64 x232003_4] 27 (0, 0)) (by (with_reducible repeat (first | refine blk_drewN ?_ _ | refine blk_drew ?_ | refine blk_alloc ?_ _)); exact BK231.out) hb)
      have n1_ := Aside0.mk (below_step (by repeat (first | (with_reducible first | exact HB.out | apply below_alloc | apply pw_below_drewN | apply below_drew1 | refine below_set ?_ GE231.out) | exact HB.out)) hb)
      clear BK231
      clear HB
      have BK231 := n0_
      have HB := n1_
      clear n0_ n1_
      (try clear hb)
      (try clear hb2)
      (try clear hk)
      (try clear hi)
      refine hK.out _ _ ⟨(blk_cell BK231.out 0).trans rfl, (blk_cell BK231.out 1).trans rfl, (blk_cell BK231.out 2).trans rfl, (blk_cell BK231.out 3).trans rfl⟩ (fun hHeld => ?_)
      clear hK K
      refine norm_ (a' := ?_) ?_ ?_
      rotate_left
      · show Act.put _ (some 26) _ = _
        simp only [Act.put, List.setIfInBounds_toArray, List.set_cons_zero, List.set_cons_succ, i64_w, i32_w]
        rfl
      refine one_ (i := 7) (N := some 27) #[true,true,true,true,true,true,true,true,false,false,false,false,false,false,false,false,false,false] rfl rfl (one_of HT_.out (by kernel_rfl)) (by decide) (fun K hK => ?_)
      refine goes_ Try.func22 (by kernel_rfl) rfl #[.agg #[.int .i64 t244, .string t245, .string t246, .int .i64 t247]] (by rfl) rfl rfl (by (try simp only [List.map_toArray, List.map_cons, List.map_nil]); first | done | rfl | (simp only [List.length_drop, List.length_take]; rfl) | (simp only [Act.eval, Array.getD_eq_getD_getElem?, Option.getD_some, *]; done) | (simp only [Array.mk.injEq, List.cons.injEq, Value.int.injEq, true_and, and_true]; first | omega | (simp [IntKind.wrap, IntKind.bits, IntKind.signed]; omega))) ?_
      with_reducible refine (armoireref12_Check.calls kj4 t244 t245 t246 t247 t248 _ A22.out).mono ?_
      rintro e w30 ⟨rfl, hb⟩
      refine ⟨_, rfl, ?_⟩
      have n0_ := Aside0.mk (blk_below (g := gb231) (o := .cells #[.int .i64 x232000_4, .string x232001_4, .string x232002_4, .int .i64 x232003_4] 27 (0, 0)) (by (with_reducible repeat (first | refine blk_drewN ?_ _ | refine blk_drew ?_ | refine blk_alloc ?_ _)); exact BK231.out) hb)
      have n1_ := Aside0.mk (below_step (by repeat (first | (with_reducible first | exact HB.out | apply below_alloc | apply pw_below_drewN | apply below_drew1 | refine below_set ?_ GE231.out) | exact HB.out)) hb)
      clear BK231
      clear HB
      have BK231 := n0_
      have HB := n1_
      clear n0_ n1_
      (try clear hb)
      (try clear hb2)
      (try clear hk)
      (try clear hi)
      refine hK.out _ _ ⟨(blk_cell BK231.out 0).trans rfl, (blk_cell BK231.out 1).trans rfl, (blk_cell BK231.out 2).trans rfl, (blk_cell BK231.out 3).trans rfl⟩ (fun hHeld => ?_)
      clear hK K
      refine norm_ (a' := ?_) ?_ ?_
      rotate_left
      · show Act.put _ (some 27) _ = _
        simp only [Act.put, List.setIfInBounds_toArray, List.set_cons_zero, List.set_cons_succ, i64_w, i32_w]
        rfl
      refine pure_ (i := 8) (N := some 28) (v := ?_) (a' := ?_) (bA 18 511) rfl rfl (any_of HT_.out (by kernel_rfl)) (fun _ _ _ h => h) (Or.inl ⟨by rfl, ?_⟩) ?_ ?_
      rotate_left; (intro w'; go_simp; with_reducible rfl); rotate_left; (simp only [Act.put, List.setIfInBounds_toArray, List.set_cons_zero, List.set_cons_succ, i64_w, i32_w]; rfl)
      refine pure_ (i := 9) (N := some 29) (v := ?_) (a' := ?_) (bA 18 1023) rfl rfl (any_of HT_.out (by kernel_rfl)) (fun _ _ _ h => h) (Or.inl ⟨by rfl, ?_⟩) ?_ ?_
      rotate_left; (intro w'; go_simp; with_reducible rfl); rotate_left; (simp only [Act.put, List.setIfInBounds_toArray, List.set_cons_zero, List.set_cons_succ, i64_w, i32_w]; rfl)
      refine pure_ (i := 10) (N := some 30) (v := ?_) (a' := ?_) (bA 18 2047) rfl rfl (any_of HT_.out (by kernel_rfl)) (fun _ _ _ h => h) (Or.inl ⟨by rfl, ?_⟩) ?_ ?_
      rotate_left; (intro w'; go_simp; with_reducible rfl); rotate_left; (simp only [Act.put, List.setIfInBounds_toArray, List.set_cons_zero, List.set_cons_succ, i64_w, i32_w]; rfl)
      refine pure_ (i := 11) (N := some 31) (v := ?_) (a' := ?_) (bA 18 4095) rfl rfl (any_of HT_.out (by kernel_rfl)) (fun _ _ _ h => h) (Or.inl ⟨by rfl, ?_⟩) ?_ ?_
      rotate_left; (intro w'; go_simp; with_reducible rfl); rotate_left; (simp only [Act.put, List.setIfInBounds_toArray, List.set_cons_zero, List.set_cons_succ, i64_w, i32_w]; rfl)
      refine pure_ (i := 12) (N := some 32) (v := ?_) (a' := ?_) (bA 18 8191) rfl rfl (any_of HT_.out (by kernel_rfl)) (fun _ _ _ h => h) (Or.inl ⟨by rfl, ?_⟩) ?_ ?_
      rotate_left; (intro w'; go_simp; with_reducible rfl); rotate_left; (simp only [Act.put, List.setIfInBounds_toArray, List.set_cons_zero, List.set_cons_succ, i64_w, i32_w]; rfl)
      refine take_ (i := 13) (N := some 33) (v := ?_) (a' := ?_) #[true,true,true,true,true,true,true,true,true,true,true,true,true,true,false,false,false,false] rfl rfl (take_ofW HT_.out HW_.out (by kernel_rfl)) (fun _ _ _ h => h) (Or.inl ⟨by rfl, ?_⟩) hHeld ?_ ?_
      rotate_left
      · rintro w' ⟨s0, s1, s2, s3⟩
        go_simp
        with_reducible rfl
      rotate_left; (simp only [Act.put, List.setIfInBounds_toArray, List.set_cons_zero, List.set_cons_succ, i64_w, i32_w]; rfl)
      refine one_ (i := 14) (N := some 34) #[true,true,true,true,true,true,true,true,true,true,true,true,true,true,true,false,false,false] rfl rfl (one_of HT_.out (by kernel_rfl)) (by decide) (fun K hK => ?_)
      refine goes_ Try.func21 (by kernel_rfl) rfl #[.agg #[.int .i64 x232000_4, .string x232001_4, .string x232002_4, .int .i64 x232003_4]] (by rfl) rfl rfl (by (try simp only [List.map_toArray, List.map_cons, List.map_nil]); first | done | rfl | (simp only [List.length_drop, List.length_take]; rfl) | (simp only [Act.eval, Array.getD_eq_getD_getElem?, Option.getD_some, *]; done) | (simp only [Array.mk.injEq, List.cons.injEq, Value.int.injEq, true_and, and_true]; first | omega | (simp [IntKind.wrap, IntKind.bits, IntKind.signed]; omega))) ?_
      with_reducible refine (method_Call_Check.calls kj4 x232000_4 x232001_4 x232002_4 x232003_4 t249 _ A25.out).mono ?_
      rintro e w31 ⟨rfl, hb⟩
      refine ⟨_, rfl, ?_⟩
      have n0_ := Aside0.mk (blk_below (g := gb231) (o := .cells #[.int .i64 x232000_4, .string x232001_4, .string x232002_4, .int .i64 x232003_4] 27 (0, 0)) (by (with_reducible repeat (first | refine blk_drewN ?_ _ | refine blk_drew ?_ | refine blk_alloc ?_ _)); exact BK231.out) hb)
      have n1_ := Aside0.mk (below_step (by repeat (first | (with_reducible first | exact HB.out | apply below_alloc | apply pw_below_drewN | apply below_drew1 | refine below_set ?_ GE231.out) | exact HB.out)) hb)
      clear BK231
      clear HB
      have BK231 := n0_
      have HB := n1_
      clear n0_ n1_
      (try clear hb)
      (try clear hb2)
      (try clear hk)
      (try clear hi)
      refine hK.out _ _ ⟨(blk_cell BK231.out 0).trans rfl, (blk_cell BK231.out 1).trans rfl, (blk_cell BK231.out 2).trans rfl, (blk_cell BK231.out 3).trans rfl⟩ (fun hHeld => ?_)
      clear hK K
      refine norm_ (a' := ?_) ?_ ?_
      rotate_left
      · show Act.put _ (some 34) _ = _
        simp only [Act.put, List.setIfInBounds_toArray, List.set_cons_zero, List.set_cons_succ, i64_w, i32_w]
        rfl
      refine pure_ (i := 15) (N := some 35) (v := ?_) (a' := ?_) (bA 18 65535) rfl rfl (any_of HT_.out (by kernel_rfl)) (fun _ _ _ h => h) (Or.inl ⟨by rfl, ?_⟩) ?_ ?_
      rotate_left; (intro w'; go_simp; with_reducible rfl); rotate_left; (simp only [Act.put, List.setIfInBounds_toArray, List.set_cons_zero, List.set_cons_succ, i64_w, i32_w]; rfl)
      refine pure_ (i := 16) (N := some 36) (v := ?_) (a' := ?_) (bA 18 131071) rfl rfl (any_of HT_.out (by kernel_rfl)) (fun _ _ _ h => h) (Or.inl ⟨by rfl, ?_⟩) ?_ ?_
      rotate_left; (intro w'; go_simp; with_reducible rfl); rotate_left; (simp only [Act.put, List.setIfInBounds_toArray, List.set_cons_zero, List.set_cons_succ, i64_w, i32_w]; rfl)
      refine pure_ (i := 17) (N := some 37) (v := ?_) (a' := ?_) (bA 18 262143) rfl rfl (any_of HT_.out (by kernel_rfl)) (fun _ _ _ h => h) (Or.inl ⟨by rfl, ?_⟩) ?_ ?_
      rotate_left; (intro w'; go_simp; with_reducible rfl); rotate_left; (simp only [Act.put, List.setIfInBounds_toArray, List.set_cons_zero, List.set_cons_succ, i64_w, i32_w]; rfl)
      refine done_ (done_of HT_.out (by kernel_rfl)) ?_
      try go_wp2
      go_meet
      case rel => exact ⟨_, ((t249 != 0)), (by first | rfl | (simp; done) | (simp [*]; done) | exact emp1_ _ | exact (emp1_ _).symm | exact emp2_ _ | exact (emp2_ _).symm), H', ⟨by have := HJ4.out; first | omega | exact Nat.le_refl _⟩, ⟨by (with_reducible repeat (first | refine blk_drewN ?_ _ | refine blk_drew ?_ | refine blk_alloc ?_ _)); exact BK231.out⟩, ⟨by repeat (first | (with_reducible first | exact HB.out | apply below_alloc | apply pw_below_drewN | apply below_drew1 | refine below_set ?_ GE231.out) | exact HB.out)⟩⟩
    clear HC17
    try clear c1
    try clear c2
    try clear p2
    try clear c9
    try clear c15
    try clear c19
    try clear c21
    try clear c22
    try clear c23
    try clear c23b0
    try clear c23b1
    try clear c24
    obtain ⟨kq, x37_16, rfl, HA, HJ16, BK231, HB⟩ := hcut
    cases kq with
    | zero => exact absurd HA.out (by simp [armoirelaw12_MethodCalls.j1])
    | succ kj16 =>
      have H := HA.out
      clear HA
      simp only [armoirelaw12_MethodCalls.j1] at H
      by_cases c44 : x37_16 = true
      · subst c44
        have H1 : (some false) = some r := by rw [if_pos rfl] at H; exact H
        clear H
        have H := H1
        clear H1
        obtain rfl := Option.some.inj H
        go_wp2
        go_ret
        exact ⟨by first | rfl | (simp [errW_none, errW_some] <;> rfl) | (simp [*, errW_none, errW_some] <;> rfl), by repeat (first | (with_reducible first | exact HB.out | apply below_alloc | apply pw_below_drewN | apply below_drew1 | refine below_set ?_ GE231.out) | exact HB.out)⟩
      replace c44 := Bool.eq_false_iff.mpr c44
      subst c44
      have H1 : ((method_Call_Check.f kj16 x232000_4 x232001_4 x232002_4 x232003_4).bind fun t250 => (if t250 = 0 then ((method_Call_Put.f x232000_4 x232001_4 x232002_4 x232003_4 (⟨#[]⟩ : ByteArray)).bind fun t252 => ((codec_Out_Text.f t252).bind fun bt253 => ((codec_Read.f bt253.1).bind fun bt255 => ((method_ReadCall.f kj16 bt255.1 bt255.2).bind fun bt258 => ((codec_Out_Text.f bt253.2).bind fun bt265 => ((armoirelaw12_Told.f x232000_4 x232001_4 x232002_4 x232003_4).bind fun bt267 => ((armoireref12_Text.f kj16 bt267.1 bt267.2.1 bt267.2.2.1 bt267.2.2.2).bind fun t271 => (if bt265.1.toList = t271.toList then (if (bt258.1 == x232000_4 && (bt258.2.1.toList == x232001_4.toList && (bt258.2.2.1.toList == x232002_4.toList && (bt258.2.2.2.1 == x232003_4)))) = true then ((codec_In_End.f bt258.2.2.2.2.1 bt258.2.2.2.2.2).bind fun bt272 => (some (bt272.1 == 0))) else (some false)) else (some false))))))))) else (some true))) = some r := by rw [if_neg (show ¬ (false = true) by decide)] at H; exact H
      clear H
      have H := H1
      clear H1
      replace H := Option.bind_eq_some_iff.mp H
      obtain ⟨t250, A450, H⟩ := H
      replace H : (if t250 = 0 then ((method_Call_Put.f x232000_4 x232001_4 x232002_4 x232003_4 (⟨#[]⟩ : ByteArray)).bind fun t252 => ((codec_Out_Text.f t252).bind fun bt253 => ((codec_Read.f bt253.1).bind fun bt255 => ((method_ReadCall.f kj16 bt255.1 bt255.2).bind fun bt258 => ((codec_Out_Text.f bt253.2).bind fun bt265 => ((armoirelaw12_Told.f x232000_4 x232001_4 x232002_4 x232003_4).bind fun bt267 => ((armoireref12_Text.f kj16 bt267.1 bt267.2.1 bt267.2.2.1 bt267.2.2.2).bind fun t271 => (if bt265.1.toList = t271.toList then (if (bt258.1 == x232000_4 && (bt258.2.1.toList == x232001_4.toList && (bt258.2.2.1.toList == x232002_4.toList && (bt258.2.2.2.1 == x232003_4)))) = true then ((codec_In_End.f bt258.2.2.2.2.1 bt258.2.2.2.2.2).bind fun bt272 => (some (bt272.1 == 0))) else (some false)) else (some false))))))))) else (some true)) = some r := H
      have A45 := Aside0.mk A450
      clear A450
      by_cases c46 : t250 = 0
      rotate_left
      · rw [if_neg c46] at H
        have c46b0 : (t250 == 0) = false := beq_eq_false_iff_ne.mpr c46
        have c46b1 : (t250 != 0) = true := bne_iff_ne.mpr c46
        obtain rfl := Option.some.inj H
        have hcz115_0 : wc.cell? ⟨gb231, 0, none⟩ = some (.int .i64 x232000_4) := (blk_cell BK231.out 0).trans rfl
        have hcz115_1 : wc.cell? ⟨gb231, 1, none⟩ = some (.string x232001_4) := (blk_cell BK231.out 1).trans rfl
        have hcz115_2 : wc.cell? ⟨gb231, 2, none⟩ = some (.string x232002_4) := (blk_cell BK231.out 2).trans rfl
        have hcz115_3 : wc.cell? ⟨gb231, 3, none⟩ = some (.int .i64 x232003_4) := (blk_cell BK231.out 3).trans rfl
        have hfz115_0 := blk_frozen BK231.out 0
        have hfz115_1 := blk_frozen BK231.out 1
        have hfz115_2 := blk_frozen BK231.out 2
        have hfz115_3 := blk_frozen BK231.out 3
        go_wp2_with (first | ((with_reducible refine gate_callee (f := 21) rfl ?_); refine goesL_ (some 39) rfl rfl Try.func21 (by kernel_rfl) rfl #[.agg #[.int .i64 x232000_4, .string x232001_4, .string x232002_4, .int .i64 x232003_4]] rfl (by (try simp only [List.map_toArray, List.map_cons, List.map_nil]); first | done | rfl | (simp only [List.length_drop, List.length_take]; rfl)) ?_; (with_reducible refine (method_Call_Check.calls kj16 x232000_4 x232001_4 x232002_4 x232003_4 t250 _ A45.out).mono ?_); rintro e w116 ⟨rfl, hb⟩; refine ⟨_, rfl, ?_⟩; have n0_ := Aside0.mk (blk_below (g := gb231) (o := .cells #[.int .i64 x232000_4, .string x232001_4, .string x232002_4, .int .i64 x232003_4] 27 (0, 0)) (by (with_reducible repeat (first | refine blk_drewN ?_ _ | refine blk_drew ?_ | refine blk_alloc ?_ _)); exact BK231.out) hb); have n1_ := Aside0.mk (below_step (by repeat (first | (with_reducible first | exact HB.out | apply below_alloc | apply pw_below_drewN | apply below_drew1 | refine below_set ?_ GE231.out) | exact HB.out)) hb); clear BK231; clear HB; have BK231 := n0_; have HB := n1_; clear n0_ n1_; (try clear hb); (try clear hb2); (try clear hk); (try clear hi)))
        go_ret
        exact ⟨by first | rfl | (simp [errW_none, errW_some] <;> rfl) | (simp [*, errW_none, errW_some] <;> rfl), by repeat (first | (with_reducible first | exact HB.out | apply below_alloc | apply pw_below_drewN | apply below_drew1 | refine below_set ?_ GE231.out) | exact HB.out)⟩
      rw [if_pos c46] at H
      have c46b0 : (t250 == 0) = true := beq_iff_eq.mpr c46
      have c46b1 : (t250 != 0) = false := bne_eq_false_iff_eq.mpr c46
      clear c46
      replace H := Option.bind_eq_some_iff.mp H
      obtain ⟨t252, A470, H⟩ := H
      replace H : ((codec_Out_Text.f t252).bind fun bt253 => ((codec_Read.f bt253.1).bind fun bt255 => ((method_ReadCall.f kj16 bt255.1 bt255.2).bind fun bt258 => ((codec_Out_Text.f bt253.2).bind fun bt265 => ((armoirelaw12_Told.f x232000_4 x232001_4 x232002_4 x232003_4).bind fun bt267 => ((armoireref12_Text.f kj16 bt267.1 bt267.2.1 bt267.2.2.1 bt267.2.2.2).bind fun t271 => (if bt265.1.toList = t271.toList then (if (bt258.1 == x232000_4 && (bt258.2.1.toList == x232001_4.toList && (bt258.2.2.1.toList == x232002_4.toList && (bt258.2.2.2.1 == x232003_4)))) = true then ((codec_In_End.f bt258.2.2.2.2.1 bt258.2.2.2.2.2).bind fun bt272 => (some (bt272.1 == 0))) else (some false)) else (some false)))))))) = some r := H
      have A47 := Aside0.mk A470
      clear A470
      replace H := Option.bind_eq_some_iff.mp H
      obtain ⟨⟨t253, t254⟩, A480, H⟩ := H
      replace H : ((codec_Read.f t253).bind fun bt255 => ((method_ReadCall.f kj16 bt255.1 bt255.2).bind fun bt258 => ((codec_Out_Text.f t254).bind fun bt265 => ((armoirelaw12_Told.f x232000_4 x232001_4 x232002_4 x232003_4).bind fun bt267 => ((armoireref12_Text.f kj16 bt267.1 bt267.2.1 bt267.2.2.1 bt267.2.2.2).bind fun t271 => (if bt265.1.toList = t271.toList then (if (bt258.1 == x232000_4 && (bt258.2.1.toList == x232001_4.toList && (bt258.2.2.1.toList == x232002_4.toList && (bt258.2.2.2.1 == x232003_4)))) = true then ((codec_In_End.f bt258.2.2.2.2.1 bt258.2.2.2.2.2).bind fun bt272 => (some (bt272.1 == 0))) else (some false)) else (some false))))))) = some r := H
      have A48 := Aside0.mk A480
      clear A480
      replace H := Option.bind_eq_some_iff.mp H
      obtain ⟨⟨t255, t256⟩, A490, H⟩ := H
      replace H : ((method_ReadCall.f kj16 t255 t256).bind fun bt258 => ((codec_Out_Text.f t254).bind fun bt265 => ((armoirelaw12_Told.f x232000_4 x232001_4 x232002_4 x232003_4).bind fun bt267 => ((armoireref12_Text.f kj16 bt267.1 bt267.2.1 bt267.2.2.1 bt267.2.2.2).bind fun t271 => (if bt265.1.toList = t271.toList then (if (bt258.1 == x232000_4 && (bt258.2.1.toList == x232001_4.toList && (bt258.2.2.1.toList == x232002_4.toList && (bt258.2.2.2.1 == x232003_4)))) = true then ((codec_In_End.f bt258.2.2.2.2.1 bt258.2.2.2.2.2).bind fun bt272 => (some (bt272.1 == 0))) else (some false)) else (some false)))))) = some r := H
      have A49 := Aside0.mk A490
      clear A490
      replace H := Option.bind_eq_some_iff.mp H
      obtain ⟨⟨t258, t259, t260, t261, t262, t263⟩, A500, H⟩ := H
      replace H : ((codec_Out_Text.f t254).bind fun bt265 => ((armoirelaw12_Told.f x232000_4 x232001_4 x232002_4 x232003_4).bind fun bt267 => ((armoireref12_Text.f kj16 bt267.1 bt267.2.1 bt267.2.2.1 bt267.2.2.2).bind fun t271 => (if bt265.1.toList = t271.toList then (if (t258 == x232000_4 && (t259.toList == x232001_4.toList && (t260.toList == x232002_4.toList && (t261 == x232003_4)))) = true then ((codec_In_End.f t262 t263).bind fun bt272 => (some (bt272.1 == 0))) else (some false)) else (some false))))) = some r := H
      have A50 := Aside0.mk A500
      clear A500
      replace H := Option.bind_eq_some_iff.mp H
      obtain ⟨⟨t265, t266⟩, A510, H⟩ := H
      replace H : ((armoirelaw12_Told.f x232000_4 x232001_4 x232002_4 x232003_4).bind fun bt267 => ((armoireref12_Text.f kj16 bt267.1 bt267.2.1 bt267.2.2.1 bt267.2.2.2).bind fun t271 => (if t265.toList = t271.toList then (if (t258 == x232000_4 && (t259.toList == x232001_4.toList && (t260.toList == x232002_4.toList && (t261 == x232003_4)))) = true then ((codec_In_End.f t262 t263).bind fun bt272 => (some (bt272.1 == 0))) else (some false)) else (some false)))) = some r := H
      have A51 := Aside0.mk A510
      clear A510
      replace H := Option.bind_eq_some_iff.mp H
      obtain ⟨⟨t267, t268, t269, t270⟩, A520, H⟩ := H
      replace H : ((armoireref12_Text.f kj16 t267 t268 t269 t270).bind fun t271 => (if t265.toList = t271.toList then (if (t258 == x232000_4 && (t259.toList == x232001_4.toList && (t260.toList == x232002_4.toList && (t261 == x232003_4)))) = true then ((codec_In_End.f t262 t263).bind fun bt272 => (some (bt272.1 == 0))) else (some false)) else (some false))) = some r := H
      have A52 := Aside0.mk A520
      clear A520
      replace H := Option.bind_eq_some_iff.mp H
      obtain ⟨t271, A530, H⟩ := H
      replace H : (if t265.toList = t271.toList then (if (t258 == x232000_4 && (t259.toList == x232001_4.toList && (t260.toList == x232002_4.toList && (t261 == x232003_4)))) = true then ((codec_In_End.f t262 t263).bind fun bt272 => (some (bt272.1 == 0))) else (some false)) else (some false)) = some r := H
      have A53 := Aside0.mk A530
      clear A530
      by_cases c54 : t265.toList = t271.toList
      rotate_left
      · rw [if_neg c54] at H
        have c54b0 : (t265.toList == t271.toList) = false := beq_eq_false_iff_ne.mpr c54
        have c54b1 : (t265.toList != t271.toList) = true := bne_iff_ne.mpr c54
        obtain rfl := Option.some.inj H
        have hcz96_0 : wc.cell? ⟨gb231, 0, none⟩ = some (.int .i64 x232000_4) := (blk_cell BK231.out 0).trans rfl
        have hcz96_1 : wc.cell? ⟨gb231, 1, none⟩ = some (.string x232001_4) := (blk_cell BK231.out 1).trans rfl
        have hcz96_2 : wc.cell? ⟨gb231, 2, none⟩ = some (.string x232002_4) := (blk_cell BK231.out 2).trans rfl
        have hcz96_3 : wc.cell? ⟨gb231, 3, none⟩ = some (.int .i64 x232003_4) := (blk_cell BK231.out 3).trans rfl
        have hfz96_0 := blk_frozen BK231.out 0
        have hfz96_1 := blk_frozen BK231.out 1
        have hfz96_2 := blk_frozen BK231.out 2
        have hfz96_3 := blk_frozen BK231.out 3
        try go_wp2_with (first | ((with_reducible refine gate_callee (f := 21) rfl ?_); refine goesL_ (some 39) rfl rfl Try.func21 (by kernel_rfl) rfl #[.agg #[.int .i64 x232000_4, .string x232001_4, .string x232002_4, .int .i64 x232003_4]] rfl (by (try simp only [List.map_toArray, List.map_cons, List.map_nil]); first | done | rfl | (simp only [List.length_drop, List.length_take]; rfl)) ?_; (with_reducible refine (method_Call_Check.calls kj16 x232000_4 x232001_4 x232002_4 x232003_4 t250 _ A45.out).mono ?_); rintro e w97 ⟨rfl, hb⟩; refine ⟨_, rfl, ?_⟩; have n0_ := Aside0.mk (blk_below (g := gb231) (o := .cells #[.int .i64 x232000_4, .string x232001_4, .string x232002_4, .int .i64 x232003_4] 27 (0, 0)) (by (with_reducible repeat (first | refine blk_drewN ?_ _ | refine blk_drew ?_ | refine blk_alloc ?_ _)); exact BK231.out) hb); have n1_ := Aside0.mk (below_step (by repeat (first | (with_reducible first | exact HB.out | apply below_alloc | apply pw_below_drewN | apply below_drew1 | refine below_set ?_ GE231.out) | exact HB.out)) hb); clear BK231; clear HB; have BK231 := n0_; have HB := n1_; clear n0_ n1_; (try clear hb); (try clear hb2); (try clear hk); (try clear hi)) | ((with_reducible refine gate_dst (N := 5) rfl ?_); refine box_event ?hg (N := 5) ?hd (cs := #[.slice none 0 0]) (t := 50) ?hr ?_; (case hd => rfl); (case hg => rfl); (case hr => first | (go_simp; done) | (go_simp; rfl)); intro gb251 hg w98 hbox hb; have n0_ := Aside0.mk (blk_below (g := gb231) (o := .cells #[.int .i64 x232000_4, .string x232001_4, .string x232002_4, .int .i64 x232003_4] 27 (0, 0)) (by (with_reducible repeat (first | refine blk_drewN ?_ _ | refine blk_drew ?_ | refine blk_alloc ?_ _)); exact BK231.out) hb); have n1_ := Aside0.mk (below_step (by repeat (first | (with_reducible first | exact HB.out | apply below_alloc | apply pw_below_drewN | apply below_drew1 | refine below_set ?_ GE231.out) | exact HB.out)) hb); have n2_ := Aside0.mk (hbox); have n3_ := Aside0.mk ((by rw [hg]; exact (below_size (by repeat (first | (with_reducible first | exact HB.out | apply below_alloc | apply pw_below_drewN | apply below_drew1 | refine below_set ?_ GE231.out) | exact HB.out))) : w.heap.size ≤ gb251)); have n4_ := Aside0.mk ((by rw [hg]; exact (below_size (by repeat (first | (with_reducible first | exact HB.out | apply below_alloc | apply pw_below_drewN | apply below_drew1 | refine below_set ?_ GE231.out) | exact HB.out))) : w.heap.size ≤ gb251)); have n5_ := Aside0.mk ((by rw [hg]; exact Nat.ne_of_lt (blk_lt (g := gb231) (o := .cells #[.int .i64 x232000_4, .string x232001_4, .string x232002_4, .int .i64 x232003_4] 27 (0, 0)) (by (with_reducible repeat (first | refine blk_drewN ?_ _ | refine blk_drew ?_ | refine blk_alloc ?_ _)); exact BK231.out)) : gb231 ≠ gb251)); have n6_ := Aside0.mk ((by rw [hg]; exact Nat.ne_of_gt (blk_lt (g := gb231) (o := .cells #[.int .i64 x232000_4, .string x232001_4, .string x232002_4, .int .i64 x232003_4] 27 (0, 0)) (by (with_reducible repeat (first | refine blk_drewN ?_ _ | refine blk_drew ?_ | refine blk_alloc ?_ _)); exact BK231.out)) : gb251 ≠ gb231)); have n7_ := Aside0.mk ((IsS50.box hbox (by rw [hg]; exact (below_size (by repeat (first | (with_reducible first | exact HB.out | apply below_alloc | apply pw_below_drewN | apply below_drew1 | refine below_set ?_ GE231.out) | exact HB.out))) : w.heap.size ≤ gb251) : IsS50 w w98 gb251 (⟨#[]⟩ : ByteArray))); clear BK231; clear HB; have BK231 := n0_; have HB := n1_; have BK251 := n2_; have GW251 := n3_; have GE251 := n4_; have NB231_251 := n5_; have NB251_231 := n6_; have HI251 := n7_; clear n0_ n1_ n2_ n3_ n4_ n5_ n6_ n7_; clear hb hbox hg; have hnb99 := NB231_251.out; have hnc99 := NB251_231.out; have hcz100_0 : w98.cell? ⟨gb231, 0, none⟩ = some (.int .i64 x232000_4) := (blk_cell BK231.out 0).trans rfl; have hcz100_1 : w98.cell? ⟨gb231, 1, none⟩ = some (.string x232001_4) := (blk_cell BK231.out 1).trans rfl; have hcz100_2 : w98.cell? ⟨gb231, 2, none⟩ = some (.string x232002_4) := (blk_cell BK231.out 2).trans rfl; have hcz100_3 : w98.cell? ⟨gb231, 3, none⟩ = some (.int .i64 x232003_4) := (blk_cell BK231.out 3).trans rfl; have hfz100_0 := blk_frozen BK231.out 0; have hfz100_1 := blk_frozen BK231.out 1; have hfz100_2 := blk_frozen BK231.out 2; have hfz100_3 := blk_frozen BK231.out 3) | ((with_reducible refine gate_callee (f := 23) rfl ?_); refine goesL_ (some 42) rfl rfl Try.func23 (by kernel_rfl) rfl #[.agg #[.int .i64 x232000_4, .string x232001_4, .string x232002_4, .int .i64 x232003_4], .pointer (some ⟨gb251, 0, none⟩)] rfl (by (try simp only [List.map_toArray, List.map_cons, List.map_nil]); first | done | rfl | (simp only [List.length_drop, List.length_take]; rfl)) ?_; (with_reducible refine (method_Call_Put.calls x232000_4 x232001_4 x232002_4 x232003_4 gb251 (⟨#[]⟩ : ByteArray) t252 w _ ?side1 ?side2 A47.out).mono ?_); (case side1 => repeat (first | (with_reducible first | exact HI251.out | apply IsS50.alloc | apply IsS50.drewN | apply IsS50.drew | apply IsS50.set_0 | refine IsS50.farT (p := ⟨gb231, _, none⟩) (t2 := 27) ?_ ?_ (by decide) (by decide) _ | exact OutT.mk BK231.out | refine OutT.set ?_ _ _ _) | exact HI251.out)); (case side2 => repeat (first | (with_reducible first | exact HB.out | apply below_alloc | apply pw_below_drewN | apply below_drew1 | refine below_set ?_ (IsS50.ge HI251.out) | refine below_set ?_ GE231.out) | exact HB.out)); rintro e w101 ⟨rfl, hi, hb, hk⟩; refine ⟨_, rfl, ?_⟩; have n0_ := Aside0.mk (KeepT.oblk (g := gb231) (o := .cells #[.int .i64 x232000_4, .string x232001_4, .string x232002_4, .int .i64 x232003_4] 27 (0, 0)) (by (with_reducible repeat (first | refine blk_drewN ?_ _ | refine blk_drew ?_ | refine blk_alloc ?_ _)); exact BK231.out) hk (by intro _ _ _ h_; cases h_; decide)); have n1_ := Aside0.mk (hb); have n2_ := Aside0.mk (hi); clear BK231; clear HB; clear HI251; have BK231 := n0_; have HB := n1_; have HI251 := n2_; clear n0_ n1_ n2_; (try clear hb); (try clear hb2); (try clear hk); (try clear hi)) | ((with_reducible refine gate_callee (f := 25) rfl ?_); refine goesL_ (some 43) rfl rfl Try.func25 (by kernel_rfl) rfl #[.pointer (some ⟨gb251, 0, none⟩)] rfl (by (try simp only [List.map_toArray, List.map_cons, List.map_nil]); first | done | rfl | (simp only [List.length_drop, List.length_take]; rfl)) ?_; (with_reducible refine (codec_Out_Text.calls gb251 t252 t253 t254 w _ ?side1 ?side2 A48.out).mono ?_); (case side1 => repeat (first | (with_reducible first | exact HI251.out | apply IsS50.alloc | apply IsS50.drewN | apply IsS50.drew | apply IsS50.set_0 | refine IsS50.farT (p := ⟨gb231, _, none⟩) (t2 := 27) ?_ ?_ (by decide) (by decide) _ | exact OutT.mk BK231.out | refine OutT.set ?_ _ _ _) | exact HI251.out)); (case side2 => repeat (first | (with_reducible first | exact HB.out | apply below_alloc | apply pw_below_drewN | apply below_drew1 | refine below_set ?_ (IsS50.ge HI251.out) | refine below_set ?_ GE231.out) | exact HB.out)); rintro e w102 ⟨rfl, hi, hb, hk⟩; refine ⟨_, rfl, ?_⟩; have n0_ := Aside0.mk (KeepT.oblk (g := gb231) (o := .cells #[.int .i64 x232000_4, .string x232001_4, .string x232002_4, .int .i64 x232003_4] 27 (0, 0)) (by (with_reducible repeat (first | refine blk_drewN ?_ _ | refine blk_drew ?_ | refine blk_alloc ?_ _)); exact BK231.out) hk (by intro _ _ _ h_; cases h_; decide)); have n1_ := Aside0.mk (hb); have n2_ := Aside0.mk (hi); clear BK231; clear HB; clear HI251; have BK231 := n0_; have HB := n1_; have HI251 := n2_; clear n0_ n1_ n2_; (try clear hb); (try clear hb2); (try clear hk); (try clear hi)) | ((with_reducible refine gate_callee (f := 24) rfl ?_); refine goesL_ (some 44) rfl rfl Try.func24 (by kernel_rfl) rfl #[.string t253] rfl (by (try simp only [List.map_toArray, List.map_cons, List.map_nil]); first | done | rfl | (simp only [List.length_drop, List.length_take]; rfl)) ?_; (with_reducible refine (codec_Read.calls t253 t255 t256 w _ ?side1 A49.out).mono ?_); (case side1 => repeat (first | (with_reducible first | exact HB.out | apply below_alloc | apply pw_below_drewN | apply below_drew1 | refine below_set ?_ (IsS50.ge HI251.out) | refine below_set ?_ GE231.out) | exact HB.out)); rintro e w103 ⟨g257, rfl, hi, hb, hb2⟩; refine ⟨_, rfl, ?_⟩; have n0_ := Aside0.mk (blk_below (g := gb231) (o := .cells #[.int .i64 x232000_4, .string x232001_4, .string x232002_4, .int .i64 x232003_4] 27 (0, 0)) (by (with_reducible repeat (first | refine blk_drewN ?_ _ | refine blk_drew ?_ | refine blk_alloc ?_ _)); exact BK231.out) hb2); have n1_ := Aside0.mk (IsS50.below (by repeat (first | (with_reducible first | exact HI251.out | apply IsS50.alloc | apply IsS50.drewN | apply IsS50.drew | apply IsS50.set_0 | refine IsS50.farT (p := ⟨gb231, _, none⟩) (t2 := 27) ?_ ?_ (by decide) (by decide) _ | exact OutT.mk BK231.out | refine OutT.set ?_ _ _ _) | exact HI251.out)) hb2); have n2_ := Aside0.mk (hb); have n3_ := Aside0.mk (hi); have n4_ := Aside0.mk (IsS80.ne_blk hi (blk_below (g := gb231) (o := .cells #[.int .i64 x232000_4, .string x232001_4, .string x232002_4, .int .i64 x232003_4] 27 (0, 0)) (by (with_reducible repeat (first | refine blk_drewN ?_ _ | refine blk_drew ?_ | refine blk_alloc ?_ _)); exact BK231.out) hb2) (by decide)); have n5_ := Aside0.mk (Ne.symm (IsS80.ne_blk hi (blk_below (g := gb231) (o := .cells #[.int .i64 x232000_4, .string x232001_4, .string x232002_4, .int .i64 x232003_4] 27 (0, 0)) (by (with_reducible repeat (first | refine blk_drewN ?_ _ | refine blk_drew ?_ | refine blk_alloc ?_ _)); exact BK231.out) hb2) (by decide))); clear BK231; clear HI251; clear HB; have BK231 := n0_; have HI251 := n1_; have HB := n2_; have HI257 := n3_; have NB257_231 := n4_; have NB231_257 := n5_; clear n0_ n1_ n2_ n3_ n4_ n5_; (try clear hb); (try clear hb2); (try clear hk); (try clear hi)) | ((with_reducible refine gate_callee (f := 26) rfl ?_); refine goesL_ (some 46) rfl rfl Try.func26 (by kernel_rfl) rfl #[.pointer (some ⟨g257, 0, none⟩)] rfl (by (try simp only [List.map_toArray, List.map_cons, List.map_nil]); first | done | rfl | (simp only [List.length_drop, List.length_take]; rfl)) ?_; (with_reducible refine (method_ReadCall.calls kj16 g257 t255 t256 t258 t259 t260 t261 t262 t263 w _ ?side1 ?side2 A50.out).mono ?_); (case side1 => repeat (first | (with_reducible first | exact HI257.out | apply IsS80.alloc | apply IsS80.drewN | apply IsS80.drew | apply IsS80.set_0 | apply IsS80.set_1 | refine IsS80.far ?_ NB257_231.out _) | exact HI257.out)); (case side2 => repeat (first | (with_reducible first | exact HB.out | apply below_alloc | apply pw_below_drewN | apply below_drew1 | refine below_set ?_ (IsS50.ge HI251.out) | refine below_set ?_ (IsS80.ge HI257.out) | refine below_set ?_ GE231.out) | exact HB.out)); rintro e w104 ⟨rfl, hi, hb, hk⟩; refine ⟨_, rfl, ?_⟩; have n0_ := Aside0.mk (KeepBut.blk hk (g' := gb231) (o := .cells #[.int .i64 x232000_4, .string x232001_4, .string x232002_4, .int .i64 x232003_4] 27 (0, 0)) (by (with_reducible repeat (first | refine blk_drewN ?_ _ | refine blk_drew ?_ | refine blk_alloc ?_ _)); exact BK231.out) NB231_257.out (by simp)); have n1_ := Aside0.mk (IsS50.keepB (show IsS50 w _ gb251 t254 from by repeat (first | (with_reducible first | exact HI251.out | apply IsS50.alloc | apply IsS50.drewN | apply IsS50.drew | apply IsS50.set_0 | refine IsS50.farT (p := ⟨gb231, _, none⟩) (t2 := 27) ?_ ?_ (by decide) (by decide) _ | exact OutT.mk BK231.out | refine OutT.set ?_ _ _ _) | exact HI251.out)) hk ((show IsS80 w _ g257 t255 t256 from by repeat (first | (with_reducible first | exact HI257.out | apply IsS80.alloc | apply IsS80.drewN | apply IsS80.drew | apply IsS80.set_0 | apply IsS80.set_1 | refine IsS80.far ?_ NB257_231.out _) | exact HI257.out))).1 (by decide) (by decide)); have n2_ := Aside0.mk (hb); have n3_ := Aside0.mk (hi); clear BK231; clear HI251; clear HB; clear HI257; have BK231 := n0_; have HI251 := n1_; have HB := n2_; have HI257 := n3_; clear n0_ n1_ n2_ n3_; (try clear hb); (try clear hb2); (try clear hk); (try clear hi)) | ((with_reducible refine gate_dst (N := 7) rfl ?_); refine box_event ?hg (N := 7) ?hd (cs := #[.int .i64 0, .string (⟨#[]⟩ : ByteArray), .string (⟨#[]⟩ : ByteArray), .int .i64 0]) (t := 27) ?hr ?_; (case hd => rfl); (case hg => rfl); (case hr => first | (go_simp; done) | (go_simp; rfl)); intro gb264 hg w105 hbox hb; have n0_ := Aside0.mk (blk_below (g := gb231) (o := .cells #[.int .i64 x232000_4, .string x232001_4, .string x232002_4, .int .i64 x232003_4] 27 (0, 0)) (by (with_reducible repeat (first | refine blk_drewN ?_ _ | refine blk_drew ?_ | refine blk_alloc ?_ _)); exact BK231.out) hb); have n1_ := Aside0.mk (IsS50.below (by repeat (first | (with_reducible first | exact HI251.out | apply IsS50.alloc | apply IsS50.drewN | apply IsS50.drew | apply IsS50.set_0 | refine IsS50.farT (p := ⟨gb231, _, none⟩) (t2 := 27) ?_ ?_ (by decide) (by decide) _ | exact OutT.mk BK231.out | refine OutT.set ?_ _ _ _) | exact HI251.out)) hb); have n2_ := Aside0.mk (IsS80.below (by repeat (first | (with_reducible first | exact HI257.out | apply IsS80.alloc | apply IsS80.drewN | apply IsS80.drew | apply IsS80.set_0 | apply IsS80.set_1 | refine IsS80.far ?_ NB257_231.out _) | exact HI257.out)) hb); have n3_ := Aside0.mk (below_step (by repeat (first | (with_reducible first | exact HB.out | apply below_alloc | apply pw_below_drewN | apply below_drew1 | refine below_set ?_ (IsS50.ge HI251.out) | refine below_set ?_ (IsS80.ge HI257.out) | refine below_set ?_ GE231.out) | exact HB.out)) hb); have n4_ := Aside0.mk (hbox); have n5_ := Aside0.mk ((by rw [hg]; exact (below_size (by repeat (first | (with_reducible first | exact HB.out | apply below_alloc | apply pw_below_drewN | apply below_drew1 | refine below_set ?_ (IsS50.ge HI251.out) | refine below_set ?_ (IsS80.ge HI257.out) | refine below_set ?_ GE231.out) | exact HB.out))) : w.heap.size ≤ gb264)); have n6_ := Aside0.mk ((by rw [hg]; exact (below_size (by repeat (first | (with_reducible first | exact HB.out | apply below_alloc | apply pw_below_drewN | apply below_drew1 | refine below_set ?_ (IsS50.ge HI251.out) | refine below_set ?_ (IsS80.ge HI257.out) | refine below_set ?_ GE231.out) | exact HB.out))) : w.heap.size ≤ gb264)); have n7_ := Aside0.mk ((by rw [hg]; exact Nat.ne_of_lt (blk_lt (g := gb231) (o := .cells #[.int .i64 x232000_4, .string x232001_4, .string x232002_4, .int .i64 x232003_4] 27 (0, 0)) (by (with_reducible repeat (first | refine blk_drewN ?_ _ | refine blk_drew ?_ | refine blk_alloc ?_ _)); exact BK231.out)) : gb231 ≠ gb264)); have n8_ := Aside0.mk ((by rw [hg]; exact Nat.ne_of_gt (blk_lt (g := gb231) (o := .cells #[.int .i64 x232000_4, .string x232001_4, .string x232002_4, .int .i64 x232003_4] 27 (0, 0)) (by (with_reducible repeat (first | refine blk_drewN ?_ _ | refine blk_drew ?_ | refine blk_alloc ?_ _)); exact BK231.out)) : gb264 ≠ gb231)); have n9_ := Aside0.mk ((by rw [hg]; exact Nat.ne_of_lt (IsS50.lt (show IsS50 w _ gb251 t254 from by repeat (first | (with_reducible first | exact HI251.out | apply IsS50.alloc | apply IsS50.drewN | apply IsS50.drew | apply IsS50.set_0 | refine IsS50.farT (p := ⟨gb231, _, none⟩) (t2 := 27) ?_ ?_ (by decide) (by decide) _ | exact OutT.mk BK231.out | refine OutT.set ?_ _ _ _) | exact HI251.out))) : gb251 ≠ gb264)); have n10_ := Aside0.mk ((by rw [hg]; exact Nat.ne_of_gt (IsS50.lt (show IsS50 w _ gb251 t254 from by repeat (first | (with_reducible first | exact HI251.out | apply IsS50.alloc | apply IsS50.drewN | apply IsS50.drew | apply IsS50.set_0 | refine IsS50.farT (p := ⟨gb231, _, none⟩) (t2 := 27) ?_ ?_ (by decide) (by decide) _ | exact OutT.mk BK231.out | refine OutT.set ?_ _ _ _) | exact HI251.out))) : gb264 ≠ gb251)); have n11_ := Aside0.mk ((by rw [hg]; exact Nat.ne_of_lt (IsS80.lt (show IsS80 w _ g257 t262 t263 from by repeat (first | (with_reducible first | exact HI257.out | apply IsS80.alloc | apply IsS80.drewN | apply IsS80.drew | apply IsS80.set_0 | apply IsS80.set_1 | refine IsS80.far ?_ NB257_231.out _) | exact HI257.out))) : g257 ≠ gb264)); have n12_ := Aside0.mk ((by rw [hg]; exact Nat.ne_of_gt (IsS80.lt (show IsS80 w _ g257 t262 t263 from by repeat (first | (with_reducible first | exact HI257.out | apply IsS80.alloc | apply IsS80.drewN | apply IsS80.drew | apply IsS80.set_0 | apply IsS80.set_1 | refine IsS80.far ?_ NB257_231.out _) | exact HI257.out))) : gb264 ≠ g257)); clear BK231; clear HI251; clear HI257; clear HB; have BK231 := n0_; have HI251 := n1_; have HI257 := n2_; have HB := n3_; have BK264 := n4_; have GW264 := n5_; have GE264 := n6_; have NB231_264 := n7_; have NB264_231 := n8_; have NB251_264 := n9_; have NB264_251 := n10_; have NB257_264 := n11_; have NB264_257 := n12_; clear n0_ n1_ n2_ n3_ n4_ n5_ n6_ n7_ n8_ n9_ n10_ n11_ n12_; clear hb hbox hg; have hnb106 := NB264_231.out; have hnc106 := NB231_264.out; have hnb107 := NB264_251.out; have hnc107 := NB251_264.out; have hnb108 := NB264_257.out; have hnc108 := NB257_264.out; have hcz109_0 : w105.cell? ⟨gb264, 0, none⟩ = some (.int .i64 0) := (blk_cell BK264.out 0).trans rfl; have hcz109_1 : w105.cell? ⟨gb264, 1, none⟩ = some (.string (⟨#[]⟩ : ByteArray)) := (blk_cell BK264.out 1).trans rfl; have hcz109_2 : w105.cell? ⟨gb264, 2, none⟩ = some (.string (⟨#[]⟩ : ByteArray)) := (blk_cell BK264.out 2).trans rfl; have hcz109_3 : w105.cell? ⟨gb264, 3, none⟩ = some (.int .i64 0) := (blk_cell BK264.out 3).trans rfl; have hfz109_0 := blk_frozen BK264.out 0; have hfz109_1 := blk_frozen BK264.out 1; have hfz109_2 := blk_frozen BK264.out 2; have hfz109_3 := blk_frozen BK264.out 3))
        have n0_ : Aside0 (((((w105.setCell ⟨gb264, 0, none⟩ (.int .i64 t258)).setCell ⟨gb264, 1, none⟩ (.string t259)).setCell ⟨gb264, 2, none⟩ (.string t260)).setCell ⟨gb264, 3, none⟩ (.int .i64 t261)).heap[gb231]? = some (.cells #[.int .i64 x232000_4, .string x232001_4, .string x232002_4, .int .i64 x232003_4] 27 (0, 0))) := ⟨by (with_reducible repeat (first | refine blk_drewN ?_ _ | refine blk_drew ?_ | refine blk_alloc ?_ _)); refine blk_far ?_ NB231_264.out _; (with_reducible repeat (first | refine blk_drewN ?_ _ | refine blk_drew ?_ | refine blk_alloc ?_ _)); refine blk_far ?_ NB231_264.out _; (with_reducible repeat (first | refine blk_drewN ?_ _ | refine blk_drew ?_ | refine blk_alloc ?_ _)); refine blk_far ?_ NB231_264.out _; (with_reducible repeat (first | refine blk_drewN ?_ _ | refine blk_drew ?_ | refine blk_alloc ?_ _)); refine blk_far ?_ NB231_264.out _; (with_reducible repeat (first | refine blk_drewN ?_ _ | refine blk_drew ?_ | refine blk_alloc ?_ _)); exact BK231.out⟩
        have n1_ : Aside0 (((((w105.setCell ⟨gb264, 0, none⟩ (.int .i64 t258)).setCell ⟨gb264, 1, none⟩ (.string t259)).setCell ⟨gb264, 2, none⟩ (.string t260)).setCell ⟨gb264, 3, none⟩ (.int .i64 t261)).heap[gb264]? = some (.cells #[.int .i64 t258, .string t259, .string t260, .int .i64 t261] 27 (0, 0))) := ⟨by (with_reducible repeat (first | refine blk_drewN ?_ _ | refine blk_drew ?_ | refine blk_alloc ?_ _)); refine blk_put (cs := #[.int .i64 t258, .string t259, .string t260, .int .i64 0]) ?_ 3 _ rfl; (with_reducible repeat (first | refine blk_drewN ?_ _ | refine blk_drew ?_ | refine blk_alloc ?_ _)); refine blk_put (cs := #[.int .i64 t258, .string t259, .string (⟨#[]⟩ : ByteArray), .int .i64 0]) ?_ 2 _ rfl; (with_reducible repeat (first | refine blk_drewN ?_ _ | refine blk_drew ?_ | refine blk_alloc ?_ _)); refine blk_put (cs := #[.int .i64 t258, .string (⟨#[]⟩ : ByteArray), .string (⟨#[]⟩ : ByteArray), .int .i64 0]) ?_ 1 _ rfl; (with_reducible repeat (first | refine blk_drewN ?_ _ | refine blk_drew ?_ | refine blk_alloc ?_ _)); refine blk_put (cs := #[.int .i64 0, .string (⟨#[]⟩ : ByteArray), .string (⟨#[]⟩ : ByteArray), .int .i64 0]) ?_ 0 _ rfl; (with_reducible repeat (first | refine blk_drewN ?_ _ | refine blk_drew ?_ | refine blk_alloc ?_ _)); exact BK264.out⟩
        have n2_ : Aside0 (IsS50 w ((((w105.setCell ⟨gb264, 0, none⟩ (.int .i64 t258)).setCell ⟨gb264, 1, none⟩ (.string t259)).setCell ⟨gb264, 2, none⟩ (.string t260)).setCell ⟨gb264, 3, none⟩ (.int .i64 t261)) gb251 t254) := ⟨by repeat (first | (with_reducible first | exact HI251.out | apply IsS50.alloc | apply IsS50.drewN | apply IsS50.drew | apply IsS50.set_0 | refine IsS50.farT (p := ⟨gb231, _, none⟩) (t2 := 27) ?_ ?_ (by decide) (by decide) _ | exact OutT.mk BK231.out | refine OutT.set ?_ _ _ _ | refine IsS50.farT (p := ⟨gb264, _, none⟩) (t2 := 27) ?_ ?_ (by decide) (by decide) _ | exact OutT.mk BK264.out | refine OutT.set ?_ _ _ _) | exact HI251.out)⟩
        have n3_ : Aside0 (IsS80 w ((((w105.setCell ⟨gb264, 0, none⟩ (.int .i64 t258)).setCell ⟨gb264, 1, none⟩ (.string t259)).setCell ⟨gb264, 2, none⟩ (.string t260)).setCell ⟨gb264, 3, none⟩ (.int .i64 t261)) g257 t262 t263) := ⟨by repeat (first | (with_reducible first | exact HI257.out | apply IsS80.alloc | apply IsS80.drewN | apply IsS80.drew | apply IsS80.set_0 | apply IsS80.set_1 | refine IsS80.far ?_ NB257_231.out _ | refine IsS80.far ?_ NB257_264.out _) | exact HI257.out)⟩
        have n4_ : Aside0 (Below w.heap.size w ((((w105.setCell ⟨gb264, 0, none⟩ (.int .i64 t258)).setCell ⟨gb264, 1, none⟩ (.string t259)).setCell ⟨gb264, 2, none⟩ (.string t260)).setCell ⟨gb264, 3, none⟩ (.int .i64 t261))) := ⟨by repeat (first | (with_reducible first | exact HB.out | apply below_alloc | apply pw_below_drewN | apply below_drew1 | refine below_set ?_ (IsS50.ge HI251.out) | refine below_set ?_ (IsS80.ge HI257.out) | refine below_set ?_ GE231.out | refine below_set ?_ GE264.out) | exact HB.out)⟩
        (try clear BK231)
        (try clear BK264)
        (try clear HI251)
        (try clear HI257)
        (try clear HB)
        generalize ((((w105.setCell ⟨gb264, 0, none⟩ (.int .i64 t258)).setCell ⟨gb264, 1, none⟩ (.string t259)).setCell ⟨gb264, 2, none⟩ (.string t260)).setCell ⟨gb264, 3, none⟩ (.int .i64 t261)) = w110 at n0_ n1_ n2_ n3_ n4_ ⊢
        have BK231 := n0_
        have BK264 := n1_
        have HI251 := n2_
        have HI257 := n3_
        have HB := n4_
        clear n0_ n1_ n2_ n3_ n4_
        have n0_ := Aside0.mk (blk_drew BK231.out)
        have n1_ := Aside0.mk (blk_drew BK264.out)
        have n2_ := Aside0.mk (IsS50.drew HI251.out)
        have n3_ := Aside0.mk (IsS80.drew HI257.out)
        have n4_ := Aside0.mk (below_drew1 HB.out)
        clear BK231
        clear BK264
        clear HI251
        clear HI257
        clear HB
        have BK231 := n0_
        have BK264 := n1_
        have HI251 := n2_
        have HI257 := n3_
        have HB := n4_
        clear n0_ n1_ n2_ n3_ n4_
        refine start_ (n := 16) (S := fun w' => w'.cell? ⟨gb231, 0, none⟩ = some (.int .i64 x232000_4) ∧ w'.cell? ⟨gb231, 1, none⟩ = some (.string x232001_4) ∧ w'.cell? ⟨gb231, 2, none⟩ = some (.string x232002_4) ∧ w'.cell? ⟨gb231, 3, none⟩ = some (.int .i64 x232003_4)) (ds := []) #[false,false,false,false,false,false,false,false,false,false,false,false,false,false,false,false] (by kernel_rfl) rfl rfl ⟨(blk_cell BK231.out 0).trans rfl, (blk_cell BK231.out 1).trans rfl, (blk_cell BK231.out 2).trans rfl, (blk_cell BK231.out 3).trans rfl⟩ (fun hHeld => ?_); refine with_tabW armoirelaw12_MethodCalls.tab12 armoirelaw12_MethodCalls.bits12 (fun HT_ HW_ => ?_)
        generalize w110.drew = w111 at BK231 BK264 HI251 HI257 HB hHeld ⊢
        refine take_ (i := 1) (N := some 48) (v := ?_) (a' := ?_) #[false,true,false,false,false,false,false,false,false,false,false,false,false,false,false,false] rfl rfl (take_ofW HT_.out HW_.out (by kernel_rfl)) (fun _ _ _ h => h) (Or.inl ⟨by rfl, ?_⟩) hHeld ?_ ?_
        rotate_left
        · rintro w' ⟨s0, s1, s2, s3⟩
          go_simp
          with_reducible rfl
        rotate_left; (simp only [Act.put, List.setIfInBounds_toArray, List.set_cons_zero, List.set_cons_succ, i64_w, i32_w]; rfl)
        refine one_ (i := 0) (N := some 47) #[true,true,false,false,false,false,false,false,false,false,false,false,false,false,false,false] rfl rfl (one_of HT_.out (by kernel_rfl)) (by decide) (fun K hK => ?_)
        refine goes_ Try.func25 (by kernel_rfl) rfl #[.pointer (some ⟨gb251, 0, none⟩)] (by rfl) rfl rfl (by (try simp only [List.map_toArray, List.map_cons, List.map_nil]); first | done | rfl | (simp only [List.length_drop, List.length_take]; rfl) | (simp only [Act.eval, Array.getD_eq_getD_getElem?, Option.getD_some, *]; done) | (simp only [Array.mk.injEq, List.cons.injEq, Value.int.injEq, true_and, and_true]; first | omega | (simp [IntKind.wrap, IntKind.bits, IntKind.signed]; omega))) ?_
        with_reducible refine (codec_Out_Text.calls gb251 t254 t265 t266 w _ ?side1 ?side2 A51.out).mono ?_
        (case side1 => repeat (first | (with_reducible first | exact HI251.out | apply IsS50.alloc | apply IsS50.drewN | apply IsS50.drew | apply IsS50.set_0 | refine IsS50.farT (p := ⟨gb231, _, none⟩) (t2 := 27) ?_ ?_ (by decide) (by decide) _ | exact OutT.mk BK231.out | refine OutT.set ?_ _ _ _ | refine IsS50.farT (p := ⟨gb264, _, none⟩) (t2 := 27) ?_ ?_ (by decide) (by decide) _ | exact OutT.mk BK264.out | refine OutT.set ?_ _ _ _) | exact HI251.out))
        (case side2 => repeat (first | (with_reducible first | exact HB.out | apply below_alloc | apply pw_below_drewN | apply below_drew1 | refine below_set ?_ (IsS50.ge HI251.out) | refine below_set ?_ (IsS80.ge HI257.out) | refine below_set ?_ GE231.out | refine below_set ?_ GE264.out) | exact HB.out))
        rintro e w112 ⟨rfl, hi, hb, hk⟩
        refine ⟨_, rfl, ?_⟩
        have n0_ := Aside0.mk (KeepT.oblk (g := gb231) (o := .cells #[.int .i64 x232000_4, .string x232001_4, .string x232002_4, .int .i64 x232003_4] 27 (0, 0)) (by (with_reducible repeat (first | refine blk_drewN ?_ _ | refine blk_drew ?_ | refine blk_alloc ?_ _)); exact BK231.out) hk (by intro _ _ _ h_; cases h_; decide))
        have n1_ := Aside0.mk ((show IsS80 w w112 g257 t262 t263 from ⟨KeepT.blk ((show IsS80 w _ g257 t262 t263 from by repeat (first | (with_reducible first | exact HI257.out | apply IsS80.alloc | apply IsS80.drewN | apply IsS80.drew | apply IsS80.set_0 | apply IsS80.set_1 | refine IsS80.far ?_ NB257_231.out _ | refine IsS80.far ?_ NB257_264.out _) | exact HI257.out))).1 hk (by decide), ((show IsS80 w _ g257 t262 t263 from by repeat (first | (with_reducible first | exact HI257.out | apply IsS80.alloc | apply IsS80.drewN | apply IsS80.drew | apply IsS80.set_0 | apply IsS80.set_1 | refine IsS80.far ?_ NB257_231.out _ | refine IsS80.far ?_ NB257_264.out _) | exact HI257.out))).2⟩))
        have n2_ := Aside0.mk (KeepT.oblk (g := gb264) (o := .cells #[.int .i64 t258, .string t259, .string t260, .int .i64 t261] 27 (0, 0)) (by (with_reducible repeat (first | refine blk_drewN ?_ _ | refine blk_drew ?_ | refine blk_alloc ?_ _)); exact BK264.out) hk (by intro _ _ _ h_; cases h_; decide))
        have n3_ := Aside0.mk (hb)
        have n4_ := Aside0.mk (hi)
        clear BK231
        clear HI257
        clear BK264
        clear HB
        clear HI251
        have BK231 := n0_
        have HI257 := n1_
        have BK264 := n2_
        have HB := n3_
        have HI251 := n4_
        clear n0_ n1_ n2_ n3_ n4_
        (try clear hb)
        (try clear hb2)
        (try clear hk)
        (try clear hi)
        refine hK.out _ _ ⟨(blk_cell BK231.out 0).trans rfl, (blk_cell BK231.out 1).trans rfl, (blk_cell BK231.out 2).trans rfl, (blk_cell BK231.out 3).trans rfl⟩ (fun hHeld => ?_)
        clear hK K
        refine norm_ (a' := ?_) ?_ ?_
        rotate_left
        · show Act.put _ (some 47) _ = _
          simp only [Act.put, List.setIfInBounds_toArray, List.set_cons_zero, List.set_cons_succ, i64_w, i32_w]
          rfl
        refine one_ (i := 2) (N := some 49) #[true,true,true,false,false,false,false,false,false,false,false,false,false,false,false,false] rfl rfl (one_of HT_.out (by kernel_rfl)) (by decide) (fun K hK => ?_)
        refine goes_ Try.func15 (by kernel_rfl) rfl #[.agg #[.int .i64 x232000_4, .string x232001_4, .string x232002_4, .int .i64 x232003_4]] (by rfl) rfl rfl (by (try simp only [List.map_toArray, List.map_cons, List.map_nil]); first | done | rfl | (simp only [List.length_drop, List.length_take]; rfl) | (simp only [Act.eval, Array.getD_eq_getD_getElem?, Option.getD_some, *]; done) | (simp only [Array.mk.injEq, List.cons.injEq, Value.int.injEq, true_and, and_true]; first | omega | (simp [IntKind.wrap, IntKind.bits, IntKind.signed]; omega))) ?_
        with_reducible refine (armoirelaw12_Told.calls x232000_4 x232001_4 x232002_4 x232003_4 t267 t268 t269 t270 _ A52.out).mono ?_
        rintro e w113 ⟨rfl, hb⟩
        refine ⟨_, rfl, ?_⟩
        have n0_ := Aside0.mk (blk_below (g := gb231) (o := .cells #[.int .i64 x232000_4, .string x232001_4, .string x232002_4, .int .i64 x232003_4] 27 (0, 0)) (by (with_reducible repeat (first | refine blk_drewN ?_ _ | refine blk_drew ?_ | refine blk_alloc ?_ _)); exact BK231.out) hb)
        have n1_ := Aside0.mk (IsS50.below (by repeat (first | (with_reducible first | exact HI251.out | apply IsS50.alloc | apply IsS50.drewN | apply IsS50.drew | apply IsS50.set_0 | refine IsS50.farT (p := ⟨gb231, _, none⟩) (t2 := 27) ?_ ?_ (by decide) (by decide) _ | exact OutT.mk BK231.out | refine OutT.set ?_ _ _ _ | refine IsS50.farT (p := ⟨gb264, _, none⟩) (t2 := 27) ?_ ?_ (by decide) (by decide) _ | exact OutT.mk BK264.out | refine OutT.set ?_ _ _ _) | exact HI251.out)) hb)
        have n2_ := Aside0.mk (IsS80.below (by repeat (first | (with_reducible first | exact HI257.out | apply IsS80.alloc | apply IsS80.drewN | apply IsS80.drew | apply IsS80.set_0 | apply IsS80.set_1 | refine IsS80.far ?_ NB257_231.out _ | refine IsS80.far ?_ NB257_264.out _) | exact HI257.out)) hb)
        have n3_ := Aside0.mk (blk_below (g := gb264) (o := .cells #[.int .i64 t258, .string t259, .string t260, .int .i64 t261] 27 (0, 0)) (by (with_reducible repeat (first | refine blk_drewN ?_ _ | refine blk_drew ?_ | refine blk_alloc ?_ _)); exact BK264.out) hb)
        have n4_ := Aside0.mk (below_step (by repeat (first | (with_reducible first | exact HB.out | apply below_alloc | apply pw_below_drewN | apply below_drew1 | refine below_set ?_ (IsS50.ge HI251.out) | refine below_set ?_ (IsS80.ge HI257.out) | refine below_set ?_ GE231.out | refine below_set ?_ GE264.out) | exact HB.out)) hb)
        clear BK231
        clear HI251
        clear HI257
        clear BK264
        clear HB
        have BK231 := n0_
        have HI251 := n1_
        have HI257 := n2_
        have BK264 := n3_
        have HB := n4_
        clear n0_ n1_ n2_ n3_ n4_
        (try clear hb)
        (try clear hb2)
        (try clear hk)
        (try clear hi)
        refine hK.out _ _ ⟨(blk_cell BK231.out 0).trans rfl, (blk_cell BK231.out 1).trans rfl, (blk_cell BK231.out 2).trans rfl, (blk_cell BK231.out 3).trans rfl⟩ (fun hHeld => ?_)
        clear hK K
        refine norm_ (a' := ?_) ?_ ?_
        rotate_left
        · show Act.put _ (some 49) _ = _
          simp only [Act.put, List.setIfInBounds_toArray, List.set_cons_zero, List.set_cons_succ, i64_w, i32_w]
          rfl
        refine one_ (i := 3) (N := some 50) #[true,true,true,true,false,false,false,false,false,false,false,false,false,false,false,false] rfl rfl (one_of HT_.out (by kernel_rfl)) (by decide) (fun K hK => ?_)
        refine goes_ Try.func27 (by kernel_rfl) rfl #[.agg #[.int .i64 t267, .string t268, .string t269, .int .i64 t270]] (by rfl) rfl rfl (by (try simp only [List.map_toArray, List.map_cons, List.map_nil]); first | done | rfl | (simp only [List.length_drop, List.length_take]; rfl) | (simp only [Act.eval, Array.getD_eq_getD_getElem?, Option.getD_some, *]; done) | (simp only [Array.mk.injEq, List.cons.injEq, Value.int.injEq, true_and, and_true]; first | omega | (simp [IntKind.wrap, IntKind.bits, IntKind.signed]; omega))) ?_
        with_reducible refine (armoireref12_Text.calls kj16 t267 t268 t269 t270 t271 _ A53.out).mono ?_
        rintro e w114 ⟨rfl, hb⟩
        refine ⟨_, rfl, ?_⟩
        have n0_ := Aside0.mk (blk_below (g := gb231) (o := .cells #[.int .i64 x232000_4, .string x232001_4, .string x232002_4, .int .i64 x232003_4] 27 (0, 0)) (by (with_reducible repeat (first | refine blk_drewN ?_ _ | refine blk_drew ?_ | refine blk_alloc ?_ _)); exact BK231.out) hb)
        have n1_ := Aside0.mk (IsS50.below (by repeat (first | (with_reducible first | exact HI251.out | apply IsS50.alloc | apply IsS50.drewN | apply IsS50.drew | apply IsS50.set_0 | refine IsS50.farT (p := ⟨gb231, _, none⟩) (t2 := 27) ?_ ?_ (by decide) (by decide) _ | exact OutT.mk BK231.out | refine OutT.set ?_ _ _ _ | refine IsS50.farT (p := ⟨gb264, _, none⟩) (t2 := 27) ?_ ?_ (by decide) (by decide) _ | exact OutT.mk BK264.out | refine OutT.set ?_ _ _ _) | exact HI251.out)) hb)
        have n2_ := Aside0.mk (IsS80.below (by repeat (first | (with_reducible first | exact HI257.out | apply IsS80.alloc | apply IsS80.drewN | apply IsS80.drew | apply IsS80.set_0 | apply IsS80.set_1 | refine IsS80.far ?_ NB257_231.out _ | refine IsS80.far ?_ NB257_264.out _) | exact HI257.out)) hb)
        have n3_ := Aside0.mk (blk_below (g := gb264) (o := .cells #[.int .i64 t258, .string t259, .string t260, .int .i64 t261] 27 (0, 0)) (by (with_reducible repeat (first | refine blk_drewN ?_ _ | refine blk_drew ?_ | refine blk_alloc ?_ _)); exact BK264.out) hb)
        have n4_ := Aside0.mk (below_step (by repeat (first | (with_reducible first | exact HB.out | apply below_alloc | apply pw_below_drewN | apply below_drew1 | refine below_set ?_ (IsS50.ge HI251.out) | refine below_set ?_ (IsS80.ge HI257.out) | refine below_set ?_ GE231.out | refine below_set ?_ GE264.out) | exact HB.out)) hb)
        clear BK231
        clear HI251
        clear HI257
        clear BK264
        clear HB
        have BK231 := n0_
        have HI251 := n1_
        have HI257 := n2_
        have BK264 := n3_
        have HB := n4_
        clear n0_ n1_ n2_ n3_ n4_
        (try clear hb)
        (try clear hb2)
        (try clear hk)
        (try clear hi)
        refine hK.out _ _ ⟨(blk_cell BK231.out 0).trans rfl, (blk_cell BK231.out 1).trans rfl, (blk_cell BK231.out 2).trans rfl, (blk_cell BK231.out 3).trans rfl⟩ (fun hHeld => ?_)
        clear hK K
        refine norm_ (a' := ?_) ?_ ?_
        rotate_left
        · show Act.put _ (some 50) _ = _
          simp only [Act.put, List.setIfInBounds_toArray, List.set_cons_zero, List.set_cons_succ, i64_w, i32_w]
          rfl
        refine pure_ (i := 4) (N := some 51) (v := ?_) (a' := ?_) (bA 16 31) rfl rfl (any_of HT_.out (by kernel_rfl)) (fun _ _ _ h => h) (Or.inl ⟨by rfl, ?_⟩) ?_ ?_
        rotate_left; (intro w'; go_simp; with_reducible rfl); rotate_left; (simp only [Act.put, List.setIfInBounds_toArray, List.set_cons_zero, List.set_cons_succ, i64_w, i32_w]; rfl)
        refine pure_ (i := 5) (N := some 52) (v := ?_) (a' := ?_) (bA 16 63) rfl rfl (any_of HT_.out (by kernel_rfl)) (fun _ _ _ h => h) (Or.inl ⟨by rfl, ?_⟩) ?_ ?_
        rotate_left; (intro w'; go_simp; with_reducible rfl); rotate_left; (simp only [Act.put, List.setIfInBounds_toArray, List.set_cons_zero, List.set_cons_succ, i64_w, i32_w]; rfl)
        refine pure_ (i := 6) (N := some 53) (v := undef) (a' := ?_) (bA 16 127) rfl rfl (any_of HT_.out (by kernel_rfl)) (fun _ _ _ h => h) (Or.inr ⟨by rfl, rfl⟩) ?_ ?_
        rotate_left; (simp only [Act.put, List.setIfInBounds_toArray, List.set_cons_zero, List.set_cons_succ, i64_w, i32_w]; rfl)
        refine pure_ (i := 7) (N := some 54) (v := undef) (a' := ?_) (bA 16 255) rfl rfl (any_of HT_.out (by kernel_rfl)) (fun _ _ _ h => h) (Or.inr ⟨by rfl, rfl⟩) ?_ ?_
        rotate_left; (simp only [Act.put, List.setIfInBounds_toArray, List.set_cons_zero, List.set_cons_succ, i64_w, i32_w]; rfl)
        refine pure_ (i := 8) (N := some 55) (v := undef) (a' := ?_) (bA 16 511) rfl rfl (any_of HT_.out (by kernel_rfl)) (fun _ _ _ h => h) (Or.inr ⟨by rfl, rfl⟩) ?_ ?_
        rotate_left; (simp only [Act.put, List.setIfInBounds_toArray, List.set_cons_zero, List.set_cons_succ, i64_w, i32_w]; rfl)
        refine pure_ (i := 9) (N := some 56) (v := ?_) (a' := ?_) (bA 16 1023) rfl rfl (any_of HT_.out (by kernel_rfl)) (fun _ _ _ h => h) (Or.inl ⟨by rfl, ?_⟩) ?_ ?_
        rotate_left; (intro w'; go_simp; with_reducible rfl); rotate_left; (simp only [Act.put, List.setIfInBounds_toArray, List.set_cons_zero, List.set_cons_succ, i64_w, i32_w]; rfl)
        refine pure_ (i := 10) (N := some 57) (v := ?_) (a' := ?_) (bA 16 2047) rfl rfl (any_of HT_.out (by kernel_rfl)) (fun _ _ _ h => h) (Or.inl ⟨by rfl, ?_⟩) ?_ ?_
        rotate_left; (intro w'; go_simp; with_reducible rfl); rotate_left; (simp only [Act.put, List.setIfInBounds_toArray, List.set_cons_zero, List.set_cons_succ, i64_w, i32_w]; rfl)
        refine pure_ (i := 11) (N := some 58) (v := undef) (a' := ?_) (bA 16 4095) rfl rfl (any_of HT_.out (by kernel_rfl)) (fun _ _ _ h => h) (Or.inr ⟨by rfl, rfl⟩) ?_ ?_
        rotate_left; (simp only [Act.put, List.setIfInBounds_toArray, List.set_cons_zero, List.set_cons_succ, i64_w, i32_w]; rfl)
        refine pure_ (i := 12) (N := some 59) (v := undef) (a' := ?_) (bA 16 8191) rfl rfl (any_of HT_.out (by kernel_rfl)) (fun _ _ _ h => h) (Or.inr ⟨by rfl, rfl⟩) ?_ ?_
        rotate_left; (simp only [Act.put, List.setIfInBounds_toArray, List.set_cons_zero, List.set_cons_succ, i64_w, i32_w]; rfl)
        refine pure_ (i := 13) (N := some 60) (v := undef) (a' := ?_) (bA 16 16383) rfl rfl (any_of HT_.out (by kernel_rfl)) (fun _ _ _ h => h) (Or.inr ⟨by rfl, rfl⟩) ?_ ?_
        rotate_left; (simp only [Act.put, List.setIfInBounds_toArray, List.set_cons_zero, List.set_cons_succ, i64_w, i32_w]; rfl)
        refine pure_ (i := 14) (N := some 61) (v := ?_) (a' := ?_) (bA 16 32767) rfl rfl (any_of HT_.out (by kernel_rfl)) (fun _ _ _ h => h) (Or.inl ⟨by rfl, ?_⟩) ?_ ?_
        rotate_left; (intro w'; go_simp; with_reducible rfl); rotate_left; (simp only [Act.put, List.setIfInBounds_toArray, List.set_cons_zero, List.set_cons_succ, i64_w, i32_w]; rfl)
        refine pure_ (i := 15) (N := some 4) (v := ?_) (a' := ?_) (bA 16 65535) rfl rfl (any_of HT_.out (by kernel_rfl)) (fun _ _ _ h => h) (Or.inl ⟨by rfl, ?_⟩) ?_ ?_
        rotate_left; (intro w'; go_simp; with_reducible rfl); rotate_left; (simp only [Act.put, List.setIfInBounds_toArray, List.set_cons_zero, List.set_cons_succ, i64_w, i32_w]; rfl)
        refine done_ (done_of HT_.out (by kernel_rfl)) ?_
        try go_wp2
        go_ret
        exact ⟨by first | rfl | (simp [errW_none, errW_some] <;> rfl) | (simp [*, errW_none, errW_some] <;> rfl), by repeat (first | (with_reducible first | exact HB.out | apply below_alloc | apply pw_below_drewN | apply below_drew1 | refine below_set ?_ (IsS50.ge HI251.out) | refine below_set ?_ (IsS80.ge HI257.out) | refine below_set ?_ GE231.out | refine below_set ?_ GE264.out) | exact HB.out)⟩
      rw [if_pos c54] at H
      have c54b0 : (t265.toList == t271.toList) = true := beq_iff_eq.mpr c54
      have c54b1 : (t265.toList != t271.toList) = false := bne_eq_false_iff_eq.mpr c54
      clear c54
      by_cases c55 : (t258 == x232000_4 && (t259.toList == x232001_4.toList && (t260.toList == x232002_4.toList && (t261 == x232003_4)))) = true
      rotate_left
      · rw [if_neg c55] at H
        have c55b0 : (t258 == x232000_4 && (t259.toList == x232001_4.toList && (t260.toList == x232002_4.toList && (t261 == x232003_4)))) = false := by simpa using c55
        (try (have c55b1 : decide (t258 = x232000_4 && (t259.toList == x232001_4.toList && (t260.toList == x232002_4.toList && (t261 == x232003_4)))) = false := by simpa using c55))
        (try (have c55b2 : (t258 == x232000_4 && (t259.toList == x232001_4.toList && (t260.toList == x232002_4.toList && (t261 == x232003_4)))) = false := by simpa using c55))
        (try (have c55b3 : ¬ (t258 = x232000_4 && (t259.toList == x232001_4.toList && (t260.toList == x232002_4.toList && (t261 == x232003_4)))) := by simpa using c55))
        clear c55
        obtain rfl := Option.some.inj H
        have hcz77_0 : wc.cell? ⟨gb231, 0, none⟩ = some (.int .i64 x232000_4) := (blk_cell BK231.out 0).trans rfl
        have hcz77_1 : wc.cell? ⟨gb231, 1, none⟩ = some (.string x232001_4) := (blk_cell BK231.out 1).trans rfl
        have hcz77_2 : wc.cell? ⟨gb231, 2, none⟩ = some (.string x232002_4) := (blk_cell BK231.out 2).trans rfl
        have hcz77_3 : wc.cell? ⟨gb231, 3, none⟩ = some (.int .i64 x232003_4) := (blk_cell BK231.out 3).trans rfl
        have hfz77_0 := blk_frozen BK231.out 0
        have hfz77_1 := blk_frozen BK231.out 1
        have hfz77_2 := blk_frozen BK231.out 2
        have hfz77_3 := blk_frozen BK231.out 3
        try go_wp2_with (first | ((with_reducible refine gate_callee (f := 21) rfl ?_); refine goesL_ (some 39) rfl rfl Try.func21 (by kernel_rfl) rfl #[.agg #[.int .i64 x232000_4, .string x232001_4, .string x232002_4, .int .i64 x232003_4]] rfl (by (try simp only [List.map_toArray, List.map_cons, List.map_nil]); first | done | rfl | (simp only [List.length_drop, List.length_take]; rfl)) ?_; (with_reducible refine (method_Call_Check.calls kj16 x232000_4 x232001_4 x232002_4 x232003_4 t250 _ A45.out).mono ?_); rintro e w78 ⟨rfl, hb⟩; refine ⟨_, rfl, ?_⟩; have n0_ := Aside0.mk (blk_below (g := gb231) (o := .cells #[.int .i64 x232000_4, .string x232001_4, .string x232002_4, .int .i64 x232003_4] 27 (0, 0)) (by (with_reducible repeat (first | refine blk_drewN ?_ _ | refine blk_drew ?_ | refine blk_alloc ?_ _)); exact BK231.out) hb); have n1_ := Aside0.mk (below_step (by repeat (first | (with_reducible first | exact HB.out | apply below_alloc | apply pw_below_drewN | apply below_drew1 | refine below_set ?_ GE231.out) | exact HB.out)) hb); clear BK231; clear HB; have BK231 := n0_; have HB := n1_; clear n0_ n1_; (try clear hb); (try clear hb2); (try clear hk); (try clear hi)) | ((with_reducible refine gate_dst (N := 5) rfl ?_); refine box_event ?hg (N := 5) ?hd (cs := #[.slice none 0 0]) (t := 50) ?hr ?_; (case hd => rfl); (case hg => rfl); (case hr => first | (go_simp; done) | (go_simp; rfl)); intro gb251 hg w79 hbox hb; have n0_ := Aside0.mk (blk_below (g := gb231) (o := .cells #[.int .i64 x232000_4, .string x232001_4, .string x232002_4, .int .i64 x232003_4] 27 (0, 0)) (by (with_reducible repeat (first | refine blk_drewN ?_ _ | refine blk_drew ?_ | refine blk_alloc ?_ _)); exact BK231.out) hb); have n1_ := Aside0.mk (below_step (by repeat (first | (with_reducible first | exact HB.out | apply below_alloc | apply pw_below_drewN | apply below_drew1 | refine below_set ?_ GE231.out) | exact HB.out)) hb); have n2_ := Aside0.mk (hbox); have n3_ := Aside0.mk ((by rw [hg]; exact (below_size (by repeat (first | (with_reducible first | exact HB.out | apply below_alloc | apply pw_below_drewN | apply below_drew1 | refine below_set ?_ GE231.out) | exact HB.out))) : w.heap.size ≤ gb251)); have n4_ := Aside0.mk ((by rw [hg]; exact (below_size (by repeat (first | (with_reducible first | exact HB.out | apply below_alloc | apply pw_below_drewN | apply below_drew1 | refine below_set ?_ GE231.out) | exact HB.out))) : w.heap.size ≤ gb251)); have n5_ := Aside0.mk ((by rw [hg]; exact Nat.ne_of_lt (blk_lt (g := gb231) (o := .cells #[.int .i64 x232000_4, .string x232001_4, .string x232002_4, .int .i64 x232003_4] 27 (0, 0)) (by (with_reducible repeat (first | refine blk_drewN ?_ _ | refine blk_drew ?_ | refine blk_alloc ?_ _)); exact BK231.out)) : gb231 ≠ gb251)); have n6_ := Aside0.mk ((by rw [hg]; exact Nat.ne_of_gt (blk_lt (g := gb231) (o := .cells #[.int .i64 x232000_4, .string x232001_4, .string x232002_4, .int .i64 x232003_4] 27 (0, 0)) (by (with_reducible repeat (first | refine blk_drewN ?_ _ | refine blk_drew ?_ | refine blk_alloc ?_ _)); exact BK231.out)) : gb251 ≠ gb231)); have n7_ := Aside0.mk ((IsS50.box hbox (by rw [hg]; exact (below_size (by repeat (first | (with_reducible first | exact HB.out | apply below_alloc | apply pw_below_drewN | apply below_drew1 | refine below_set ?_ GE231.out) | exact HB.out))) : w.heap.size ≤ gb251) : IsS50 w w79 gb251 (⟨#[]⟩ : ByteArray))); clear BK231; clear HB; have BK231 := n0_; have HB := n1_; have BK251 := n2_; have GW251 := n3_; have GE251 := n4_; have NB231_251 := n5_; have NB251_231 := n6_; have HI251 := n7_; clear n0_ n1_ n2_ n3_ n4_ n5_ n6_ n7_; clear hb hbox hg; have hnb80 := NB231_251.out; have hnc80 := NB251_231.out; have hcz81_0 : w79.cell? ⟨gb231, 0, none⟩ = some (.int .i64 x232000_4) := (blk_cell BK231.out 0).trans rfl; have hcz81_1 : w79.cell? ⟨gb231, 1, none⟩ = some (.string x232001_4) := (blk_cell BK231.out 1).trans rfl; have hcz81_2 : w79.cell? ⟨gb231, 2, none⟩ = some (.string x232002_4) := (blk_cell BK231.out 2).trans rfl; have hcz81_3 : w79.cell? ⟨gb231, 3, none⟩ = some (.int .i64 x232003_4) := (blk_cell BK231.out 3).trans rfl; have hfz81_0 := blk_frozen BK231.out 0; have hfz81_1 := blk_frozen BK231.out 1; have hfz81_2 := blk_frozen BK231.out 2; have hfz81_3 := blk_frozen BK231.out 3) | ((with_reducible refine gate_callee (f := 23) rfl ?_); refine goesL_ (some 42) rfl rfl Try.func23 (by kernel_rfl) rfl #[.agg #[.int .i64 x232000_4, .string x232001_4, .string x232002_4, .int .i64 x232003_4], .pointer (some ⟨gb251, 0, none⟩)] rfl (by (try simp only [List.map_toArray, List.map_cons, List.map_nil]); first | done | rfl | (simp only [List.length_drop, List.length_take]; rfl)) ?_; (with_reducible refine (method_Call_Put.calls x232000_4 x232001_4 x232002_4 x232003_4 gb251 (⟨#[]⟩ : ByteArray) t252 w _ ?side1 ?side2 A47.out).mono ?_); (case side1 => repeat (first | (with_reducible first | exact HI251.out | apply IsS50.alloc | apply IsS50.drewN | apply IsS50.drew | apply IsS50.set_0 | refine IsS50.farT (p := ⟨gb231, _, none⟩) (t2 := 27) ?_ ?_ (by decide) (by decide) _ | exact OutT.mk BK231.out | refine OutT.set ?_ _ _ _) | exact HI251.out)); (case side2 => repeat (first | (with_reducible first | exact HB.out | apply below_alloc | apply pw_below_drewN | apply below_drew1 | refine below_set ?_ (IsS50.ge HI251.out) | refine below_set ?_ GE231.out) | exact HB.out)); rintro e w82 ⟨rfl, hi, hb, hk⟩; refine ⟨_, rfl, ?_⟩; have n0_ := Aside0.mk (KeepT.oblk (g := gb231) (o := .cells #[.int .i64 x232000_4, .string x232001_4, .string x232002_4, .int .i64 x232003_4] 27 (0, 0)) (by (with_reducible repeat (first | refine blk_drewN ?_ _ | refine blk_drew ?_ | refine blk_alloc ?_ _)); exact BK231.out) hk (by intro _ _ _ h_; cases h_; decide)); have n1_ := Aside0.mk (hb); have n2_ := Aside0.mk (hi); clear BK231; clear HB; clear HI251; have BK231 := n0_; have HB := n1_; have HI251 := n2_; clear n0_ n1_ n2_; (try clear hb); (try clear hb2); (try clear hk); (try clear hi)) | ((with_reducible refine gate_callee (f := 25) rfl ?_); refine goesL_ (some 43) rfl rfl Try.func25 (by kernel_rfl) rfl #[.pointer (some ⟨gb251, 0, none⟩)] rfl (by (try simp only [List.map_toArray, List.map_cons, List.map_nil]); first | done | rfl | (simp only [List.length_drop, List.length_take]; rfl)) ?_; (with_reducible refine (codec_Out_Text.calls gb251 t252 t253 t254 w _ ?side1 ?side2 A48.out).mono ?_); (case side1 => repeat (first | (with_reducible first | exact HI251.out | apply IsS50.alloc | apply IsS50.drewN | apply IsS50.drew | apply IsS50.set_0 | refine IsS50.farT (p := ⟨gb231, _, none⟩) (t2 := 27) ?_ ?_ (by decide) (by decide) _ | exact OutT.mk BK231.out | refine OutT.set ?_ _ _ _) | exact HI251.out)); (case side2 => repeat (first | (with_reducible first | exact HB.out | apply below_alloc | apply pw_below_drewN | apply below_drew1 | refine below_set ?_ (IsS50.ge HI251.out) | refine below_set ?_ GE231.out) | exact HB.out)); rintro e w83 ⟨rfl, hi, hb, hk⟩; refine ⟨_, rfl, ?_⟩; have n0_ := Aside0.mk (KeepT.oblk (g := gb231) (o := .cells #[.int .i64 x232000_4, .string x232001_4, .string x232002_4, .int .i64 x232003_4] 27 (0, 0)) (by (with_reducible repeat (first | refine blk_drewN ?_ _ | refine blk_drew ?_ | refine blk_alloc ?_ _)); exact BK231.out) hk (by intro _ _ _ h_; cases h_; decide)); have n1_ := Aside0.mk (hb); have n2_ := Aside0.mk (hi); clear BK231; clear HB; clear HI251; have BK231 := n0_; have HB := n1_; have HI251 := n2_; clear n0_ n1_ n2_; (try clear hb); (try clear hb2); (try clear hk); (try clear hi)) | ((with_reducible refine gate_callee (f := 24) rfl ?_); refine goesL_ (some 44) rfl rfl Try.func24 (by kernel_rfl) rfl #[.string t253] rfl (by (try simp only [List.map_toArray, List.map_cons, List.map_nil]); first | done | rfl | (simp only [List.length_drop, List.length_take]; rfl)) ?_; (with_reducible refine (codec_Read.calls t253 t255 t256 w _ ?side1 A49.out).mono ?_); (case side1 => repeat (first | (with_reducible first | exact HB.out | apply below_alloc | apply pw_below_drewN | apply below_drew1 | refine below_set ?_ (IsS50.ge HI251.out) | refine below_set ?_ GE231.out) | exact HB.out)); rintro e w84 ⟨g257, rfl, hi, hb, hb2⟩; refine ⟨_, rfl, ?_⟩; have n0_ := Aside0.mk (blk_below (g := gb231) (o := .cells #[.int .i64 x232000_4, .string x232001_4, .string x232002_4, .int .i64 x232003_4] 27 (0, 0)) (by (with_reducible repeat (first | refine blk_drewN ?_ _ | refine blk_drew ?_ | refine blk_alloc ?_ _)); exact BK231.out) hb2); have n1_ := Aside0.mk (IsS50.below (by repeat (first | (with_reducible first | exact HI251.out | apply IsS50.alloc | apply IsS50.drewN | apply IsS50.drew | apply IsS50.set_0 | refine IsS50.farT (p := ⟨gb231, _, none⟩) (t2 := 27) ?_ ?_ (by decide) (by decide) _ | exact OutT.mk BK231.out | refine OutT.set ?_ _ _ _) | exact HI251.out)) hb2); have n2_ := Aside0.mk (hb); have n3_ := Aside0.mk (hi); have n4_ := Aside0.mk (IsS80.ne_blk hi (blk_below (g := gb231) (o := .cells #[.int .i64 x232000_4, .string x232001_4, .string x232002_4, .int .i64 x232003_4] 27 (0, 0)) (by (with_reducible repeat (first | refine blk_drewN ?_ _ | refine blk_drew ?_ | refine blk_alloc ?_ _)); exact BK231.out) hb2) (by decide)); have n5_ := Aside0.mk (Ne.symm (IsS80.ne_blk hi (blk_below (g := gb231) (o := .cells #[.int .i64 x232000_4, .string x232001_4, .string x232002_4, .int .i64 x232003_4] 27 (0, 0)) (by (with_reducible repeat (first | refine blk_drewN ?_ _ | refine blk_drew ?_ | refine blk_alloc ?_ _)); exact BK231.out) hb2) (by decide))); clear BK231; clear HI251; clear HB; have BK231 := n0_; have HI251 := n1_; have HB := n2_; have HI257 := n3_; have NB257_231 := n4_; have NB231_257 := n5_; clear n0_ n1_ n2_ n3_ n4_ n5_; (try clear hb); (try clear hb2); (try clear hk); (try clear hi)) | ((with_reducible refine gate_callee (f := 26) rfl ?_); refine goesL_ (some 46) rfl rfl Try.func26 (by kernel_rfl) rfl #[.pointer (some ⟨g257, 0, none⟩)] rfl (by (try simp only [List.map_toArray, List.map_cons, List.map_nil]); first | done | rfl | (simp only [List.length_drop, List.length_take]; rfl)) ?_; (with_reducible refine (method_ReadCall.calls kj16 g257 t255 t256 t258 t259 t260 t261 t262 t263 w _ ?side1 ?side2 A50.out).mono ?_); (case side1 => repeat (first | (with_reducible first | exact HI257.out | apply IsS80.alloc | apply IsS80.drewN | apply IsS80.drew | apply IsS80.set_0 | apply IsS80.set_1 | refine IsS80.far ?_ NB257_231.out _) | exact HI257.out)); (case side2 => repeat (first | (with_reducible first | exact HB.out | apply below_alloc | apply pw_below_drewN | apply below_drew1 | refine below_set ?_ (IsS50.ge HI251.out) | refine below_set ?_ (IsS80.ge HI257.out) | refine below_set ?_ GE231.out) | exact HB.out)); rintro e w85 ⟨rfl, hi, hb, hk⟩; refine ⟨_, rfl, ?_⟩; have n0_ := Aside0.mk (KeepBut.blk hk (g' := gb231) (o := .cells #[.int .i64 x232000_4, .string x232001_4, .string x232002_4, .int .i64 x232003_4] 27 (0, 0)) (by (with_reducible repeat (first | refine blk_drewN ?_ _ | refine blk_drew ?_ | refine blk_alloc ?_ _)); exact BK231.out) NB231_257.out (by simp)); have n1_ := Aside0.mk (IsS50.keepB (show IsS50 w _ gb251 t254 from by repeat (first | (with_reducible first | exact HI251.out | apply IsS50.alloc | apply IsS50.drewN | apply IsS50.drew | apply IsS50.set_0 | refine IsS50.farT (p := ⟨gb231, _, none⟩) (t2 := 27) ?_ ?_ (by decide) (by decide) _ | exact OutT.mk BK231.out | refine OutT.set ?_ _ _ _) | exact HI251.out)) hk ((show IsS80 w _ g257 t255 t256 from by repeat (first | (with_reducible first | exact HI257.out | apply IsS80.alloc | apply IsS80.drewN | apply IsS80.drew | apply IsS80.set_0 | apply IsS80.set_1 | refine IsS80.far ?_ NB257_231.out _) | exact HI257.out))).1 (by decide) (by decide)); have n2_ := Aside0.mk (hb); have n3_ := Aside0.mk (hi); clear BK231; clear HI251; clear HB; clear HI257; have BK231 := n0_; have HI251 := n1_; have HB := n2_; have HI257 := n3_; clear n0_ n1_ n2_ n3_; (try clear hb); (try clear hb2); (try clear hk); (try clear hi)) | ((with_reducible refine gate_dst (N := 7) rfl ?_); refine box_event ?hg (N := 7) ?hd (cs := #[.int .i64 0, .string (⟨#[]⟩ : ByteArray), .string (⟨#[]⟩ : ByteArray), .int .i64 0]) (t := 27) ?hr ?_; (case hd => rfl); (case hg => rfl); (case hr => first | (go_simp; done) | (go_simp; rfl)); intro gb264 hg w86 hbox hb; have n0_ := Aside0.mk (blk_below (g := gb231) (o := .cells #[.int .i64 x232000_4, .string x232001_4, .string x232002_4, .int .i64 x232003_4] 27 (0, 0)) (by (with_reducible repeat (first | refine blk_drewN ?_ _ | refine blk_drew ?_ | refine blk_alloc ?_ _)); exact BK231.out) hb); have n1_ := Aside0.mk (IsS50.below (by repeat (first | (with_reducible first | exact HI251.out | apply IsS50.alloc | apply IsS50.drewN | apply IsS50.drew | apply IsS50.set_0 | refine IsS50.farT (p := ⟨gb231, _, none⟩) (t2 := 27) ?_ ?_ (by decide) (by decide) _ | exact OutT.mk BK231.out | refine OutT.set ?_ _ _ _) | exact HI251.out)) hb); have n2_ := Aside0.mk (IsS80.below (by repeat (first | (with_reducible first | exact HI257.out | apply IsS80.alloc | apply IsS80.drewN | apply IsS80.drew | apply IsS80.set_0 | apply IsS80.set_1 | refine IsS80.far ?_ NB257_231.out _) | exact HI257.out)) hb); have n3_ := Aside0.mk (below_step (by repeat (first | (with_reducible first | exact HB.out | apply below_alloc | apply pw_below_drewN | apply below_drew1 | refine below_set ?_ (IsS50.ge HI251.out) | refine below_set ?_ (IsS80.ge HI257.out) | refine below_set ?_ GE231.out) | exact HB.out)) hb); have n4_ := Aside0.mk (hbox); have n5_ := Aside0.mk ((by rw [hg]; exact (below_size (by repeat (first | (with_reducible first | exact HB.out | apply below_alloc | apply pw_below_drewN | apply below_drew1 | refine below_set ?_ (IsS50.ge HI251.out) | refine below_set ?_ (IsS80.ge HI257.out) | refine below_set ?_ GE231.out) | exact HB.out))) : w.heap.size ≤ gb264)); have n6_ := Aside0.mk ((by rw [hg]; exact (below_size (by repeat (first | (with_reducible first | exact HB.out | apply below_alloc | apply pw_below_drewN | apply below_drew1 | refine below_set ?_ (IsS50.ge HI251.out) | refine below_set ?_ (IsS80.ge HI257.out) | refine below_set ?_ GE231.out) | exact HB.out))) : w.heap.size ≤ gb264)); have n7_ := Aside0.mk ((by rw [hg]; exact Nat.ne_of_lt (blk_lt (g := gb231) (o := .cells #[.int .i64 x232000_4, .string x232001_4, .string x232002_4, .int .i64 x232003_4] 27 (0, 0)) (by (with_reducible repeat (first | refine blk_drewN ?_ _ | refine blk_drew ?_ | refine blk_alloc ?_ _)); exact BK231.out)) : gb231 ≠ gb264)); have n8_ := Aside0.mk ((by rw [hg]; exact Nat.ne_of_gt (blk_lt (g := gb231) (o := .cells #[.int .i64 x232000_4, .string x232001_4, .string x232002_4, .int .i64 x232003_4] 27 (0, 0)) (by (with_reducible repeat (first | refine blk_drewN ?_ _ | refine blk_drew ?_ | refine blk_alloc ?_ _)); exact BK231.out)) : gb264 ≠ gb231)); have n9_ := Aside0.mk ((by rw [hg]; exact Nat.ne_of_lt (IsS50.lt (show IsS50 w _ gb251 t254 from by repeat (first | (with_reducible first | exact HI251.out | apply IsS50.alloc | apply IsS50.drewN | apply IsS50.drew | apply IsS50.set_0 | refine IsS50.farT (p := ⟨gb231, _, none⟩) (t2 := 27) ?_ ?_ (by decide) (by decide) _ | exact OutT.mk BK231.out | refine OutT.set ?_ _ _ _) | exact HI251.out))) : gb251 ≠ gb264)); have n10_ := Aside0.mk ((by rw [hg]; exact Nat.ne_of_gt (IsS50.lt (show IsS50 w _ gb251 t254 from by repeat (first | (with_reducible first | exact HI251.out | apply IsS50.alloc | apply IsS50.drewN | apply IsS50.drew | apply IsS50.set_0 | refine IsS50.farT (p := ⟨gb231, _, none⟩) (t2 := 27) ?_ ?_ (by decide) (by decide) _ | exact OutT.mk BK231.out | refine OutT.set ?_ _ _ _) | exact HI251.out))) : gb264 ≠ gb251)); have n11_ := Aside0.mk ((by rw [hg]; exact Nat.ne_of_lt (IsS80.lt (show IsS80 w _ g257 t262 t263 from by repeat (first | (with_reducible first | exact HI257.out | apply IsS80.alloc | apply IsS80.drewN | apply IsS80.drew | apply IsS80.set_0 | apply IsS80.set_1 | refine IsS80.far ?_ NB257_231.out _) | exact HI257.out))) : g257 ≠ gb264)); have n12_ := Aside0.mk ((by rw [hg]; exact Nat.ne_of_gt (IsS80.lt (show IsS80 w _ g257 t262 t263 from by repeat (first | (with_reducible first | exact HI257.out | apply IsS80.alloc | apply IsS80.drewN | apply IsS80.drew | apply IsS80.set_0 | apply IsS80.set_1 | refine IsS80.far ?_ NB257_231.out _) | exact HI257.out))) : gb264 ≠ g257)); clear BK231; clear HI251; clear HI257; clear HB; have BK231 := n0_; have HI251 := n1_; have HI257 := n2_; have HB := n3_; have BK264 := n4_; have GW264 := n5_; have GE264 := n6_; have NB231_264 := n7_; have NB264_231 := n8_; have NB251_264 := n9_; have NB264_251 := n10_; have NB257_264 := n11_; have NB264_257 := n12_; clear n0_ n1_ n2_ n3_ n4_ n5_ n6_ n7_ n8_ n9_ n10_ n11_ n12_; clear hb hbox hg; have hnb87 := NB264_231.out; have hnc87 := NB231_264.out; have hnb88 := NB264_251.out; have hnc88 := NB251_264.out; have hnb89 := NB264_257.out; have hnc89 := NB257_264.out; have hcz90_0 : w86.cell? ⟨gb264, 0, none⟩ = some (.int .i64 0) := (blk_cell BK264.out 0).trans rfl; have hcz90_1 : w86.cell? ⟨gb264, 1, none⟩ = some (.string (⟨#[]⟩ : ByteArray)) := (blk_cell BK264.out 1).trans rfl; have hcz90_2 : w86.cell? ⟨gb264, 2, none⟩ = some (.string (⟨#[]⟩ : ByteArray)) := (blk_cell BK264.out 2).trans rfl; have hcz90_3 : w86.cell? ⟨gb264, 3, none⟩ = some (.int .i64 0) := (blk_cell BK264.out 3).trans rfl; have hfz90_0 := blk_frozen BK264.out 0; have hfz90_1 := blk_frozen BK264.out 1; have hfz90_2 := blk_frozen BK264.out 2; have hfz90_3 := blk_frozen BK264.out 3))
        have n0_ : Aside0 (((((w86.setCell ⟨gb264, 0, none⟩ (.int .i64 t258)).setCell ⟨gb264, 1, none⟩ (.string t259)).setCell ⟨gb264, 2, none⟩ (.string t260)).setCell ⟨gb264, 3, none⟩ (.int .i64 t261)).heap[gb231]? = some (.cells #[.int .i64 x232000_4, .string x232001_4, .string x232002_4, .int .i64 x232003_4] 27 (0, 0))) := ⟨by (with_reducible repeat (first | refine blk_drewN ?_ _ | refine blk_drew ?_ | refine blk_alloc ?_ _)); refine blk_far ?_ NB231_264.out _; (with_reducible repeat (first | refine blk_drewN ?_ _ | refine blk_drew ?_ | refine blk_alloc ?_ _)); refine blk_far ?_ NB231_264.out _; (with_reducible repeat (first | refine blk_drewN ?_ _ | refine blk_drew ?_ | refine blk_alloc ?_ _)); refine blk_far ?_ NB231_264.out _; (with_reducible repeat (first | refine blk_drewN ?_ _ | refine blk_drew ?_ | refine blk_alloc ?_ _)); refine blk_far ?_ NB231_264.out _; (with_reducible repeat (first | refine blk_drewN ?_ _ | refine blk_drew ?_ | refine blk_alloc ?_ _)); exact BK231.out⟩
        have n1_ : Aside0 (((((w86.setCell ⟨gb264, 0, none⟩ (.int .i64 t258)).setCell ⟨gb264, 1, none⟩ (.string t259)).setCell ⟨gb264, 2, none⟩ (.string t260)).setCell ⟨gb264, 3, none⟩ (.int .i64 t261)).heap[gb264]? = some (.cells #[.int .i64 t258, .string t259, .string t260, .int .i64 t261] 27 (0, 0))) := ⟨by (with_reducible repeat (first | refine blk_drewN ?_ _ | refine blk_drew ?_ | refine blk_alloc ?_ _)); refine blk_put (cs := #[.int .i64 t258, .string t259, .string t260, .int .i64 0]) ?_ 3 _ rfl; (with_reducible repeat (first | refine blk_drewN ?_ _ | refine blk_drew ?_ | refine blk_alloc ?_ _)); refine blk_put (cs := #[.int .i64 t258, .string t259, .string (⟨#[]⟩ : ByteArray), .int .i64 0]) ?_ 2 _ rfl; (with_reducible repeat (first | refine blk_drewN ?_ _ | refine blk_drew ?_ | refine blk_alloc ?_ _)); refine blk_put (cs := #[.int .i64 t258, .string (⟨#[]⟩ : ByteArray), .string (⟨#[]⟩ : ByteArray), .int .i64 0]) ?_ 1 _ rfl; (with_reducible repeat (first | refine blk_drewN ?_ _ | refine blk_drew ?_ | refine blk_alloc ?_ _)); refine blk_put (cs := #[.int .i64 0, .string (⟨#[]⟩ : ByteArray), .string (⟨#[]⟩ : ByteArray), .int .i64 0]) ?_ 0 _ rfl; (with_reducible repeat (first | refine blk_drewN ?_ _ | refine blk_drew ?_ | refine blk_alloc ?_ _)); exact BK264.out⟩
        have n2_ : Aside0 (IsS50 w ((((w86.setCell ⟨gb264, 0, none⟩ (.int .i64 t258)).setCell ⟨gb264, 1, none⟩ (.string t259)).setCell ⟨gb264, 2, none⟩ (.string t260)).setCell ⟨gb264, 3, none⟩ (.int .i64 t261)) gb251 t254) := ⟨by repeat (first | (with_reducible first | exact HI251.out | apply IsS50.alloc | apply IsS50.drewN | apply IsS50.drew | apply IsS50.set_0 | refine IsS50.farT (p := ⟨gb231, _, none⟩) (t2 := 27) ?_ ?_ (by decide) (by decide) _ | exact OutT.mk BK231.out | refine OutT.set ?_ _ _ _ | refine IsS50.farT (p := ⟨gb264, _, none⟩) (t2 := 27) ?_ ?_ (by decide) (by decide) _ | exact OutT.mk BK264.out | refine OutT.set ?_ _ _ _) | exact HI251.out)⟩
        have n3_ : Aside0 (IsS80 w ((((w86.setCell ⟨gb264, 0, none⟩ (.int .i64 t258)).setCell ⟨gb264, 1, none⟩ (.string t259)).setCell ⟨gb264, 2, none⟩ (.string t260)).setCell ⟨gb264, 3, none⟩ (.int .i64 t261)) g257 t262 t263) := ⟨by repeat (first | (with_reducible first | exact HI257.out | apply IsS80.alloc | apply IsS80.drewN | apply IsS80.drew | apply IsS80.set_0 | apply IsS80.set_1 | refine IsS80.far ?_ NB257_231.out _ | refine IsS80.far ?_ NB257_264.out _) | exact HI257.out)⟩
        have n4_ : Aside0 (Below w.heap.size w ((((w86.setCell ⟨gb264, 0, none⟩ (.int .i64 t258)).setCell ⟨gb264, 1, none⟩ (.string t259)).setCell ⟨gb264, 2, none⟩ (.string t260)).setCell ⟨gb264, 3, none⟩ (.int .i64 t261))) := ⟨by repeat (first | (with_reducible first | exact HB.out | apply below_alloc | apply pw_below_drewN | apply below_drew1 | refine below_set ?_ (IsS50.ge HI251.out) | refine below_set ?_ (IsS80.ge HI257.out) | refine below_set ?_ GE231.out | refine below_set ?_ GE264.out) | exact HB.out)⟩
        (try clear BK231)
        (try clear BK264)
        (try clear HI251)
        (try clear HI257)
        (try clear HB)
        generalize ((((w86.setCell ⟨gb264, 0, none⟩ (.int .i64 t258)).setCell ⟨gb264, 1, none⟩ (.string t259)).setCell ⟨gb264, 2, none⟩ (.string t260)).setCell ⟨gb264, 3, none⟩ (.int .i64 t261)) = w91 at n0_ n1_ n2_ n3_ n4_ ⊢
        have BK231 := n0_
        have BK264 := n1_
        have HI251 := n2_
        have HI257 := n3_
        have HB := n4_
        clear n0_ n1_ n2_ n3_ n4_
        have n0_ := Aside0.mk (blk_drew BK231.out)
        have n1_ := Aside0.mk (blk_drew BK264.out)
        have n2_ := Aside0.mk (IsS50.drew HI251.out)
        have n3_ := Aside0.mk (IsS80.drew HI257.out)
        have n4_ := Aside0.mk (below_drew1 HB.out)
        clear BK231
        clear BK264
        clear HI251
        clear HI257
        clear HB
        have BK231 := n0_
        have BK264 := n1_
        have HI251 := n2_
        have HI257 := n3_
        have HB := n4_
        clear n0_ n1_ n2_ n3_ n4_
        refine start_ (n := 16) (S := fun w' => w'.cell? ⟨gb231, 0, none⟩ = some (.int .i64 x232000_4) ∧ w'.cell? ⟨gb231, 1, none⟩ = some (.string x232001_4) ∧ w'.cell? ⟨gb231, 2, none⟩ = some (.string x232002_4) ∧ w'.cell? ⟨gb231, 3, none⟩ = some (.int .i64 x232003_4) ∧ w'.cell? ⟨gb264, 0, none⟩ = some (.int .i64 t258) ∧ w'.cell? ⟨gb264, 1, none⟩ = some (.string t259) ∧ w'.cell? ⟨gb264, 2, none⟩ = some (.string t260) ∧ w'.cell? ⟨gb264, 3, none⟩ = some (.int .i64 t261)) (ds := []) #[false,false,false,false,false,false,false,false,false,false,false,false,false,false,false,false] (by kernel_rfl) rfl rfl ⟨(blk_cell BK231.out 0).trans rfl, (blk_cell BK231.out 1).trans rfl, (blk_cell BK231.out 2).trans rfl, (blk_cell BK231.out 3).trans rfl, (blk_cell BK264.out 0).trans rfl, (blk_cell BK264.out 1).trans rfl, (blk_cell BK264.out 2).trans rfl, (blk_cell BK264.out 3).trans rfl⟩ (fun hHeld => ?_); refine with_tabW armoirelaw12_MethodCalls.tab12 armoirelaw12_MethodCalls.bits12 (fun HT_ HW_ => ?_)
        generalize w91.drew = w92 at BK231 BK264 HI251 HI257 HB hHeld ⊢
        refine take_ (i := 1) (N := some 48) (v := ?_) (a' := ?_) #[false,true,false,false,false,false,false,false,false,false,false,false,false,false,false,false] rfl rfl (take_ofW HT_.out HW_.out (by kernel_rfl)) (fun _ _ _ h => h) (Or.inl ⟨by rfl, ?_⟩) hHeld ?_ ?_
        rotate_left
        · rintro w' ⟨s0, s1, s2, s3, s4, s5, s6, s7⟩
          go_simp
          with_reducible rfl
        rotate_left; (simp only [Act.put, List.setIfInBounds_toArray, List.set_cons_zero, List.set_cons_succ, i64_w, i32_w]; rfl)
        refine one_ (i := 0) (N := some 47) #[true,true,false,false,false,false,false,false,false,false,false,false,false,false,false,false] rfl rfl (one_of HT_.out (by kernel_rfl)) (by decide) (fun K hK => ?_)
        refine goes_ Try.func25 (by kernel_rfl) rfl #[.pointer (some ⟨gb251, 0, none⟩)] (by rfl) rfl rfl (by (try simp only [List.map_toArray, List.map_cons, List.map_nil]); first | done | rfl | (simp only [List.length_drop, List.length_take]; rfl) | (simp only [Act.eval, Array.getD_eq_getD_getElem?, Option.getD_some, *]; done) | (simp only [Array.mk.injEq, List.cons.injEq, Value.int.injEq, true_and, and_true]; first | omega | (simp [IntKind.wrap, IntKind.bits, IntKind.signed]; omega))) ?_
        with_reducible refine (codec_Out_Text.calls gb251 t254 t265 t266 w _ ?side1 ?side2 A51.out).mono ?_
        (case side1 => repeat (first | (with_reducible first | exact HI251.out | apply IsS50.alloc | apply IsS50.drewN | apply IsS50.drew | apply IsS50.set_0 | refine IsS50.farT (p := ⟨gb231, _, none⟩) (t2 := 27) ?_ ?_ (by decide) (by decide) _ | exact OutT.mk BK231.out | refine OutT.set ?_ _ _ _ | refine IsS50.farT (p := ⟨gb264, _, none⟩) (t2 := 27) ?_ ?_ (by decide) (by decide) _ | exact OutT.mk BK264.out | refine OutT.set ?_ _ _ _) | exact HI251.out))
        (case side2 => repeat (first | (with_reducible first | exact HB.out | apply below_alloc | apply pw_below_drewN | apply below_drew1 | refine below_set ?_ (IsS50.ge HI251.out) | refine below_set ?_ (IsS80.ge HI257.out) | refine below_set ?_ GE231.out | refine below_set ?_ GE264.out) | exact HB.out))
        rintro e w93 ⟨rfl, hi, hb, hk⟩
        refine ⟨_, rfl, ?_⟩
        have n0_ := Aside0.mk (KeepT.oblk (g := gb231) (o := .cells #[.int .i64 x232000_4, .string x232001_4, .string x232002_4, .int .i64 x232003_4] 27 (0, 0)) (by (with_reducible repeat (first | refine blk_drewN ?_ _ | refine blk_drew ?_ | refine blk_alloc ?_ _)); exact BK231.out) hk (by intro _ _ _ h_; cases h_; decide))
        have n1_ := Aside0.mk ((show IsS80 w w93 g257 t262 t263 from ⟨KeepT.blk ((show IsS80 w _ g257 t262 t263 from by repeat (first | (with_reducible first | exact HI257.out | apply IsS80.alloc | apply IsS80.drewN | apply IsS80.drew | apply IsS80.set_0 | apply IsS80.set_1 | refine IsS80.far ?_ NB257_231.out _ | refine IsS80.far ?_ NB257_264.out _) | exact HI257.out))).1 hk (by decide), ((show IsS80 w _ g257 t262 t263 from by repeat (first | (with_reducible first | exact HI257.out | apply IsS80.alloc | apply IsS80.drewN | apply IsS80.drew | apply IsS80.set_0 | apply IsS80.set_1 | refine IsS80.far ?_ NB257_231.out _ | refine IsS80.far ?_ NB257_264.out _) | exact HI257.out))).2⟩))
        have n2_ := Aside0.mk (KeepT.oblk (g := gb264) (o := .cells #[.int .i64 t258, .string t259, .string t260, .int .i64 t261] 27 (0, 0)) (by (with_reducible repeat (first | refine blk_drewN ?_ _ | refine blk_drew ?_ | refine blk_alloc ?_ _)); exact BK264.out) hk (by intro _ _ _ h_; cases h_; decide))
        have n3_ := Aside0.mk (hb)
        have n4_ := Aside0.mk (hi)
        clear BK231
        clear HI257
        clear BK264
        clear HB
        clear HI251
        have BK231 := n0_
        have HI257 := n1_
        have BK264 := n2_
        have HB := n3_
        have HI251 := n4_
        clear n0_ n1_ n2_ n3_ n4_
        (try clear hb)
        (try clear hb2)
        (try clear hk)
        (try clear hi)
        refine hK.out _ _ ⟨(blk_cell BK231.out 0).trans rfl, (blk_cell BK231.out 1).trans rfl, (blk_cell BK231.out 2).trans rfl, (blk_cell BK231.out 3).trans rfl, (blk_cell BK264.out 0).trans rfl, (blk_cell BK264.out 1).trans rfl, (blk_cell BK264.out 2).trans rfl, (blk_cell BK264.out 3).trans rfl⟩ (fun hHeld => ?_)
        clear hK K
        refine norm_ (a' := ?_) ?_ ?_
        rotate_left
        · show Act.put _ (some 47) _ = _
          simp only [Act.put, List.setIfInBounds_toArray, List.set_cons_zero, List.set_cons_succ, i64_w, i32_w]
          rfl
        refine one_ (i := 2) (N := some 49) #[true,true,true,false,false,false,false,false,false,false,false,false,false,false,false,false] rfl rfl (one_of HT_.out (by kernel_rfl)) (by decide) (fun K hK => ?_)
        refine goes_ Try.func15 (by kernel_rfl) rfl #[.agg #[.int .i64 x232000_4, .string x232001_4, .string x232002_4, .int .i64 x232003_4]] (by rfl) rfl rfl (by (try simp only [List.map_toArray, List.map_cons, List.map_nil]); first | done | rfl | (simp only [List.length_drop, List.length_take]; rfl) | (simp only [Act.eval, Array.getD_eq_getD_getElem?, Option.getD_some, *]; done) | (simp only [Array.mk.injEq, List.cons.injEq, Value.int.injEq, true_and, and_true]; first | omega | (simp [IntKind.wrap, IntKind.bits, IntKind.signed]; omega))) ?_
        with_reducible refine (armoirelaw12_Told.calls x232000_4 x232001_4 x232002_4 x232003_4 t267 t268 t269 t270 _ A52.out).mono ?_
        rintro e w94 ⟨rfl, hb⟩
        refine ⟨_, rfl, ?_⟩
        have n0_ := Aside0.mk (blk_below (g := gb231) (o := .cells #[.int .i64 x232000_4, .string x232001_4, .string x232002_4, .int .i64 x232003_4] 27 (0, 0)) (by (with_reducible repeat (first | refine blk_drewN ?_ _ | refine blk_drew ?_ | refine blk_alloc ?_ _)); exact BK231.out) hb)
        have n1_ := Aside0.mk (IsS50.below (by repeat (first | (with_reducible first | exact HI251.out | apply IsS50.alloc | apply IsS50.drewN | apply IsS50.drew | apply IsS50.set_0 | refine IsS50.farT (p := ⟨gb231, _, none⟩) (t2 := 27) ?_ ?_ (by decide) (by decide) _ | exact OutT.mk BK231.out | refine OutT.set ?_ _ _ _ | refine IsS50.farT (p := ⟨gb264, _, none⟩) (t2 := 27) ?_ ?_ (by decide) (by decide) _ | exact OutT.mk BK264.out | refine OutT.set ?_ _ _ _) | exact HI251.out)) hb)
        have n2_ := Aside0.mk (IsS80.below (by repeat (first | (with_reducible first | exact HI257.out | apply IsS80.alloc | apply IsS80.drewN | apply IsS80.drew | apply IsS80.set_0 | apply IsS80.set_1 | refine IsS80.far ?_ NB257_231.out _ | refine IsS80.far ?_ NB257_264.out _) | exact HI257.out)) hb)
        have n3_ := Aside0.mk (blk_below (g := gb264) (o := .cells #[.int .i64 t258, .string t259, .string t260, .int .i64 t261] 27 (0, 0)) (by (with_reducible repeat (first | refine blk_drewN ?_ _ | refine blk_drew ?_ | refine blk_alloc ?_ _)); exact BK264.out) hb)
        have n4_ := Aside0.mk (below_step (by repeat (first | (with_reducible first | exact HB.out | apply below_alloc | apply pw_below_drewN | apply below_drew1 | refine below_set ?_ (IsS50.ge HI251.out) | refine below_set ?_ (IsS80.ge HI257.out) | refine below_set ?_ GE231.out | refine below_set ?_ GE264.out) | exact HB.out)) hb)
        clear BK231
        clear HI251
        clear HI257
        clear BK264
        clear HB
        have BK231 := n0_
        have HI251 := n1_
        have HI257 := n2_
        have BK264 := n3_
        have HB := n4_
        clear n0_ n1_ n2_ n3_ n4_
        (try clear hb)
        (try clear hb2)
        (try clear hk)
        (try clear hi)
        refine hK.out _ _ ⟨(blk_cell BK231.out 0).trans rfl, (blk_cell BK231.out 1).trans rfl, (blk_cell BK231.out 2).trans rfl, (blk_cell BK231.out 3).trans rfl, (blk_cell BK264.out 0).trans rfl, (blk_cell BK264.out 1).trans rfl, (blk_cell BK264.out 2).trans rfl, (blk_cell BK264.out 3).trans rfl⟩ (fun hHeld => ?_)
        clear hK K
        refine norm_ (a' := ?_) ?_ ?_
        rotate_left
        · show Act.put _ (some 49) _ = _
          simp only [Act.put, List.setIfInBounds_toArray, List.set_cons_zero, List.set_cons_succ, i64_w, i32_w]
          rfl
        refine one_ (i := 3) (N := some 50) #[true,true,true,true,false,false,false,false,false,false,false,false,false,false,false,false] rfl rfl (one_of HT_.out (by kernel_rfl)) (by decide) (fun K hK => ?_)
        refine goes_ Try.func27 (by kernel_rfl) rfl #[.agg #[.int .i64 t267, .string t268, .string t269, .int .i64 t270]] (by rfl) rfl rfl (by (try simp only [List.map_toArray, List.map_cons, List.map_nil]); first | done | rfl | (simp only [List.length_drop, List.length_take]; rfl) | (simp only [Act.eval, Array.getD_eq_getD_getElem?, Option.getD_some, *]; done) | (simp only [Array.mk.injEq, List.cons.injEq, Value.int.injEq, true_and, and_true]; first | omega | (simp [IntKind.wrap, IntKind.bits, IntKind.signed]; omega))) ?_
        with_reducible refine (armoireref12_Text.calls kj16 t267 t268 t269 t270 t271 _ A53.out).mono ?_
        rintro e w95 ⟨rfl, hb⟩
        refine ⟨_, rfl, ?_⟩
        have n0_ := Aside0.mk (blk_below (g := gb231) (o := .cells #[.int .i64 x232000_4, .string x232001_4, .string x232002_4, .int .i64 x232003_4] 27 (0, 0)) (by (with_reducible repeat (first | refine blk_drewN ?_ _ | refine blk_drew ?_ | refine blk_alloc ?_ _)); exact BK231.out) hb)
        have n1_ := Aside0.mk (IsS50.below (by repeat (first | (with_reducible first | exact HI251.out | apply IsS50.alloc | apply IsS50.drewN | apply IsS50.drew | apply IsS50.set_0 | refine IsS50.farT (p := ⟨gb231, _, none⟩) (t2 := 27) ?_ ?_ (by decide) (by decide) _ | exact OutT.mk BK231.out | refine OutT.set ?_ _ _ _ | refine IsS50.farT (p := ⟨gb264, _, none⟩) (t2 := 27) ?_ ?_ (by decide) (by decide) _ | exact OutT.mk BK264.out | refine OutT.set ?_ _ _ _) | exact HI251.out)) hb)
        have n2_ := Aside0.mk (IsS80.below (by repeat (first | (with_reducible first | exact HI257.out | apply IsS80.alloc | apply IsS80.drewN | apply IsS80.drew | apply IsS80.set_0 | apply IsS80.set_1 | refine IsS80.far ?_ NB257_231.out _ | refine IsS80.far ?_ NB257_264.out _) | exact HI257.out)) hb)
        have n3_ := Aside0.mk (blk_below (g := gb264) (o := .cells #[.int .i64 t258, .string t259, .string t260, .int .i64 t261] 27 (0, 0)) (by (with_reducible repeat (first | refine blk_drewN ?_ _ | refine blk_drew ?_ | refine blk_alloc ?_ _)); exact BK264.out) hb)
        have n4_ := Aside0.mk (below_step (by repeat (first | (with_reducible first | exact HB.out | apply below_alloc | apply pw_below_drewN | apply below_drew1 | refine below_set ?_ (IsS50.ge HI251.out) | refine below_set ?_ (IsS80.ge HI257.out) | refine below_set ?_ GE231.out | refine below_set ?_ GE264.out) | exact HB.out)) hb)
        clear BK231
        clear HI251
        clear HI257
        clear BK264
        clear HB
        have BK231 := n0_
        have HI251 := n1_
        have HI257 := n2_
        have BK264 := n3_
        have HB := n4_
        clear n0_ n1_ n2_ n3_ n4_
        (try clear hb)
        (try clear hb2)
        (try clear hk)
        (try clear hi)
        refine hK.out _ _ ⟨(blk_cell BK231.out 0).trans rfl, (blk_cell BK231.out 1).trans rfl, (blk_cell BK231.out 2).trans rfl, (blk_cell BK231.out 3).trans rfl, (blk_cell BK264.out 0).trans rfl, (blk_cell BK264.out 1).trans rfl, (blk_cell BK264.out 2).trans rfl, (blk_cell BK264.out 3).trans rfl⟩ (fun hHeld => ?_)
        clear hK K
        refine norm_ (a' := ?_) ?_ ?_
        rotate_left
        · show Act.put _ (some 50) _ = _
          simp only [Act.put, List.setIfInBounds_toArray, List.set_cons_zero, List.set_cons_succ, i64_w, i32_w]
          rfl
        refine pure_ (i := 4) (N := some 51) (v := ?_) (a' := ?_) (bA 16 31) rfl rfl (any_of HT_.out (by kernel_rfl)) (fun _ _ _ h => h) (Or.inl ⟨by rfl, ?_⟩) ?_ ?_
        rotate_left; (intro w'; go_simp; with_reducible rfl); rotate_left; (simp only [Act.put, List.setIfInBounds_toArray, List.set_cons_zero, List.set_cons_succ, i64_w, i32_w]; rfl)
        refine pure_ (i := 5) (N := some 52) (v := ?_) (a' := ?_) (bA 16 63) rfl rfl (any_of HT_.out (by kernel_rfl)) (fun _ _ _ h => h) (Or.inl ⟨by rfl, ?_⟩) ?_ ?_
        rotate_left; (intro w'; go_simp; with_reducible rfl); rotate_left; (simp only [Act.put, List.setIfInBounds_toArray, List.set_cons_zero, List.set_cons_succ, i64_w, i32_w]; rfl)
        refine take_ (i := 6) (N := some 53) (v := ?_) (a' := ?_) #[true,true,true,true,true,true,true,false,false,false,false,false,false,false,false,false] rfl rfl (take_ofW HT_.out HW_.out (by kernel_rfl)) (fun _ _ _ h => h) (Or.inl ⟨by rfl, ?_⟩) hHeld ?_ ?_
        rotate_left
        · rintro w' ⟨s0, s1, s2, s3, s4, s5, s6, s7⟩
          go_simp
          with_reducible rfl
        rotate_left; (simp only [Act.put, List.setIfInBounds_toArray, List.set_cons_zero, List.set_cons_succ, i64_w, i32_w]; rfl)
        refine take_ (i := 7) (N := some 54) (v := ?_) (a' := ?_) #[true,true,true,true,true,true,true,true,false,false,false,false,false,false,false,false] rfl rfl (take_ofW HT_.out HW_.out (by kernel_rfl)) (fun _ _ _ h => h) (Or.inl ⟨by rfl, ?_⟩) hHeld ?_ ?_
        rotate_left
        · rintro w' ⟨s0, s1, s2, s3, s4, s5, s6, s7⟩
          go_simp
          with_reducible rfl
        rotate_left; (simp only [Act.put, List.setIfInBounds_toArray, List.set_cons_zero, List.set_cons_succ, i64_w, i32_w]; rfl)
        refine pure_ (i := 8) (N := some 55) (v := ?_) (a' := ?_) (bA 16 511) rfl rfl (any_of HT_.out (by kernel_rfl)) (fun _ _ _ h => h) (Or.inl ⟨by rfl, ?_⟩) ?_ ?_
        rotate_left; (intro w'; go_simp; with_reducible rfl); rotate_left; (simp only [Act.put, List.setIfInBounds_toArray, List.set_cons_zero, List.set_cons_succ, i64_w, i32_w]; rfl)
        refine pure_ (i := 9) (N := some 56) (v := ?_) (a' := ?_) (bA 16 1023) rfl rfl (any_of HT_.out (by kernel_rfl)) (fun _ _ _ h => h) (Or.inl ⟨by rfl, ?_⟩) ?_ ?_
        rotate_left; (intro w'; go_simp; with_reducible rfl); rotate_left; (simp only [Act.put, List.setIfInBounds_toArray, List.set_cons_zero, List.set_cons_succ, i64_w, i32_w]; rfl)
        refine pure_ (i := 10) (N := some 57) (v := ?_) (a' := ?_) (bA 16 2047) rfl rfl (any_of HT_.out (by kernel_rfl)) (fun _ _ _ h => h) (Or.inl ⟨by rfl, ?_⟩) ?_ ?_
        rotate_left; (intro w'; go_simp; with_reducible rfl); rotate_left; (simp only [Act.put, List.setIfInBounds_toArray, List.set_cons_zero, List.set_cons_succ, i64_w, i32_w]; rfl)
        refine pure_ (i := 11) (N := some 58) (v := undef) (a' := ?_) (bA 16 4095) rfl rfl (any_of HT_.out (by kernel_rfl)) (fun _ _ _ h => h) (Or.inr ⟨by rfl, rfl⟩) ?_ ?_
        rotate_left; (simp only [Act.put, List.setIfInBounds_toArray, List.set_cons_zero, List.set_cons_succ, i64_w, i32_w]; rfl)
        refine pure_ (i := 12) (N := some 59) (v := undef) (a' := ?_) (bA 16 8191) rfl rfl (any_of HT_.out (by kernel_rfl)) (fun _ _ _ h => h) (Or.inr ⟨by rfl, rfl⟩) ?_ ?_
        rotate_left; (simp only [Act.put, List.setIfInBounds_toArray, List.set_cons_zero, List.set_cons_succ, i64_w, i32_w]; rfl)
        refine pure_ (i := 13) (N := some 60) (v := undef) (a' := ?_) (bA 16 16383) rfl rfl (any_of HT_.out (by kernel_rfl)) (fun _ _ _ h => h) (Or.inr ⟨by rfl, rfl⟩) ?_ ?_
        rotate_left; (simp only [Act.put, List.setIfInBounds_toArray, List.set_cons_zero, List.set_cons_succ, i64_w, i32_w]; rfl)
        refine pure_ (i := 14) (N := some 61) (v := ?_) (a' := ?_) (bA 16 32767) rfl rfl (any_of HT_.out (by kernel_rfl)) (fun _ _ _ h => h) (Or.inl ⟨by rfl, ?_⟩) ?_ ?_
        rotate_left; (intro w'; go_simp; with_reducible rfl); rotate_left; (simp only [Act.put, List.setIfInBounds_toArray, List.set_cons_zero, List.set_cons_succ, i64_w, i32_w]; rfl)
        refine pure_ (i := 15) (N := some 4) (v := ?_) (a' := ?_) (bA 16 65535) rfl rfl (any_of HT_.out (by kernel_rfl)) (fun _ _ _ h => h) (Or.inl ⟨by rfl, ?_⟩) ?_ ?_
        rotate_left; (intro w'; go_simp; with_reducible rfl); rotate_left; (simp only [Act.put, List.setIfInBounds_toArray, List.set_cons_zero, List.set_cons_succ, i64_w, i32_w]; rfl)
        refine done_ (done_of HT_.out (by kernel_rfl)) ?_
        try go_wp2
        go_ret
        exact ⟨by first | rfl | (simp [errW_none, errW_some] <;> rfl) | (simp [*, errW_none, errW_some] <;> rfl), by repeat (first | (with_reducible first | exact HB.out | apply below_alloc | apply pw_below_drewN | apply below_drew1 | refine below_set ?_ (IsS50.ge HI251.out) | refine below_set ?_ (IsS80.ge HI257.out) | refine below_set ?_ GE231.out | refine below_set ?_ GE264.out) | exact HB.out)⟩
      rw [if_pos c55] at H
      have c55b0 : (t258 == x232000_4 && (t259.toList == x232001_4.toList && (t260.toList == x232002_4.toList && (t261 == x232003_4)))) = true := c55
      (try (have c55b1 : decide (t258 = x232000_4 && (t259.toList == x232001_4.toList && (t260.toList == x232002_4.toList && (t261 == x232003_4)))) = true := by simpa using c55))
      (try (have c55b2 : (t258 == x232000_4 && (t259.toList == x232001_4.toList && (t260.toList == x232002_4.toList && (t261 == x232003_4)))) = true := by simpa using c55))
      clear c55
      replace H := Option.bind_eq_some_iff.mp H
      obtain ⟨⟨t272, t273, t274⟩, A560, H⟩ := H
      replace H : (some (t272 == 0)) = some r := H
      have A56 := Aside0.mk A560
      clear A560
      obtain rfl := Option.some.inj H
      have hcz57_0 : wc.cell? ⟨gb231, 0, none⟩ = some (.int .i64 x232000_4) := (blk_cell BK231.out 0).trans rfl
      have hcz57_1 : wc.cell? ⟨gb231, 1, none⟩ = some (.string x232001_4) := (blk_cell BK231.out 1).trans rfl
      have hcz57_2 : wc.cell? ⟨gb231, 2, none⟩ = some (.string x232002_4) := (blk_cell BK231.out 2).trans rfl
      have hcz57_3 : wc.cell? ⟨gb231, 3, none⟩ = some (.int .i64 x232003_4) := (blk_cell BK231.out 3).trans rfl
      have hfz57_0 := blk_frozen BK231.out 0
      have hfz57_1 := blk_frozen BK231.out 1
      have hfz57_2 := blk_frozen BK231.out 2
      have hfz57_3 := blk_frozen BK231.out 3
      try go_wp2_with (first | ((with_reducible refine gate_callee (f := 21) rfl ?_); refine goesL_ (some 39) rfl rfl Try.func21 (by kernel_rfl) rfl #[.agg #[.int .i64 x232000_4, .string x232001_4, .string x232002_4, .int .i64 x232003_4]] rfl (by (try simp only [List.map_toArray, List.map_cons, List.map_nil]); first | done | rfl | (simp only [List.length_drop, List.length_take]; rfl)) ?_; (with_reducible refine (method_Call_Check.calls kj16 x232000_4 x232001_4 x232002_4 x232003_4 t250 _ A45.out).mono ?_); rintro e w58 ⟨rfl, hb⟩; refine ⟨_, rfl, ?_⟩; have n0_ := Aside0.mk (blk_below (g := gb231) (o := .cells #[.int .i64 x232000_4, .string x232001_4, .string x232002_4, .int .i64 x232003_4] 27 (0, 0)) (by (with_reducible repeat (first | refine blk_drewN ?_ _ | refine blk_drew ?_ | refine blk_alloc ?_ _)); exact BK231.out) hb); have n1_ := Aside0.mk (below_step (by repeat (first | (with_reducible first | exact HB.out | apply below_alloc | apply pw_below_drewN | apply below_drew1 | refine below_set ?_ GE231.out) | exact HB.out)) hb); clear BK231; clear HB; have BK231 := n0_; have HB := n1_; clear n0_ n1_; (try clear hb); (try clear hb2); (try clear hk); (try clear hi)) | ((with_reducible refine gate_dst (N := 5) rfl ?_); refine box_event ?hg (N := 5) ?hd (cs := #[.slice none 0 0]) (t := 50) ?hr ?_; (case hd => rfl); (case hg => rfl); (case hr => first | (go_simp; done) | (go_simp; rfl)); intro gb251 hg w59 hbox hb; have n0_ := Aside0.mk (blk_below (g := gb231) (o := .cells #[.int .i64 x232000_4, .string x232001_4, .string x232002_4, .int .i64 x232003_4] 27 (0, 0)) (by (with_reducible repeat (first | refine blk_drewN ?_ _ | refine blk_drew ?_ | refine blk_alloc ?_ _)); exact BK231.out) hb); have n1_ := Aside0.mk (below_step (by repeat (first | (with_reducible first | exact HB.out | apply below_alloc | apply pw_below_drewN | apply below_drew1 | refine below_set ?_ GE231.out) | exact HB.out)) hb); have n2_ := Aside0.mk (hbox); have n3_ := Aside0.mk ((by rw [hg]; exact (below_size (by repeat (first | (with_reducible first | exact HB.out | apply below_alloc | apply pw_below_drewN | apply below_drew1 | refine below_set ?_ GE231.out) | exact HB.out))) : w.heap.size ≤ gb251)); have n4_ := Aside0.mk ((by rw [hg]; exact (below_size (by repeat (first | (with_reducible first | exact HB.out | apply below_alloc | apply pw_below_drewN | apply below_drew1 | refine below_set ?_ GE231.out) | exact HB.out))) : w.heap.size ≤ gb251)); have n5_ := Aside0.mk ((by rw [hg]; exact Nat.ne_of_lt (blk_lt (g := gb231) (o := .cells #[.int .i64 x232000_4, .string x232001_4, .string x232002_4, .int .i64 x232003_4] 27 (0, 0)) (by (with_reducible repeat (first | refine blk_drewN ?_ _ | refine blk_drew ?_ | refine blk_alloc ?_ _)); exact BK231.out)) : gb231 ≠ gb251)); have n6_ := Aside0.mk ((by rw [hg]; exact Nat.ne_of_gt (blk_lt (g := gb231) (o := .cells #[.int .i64 x232000_4, .string x232001_4, .string x232002_4, .int .i64 x232003_4] 27 (0, 0)) (by (with_reducible repeat (first | refine blk_drewN ?_ _ | refine blk_drew ?_ | refine blk_alloc ?_ _)); exact BK231.out)) : gb251 ≠ gb231)); have n7_ := Aside0.mk ((IsS50.box hbox (by rw [hg]; exact (below_size (by repeat (first | (with_reducible first | exact HB.out | apply below_alloc | apply pw_below_drewN | apply below_drew1 | refine below_set ?_ GE231.out) | exact HB.out))) : w.heap.size ≤ gb251) : IsS50 w w59 gb251 (⟨#[]⟩ : ByteArray))); clear BK231; clear HB; have BK231 := n0_; have HB := n1_; have BK251 := n2_; have GW251 := n3_; have GE251 := n4_; have NB231_251 := n5_; have NB251_231 := n6_; have HI251 := n7_; clear n0_ n1_ n2_ n3_ n4_ n5_ n6_ n7_; clear hb hbox hg; have hnb60 := NB231_251.out; have hnc60 := NB251_231.out; have hcz61_0 : w59.cell? ⟨gb231, 0, none⟩ = some (.int .i64 x232000_4) := (blk_cell BK231.out 0).trans rfl; have hcz61_1 : w59.cell? ⟨gb231, 1, none⟩ = some (.string x232001_4) := (blk_cell BK231.out 1).trans rfl; have hcz61_2 : w59.cell? ⟨gb231, 2, none⟩ = some (.string x232002_4) := (blk_cell BK231.out 2).trans rfl; have hcz61_3 : w59.cell? ⟨gb231, 3, none⟩ = some (.int .i64 x232003_4) := (blk_cell BK231.out 3).trans rfl; have hfz61_0 := blk_frozen BK231.out 0; have hfz61_1 := blk_frozen BK231.out 1; have hfz61_2 := blk_frozen BK231.out 2; have hfz61_3 := blk_frozen BK231.out 3) | ((with_reducible refine gate_callee (f := 23) rfl ?_); refine goesL_ (some 42) rfl rfl Try.func23 (by kernel_rfl) rfl #[.agg #[.int .i64 x232000_4, .string x232001_4, .string x232002_4, .int .i64 x232003_4], .pointer (some ⟨gb251, 0, none⟩)] rfl (by (try simp only [List.map_toArray, List.map_cons, List.map_nil]); first | done | rfl | (simp only [List.length_drop, List.length_take]; rfl)) ?_; (with_reducible refine (method_Call_Put.calls x232000_4 x232001_4 x232002_4 x232003_4 gb251 (⟨#[]⟩ : ByteArray) t252 w _ ?side1 ?side2 A47.out).mono ?_); (case side1 => repeat (first | (with_reducible first | exact HI251.out | apply IsS50.alloc | apply IsS50.drewN | apply IsS50.drew | apply IsS50.set_0 | refine IsS50.farT (p := ⟨gb231, _, none⟩) (t2 := 27) ?_ ?_ (by decide) (by decide) _ | exact OutT.mk BK231.out | refine OutT.set ?_ _ _ _) | exact HI251.out)); (case side2 => repeat (first | (with_reducible first | exact HB.out | apply below_alloc | apply pw_below_drewN | apply below_drew1 | refine below_set ?_ (IsS50.ge HI251.out) | refine below_set ?_ GE231.out) | exact HB.out)); rintro e w62 ⟨rfl, hi, hb, hk⟩; refine ⟨_, rfl, ?_⟩; have n0_ := Aside0.mk (KeepT.oblk (g := gb231) (o := .cells #[.int .i64 x232000_4, .string x232001_4, .string x232002_4, .int .i64 x232003_4] 27 (0, 0)) (by (with_reducible repeat (first | refine blk_drewN ?_ _ | refine blk_drew ?_ | refine blk_alloc ?_ _)); exact BK231.out) hk (by intro _ _ _ h_; cases h_; decide)); have n1_ := Aside0.mk (hb); have n2_ := Aside0.mk (hi); clear BK231; clear HB; clear HI251; have BK231 := n0_; have HB := n1_; have HI251 := n2_; clear n0_ n1_ n2_; (try clear hb); (try clear hb2); (try clear hk); (try clear hi)) | ((with_reducible refine gate_callee (f := 25) rfl ?_); refine goesL_ (some 43) rfl rfl Try.func25 (by kernel_rfl) rfl #[.pointer (some ⟨gb251, 0, none⟩)] rfl (by (try simp only [List.map_toArray, List.map_cons, List.map_nil]); first | done | rfl | (simp only [List.length_drop, List.length_take]; rfl)) ?_; (with_reducible refine (codec_Out_Text.calls gb251 t252 t253 t254 w _ ?side1 ?side2 A48.out).mono ?_); (case side1 => repeat (first | (with_reducible first | exact HI251.out | apply IsS50.alloc | apply IsS50.drewN | apply IsS50.drew | apply IsS50.set_0 | refine IsS50.farT (p := ⟨gb231, _, none⟩) (t2 := 27) ?_ ?_ (by decide) (by decide) _ | exact OutT.mk BK231.out | refine OutT.set ?_ _ _ _) | exact HI251.out)); (case side2 => repeat (first | (with_reducible first | exact HB.out | apply below_alloc | apply pw_below_drewN | apply below_drew1 | refine below_set ?_ (IsS50.ge HI251.out) | refine below_set ?_ GE231.out) | exact HB.out)); rintro e w63 ⟨rfl, hi, hb, hk⟩; refine ⟨_, rfl, ?_⟩; have n0_ := Aside0.mk (KeepT.oblk (g := gb231) (o := .cells #[.int .i64 x232000_4, .string x232001_4, .string x232002_4, .int .i64 x232003_4] 27 (0, 0)) (by (with_reducible repeat (first | refine blk_drewN ?_ _ | refine blk_drew ?_ | refine blk_alloc ?_ _)); exact BK231.out) hk (by intro _ _ _ h_; cases h_; decide)); have n1_ := Aside0.mk (hb); have n2_ := Aside0.mk (hi); clear BK231; clear HB; clear HI251; have BK231 := n0_; have HB := n1_; have HI251 := n2_; clear n0_ n1_ n2_; (try clear hb); (try clear hb2); (try clear hk); (try clear hi)) | ((with_reducible refine gate_callee (f := 24) rfl ?_); refine goesL_ (some 44) rfl rfl Try.func24 (by kernel_rfl) rfl #[.string t253] rfl (by (try simp only [List.map_toArray, List.map_cons, List.map_nil]); first | done | rfl | (simp only [List.length_drop, List.length_take]; rfl)) ?_; (with_reducible refine (codec_Read.calls t253 t255 t256 w _ ?side1 A49.out).mono ?_); (case side1 => repeat (first | (with_reducible first | exact HB.out | apply below_alloc | apply pw_below_drewN | apply below_drew1 | refine below_set ?_ (IsS50.ge HI251.out) | refine below_set ?_ GE231.out) | exact HB.out)); rintro e w64 ⟨g257, rfl, hi, hb, hb2⟩; refine ⟨_, rfl, ?_⟩; have n0_ := Aside0.mk (blk_below (g := gb231) (o := .cells #[.int .i64 x232000_4, .string x232001_4, .string x232002_4, .int .i64 x232003_4] 27 (0, 0)) (by (with_reducible repeat (first | refine blk_drewN ?_ _ | refine blk_drew ?_ | refine blk_alloc ?_ _)); exact BK231.out) hb2); have n1_ := Aside0.mk (IsS50.below (by repeat (first | (with_reducible first | exact HI251.out | apply IsS50.alloc | apply IsS50.drewN | apply IsS50.drew | apply IsS50.set_0 | refine IsS50.farT (p := ⟨gb231, _, none⟩) (t2 := 27) ?_ ?_ (by decide) (by decide) _ | exact OutT.mk BK231.out | refine OutT.set ?_ _ _ _) | exact HI251.out)) hb2); have n2_ := Aside0.mk (hb); have n3_ := Aside0.mk (hi); have n4_ := Aside0.mk (IsS80.ne_blk hi (blk_below (g := gb231) (o := .cells #[.int .i64 x232000_4, .string x232001_4, .string x232002_4, .int .i64 x232003_4] 27 (0, 0)) (by (with_reducible repeat (first | refine blk_drewN ?_ _ | refine blk_drew ?_ | refine blk_alloc ?_ _)); exact BK231.out) hb2) (by decide)); have n5_ := Aside0.mk (Ne.symm (IsS80.ne_blk hi (blk_below (g := gb231) (o := .cells #[.int .i64 x232000_4, .string x232001_4, .string x232002_4, .int .i64 x232003_4] 27 (0, 0)) (by (with_reducible repeat (first | refine blk_drewN ?_ _ | refine blk_drew ?_ | refine blk_alloc ?_ _)); exact BK231.out) hb2) (by decide))); clear BK231; clear HI251; clear HB; have BK231 := n0_; have HI251 := n1_; have HB := n2_; have HI257 := n3_; have NB257_231 := n4_; have NB231_257 := n5_; clear n0_ n1_ n2_ n3_ n4_ n5_; (try clear hb); (try clear hb2); (try clear hk); (try clear hi)) | ((with_reducible refine gate_callee (f := 26) rfl ?_); refine goesL_ (some 46) rfl rfl Try.func26 (by kernel_rfl) rfl #[.pointer (some ⟨g257, 0, none⟩)] rfl (by (try simp only [List.map_toArray, List.map_cons, List.map_nil]); first | done | rfl | (simp only [List.length_drop, List.length_take]; rfl)) ?_; (with_reducible refine (method_ReadCall.calls kj16 g257 t255 t256 t258 t259 t260 t261 t262 t263 w _ ?side1 ?side2 A50.out).mono ?_); (case side1 => repeat (first | (with_reducible first | exact HI257.out | apply IsS80.alloc | apply IsS80.drewN | apply IsS80.drew | apply IsS80.set_0 | apply IsS80.set_1 | refine IsS80.far ?_ NB257_231.out _) | exact HI257.out)); (case side2 => repeat (first | (with_reducible first | exact HB.out | apply below_alloc | apply pw_below_drewN | apply below_drew1 | refine below_set ?_ (IsS50.ge HI251.out) | refine below_set ?_ (IsS80.ge HI257.out) | refine below_set ?_ GE231.out) | exact HB.out)); rintro e w65 ⟨rfl, hi, hb, hk⟩; refine ⟨_, rfl, ?_⟩; have n0_ := Aside0.mk (KeepBut.blk hk (g' := gb231) (o := .cells #[.int .i64 x232000_4, .string x232001_4, .string x232002_4, .int .i64 x232003_4] 27 (0, 0)) (by (with_reducible repeat (first | refine blk_drewN ?_ _ | refine blk_drew ?_ | refine blk_alloc ?_ _)); exact BK231.out) NB231_257.out (by simp)); have n1_ := Aside0.mk (IsS50.keepB (show IsS50 w _ gb251 t254 from by repeat (first | (with_reducible first | exact HI251.out | apply IsS50.alloc | apply IsS50.drewN | apply IsS50.drew | apply IsS50.set_0 | refine IsS50.farT (p := ⟨gb231, _, none⟩) (t2 := 27) ?_ ?_ (by decide) (by decide) _ | exact OutT.mk BK231.out | refine OutT.set ?_ _ _ _) | exact HI251.out)) hk ((show IsS80 w _ g257 t255 t256 from by repeat (first | (with_reducible first | exact HI257.out | apply IsS80.alloc | apply IsS80.drewN | apply IsS80.drew | apply IsS80.set_0 | apply IsS80.set_1 | refine IsS80.far ?_ NB257_231.out _) | exact HI257.out))).1 (by decide) (by decide)); have n2_ := Aside0.mk (hb); have n3_ := Aside0.mk (hi); clear BK231; clear HI251; clear HB; clear HI257; have BK231 := n0_; have HI251 := n1_; have HB := n2_; have HI257 := n3_; clear n0_ n1_ n2_ n3_; (try clear hb); (try clear hb2); (try clear hk); (try clear hi)) | ((with_reducible refine gate_dst (N := 7) rfl ?_); refine box_event ?hg (N := 7) ?hd (cs := #[.int .i64 0, .string (⟨#[]⟩ : ByteArray), .string (⟨#[]⟩ : ByteArray), .int .i64 0]) (t := 27) ?hr ?_; (case hd => rfl); (case hg => rfl); (case hr => first | (go_simp; done) | (go_simp; rfl)); intro gb264 hg w66 hbox hb; have n0_ := Aside0.mk (blk_below (g := gb231) (o := .cells #[.int .i64 x232000_4, .string x232001_4, .string x232002_4, .int .i64 x232003_4] 27 (0, 0)) (by (with_reducible repeat (first | refine blk_drewN ?_ _ | refine blk_drew ?_ | refine blk_alloc ?_ _)); exact BK231.out) hb); have n1_ := Aside0.mk (IsS50.below (by repeat (first | (with_reducible first | exact HI251.out | apply IsS50.alloc | apply IsS50.drewN | apply IsS50.drew | apply IsS50.set_0 | refine IsS50.farT (p := ⟨gb231, _, none⟩) (t2 := 27) ?_ ?_ (by decide) (by decide) _ | exact OutT.mk BK231.out | refine OutT.set ?_ _ _ _) | exact HI251.out)) hb); have n2_ := Aside0.mk (IsS80.below (by repeat (first | (with_reducible first | exact HI257.out | apply IsS80.alloc | apply IsS80.drewN | apply IsS80.drew | apply IsS80.set_0 | apply IsS80.set_1 | refine IsS80.far ?_ NB257_231.out _) | exact HI257.out)) hb); have n3_ := Aside0.mk (below_step (by repeat (first | (with_reducible first | exact HB.out | apply below_alloc | apply pw_below_drewN | apply below_drew1 | refine below_set ?_ (IsS50.ge HI251.out) | refine below_set ?_ (IsS80.ge HI257.out) | refine below_set ?_ GE231.out) | exact HB.out)) hb); have n4_ := Aside0.mk (hbox); have n5_ := Aside0.mk ((by rw [hg]; exact (below_size (by repeat (first | (with_reducible first | exact HB.out | apply below_alloc | apply pw_below_drewN | apply below_drew1 | refine below_set ?_ (IsS50.ge HI251.out) | refine below_set ?_ (IsS80.ge HI257.out) | refine below_set ?_ GE231.out) | exact HB.out))) : w.heap.size ≤ gb264)); have n6_ := Aside0.mk ((by rw [hg]; exact (below_size (by repeat (first | (with_reducible first | exact HB.out | apply below_alloc | apply pw_below_drewN | apply below_drew1 | refine below_set ?_ (IsS50.ge HI251.out) | refine below_set ?_ (IsS80.ge HI257.out) | refine below_set ?_ GE231.out) | exact HB.out))) : w.heap.size ≤ gb264)); have n7_ := Aside0.mk ((by rw [hg]; exact Nat.ne_of_lt (blk_lt (g := gb231) (o := .cells #[.int .i64 x232000_4, .string x232001_4, .string x232002_4, .int .i64 x232003_4] 27 (0, 0)) (by (with_reducible repeat (first | refine blk_drewN ?_ _ | refine blk_drew ?_ | refine blk_alloc ?_ _)); exact BK231.out)) : gb231 ≠ gb264)); have n8_ := Aside0.mk ((by rw [hg]; exact Nat.ne_of_gt (blk_lt (g := gb231) (o := .cells #[.int .i64 x232000_4, .string x232001_4, .string x232002_4, .int .i64 x232003_4] 27 (0, 0)) (by (with_reducible repeat (first | refine blk_drewN ?_ _ | refine blk_drew ?_ | refine blk_alloc ?_ _)); exact BK231.out)) : gb264 ≠ gb231)); have n9_ := Aside0.mk ((by rw [hg]; exact Nat.ne_of_lt (IsS50.lt (show IsS50 w _ gb251 t254 from by repeat (first | (with_reducible first | exact HI251.out | apply IsS50.alloc | apply IsS50.drewN | apply IsS50.drew | apply IsS50.set_0 | refine IsS50.farT (p := ⟨gb231, _, none⟩) (t2 := 27) ?_ ?_ (by decide) (by decide) _ | exact OutT.mk BK231.out | refine OutT.set ?_ _ _ _) | exact HI251.out))) : gb251 ≠ gb264)); have n10_ := Aside0.mk ((by rw [hg]; exact Nat.ne_of_gt (IsS50.lt (show IsS50 w _ gb251 t254 from by repeat (first | (with_reducible first | exact HI251.out | apply IsS50.alloc | apply IsS50.drewN | apply IsS50.drew | apply IsS50.set_0 | refine IsS50.farT (p := ⟨gb231, _, none⟩) (t2 := 27) ?_ ?_ (by decide) (by decide) _ | exact OutT.mk BK231.out | refine OutT.set ?_ _ _ _) | exact HI251.out))) : gb264 ≠ gb251)); have n11_ := Aside0.mk ((by rw [hg]; exact Nat.ne_of_lt (IsS80.lt (show IsS80 w _ g257 t262 t263 from by repeat (first | (with_reducible first | exact HI257.out | apply IsS80.alloc | apply IsS80.drewN | apply IsS80.drew | apply IsS80.set_0 | apply IsS80.set_1 | refine IsS80.far ?_ NB257_231.out _) | exact HI257.out))) : g257 ≠ gb264)); have n12_ := Aside0.mk ((by rw [hg]; exact Nat.ne_of_gt (IsS80.lt (show IsS80 w _ g257 t262 t263 from by repeat (first | (with_reducible first | exact HI257.out | apply IsS80.alloc | apply IsS80.drewN | apply IsS80.drew | apply IsS80.set_0 | apply IsS80.set_1 | refine IsS80.far ?_ NB257_231.out _) | exact HI257.out))) : gb264 ≠ g257)); clear BK231; clear HI251; clear HI257; clear HB; have BK231 := n0_; have HI251 := n1_; have HI257 := n2_; have HB := n3_; have BK264 := n4_; have GW264 := n5_; have GE264 := n6_; have NB231_264 := n7_; have NB264_231 := n8_; have NB251_264 := n9_; have NB264_251 := n10_; have NB257_264 := n11_; have NB264_257 := n12_; clear n0_ n1_ n2_ n3_ n4_ n5_ n6_ n7_ n8_ n9_ n10_ n11_ n12_; clear hb hbox hg; have hnb67 := NB264_231.out; have hnc67 := NB231_264.out; have hnb68 := NB264_251.out; have hnc68 := NB251_264.out; have hnb69 := NB264_257.out; have hnc69 := NB257_264.out; have hcz70_0 : w66.cell? ⟨gb264, 0, none⟩ = some (.int .i64 0) := (blk_cell BK264.out 0).trans rfl; have hcz70_1 : w66.cell? ⟨gb264, 1, none⟩ = some (.string (⟨#[]⟩ : ByteArray)) := (blk_cell BK264.out 1).trans rfl; have hcz70_2 : w66.cell? ⟨gb264, 2, none⟩ = some (.string (⟨#[]⟩ : ByteArray)) := (blk_cell BK264.out 2).trans rfl; have hcz70_3 : w66.cell? ⟨gb264, 3, none⟩ = some (.int .i64 0) := (blk_cell BK264.out 3).trans rfl; have hfz70_0 := blk_frozen BK264.out 0; have hfz70_1 := blk_frozen BK264.out 1; have hfz70_2 := blk_frozen BK264.out 2; have hfz70_3 := blk_frozen BK264.out 3))
      have n0_ : Aside0 (((((w66.setCell ⟨gb264, 0, none⟩ (.int .i64 t258)).setCell ⟨gb264, 1, none⟩ (.string t259)).setCell ⟨gb264, 2, none⟩ (.string t260)).setCell ⟨gb264, 3, none⟩ (.int .i64 t261)).heap[gb231]? = some (.cells #[.int .i64 x232000_4, .string x232001_4, .string x232002_4, .int .i64 x232003_4] 27 (0, 0))) := ⟨by (with_reducible repeat (first | refine blk_drewN ?_ _ | refine blk_drew ?_ | refine blk_alloc ?_ _)); refine blk_far ?_ NB231_264.out _; (with_reducible repeat (first | refine blk_drewN ?_ _ | refine blk_drew ?_ | refine blk_alloc ?_ _)); refine blk_far ?_ NB231_264.out _; (with_reducible repeat (first | refine blk_drewN ?_ _ | refine blk_drew ?_ | refine blk_alloc ?_ _)); refine blk_far ?_ NB231_264.out _; (with_reducible repeat (first | refine blk_drewN ?_ _ | refine blk_drew ?_ | refine blk_alloc ?_ _)); refine blk_far ?_ NB231_264.out _; (with_reducible repeat (first | refine blk_drewN ?_ _ | refine blk_drew ?_ | refine blk_alloc ?_ _)); exact BK231.out⟩
      have n1_ : Aside0 (((((w66.setCell ⟨gb264, 0, none⟩ (.int .i64 t258)).setCell ⟨gb264, 1, none⟩ (.string t259)).setCell ⟨gb264, 2, none⟩ (.string t260)).setCell ⟨gb264, 3, none⟩ (.int .i64 t261)).heap[gb264]? = some (.cells #[.int .i64 t258, .string t259, .string t260, .int .i64 t261] 27 (0, 0))) := ⟨by (with_reducible repeat (first | refine blk_drewN ?_ _ | refine blk_drew ?_ | refine blk_alloc ?_ _)); refine blk_put (cs := #[.int .i64 t258, .string t259, .string t260, .int .i64 0]) ?_ 3 _ rfl; (with_reducible repeat (first | refine blk_drewN ?_ _ | refine blk_drew ?_ | refine blk_alloc ?_ _)); refine blk_put (cs := #[.int .i64 t258, .string t259, .string (⟨#[]⟩ : ByteArray), .int .i64 0]) ?_ 2 _ rfl; (with_reducible repeat (first | refine blk_drewN ?_ _ | refine blk_drew ?_ | refine blk_alloc ?_ _)); refine blk_put (cs := #[.int .i64 t258, .string (⟨#[]⟩ : ByteArray), .string (⟨#[]⟩ : ByteArray), .int .i64 0]) ?_ 1 _ rfl; (with_reducible repeat (first | refine blk_drewN ?_ _ | refine blk_drew ?_ | refine blk_alloc ?_ _)); refine blk_put (cs := #[.int .i64 0, .string (⟨#[]⟩ : ByteArray), .string (⟨#[]⟩ : ByteArray), .int .i64 0]) ?_ 0 _ rfl; (with_reducible repeat (first | refine blk_drewN ?_ _ | refine blk_drew ?_ | refine blk_alloc ?_ _)); exact BK264.out⟩
      have n2_ : Aside0 (IsS50 w ((((w66.setCell ⟨gb264, 0, none⟩ (.int .i64 t258)).setCell ⟨gb264, 1, none⟩ (.string t259)).setCell ⟨gb264, 2, none⟩ (.string t260)).setCell ⟨gb264, 3, none⟩ (.int .i64 t261)) gb251 t254) := ⟨by repeat (first | (with_reducible first | exact HI251.out | apply IsS50.alloc | apply IsS50.drewN | apply IsS50.drew | apply IsS50.set_0 | refine IsS50.farT (p := ⟨gb231, _, none⟩) (t2 := 27) ?_ ?_ (by decide) (by decide) _ | exact OutT.mk BK231.out | refine OutT.set ?_ _ _ _ | refine IsS50.farT (p := ⟨gb264, _, none⟩) (t2 := 27) ?_ ?_ (by decide) (by decide) _ | exact OutT.mk BK264.out | refine OutT.set ?_ _ _ _) | exact HI251.out)⟩
      have n3_ : Aside0 (IsS80 w ((((w66.setCell ⟨gb264, 0, none⟩ (.int .i64 t258)).setCell ⟨gb264, 1, none⟩ (.string t259)).setCell ⟨gb264, 2, none⟩ (.string t260)).setCell ⟨gb264, 3, none⟩ (.int .i64 t261)) g257 t262 t263) := ⟨by repeat (first | (with_reducible first | exact HI257.out | apply IsS80.alloc | apply IsS80.drewN | apply IsS80.drew | apply IsS80.set_0 | apply IsS80.set_1 | refine IsS80.far ?_ NB257_231.out _ | refine IsS80.far ?_ NB257_264.out _) | exact HI257.out)⟩
      have n4_ : Aside0 (Below w.heap.size w ((((w66.setCell ⟨gb264, 0, none⟩ (.int .i64 t258)).setCell ⟨gb264, 1, none⟩ (.string t259)).setCell ⟨gb264, 2, none⟩ (.string t260)).setCell ⟨gb264, 3, none⟩ (.int .i64 t261))) := ⟨by repeat (first | (with_reducible first | exact HB.out | apply below_alloc | apply pw_below_drewN | apply below_drew1 | refine below_set ?_ (IsS50.ge HI251.out) | refine below_set ?_ (IsS80.ge HI257.out) | refine below_set ?_ GE231.out | refine below_set ?_ GE264.out) | exact HB.out)⟩
      (try clear BK231)
      (try clear BK264)
      (try clear HI251)
      (try clear HI257)
      (try clear HB)
      generalize ((((w66.setCell ⟨gb264, 0, none⟩ (.int .i64 t258)).setCell ⟨gb264, 1, none⟩ (.string t259)).setCell ⟨gb264, 2, none⟩ (.string t260)).setCell ⟨gb264, 3, none⟩ (.int .i64 t261)) = w71 at n0_ n1_ n2_ n3_ n4_ ⊢
      have BK231 := n0_
      have BK264 := n1_
      have HI251 := n2_
      have HI257 := n3_
      have HB := n4_
      clear n0_ n1_ n2_ n3_ n4_
      have n0_ := Aside0.mk (blk_drew BK231.out)
      have n1_ := Aside0.mk (blk_drew BK264.out)
      have n2_ := Aside0.mk (IsS50.drew HI251.out)
      have n3_ := Aside0.mk (IsS80.drew HI257.out)
      have n4_ := Aside0.mk (below_drew1 HB.out)
      clear BK231
      clear BK264
      clear HI251
      clear HI257
      clear HB
      have BK231 := n0_
      have BK264 := n1_
      have HI251 := n2_
      have HI257 := n3_
      have HB := n4_
      clear n0_ n1_ n2_ n3_ n4_
      refine start_ (n := 16) (S := fun w' => w'.cell? ⟨gb231, 0, none⟩ = some (.int .i64 x232000_4) ∧ w'.cell? ⟨gb231, 1, none⟩ = some (.string x232001_4) ∧ w'.cell? ⟨gb231, 2, none⟩ = some (.string x232002_4) ∧ w'.cell? ⟨gb231, 3, none⟩ = some (.int .i64 x232003_4) ∧ w'.cell? ⟨gb264, 0, none⟩ = some (.int .i64 t258) ∧ w'.cell? ⟨gb264, 1, none⟩ = some (.string t259) ∧ w'.cell? ⟨gb264, 2, none⟩ = some (.string t260) ∧ w'.cell? ⟨gb264, 3, none⟩ = some (.int .i64 t261)) (ds := []) #[false,false,false,false,false,false,false,false,false,false,false,false,false,false,false,false] (by kernel_rfl) rfl rfl ⟨(blk_cell BK231.out 0).trans rfl, (blk_cell BK231.out 1).trans rfl, (blk_cell BK231.out 2).trans rfl, (blk_cell BK231.out 3).trans rfl, (blk_cell BK264.out 0).trans rfl, (blk_cell BK264.out 1).trans rfl, (blk_cell BK264.out 2).trans rfl, (blk_cell BK264.out 3).trans rfl⟩ (fun hHeld => ?_); refine with_tabW armoirelaw12_MethodCalls.tab12 armoirelaw12_MethodCalls.bits12 (fun HT_ HW_ => ?_)
      generalize w71.drew = w72 at BK231 BK264 HI251 HI257 HB hHeld ⊢
      refine take_ (i := 1) (N := some 48) (v := ?_) (a' := ?_) #[false,true,false,false,false,false,false,false,false,false,false,false,false,false,false,false] rfl rfl (take_ofW HT_.out HW_.out (by kernel_rfl)) (fun _ _ _ h => h) (Or.inl ⟨by rfl, ?_⟩) hHeld ?_ ?_
      rotate_left
      · rintro w' ⟨s0, s1, s2, s3, s4, s5, s6, s7⟩
        go_simp
        with_reducible rfl
      rotate_left; (simp only [Act.put, List.setIfInBounds_toArray, List.set_cons_zero, List.set_cons_succ, i64_w, i32_w]; rfl)
      refine one_ (i := 0) (N := some 47) #[true,true,false,false,false,false,false,false,false,false,false,false,false,false,false,false] rfl rfl (one_of HT_.out (by kernel_rfl)) (by decide) (fun K hK => ?_)
      refine goes_ Try.func25 (by kernel_rfl) rfl #[.pointer (some ⟨gb251, 0, none⟩)] (by rfl) rfl rfl (by (try simp only [List.map_toArray, List.map_cons, List.map_nil]); first | done | rfl | (simp only [List.length_drop, List.length_take]; rfl) | (simp only [Act.eval, Array.getD_eq_getD_getElem?, Option.getD_some, *]; done) | (simp only [Array.mk.injEq, List.cons.injEq, Value.int.injEq, true_and, and_true]; first | omega | (simp [IntKind.wrap, IntKind.bits, IntKind.signed]; omega))) ?_
      with_reducible refine (codec_Out_Text.calls gb251 t254 t265 t266 w _ ?side1 ?side2 A51.out).mono ?_
      (case side1 => repeat (first | (with_reducible first | exact HI251.out | apply IsS50.alloc | apply IsS50.drewN | apply IsS50.drew | apply IsS50.set_0 | refine IsS50.farT (p := ⟨gb231, _, none⟩) (t2 := 27) ?_ ?_ (by decide) (by decide) _ | exact OutT.mk BK231.out | refine OutT.set ?_ _ _ _ | refine IsS50.farT (p := ⟨gb264, _, none⟩) (t2 := 27) ?_ ?_ (by decide) (by decide) _ | exact OutT.mk BK264.out | refine OutT.set ?_ _ _ _) | exact HI251.out))
      (case side2 => repeat (first | (with_reducible first | exact HB.out | apply below_alloc | apply pw_below_drewN | apply below_drew1 | refine below_set ?_ (IsS50.ge HI251.out) | refine below_set ?_ (IsS80.ge HI257.out) | refine below_set ?_ GE231.out | refine below_set ?_ GE264.out) | exact HB.out))
      rintro e w73 ⟨rfl, hi, hb, hk⟩
      refine ⟨_, rfl, ?_⟩
      have n0_ := Aside0.mk (KeepT.oblk (g := gb231) (o := .cells #[.int .i64 x232000_4, .string x232001_4, .string x232002_4, .int .i64 x232003_4] 27 (0, 0)) (by (with_reducible repeat (first | refine blk_drewN ?_ _ | refine blk_drew ?_ | refine blk_alloc ?_ _)); exact BK231.out) hk (by intro _ _ _ h_; cases h_; decide))
      have n1_ := Aside0.mk ((show IsS80 w w73 g257 t262 t263 from ⟨KeepT.blk ((show IsS80 w _ g257 t262 t263 from by repeat (first | (with_reducible first | exact HI257.out | apply IsS80.alloc | apply IsS80.drewN | apply IsS80.drew | apply IsS80.set_0 | apply IsS80.set_1 | refine IsS80.far ?_ NB257_231.out _ | refine IsS80.far ?_ NB257_264.out _) | exact HI257.out))).1 hk (by decide), ((show IsS80 w _ g257 t262 t263 from by repeat (first | (with_reducible first | exact HI257.out | apply IsS80.alloc | apply IsS80.drewN | apply IsS80.drew | apply IsS80.set_0 | apply IsS80.set_1 | refine IsS80.far ?_ NB257_231.out _ | refine IsS80.far ?_ NB257_264.out _) | exact HI257.out))).2⟩))
      have n2_ := Aside0.mk (KeepT.oblk (g := gb264) (o := .cells #[.int .i64 t258, .string t259, .string t260, .int .i64 t261] 27 (0, 0)) (by (with_reducible repeat (first | refine blk_drewN ?_ _ | refine blk_drew ?_ | refine blk_alloc ?_ _)); exact BK264.out) hk (by intro _ _ _ h_; cases h_; decide))
      have n3_ := Aside0.mk (hb)
      have n4_ := Aside0.mk (hi)
      clear BK231
      clear HI257
      clear BK264
      clear HB
      clear HI251
      have BK231 := n0_
      have HI257 := n1_
      have BK264 := n2_
      have HB := n3_
      have HI251 := n4_
      clear n0_ n1_ n2_ n3_ n4_
      (try clear hb)
      (try clear hb2)
      (try clear hk)
      (try clear hi)
      refine hK.out _ _ ⟨(blk_cell BK231.out 0).trans rfl, (blk_cell BK231.out 1).trans rfl, (blk_cell BK231.out 2).trans rfl, (blk_cell BK231.out 3).trans rfl, (blk_cell BK264.out 0).trans rfl, (blk_cell BK264.out 1).trans rfl, (blk_cell BK264.out 2).trans rfl, (blk_cell BK264.out 3).trans rfl⟩ (fun hHeld => ?_)
      clear hK K
      refine norm_ (a' := ?_) ?_ ?_
      rotate_left
      · show Act.put _ (some 47) _ = _
        simp only [Act.put, List.setIfInBounds_toArray, List.set_cons_zero, List.set_cons_succ, i64_w, i32_w]
        rfl
      refine one_ (i := 2) (N := some 49) #[true,true,true,false,false,false,false,false,false,false,false,false,false,false,false,false] rfl rfl (one_of HT_.out (by kernel_rfl)) (by decide) (fun K hK => ?_)
      refine goes_ Try.func15 (by kernel_rfl) rfl #[.agg #[.int .i64 x232000_4, .string x232001_4, .string x232002_4, .int .i64 x232003_4]] (by rfl) rfl rfl (by (try simp only [List.map_toArray, List.map_cons, List.map_nil]); first | done | rfl | (simp only [List.length_drop, List.length_take]; rfl) | (simp only [Act.eval, Array.getD_eq_getD_getElem?, Option.getD_some, *]; done) | (simp only [Array.mk.injEq, List.cons.injEq, Value.int.injEq, true_and, and_true]; first | omega | (simp [IntKind.wrap, IntKind.bits, IntKind.signed]; omega))) ?_
      with_reducible refine (armoirelaw12_Told.calls x232000_4 x232001_4 x232002_4 x232003_4 t267 t268 t269 t270 _ A52.out).mono ?_
      rintro e w74 ⟨rfl, hb⟩
      refine ⟨_, rfl, ?_⟩
      have n0_ := Aside0.mk (blk_below (g := gb231) (o := .cells #[.int .i64 x232000_4, .string x232001_4, .string x232002_4, .int .i64 x232003_4] 27 (0, 0)) (by (with_reducible repeat (first | refine blk_drewN ?_ _ | refine blk_drew ?_ | refine blk_alloc ?_ _)); exact BK231.out) hb)
      have n1_ := Aside0.mk (IsS50.below (by repeat (first | (with_reducible first | exact HI251.out | apply IsS50.alloc | apply IsS50.drewN | apply IsS50.drew | apply IsS50.set_0 | refine IsS50.farT (p := ⟨gb231, _, none⟩) (t2 := 27) ?_ ?_ (by decide) (by decide) _ | exact OutT.mk BK231.out | refine OutT.set ?_ _ _ _ | refine IsS50.farT (p := ⟨gb264, _, none⟩) (t2 := 27) ?_ ?_ (by decide) (by decide) _ | exact OutT.mk BK264.out | refine OutT.set ?_ _ _ _) | exact HI251.out)) hb)
      have n2_ := Aside0.mk (IsS80.below (by repeat (first | (with_reducible first | exact HI257.out | apply IsS80.alloc | apply IsS80.drewN | apply IsS80.drew | apply IsS80.set_0 | apply IsS80.set_1 | refine IsS80.far ?_ NB257_231.out _ | refine IsS80.far ?_ NB257_264.out _) | exact HI257.out)) hb)
      have n3_ := Aside0.mk (blk_below (g := gb264) (o := .cells #[.int .i64 t258, .string t259, .string t260, .int .i64 t261] 27 (0, 0)) (by (with_reducible repeat (first | refine blk_drewN ?_ _ | refine blk_drew ?_ | refine blk_alloc ?_ _)); exact BK264.out) hb)
      have n4_ := Aside0.mk (below_step (by repeat (first | (with_reducible first | exact HB.out | apply below_alloc | apply pw_below_drewN | apply below_drew1 | refine below_set ?_ (IsS50.ge HI251.out) | refine below_set ?_ (IsS80.ge HI257.out) | refine below_set ?_ GE231.out | refine below_set ?_ GE264.out) | exact HB.out)) hb)
      clear BK231
      clear HI251
      clear HI257
      clear BK264
      clear HB
      have BK231 := n0_
      have HI251 := n1_
      have HI257 := n2_
      have BK264 := n3_
      have HB := n4_
      clear n0_ n1_ n2_ n3_ n4_
      (try clear hb)
      (try clear hb2)
      (try clear hk)
      (try clear hi)
      refine hK.out _ _ ⟨(blk_cell BK231.out 0).trans rfl, (blk_cell BK231.out 1).trans rfl, (blk_cell BK231.out 2).trans rfl, (blk_cell BK231.out 3).trans rfl, (blk_cell BK264.out 0).trans rfl, (blk_cell BK264.out 1).trans rfl, (blk_cell BK264.out 2).trans rfl, (blk_cell BK264.out 3).trans rfl⟩ (fun hHeld => ?_)
      clear hK K
      refine norm_ (a' := ?_) ?_ ?_
      rotate_left
      · show Act.put _ (some 49) _ = _
        simp only [Act.put, List.setIfInBounds_toArray, List.set_cons_zero, List.set_cons_succ, i64_w, i32_w]
        rfl
      refine one_ (i := 3) (N := some 50) #[true,true,true,true,false,false,false,false,false,false,false,false,false,false,false,false] rfl rfl (one_of HT_.out (by kernel_rfl)) (by decide) (fun K hK => ?_)
      refine goes_ Try.func27 (by kernel_rfl) rfl #[.agg #[.int .i64 t267, .string t268, .string t269, .int .i64 t270]] (by rfl) rfl rfl (by (try simp only [List.map_toArray, List.map_cons, List.map_nil]); first | done | rfl | (simp only [List.length_drop, List.length_take]; rfl) | (simp only [Act.eval, Array.getD_eq_getD_getElem?, Option.getD_some, *]; done) | (simp only [Array.mk.injEq, List.cons.injEq, Value.int.injEq, true_and, and_true]; first | omega | (simp [IntKind.wrap, IntKind.bits, IntKind.signed]; omega))) ?_
      with_reducible refine (armoireref12_Text.calls kj16 t267 t268 t269 t270 t271 _ A53.out).mono ?_
      rintro e w75 ⟨rfl, hb⟩
      refine ⟨_, rfl, ?_⟩
      have n0_ := Aside0.mk (blk_below (g := gb231) (o := .cells #[.int .i64 x232000_4, .string x232001_4, .string x232002_4, .int .i64 x232003_4] 27 (0, 0)) (by (with_reducible repeat (first | refine blk_drewN ?_ _ | refine blk_drew ?_ | refine blk_alloc ?_ _)); exact BK231.out) hb)
      have n1_ := Aside0.mk (IsS50.below (by repeat (first | (with_reducible first | exact HI251.out | apply IsS50.alloc | apply IsS50.drewN | apply IsS50.drew | apply IsS50.set_0 | refine IsS50.farT (p := ⟨gb231, _, none⟩) (t2 := 27) ?_ ?_ (by decide) (by decide) _ | exact OutT.mk BK231.out | refine OutT.set ?_ _ _ _ | refine IsS50.farT (p := ⟨gb264, _, none⟩) (t2 := 27) ?_ ?_ (by decide) (by decide) _ | exact OutT.mk BK264.out | refine OutT.set ?_ _ _ _) | exact HI251.out)) hb)
      have n2_ := Aside0.mk (IsS80.below (by repeat (first | (with_reducible first | exact HI257.out | apply IsS80.alloc | apply IsS80.drewN | apply IsS80.drew | apply IsS80.set_0 | apply IsS80.set_1 | refine IsS80.far ?_ NB257_231.out _ | refine IsS80.far ?_ NB257_264.out _) | exact HI257.out)) hb)
      have n3_ := Aside0.mk (blk_below (g := gb264) (o := .cells #[.int .i64 t258, .string t259, .string t260, .int .i64 t261] 27 (0, 0)) (by (with_reducible repeat (first | refine blk_drewN ?_ _ | refine blk_drew ?_ | refine blk_alloc ?_ _)); exact BK264.out) hb)
      have n4_ := Aside0.mk (below_step (by repeat (first | (with_reducible first | exact HB.out | apply below_alloc | apply pw_below_drewN | apply below_drew1 | refine below_set ?_ (IsS50.ge HI251.out) | refine below_set ?_ (IsS80.ge HI257.out) | refine below_set ?_ GE231.out | refine below_set ?_ GE264.out) | exact HB.out)) hb)
      clear BK231
      clear HI251
      clear HI257
      clear BK264
      clear HB
      have BK231 := n0_
      have HI251 := n1_
      have HI257 := n2_
      have BK264 := n3_
      have HB := n4_
      clear n0_ n1_ n2_ n3_ n4_
      (try clear hb)
      (try clear hb2)
      (try clear hk)
      (try clear hi)
      refine hK.out _ _ ⟨(blk_cell BK231.out 0).trans rfl, (blk_cell BK231.out 1).trans rfl, (blk_cell BK231.out 2).trans rfl, (blk_cell BK231.out 3).trans rfl, (blk_cell BK264.out 0).trans rfl, (blk_cell BK264.out 1).trans rfl, (blk_cell BK264.out 2).trans rfl, (blk_cell BK264.out 3).trans rfl⟩ (fun hHeld => ?_)
      clear hK K
      refine norm_ (a' := ?_) ?_ ?_
      rotate_left
      · show Act.put _ (some 50) _ = _
        simp only [Act.put, List.setIfInBounds_toArray, List.set_cons_zero, List.set_cons_succ, i64_w, i32_w]
        rfl
      refine pure_ (i := 4) (N := some 51) (v := ?_) (a' := ?_) (bA 16 31) rfl rfl (any_of HT_.out (by kernel_rfl)) (fun _ _ _ h => h) (Or.inl ⟨by rfl, ?_⟩) ?_ ?_
      rotate_left; (intro w'; go_simp; with_reducible rfl); rotate_left; (simp only [Act.put, List.setIfInBounds_toArray, List.set_cons_zero, List.set_cons_succ, i64_w, i32_w]; rfl)
      refine pure_ (i := 5) (N := some 52) (v := ?_) (a' := ?_) (bA 16 63) rfl rfl (any_of HT_.out (by kernel_rfl)) (fun _ _ _ h => h) (Or.inl ⟨by rfl, ?_⟩) ?_ ?_
      rotate_left; (intro w'; go_simp; with_reducible rfl); rotate_left; (simp only [Act.put, List.setIfInBounds_toArray, List.set_cons_zero, List.set_cons_succ, i64_w, i32_w]; rfl)
      refine take_ (i := 6) (N := some 53) (v := ?_) (a' := ?_) #[true,true,true,true,true,true,true,false,false,false,false,false,false,false,false,false] rfl rfl (take_ofW HT_.out HW_.out (by kernel_rfl)) (fun _ _ _ h => h) (Or.inl ⟨by rfl, ?_⟩) hHeld ?_ ?_
      rotate_left
      · rintro w' ⟨s0, s1, s2, s3, s4, s5, s6, s7⟩
        go_simp
        with_reducible rfl
      rotate_left; (simp only [Act.put, List.setIfInBounds_toArray, List.set_cons_zero, List.set_cons_succ, i64_w, i32_w]; rfl)
      refine take_ (i := 7) (N := some 54) (v := ?_) (a' := ?_) #[true,true,true,true,true,true,true,true,false,false,false,false,false,false,false,false] rfl rfl (take_ofW HT_.out HW_.out (by kernel_rfl)) (fun _ _ _ h => h) (Or.inl ⟨by rfl, ?_⟩) hHeld ?_ ?_
      rotate_left
      · rintro w' ⟨s0, s1, s2, s3, s4, s5, s6, s7⟩
        go_simp
        with_reducible rfl
      rotate_left; (simp only [Act.put, List.setIfInBounds_toArray, List.set_cons_zero, List.set_cons_succ, i64_w, i32_w]; rfl)
      refine pure_ (i := 8) (N := some 55) (v := ?_) (a' := ?_) (bA 16 511) rfl rfl (any_of HT_.out (by kernel_rfl)) (fun _ _ _ h => h) (Or.inl ⟨by rfl, ?_⟩) ?_ ?_
      rotate_left; (intro w'; go_simp; with_reducible rfl); rotate_left; (simp only [Act.put, List.setIfInBounds_toArray, List.set_cons_zero, List.set_cons_succ, i64_w, i32_w]; rfl)
      refine pure_ (i := 9) (N := some 56) (v := ?_) (a' := ?_) (bA 16 1023) rfl rfl (any_of HT_.out (by kernel_rfl)) (fun _ _ _ h => h) (Or.inl ⟨by rfl, ?_⟩) ?_ ?_
      rotate_left; (intro w'; go_simp; with_reducible rfl); rotate_left; (simp only [Act.put, List.setIfInBounds_toArray, List.set_cons_zero, List.set_cons_succ, i64_w, i32_w]; rfl)
      refine pure_ (i := 10) (N := some 57) (v := ?_) (a' := ?_) (bA 16 2047) rfl rfl (any_of HT_.out (by kernel_rfl)) (fun _ _ _ h => h) (Or.inl ⟨by rfl, ?_⟩) ?_ ?_
      rotate_left; (intro w'; go_simp; with_reducible rfl); rotate_left; (simp only [Act.put, List.setIfInBounds_toArray, List.set_cons_zero, List.set_cons_succ, i64_w, i32_w]; rfl)
      refine pure_ (i := 11) (N := some 58) (v := ?_) (a' := ?_) (bA 16 4095) rfl rfl (any_of HT_.out (by kernel_rfl)) (fun _ _ _ h => h) (Or.inl ⟨by rfl, ?_⟩) ?_ ?_
      rotate_left; (intro w'; go_simp; with_reducible rfl); rotate_left; (simp only [Act.put, List.setIfInBounds_toArray, List.set_cons_zero, List.set_cons_succ, i64_w, i32_w]; rfl)
      refine one_ (i := 12) (N := some 59) #[true,true,true,true,true,true,true,true,true,true,true,true,true,false,false,false] rfl rfl (one_of HT_.out (by kernel_rfl)) (by decide) (fun K hK => ?_)
      refine goes_ Try.func28 (by kernel_rfl) rfl #[.pointer (some ⟨g257, 0, none⟩)] (by rfl) rfl rfl (by (try simp only [List.map_toArray, List.map_cons, List.map_nil]); first | done | rfl | (simp only [List.length_drop, List.length_take]; rfl) | (simp only [Act.eval, Array.getD_eq_getD_getElem?, Option.getD_some, *]; done) | (simp only [Array.mk.injEq, List.cons.injEq, Value.int.injEq, true_and, and_true]; first | omega | (simp [IntKind.wrap, IntKind.bits, IntKind.signed]; omega))) ?_
      with_reducible refine (codec_In_End.calls g257 t262 t263 t272 t273 t274 w _ ?side1 ?side2 A56.out).mono ?_
      (case side1 => repeat (first | (with_reducible first | exact HI257.out | apply IsS80.alloc | apply IsS80.drewN | apply IsS80.drew | apply IsS80.set_0 | apply IsS80.set_1 | refine IsS80.far ?_ NB257_231.out _ | refine IsS80.far ?_ NB257_264.out _) | exact HI257.out))
      (case side2 => repeat (first | (with_reducible first | exact HB.out | apply below_alloc | apply pw_below_drewN | apply below_drew1 | refine below_set ?_ (IsS50.ge HI251.out) | refine below_set ?_ (IsS80.ge HI257.out) | refine below_set ?_ GE231.out | refine below_set ?_ GE264.out) | exact HB.out))
      rintro e w76 ⟨rfl, hi, hb, hk⟩
      refine ⟨_, rfl, ?_⟩
      have n0_ := Aside0.mk (KeepBut.blk hk (g' := gb231) (o := .cells #[.int .i64 x232000_4, .string x232001_4, .string x232002_4, .int .i64 x232003_4] 27 (0, 0)) (by (with_reducible repeat (first | refine blk_drewN ?_ _ | refine blk_drew ?_ | refine blk_alloc ?_ _)); exact BK231.out) NB231_257.out (by simp))
      have n1_ := Aside0.mk (IsS50.keepB (show IsS50 w _ gb251 t266 from by repeat (first | (with_reducible first | exact HI251.out | apply IsS50.alloc | apply IsS50.drewN | apply IsS50.drew | apply IsS50.set_0 | refine IsS50.farT (p := ⟨gb231, _, none⟩) (t2 := 27) ?_ ?_ (by decide) (by decide) _ | exact OutT.mk BK231.out | refine OutT.set ?_ _ _ _ | refine IsS50.farT (p := ⟨gb264, _, none⟩) (t2 := 27) ?_ ?_ (by decide) (by decide) _ | exact OutT.mk BK264.out | refine OutT.set ?_ _ _ _) | exact HI251.out)) hk ((show IsS80 w _ g257 t262 t263 from by repeat (first | (with_reducible first | exact HI257.out | apply IsS80.alloc | apply IsS80.drewN | apply IsS80.drew | apply IsS80.set_0 | apply IsS80.set_1 | refine IsS80.far ?_ NB257_231.out _ | refine IsS80.far ?_ NB257_264.out _) | exact HI257.out))).1 (by decide) (by decide))
      have n2_ := Aside0.mk (KeepBut.blk hk (g' := gb264) (o := .cells #[.int .i64 t258, .string t259, .string t260, .int .i64 t261] 27 (0, 0)) (by (with_reducible repeat (first | refine blk_drewN ?_ _ | refine blk_drew ?_ | refine blk_alloc ?_ _)); exact BK264.out) NB264_257.out (by simp))
      have n3_ := Aside0.mk (hb)
      have n4_ := Aside0.mk (hi)
      clear BK231
      clear HI251
      clear BK264
      clear HB
      clear HI257
      have BK231 := n0_
      have HI251 := n1_
      have BK264 := n2_
      have HB := n3_
      have HI257 := n4_
      clear n0_ n1_ n2_ n3_ n4_
      (try clear hb)
      (try clear hb2)
      (try clear hk)
      (try clear hi)
      refine hK.out _ _ ⟨(blk_cell BK231.out 0).trans rfl, (blk_cell BK231.out 1).trans rfl, (blk_cell BK231.out 2).trans rfl, (blk_cell BK231.out 3).trans rfl, (blk_cell BK264.out 0).trans rfl, (blk_cell BK264.out 1).trans rfl, (blk_cell BK264.out 2).trans rfl, (blk_cell BK264.out 3).trans rfl⟩ (fun hHeld => ?_)
      clear hK K
      refine norm_ (a' := ?_) ?_ ?_
      rotate_left
      · show Act.put _ (some 59) _ = _
        simp only [Act.put, List.setIfInBounds_toArray, List.set_cons_zero, List.set_cons_succ, i64_w, i32_w]
        rfl
      refine pure_ (i := 13) (N := some 60) (v := ?_) (a' := ?_) (bA 16 16383) rfl rfl (any_of HT_.out (by kernel_rfl)) (fun _ _ _ h => h) (Or.inl ⟨by rfl, ?_⟩) ?_ ?_
      rotate_left; (intro w'; go_simp; with_reducible rfl); rotate_left; (simp only [Act.put, List.setIfInBounds_toArray, List.set_cons_zero, List.set_cons_succ, i64_w, i32_w]; rfl)
      refine pure_ (i := 14) (N := some 61) (v := ?_) (a' := ?_) (bA 16 32767) rfl rfl (any_of HT_.out (by kernel_rfl)) (fun _ _ _ h => h) (Or.inl ⟨by rfl, ?_⟩) ?_ ?_
      rotate_left; (intro w'; go_simp; with_reducible rfl); rotate_left; (simp only [Act.put, List.setIfInBounds_toArray, List.set_cons_zero, List.set_cons_succ, i64_w, i32_w]; rfl)
      refine pure_ (i := 15) (N := some 4) (v := ?_) (a' := ?_) (bA 16 65535) rfl rfl (any_of HT_.out (by kernel_rfl)) (fun _ _ _ h => h) (Or.inl ⟨by rfl, ?_⟩) ?_ ?_
      rotate_left; (intro w'; go_simp; with_reducible rfl); rotate_left; (simp only [Act.put, List.setIfInBounds_toArray, List.set_cons_zero, List.set_cons_succ, i64_w, i32_w]; rfl)
      refine done_ (done_of HT_.out (by kernel_rfl)) ?_
      try go_wp2
      go_ret
      exact ⟨by first | rfl | (simp [errW_none, errW_some] <;> rfl) | (simp [*, errW_none, errW_some] <;> rfl), by repeat (first | (with_reducible first | exact HB.out | apply below_alloc | apply pw_below_drewN | apply below_drew1 | refine below_set ?_ (IsS50.ge HI251.out) | refine below_set ?_ (IsS80.ge HI257.out) | refine below_set ?_ GE231.out | refine below_set ?_ GE264.out) | exact HB.out)⟩
def armoirelaw12_MethodCalls.Pure : Prop := ∀ (a0_0 : Int) (a0_1 : ByteArray) (a0_2 : ByteArray) (a0_3 : Int) (a1 : Bool), ((Lit.int .i64 a0_0).wf = true ∧ a0_1.size ≤ maxLen ∧ a0_2.size ≤ maxLen ∧ (Lit.int .i64 a0_3).wf = true) → ∃ k, armoirelaw12_MethodCalls.f k a0_0 a0_1 a0_2 a0_3 a1 = some true
theorem armoirelaw12_MethodCalls.walk (P : armoirelaw12_MethodCalls.Pure) (a0_0 : Int) (a0_1 : ByteArray) (a0_2 : ByteArray) (a0_3 : Int) (a1 : Bool) (w : World) (w0 : ((Lit.int .i64 a0_0).wf = true ∧ a0_1.size ≤ maxLen ∧ a0_2.size ≤ maxLen ∧ (Lit.int .i64 a0_3).wf = true))  :
    Calls Try.prog 4 #[.agg #[.int .i64 a0_0, .string a0_1, .string a0_2, .int .i64 a0_3], .bool a1] w fun e w' => e = .returned (.bool true) ∧ Below w.heap.size w w' := by
  obtain ⟨k, h⟩ := P a0_0 a0_1 a0_2 a0_3 a1 w0
  refine (armoirelaw12_MethodCalls.calls k a0_0 a0_1 a0_2 a0_3 a1 true w h).mono ?_
  rintro e w' ⟨rfl, hd⟩
  exact ⟨rfl, hd⟩
end Go.Proofs.Ytkoojbkkkpljoaa.PA

