import Derived.Test.YtndekeigagjfiaaDoorQTkPAx1
import Derived.Test.YtndekeigagjfiaaDoorQTkPAx3
namespace Go.Proofs.YtndekeigagjfiaaDoor.PA
open Go.Proofs.YtndekeigagjfiaaDoor.PL
open Go.RowKit Go.Proofs.YtndekeigagjfiaaDoorW.PrintWords Go.Proofs.YtndekeigagjfiaaDoorW.PrintLast Go.Proofs.YtndekeigagjfiaaDoorW.PrintMore
attribute [local go_sem] max2_int min2_int max_two min_two max_three min_three max_four min_four
set_option linter.unusedVariables false
set_option linter.unusedSimpArgs false
def armoirelaw02_CodecTakes.l0 : Nat → List (S43) → Int → ByteArray → Int → ByteArray → Int → Option (Bool)
  | 0, _, _, _, _, _, _ => none
  | k + 1, x1, x7, x214000, x214001, x215000, x215001 => if x7 < (x1.length : Int) then (if x7 < 15 then (if 0 ≤ x7 then ((armoirelaw02_take.f k x214000 x214001 x215000 x215001 ((rd_T43 x1 x7).f0) ((rd_T43 x1 x7).f1)).bind fun bt217 => (if bt217.2.2.1 = true then ((codec_In_Err.f bt217.2.2.2.1 bt217.2.2.2.2).bind fun bt223 => (if bt223.1 = bt217.2.1 then ((codec_In_Len.f bt223.2.1 bt223.2.2).bind fun bt226 => (if bt226.1 = (bt217.1.size : Int) then (armoirelaw02_CodecTakes.l0 k x1 (wrap64 (x7 + 1)) bt226.2.1 bt226.2.2 bt217.1 bt217.2.1) else (some false))) else (some false))) else (some false))) else (none)) else ((codec_In_End.f x214000 x214001).bind fun bt229 => ((armoireref02_End.f x215000 x215001).bind fun t232 => (some (bt229.1 == t232))))) else ((codec_In_End.f x214000 x214001).bind fun bt233 => ((armoireref02_End.f x215000 x215001).bind fun t236 => (some (bt233.1 == t236))))
def armoirelaw02_CodecTakes.f (k : Nat) (a0 : ByteArray) (l1 : List (S43)) : Option (Bool) := (armoirelaw01_Cut.f a0 120).bind fun t210 => ((codec_Read.f t210).bind fun bt211 => ((armoirelaw02_awake.f).bind fun t215 => (if t215 = true then (armoirelaw02_CodecTakes.l0 k l1 0 bt211.1 bt211.2 t210 0) else (some false))))
def armoirelaw02_CodecTakes.T9 : Bool × List (List Nat × List Nat) := (true, [([], []), ([], []), ([], []), ([], []), ([2, 3], [2, 3]), ([4], [4]), ([0, 1, 5], [0, 1, 5]), ([6], [6]), ([7], [7]), ([7], [7]), ([], []), ([10, 8, 6, 0, 1, 2, 3, 4, 5, 6, 7, 8, 10], [8, 10]), ([9, 11, 0, 1, 2, 3, 4, 5, 6, 7, 8, 9, 10, 11], [9])])
def armoirelaw02_CodecTakes.B9 : List Nat := [0, 0, 0, 0, 12, 28, 63, 127, 255, 255, 0, 1535, 4095]
theorem armoirelaw02_CodecTakes.tab9 : rtab .any (opsOf Tryd.f5 9) = armoirelaw02_CodecTakes.T9 := by kernel_rfl
theorem armoirelaw02_CodecTakes.bits9 : waitsOk armoirelaw02_CodecTakes.T9.2 armoirelaw02_CodecTakes.B9 = true := by kernel_rfl
def armoirelaw02_CodecTakes.T11 : Bool × List (List Nat × List Nat) := (true, [([], []), ([0], [0]), ([1], [1]), ([2], [2]), ([3, 2, 2], [2, 3]), ([2], [2]), ([5, 2], [2, 5]), ([4, 6, 2], [2, 4, 6]), ([2, 7], [2, 7]), ([8, 4], [8]), ([9], [9]), ([10, 9, 9], [9, 10]), ([9], [9]), ([12, 9], [9, 12]), ([13, 9], [9, 13]), ([11, 14, 9], [9, 11, 14]), ([9, 15], [9, 15])])
def armoirelaw02_CodecTakes.B11 : List Nat := [0, 1, 3, 7, 15, 7, 39, 127, 255, 511, 1023, 2047, 1023, 5119, 13311, 32767, 65535]
theorem armoirelaw02_CodecTakes.tab11 : rtab .any (opsOf Tryd.f5 11) = armoirelaw02_CodecTakes.T11 := by kernel_rfl
theorem armoirelaw02_CodecTakes.bits11 : waitsOk armoirelaw02_CodecTakes.T11.2 armoirelaw02_CodecTakes.B11 = true := by kernel_rfl
set_option maxHeartbeats 2000000 in
set_option maxRecDepth 100000 in
theorem armoirelaw02_CodecTakes.calls (k : Nat) (a0 : ByteArray) (A1 : Option Addr) (c1 : Nat) (l1 : List (S43)) (r : Bool) (w : World) (hr1 : Kd.C k43 w A1 l1.length l1) (hc1 : l1.length ≤ c1) (h : armoirelaw02_CodecTakes.f k a0 l1 = some r) :
    Calls Tryd.prog 5 #[.string a0, .slice A1 l1.length c1] w fun e w' => e = .returned (.bool r) ∧ Below w.heap.size w w' := by
  have hu39 := Tryd.underlying39
  have hu43 := Tryd.underlying43
  have HR1 := Aside0.mk hr1
  have HC1 := Aside0.mk hc1
  clear hr1 hc1
  have HB := Aside0.mk (Below.refl w.heap.size w)
  have H : ((armoirelaw01_Cut.f a0 120).bind fun t210 => ((codec_Read.f t210).bind fun bt211 => ((armoirelaw02_awake.f).bind fun t215 => (if t215 = true then (armoirelaw02_CodecTakes.l0 k l1 0 bt211.1 bt211.2 t210 0) else (some false))))) = some r := h
  clear h
  replace H := Option.bind_eq_some_iff.mp H
  obtain ⟨t210, A30, H⟩ := H
  replace H : ((codec_Read.f t210).bind fun bt211 => ((armoirelaw02_awake.f).bind fun t215 => (if t215 = true then (armoirelaw02_CodecTakes.l0 k l1 0 bt211.1 bt211.2 t210 0) else (some false)))) = some r := H
  have A3 := Aside0.mk A30
  clear A30
  replace H := Option.bind_eq_some_iff.mp H
  obtain ⟨⟨t211, t212⟩, A40, H⟩ := H
  replace H : ((armoirelaw02_awake.f).bind fun t215 => (if t215 = true then (armoirelaw02_CodecTakes.l0 k l1 0 t211 t212 t210 0) else (some false))) = some r := H
  have A4 := Aside0.mk A40
  clear A40
  replace H := Option.bind_eq_some_iff.mp H
  obtain ⟨t215, A50, H⟩ := H
  replace H : (if t215 = true then (armoirelaw02_CodecTakes.l0 k l1 0 t211 t212 t210 0) else (some false)) = some r := H
  have A5 := Aside0.mk A50
  clear A50
  have HS6 := Aside0.mk H
  clear H
  go_enter Tryd.func5, Tryd.ntmps5
  go_upto_if 17 with (first | ((with_reducible refine gcl (f := 13) rfl ?_); refine gl_ (some 11) rfl rfl Tryd.func13 (by kernel_rfl) rfl #[.string a0, .int .i64 120] rfl ar_ ?_; (with_reducible refine (armoirelaw01_Cut.calls a0 120 t210 _ A3.out).mono ?_); rintro e w' ⟨rfl, ⟨nd, rfl⟩⟩; refine ⟨_, rfl, ?_⟩) | ((with_reducible refine gcl (f := 14) rfl ?_); refine gl_ (some 13) rfl rfl Tryd.func14 (by kernel_rfl) rfl #[.string t210] rfl ar_ ?_; (with_reducible refine (codec_Read.calls t210 t211 t212 w _ ?side1 A4.out).mono ?_); (case side1 => repeat (first | (with_reducible first | exact HB.out | apply bal | apply bdn | apply bd1) | exact HB.out)); rintro e w7 ⟨g213, rfl, hi, hb, hb2⟩; refine ⟨_, rfl, ?_⟩; have n0_ := Aside0.mk (hb); have n1_ := Aside0.mk (hi); clear HB; have HB := n0_; have HI213 := n1_; clear n0_ n1_; (try clear hb); (try clear hb2); (try clear hk); (try clear hi)) | ((with_reducible refine gds (N := 6) rfl ?_); (try (refine gate_guard (by rfl) ?_; dsimp only)); refine bev ?hg (N := 6) ?hd (cs := #[.string (⟨#[]⟩ : ByteArray), .int .i64 0]) (t := 39) ?hr ?_; (case hd => rfl); (case hg => rfl); (case hr => first | (go_simp; done) | (go_simp; rfl)); intro gb214 hg w8 hbox hb; have n0_ := Aside0.mk (IsS75.below (by repeat (first | (with_reducible first | exact HI213.out | apply IsS75.alloc | apply IsS75.drewN | apply IsS75.drew | apply IsS75.set_0 | apply IsS75.set_1) | exact HI213.out)) hb); have n1_ := Aside0.mk (bsp (by repeat (first | (with_reducible first | exact HB.out | apply bal | apply bdn | apply bd1 | refine bst ?_ (IsS75.ge HI213.out)) | exact HB.out)) hb); have n2_ := Aside0.mk (hbox); have n3_ := Aside0.mk ((by rw [hg]; exact (bsz (by repeat (first | (with_reducible first | exact HB.out | apply bal | apply bdn | apply bd1 | refine bst ?_ (IsS75.ge HI213.out)) | exact HB.out))) : w.heap.size ≤ gb214)); have n4_ := Aside0.mk ((by rw [hg]; exact (bsz (by repeat (first | (with_reducible first | exact HB.out | apply bal | apply bdn | apply bd1 | refine bst ?_ (IsS75.ge HI213.out)) | exact HB.out))) : w.heap.size ≤ gb214)); have n5_ := Aside0.mk ((by rw [hg]; exact Nat.ne_of_lt (IsS75.lt (show IsS75 w _ g213 t211 t212 from by repeat (first | (with_reducible first | exact HI213.out | apply IsS75.alloc | apply IsS75.drewN | apply IsS75.drew | apply IsS75.set_0 | apply IsS75.set_1) | exact HI213.out))) : g213 ≠ gb214)); have n6_ := Aside0.mk ((by rw [hg]; exact Nat.ne_of_gt (IsS75.lt (show IsS75 w _ g213 t211 t212 from by repeat (first | (with_reducible first | exact HI213.out | apply IsS75.alloc | apply IsS75.drewN | apply IsS75.drew | apply IsS75.set_0 | apply IsS75.set_1) | exact HI213.out))) : gb214 ≠ g213)); clear HI213; clear HB; have HI213 := n0_; have HB := n1_; have BK214 := n2_; have GW214 := n3_; have GE214 := n4_; have NB213_214 := n5_; have NB214_213 := n6_; clear n0_ n1_ n2_ n3_ n4_ n5_ n6_; clear hb hbox hg; have hnb9 := NB214_213.out; have hnc9 := NB213_214.out; have hcz10 := bc2 BK214.out) | ((with_reducible refine gcl (f := 10) rfl ?_); refine gl_ (some 16) rfl rfl Tryd.func10 (by kernel_rfl) rfl #[] rfl ar_ ?_; (with_reducible refine (armoirelaw02_awake.calls  t215 _ A5.out).mono ?_); rintro e w11 ⟨rfl, hb⟩; refine ⟨_, rfl, ?_⟩; have n0_ := Aside0.mk (IsS75.below (show IsS75 w ((w8.setCell ⟨gb214, 0, none⟩ (.string t210)).setCell ⟨gb214, 1, none⟩ (.int .i64 0)) g213 t211 t212 from by repeat (first | (with_reducible first | exact HI213.out | apply IsS75.alloc | apply IsS75.drewN | apply IsS75.drew | apply IsS75.set_0 | apply IsS75.set_1 | refine IsS75.far ?_ NB213_214.out _) | exact HI213.out)) hb); have n1_ := Aside0.mk (kbl (g := gb214) (o := .cells #[.string t210, .int .i64 0] 39 (0, 0)) bk_ hb); have n2_ := Aside0.mk (bsp (by repeat (first | (with_reducible first | exact HB.out | apply bal | apply bdn | apply bd1 | refine bst ?_ (IsS75.ge HI213.out) | refine bst ?_ GE214.out) | exact HB.out)) hb); clear HI213; clear BK214; clear HB; have HI213 := n0_; have BK214 := n1_; have HB := n2_; clear n0_ n1_ n2_; (try clear hb); (try clear hb2); (try clear hk); (try clear hi)))
  (try simp only [Act.put, List.setIfInBounds_toArray, List.set_cons_zero, List.set_cons_succ])
  have H := HS6.out
  clear HS6
  by_cases c12 : t215 = true
  rotate_left
  · replace c12 := Bool.eq_false_iff.mpr c12
    subst c12
    have H1 : (some false) = some r := by rw [if_neg (show ¬ (false = true) by decide)] at H; exact H
    clear H
    have H := H1
    clear H1
    obtain rfl := Option.some.inj H
    go_wp2
    go_ret
    exact ⟨er_, by repeat (first | (with_reducible first | exact HB.out | apply bal | apply bdn | apply bd1 | refine bst ?_ (IsS75.ge HI213.out) | refine bst ?_ GE214.out) | exact HB.out)⟩
  subst c12
  have H1 : (armoirelaw02_CodecTakes.l0 k l1 0 t211 t212 t210 0) = some r := by rw [if_pos rfl] at H; exact H
  clear H
  have H := H1
  clear H1
  have H' := Aside0.mk H
  clear H
  go_wp2
  go_loopg [7] k (fun kq v7 w' => ∃ (x7_1 : Int) (x214000_1 : ByteArray) (x214001_1 : Int) (x215000_1 : ByteArray) (x215001_1 : Int), v7 = .int .i64 x7_1 ∧ Aside0 (armoirelaw02_CodecTakes.l0 kq l1 x7_1 x214000_1 x214001_1 x215000_1 x215001_1 = some r) ∧ Aside0 (kq ≤ k) ∧ Aside0 (w'.heap[gb214]? = some (.cells #[.string x215000_1, .int .i64 x215001_1] 39 (0, 0))) ∧ Aside0 (IsS75 w w' g213 x214000_1 x214001_1) ∧ Aside0 (Below w.heap.size w w'))
  case atStart => exact ⟨(0), (t211), (t212), (t210), (0), (by first | rfl | (simp; done) | (simp [*]; done) | exact emp1_ _ | exact (emp1_ _).symm | exact emp2_ _ | exact (emp2_ _).symm), H', ⟨Nat.le_refl _⟩, ⟨bk_⟩, ⟨by repeat (first | (with_reducible first | exact HI213.out | apply IsS75.alloc | apply IsS75.drewN | apply IsS75.drew | apply IsS75.set_0 | apply IsS75.set_1 | refine IsS75.far ?_ NB213_214.out _) | exact HI213.out)⟩, ⟨by repeat (first | (with_reducible first | exact HB.out | apply bal | apply bdn | apply bd1 | refine bst ?_ (IsS75.ge HI213.out) | refine bst ?_ GE214.out) | exact HB.out)⟩⟩
  clear H'
  try clear c1
  try clear p2
  try clear c5
  try clear c9
  try clear c10
  try clear c12
  try clear hcz10
  obtain ⟨x7_1, x214000_1, x214001_1, x215000_1, x215001_1, rfl, HA, HK1, BK214, HI213, HB⟩ := hrel
  cases gk with
  | zero => exact absurd HA.out (by simp [armoirelaw02_CodecTakes.l0])
  | succ k1 =>
    have H := HA.out
    clear HA
    simp only [armoirelaw02_CodecTakes.l0] at H
    by_cases c13 : x7_1 < (l1.length : Int)
    rotate_left
    · rw [if_neg c13] at H
      have c13b0 : decide (x7_1 < (l1.length : Int)) = false := decide_eq_false c13
      clear c13
      (first | rw [c13b0] | (simp only [i64_w, i32_w]; rw [c13b0]) | skip)
      replace H := Option.bind_eq_some_iff.mp H
      obtain ⟨⟨t233, t234, t235⟩, A700, H⟩ := H
      replace H : ((armoireref02_End.f x215000_1 x215001_1).bind fun t236 => (some (t233 == t236))) = some r := H
      have A70 := Aside0.mk A700
      clear A700
      replace H := Option.bind_eq_some_iff.mp H
      obtain ⟨t236, A710, H⟩ := H
      replace H : (some (t233 == t236)) = some r := H
      have A71 := Aside0.mk A710
      clear A710
      obtain rfl := Option.some.inj H
      try go_wp2
      have n0_ := Aside0.mk (kdw BK214.out)
      have n1_ := Aside0.mk (IsS75.drew HI213.out)
      have n2_ := Aside0.mk (bd1 HB.out)
      clear BK214
      clear HI213
      clear HB
      have BK214 := n0_
      have HI213 := n1_
      have HB := n2_
      clear n0_ n1_ n2_
      refine start_ (n := 6) (S := fun w' => w'.cell? ⟨gb214, 0, none⟩ = some (.string x215000_1) ∧ w'.cell? ⟨gb214, 1, none⟩ = some (.int .i64 x215001_1)) (ds := []) #[false,false,false,false,false,false] (by kernel_rfl) rfl rfl ⟨(kcl BK214.out 0).trans rfl, (kcl BK214.out 1).trans rfl⟩ (fun hHeld => ?_)
      generalize wr.drew = w72 at BK214 HI213 HB hHeld ⊢
      refine pure_ (i := 0) (N := some 56) (v := ?_) (a' := ?_) (bA 6 1) rfl rfl (by kernel_rfl) (fun _ _ _ h => h) (Or.inl ⟨by rfl, ?_⟩) ?_ ?_
      rotate_left; (intro w'; go_simp; with_reducible rfl); rotate_left; (simp only [Act.put, List.setIfInBounds_toArray, List.set_cons_zero, List.set_cons_succ, i64_w, i32_w]; rfl)
      refine take_ (i := 2) (N := some 58) (v := ?_) (a' := ?_) #[true,false,true,false,false,false] rfl rfl (by kernel_rfl) (fun _ _ _ h => h) (Or.inl ⟨by rfl, ?_⟩) hHeld ?_ ?_
      rotate_left
      · rintro w' ⟨s0, s1⟩
        go_simp
        with_reducible rfl
      rotate_left; (simp only [Act.put, List.setIfInBounds_toArray, List.set_cons_zero, List.set_cons_succ, i64_w, i32_w]; rfl)
      refine one_ (i := 1) (N := some 57) #[true,true,true,false,false,false] rfl rfl (by kernel_rfl) (by decide) (fun K hK => ?_)
      refine goes_ Tryd.func20 (by kernel_rfl) rfl #[.pointer (some ⟨g213, 0, none⟩)] (by rfl) rfl rfl (by (try simp only [List.map_toArray, List.map_cons, List.map_nil]); first | done | rfl | (simp only [List.length_drop, List.length_take]; rfl) | (simp only [Act.eval, Array.getD_eq_getD_getElem?, Option.getD_some, *]; done) | (simp only [Array.mk.injEq, List.cons.injEq, Value.int.injEq, true_and, and_true]; first | omega | (simp [IntKind.wrap, IntKind.bits, IntKind.signed]; omega))) ?_
      with_reducible refine (codec_In_End.calls g213 x214000_1 x214001_1 t233 t234 t235 w _ ?side1 ?side2 A70.out).mono ?_
      (case side1 => repeat (first | (with_reducible first | exact HI213.out | apply IsS75.alloc | apply IsS75.drewN | apply IsS75.drew | apply IsS75.set_0 | apply IsS75.set_1 | refine IsS75.far ?_ NB213_214.out _) | exact HI213.out))
      (case side2 => repeat (first | (with_reducible first | exact HB.out | apply bal | apply bdn | apply bd1 | refine bst ?_ (IsS75.ge HI213.out) | refine bst ?_ GE214.out) | exact HB.out))
      rintro e w73 ⟨rfl, hi, hb, hk⟩
      refine ⟨_, rfl, ?_⟩
      have n0_ := Aside0.mk (KeepBut.blk hk (g' := gb214) (o := .cells #[.string x215000_1, .int .i64 x215001_1] 39 (0, 0)) bk_ NB214_213.out (by simp))
      have n1_ := Aside0.mk (hb)
      have n2_ := Aside0.mk (hi)
      clear BK214
      clear HB
      clear HI213
      have BK214 := n0_
      have HB := n1_
      have HI213 := n2_
      clear n0_ n1_ n2_
      (try clear hb)
      (try clear hb2)
      (try clear hk)
      (try clear hi)
      refine hK.out _ _ ⟨(kcl BK214.out 0).trans rfl, (kcl BK214.out 1).trans rfl⟩ (fun hHeld => ?_)
      clear hK K
      refine norm_ (a' := ?_) ?_ ?_
      rotate_left
      · show Act.put _ (some 57) _ = _
        simp only [Act.put, List.setIfInBounds_toArray, List.set_cons_zero, List.set_cons_succ, i64_w, i32_w]
        rfl
      refine one_ (i := 3) (N := some 59) #[true,true,true,true,false,false] rfl rfl (by kernel_rfl) (by decide) (fun K hK => ?_)
      refine goes_ Tryd.func21 (by kernel_rfl) rfl #[.agg #[.string x215000_1, .int .i64 x215001_1]] (by rfl) rfl rfl (by (try simp only [List.map_toArray, List.map_cons, List.map_nil]); first | done | rfl | (simp only [List.length_drop, List.length_take]; rfl) | (simp only [Act.eval, Array.getD_eq_getD_getElem?, Option.getD_some, *]; done) | (simp only [Array.mk.injEq, List.cons.injEq, Value.int.injEq, true_and, and_true]; first | omega | (simp [IntKind.wrap, IntKind.bits, IntKind.signed]; omega))) ?_
      with_reducible refine (armoireref02_End.calls x215000_1 x215001_1 t236 _ A71.out).mono ?_
      rintro e w74 ⟨rfl, hb⟩
      refine ⟨_, rfl, ?_⟩
      have n0_ := Aside0.mk (kbl (g := gb214) (o := .cells #[.string x215000_1, .int .i64 x215001_1] 39 (0, 0)) bk_ hb)
      have n1_ := Aside0.mk (IsS75.below (by repeat (first | (with_reducible first | exact HI213.out | apply IsS75.alloc | apply IsS75.drewN | apply IsS75.drew | apply IsS75.set_0 | apply IsS75.set_1 | refine IsS75.far ?_ NB213_214.out _) | exact HI213.out)) hb)
      have n2_ := Aside0.mk (bsp (by repeat (first | (with_reducible first | exact HB.out | apply bal | apply bdn | apply bd1 | refine bst ?_ (IsS75.ge HI213.out) | refine bst ?_ GE214.out) | exact HB.out)) hb)
      clear BK214
      clear HI213
      clear HB
      have BK214 := n0_
      have HI213 := n1_
      have HB := n2_
      clear n0_ n1_ n2_
      (try clear hb)
      (try clear hb2)
      (try clear hk)
      (try clear hi)
      refine hK.out _ _ ⟨(kcl BK214.out 0).trans rfl, (kcl BK214.out 1).trans rfl⟩ (fun hHeld => ?_)
      clear hK K
      refine norm_ (a' := ?_) ?_ ?_
      rotate_left
      · show Act.put _ (some 59) _ = _
        simp only [Act.put, List.setIfInBounds_toArray, List.set_cons_zero, List.set_cons_succ, i64_w, i32_w]
        rfl
      refine pure_ (i := 4) (N := some 60) (v := ?_) (a' := ?_) (bA 6 31) rfl rfl (by kernel_rfl) (fun _ _ _ h => h) (Or.inl ⟨by rfl, ?_⟩) ?_ ?_
      rotate_left; (intro w'; go_simp; with_reducible rfl); rotate_left; (simp only [Act.put, List.setIfInBounds_toArray, List.set_cons_zero, List.set_cons_succ, i64_w, i32_w]; rfl)
      refine pure_ (i := 5) (N := some 4) (v := ?_) (a' := ?_) (bA 6 63) rfl rfl (by kernel_rfl) (fun _ _ _ h => h) (Or.inl ⟨by rfl, ?_⟩) ?_ ?_
      rotate_left; (intro w'; go_simp; with_reducible rfl); rotate_left; (simp only [Act.put, List.setIfInBounds_toArray, List.set_cons_zero, List.set_cons_succ, i64_w, i32_w]; rfl)
      refine done_ (by kernel_rfl) ?_
      try go_wp2
      go_ret
      exact ⟨er_, by repeat (first | (with_reducible first | exact HB.out | apply bal | apply bdn | apply bd1 | refine bst ?_ (IsS75.ge HI213.out) | refine bst ?_ GE214.out) | exact HB.out)⟩
    rw [if_pos c13] at H
    have c13b0 : decide (x7_1 < (l1.length : Int)) = true := decide_eq_true c13
    clear c13
    (first | rw [c13b0] | (simp only [i64_w, i32_w]; rw [c13b0]) | skip)
    by_cases c14 : x7_1 < 15
    rotate_left
    · rw [if_neg c14] at H
      have c14b0 : decide (x7_1 < 15) = false := decide_eq_false c14
      clear c14
      replace H := Option.bind_eq_some_iff.mp H
      obtain ⟨⟨t229, t230, t231⟩, A650, H⟩ := H
      replace H : ((armoireref02_End.f x215000_1 x215001_1).bind fun t232 => (some (t229 == t232))) = some r := H
      have A65 := Aside0.mk A650
      clear A650
      replace H := Option.bind_eq_some_iff.mp H
      obtain ⟨t232, A660, H⟩ := H
      replace H : (some (t229 == t232)) = some r := H
      have A66 := Aside0.mk A660
      clear A660
      obtain rfl := Option.some.inj H
      try go_wp2
      have n0_ := Aside0.mk (kdw BK214.out)
      have n1_ := Aside0.mk (IsS75.drew HI213.out)
      have n2_ := Aside0.mk (bd1 HB.out)
      clear BK214
      clear HI213
      clear HB
      have BK214 := n0_
      have HI213 := n1_
      have HB := n2_
      clear n0_ n1_ n2_
      refine start_ (n := 6) (S := fun w' => w'.cell? ⟨gb214, 0, none⟩ = some (.string x215000_1) ∧ w'.cell? ⟨gb214, 1, none⟩ = some (.int .i64 x215001_1)) (ds := []) #[false,false,false,false,false,false] (by kernel_rfl) rfl rfl ⟨(kcl BK214.out 0).trans rfl, (kcl BK214.out 1).trans rfl⟩ (fun hHeld => ?_)
      generalize wr.drew = w67 at BK214 HI213 HB hHeld ⊢
      refine pure_ (i := 0) (N := some 56) (v := ?_) (a' := ?_) (bA 6 1) rfl rfl (by kernel_rfl) (fun _ _ _ h => h) (Or.inl ⟨by rfl, ?_⟩) ?_ ?_
      rotate_left; (intro w'; go_simp; with_reducible rfl); rotate_left; (simp only [Act.put, List.setIfInBounds_toArray, List.set_cons_zero, List.set_cons_succ, i64_w, i32_w]; rfl)
      refine take_ (i := 2) (N := some 58) (v := ?_) (a' := ?_) #[true,false,true,false,false,false] rfl rfl (by kernel_rfl) (fun _ _ _ h => h) (Or.inl ⟨by rfl, ?_⟩) hHeld ?_ ?_
      rotate_left
      · rintro w' ⟨s0, s1⟩
        go_simp
        with_reducible rfl
      rotate_left; (simp only [Act.put, List.setIfInBounds_toArray, List.set_cons_zero, List.set_cons_succ, i64_w, i32_w]; rfl)
      refine one_ (i := 1) (N := some 57) #[true,true,true,false,false,false] rfl rfl (by kernel_rfl) (by decide) (fun K hK => ?_)
      refine goes_ Tryd.func20 (by kernel_rfl) rfl #[.pointer (some ⟨g213, 0, none⟩)] (by rfl) rfl rfl (by (try simp only [List.map_toArray, List.map_cons, List.map_nil]); first | done | rfl | (simp only [List.length_drop, List.length_take]; rfl) | (simp only [Act.eval, Array.getD_eq_getD_getElem?, Option.getD_some, *]; done) | (simp only [Array.mk.injEq, List.cons.injEq, Value.int.injEq, true_and, and_true]; first | omega | (simp [IntKind.wrap, IntKind.bits, IntKind.signed]; omega))) ?_
      with_reducible refine (codec_In_End.calls g213 x214000_1 x214001_1 t229 t230 t231 w _ ?side1 ?side2 A65.out).mono ?_
      (case side1 => repeat (first | (with_reducible first | exact HI213.out | apply IsS75.alloc | apply IsS75.drewN | apply IsS75.drew | apply IsS75.set_0 | apply IsS75.set_1 | refine IsS75.far ?_ NB213_214.out _) | exact HI213.out))
      (case side2 => repeat (first | (with_reducible first | exact HB.out | apply bal | apply bdn | apply bd1 | refine bst ?_ (IsS75.ge HI213.out) | refine bst ?_ GE214.out) | exact HB.out))
      rintro e w68 ⟨rfl, hi, hb, hk⟩
      refine ⟨_, rfl, ?_⟩
      have n0_ := Aside0.mk (KeepBut.blk hk (g' := gb214) (o := .cells #[.string x215000_1, .int .i64 x215001_1] 39 (0, 0)) bk_ NB214_213.out (by simp))
      have n1_ := Aside0.mk (hb)
      have n2_ := Aside0.mk (hi)
      clear BK214
      clear HB
      clear HI213
      have BK214 := n0_
      have HB := n1_
      have HI213 := n2_
      clear n0_ n1_ n2_
      (try clear hb)
      (try clear hb2)
      (try clear hk)
      (try clear hi)
      refine hK.out _ _ ⟨(kcl BK214.out 0).trans rfl, (kcl BK214.out 1).trans rfl⟩ (fun hHeld => ?_)
      clear hK K
      refine norm_ (a' := ?_) ?_ ?_
      rotate_left
      · show Act.put _ (some 57) _ = _
        simp only [Act.put, List.setIfInBounds_toArray, List.set_cons_zero, List.set_cons_succ, i64_w, i32_w]
        rfl
      refine one_ (i := 3) (N := some 59) #[true,true,true,true,false,false] rfl rfl (by kernel_rfl) (by decide) (fun K hK => ?_)
      refine goes_ Tryd.func21 (by kernel_rfl) rfl #[.agg #[.string x215000_1, .int .i64 x215001_1]] (by rfl) rfl rfl (by (try simp only [List.map_toArray, List.map_cons, List.map_nil]); first | done | rfl | (simp only [List.length_drop, List.length_take]; rfl) | (simp only [Act.eval, Array.getD_eq_getD_getElem?, Option.getD_some, *]; done) | (simp only [Array.mk.injEq, List.cons.injEq, Value.int.injEq, true_and, and_true]; first | omega | (simp [IntKind.wrap, IntKind.bits, IntKind.signed]; omega))) ?_
      with_reducible refine (armoireref02_End.calls x215000_1 x215001_1 t232 _ A66.out).mono ?_
      rintro e w69 ⟨rfl, hb⟩
      refine ⟨_, rfl, ?_⟩
      have n0_ := Aside0.mk (kbl (g := gb214) (o := .cells #[.string x215000_1, .int .i64 x215001_1] 39 (0, 0)) bk_ hb)
      have n1_ := Aside0.mk (IsS75.below (by repeat (first | (with_reducible first | exact HI213.out | apply IsS75.alloc | apply IsS75.drewN | apply IsS75.drew | apply IsS75.set_0 | apply IsS75.set_1 | refine IsS75.far ?_ NB213_214.out _) | exact HI213.out)) hb)
      have n2_ := Aside0.mk (bsp (by repeat (first | (with_reducible first | exact HB.out | apply bal | apply bdn | apply bd1 | refine bst ?_ (IsS75.ge HI213.out) | refine bst ?_ GE214.out) | exact HB.out)) hb)
      clear BK214
      clear HI213
      clear HB
      have BK214 := n0_
      have HI213 := n1_
      have HB := n2_
      clear n0_ n1_ n2_
      (try clear hb)
      (try clear hb2)
      (try clear hk)
      (try clear hi)
      refine hK.out _ _ ⟨(kcl BK214.out 0).trans rfl, (kcl BK214.out 1).trans rfl⟩ (fun hHeld => ?_)
      clear hK K
      refine norm_ (a' := ?_) ?_ ?_
      rotate_left
      · show Act.put _ (some 59) _ = _
        simp only [Act.put, List.setIfInBounds_toArray, List.set_cons_zero, List.set_cons_succ, i64_w, i32_w]
        rfl
      refine pure_ (i := 4) (N := some 60) (v := ?_) (a' := ?_) (bA 6 31) rfl rfl (by kernel_rfl) (fun _ _ _ h => h) (Or.inl ⟨by rfl, ?_⟩) ?_ ?_
      rotate_left; (intro w'; go_simp; with_reducible rfl); rotate_left; (simp only [Act.put, List.setIfInBounds_toArray, List.set_cons_zero, List.set_cons_succ, i64_w, i32_w]; rfl)
      refine pure_ (i := 5) (N := some 4) (v := ?_) (a' := ?_) (bA 6 63) rfl rfl (by kernel_rfl) (fun _ _ _ h => h) (Or.inl ⟨by rfl, ?_⟩) ?_ ?_
      rotate_left; (intro w'; go_simp; with_reducible rfl); rotate_left; (simp only [Act.put, List.setIfInBounds_toArray, List.set_cons_zero, List.set_cons_succ, i64_w, i32_w]; rfl)
      refine done_ (by kernel_rfl) ?_
      try go_wp2
      go_ret
      exact ⟨er_, by repeat (first | (with_reducible first | exact HB.out | apply bal | apply bdn | apply bd1 | refine bst ?_ (IsS75.ge HI213.out) | refine bst ?_ GE214.out) | exact HB.out)⟩
    rw [if_pos c14] at H
    have c14b0 : decide (x7_1 < 15) = true := decide_eq_true c14
    clear c14
    by_cases c15 : 0 ≤ x7_1
    rotate_left
    · rw [if_neg c15] at H
      exact absurd H (by simp)
    rw [if_pos c15] at H
    have c15b0 : decide (0 ≤ x7_1) = true := decide_eq_true c15
    clear c15
    replace H := Option.bind_eq_some_iff.mp H
    obtain ⟨⟨t217, t218, t219, t220, t221⟩, A160, H⟩ := H
    replace H : (if t219 = true then ((codec_In_Err.f t220 t221).bind fun bt223 => (if bt223.1 = t218 then ((codec_In_Len.f bt223.2.1 bt223.2.2).bind fun bt226 => (if bt226.1 = (t217.size : Int) then (armoirelaw02_CodecTakes.l0 k1 l1 (wrap64 (x7_1 + 1)) bt226.2.1 bt226.2.2 t217 t218) else (some false))) else (some false))) else (some false)) = some r := H
    have A16 := Aside0.mk A160
    clear A160
    by_cases c17 : t219 = true
    rotate_left
    · replace c17 := Bool.eq_false_iff.mpr c17
      subst c17
      have H1 : (some false) = some r := by rw [if_neg (show ¬ (false = true) by decide)] at H; exact H
      clear H
      have H := H1
      clear H1
      obtain rfl := Option.some.inj H
      try go_wp2
      have n0_ := Aside0.mk (kdw BK214.out)
      have n1_ := Aside0.mk (IsS75.drew HI213.out)
      have n2_ := Aside0.mk (bd1 HB.out)
      clear BK214
      clear HI213
      clear HB
      have BK214 := n0_
      have HI213 := n1_
      have HB := n2_
      clear n0_ n1_ n2_
      have p216 : 0 ≤ (x7_1 : Int) := of_decide_eq_true (by first | (with_reducible assumption) | assumption)
      have q216 : x7_1 < (l1.length : Int) := of_decide_eq_true (by first | (with_reducible assumption) | assumption)
      obtain ⟨ad216, e216, hx216_0, hx216_1⟩ := at_T43 HR1.out x7_1 p216 q216
      have hw216_1 := hx216_1
      have hw216_0 := hx216_0
      cases e216
      replace hx216_0 := (HB.out.cell (World.block_lt_of_cell? w _ hx216_0)).trans hx216_0
      replace hx216_1 := (HB.out.cell (World.block_lt_of_cell? w _ hx216_1)).trans hx216_1
      replace p216 := eq_true p216
      replace q216 := eq_true q216
      refine start_ (n := 13) (S := fun w' => w'.cell? ⟨gb214, 0, none⟩ = some (.string x215000_1) ∧ w'.cell? ⟨gb214, 1, none⟩ = some (.int .i64 x215001_1) ∧ w'.cell? (ad216.add ((x7_1).toNat * 2)) = some (.int .i64 ((rd_T43 l1 x7_1).f0)) ∧ w'.cell? ⟨(ad216.add ((x7_1).toNat * 2)).block, (ad216.add ((x7_1).toNat * 2)).off + 1, none⟩ = some (.int .i64 ((rd_T43 l1 x7_1).f1))) (ds := []) #[false,false,false,false,false,false,false,false,false,false,false,false,false] (by kernel_rfl) rfl rfl ⟨(kcl BK214.out 0).trans rfl, (kcl BK214.out 1).trans rfl, ((HB.out.cell (World.block_lt_of_cell? w _ hw216_0)).trans hw216_0), ((HB.out.cell (World.block_lt_of_cell? w _ hw216_1)).trans hw216_1)⟩ (fun hHeld => ?_); refine with_tabW armoirelaw02_CodecTakes.tab9 armoirelaw02_CodecTakes.bits9 (fun HT_ HW_ => ?_)
      generalize wr.drew = w52 at BK214 HI213 HB hx216_0 hx216_1 hHeld ⊢
      refine pure_ (i := 0) (N := some 29) (v := ?_) (a' := ?_) (bA 13 1) rfl rfl (any_of HT_.out (by kernel_rfl)) (fun _ _ _ h => h) (Or.inl ⟨by rfl, ?_⟩) ?_ ?_
      rotate_left; (intro w'; go_simp; with_reducible rfl); rotate_left; (simp only [Act.put, List.setIfInBounds_toArray, List.set_cons_zero, List.set_cons_succ, i64_w, i32_w]; rfl)
      refine pure_ (i := 2) (N := some 31) (v := ?_) (a' := ?_) (bA 13 5) rfl rfl (any_of HT_.out (by kernel_rfl)) (fun _ _ _ h => h) (Or.inl ⟨by rfl, ?_⟩) ?_ ?_
      rotate_left; (intro w'; go_simp; with_reducible rfl); rotate_left; (simp only [Act.put, List.setIfInBounds_toArray, List.set_cons_zero, List.set_cons_succ, i64_w, i32_w]; rfl)
      refine pure_ (i := 3) (N := some 32) (v := ?_) (a' := ?_) (bA 13 13) rfl rfl (any_of HT_.out (by kernel_rfl)) (fun _ _ _ h => h) (Or.inl ⟨by rfl, ?_⟩) ?_ ?_
      rotate_left; (intro w'; go_simp; with_reducible rfl); rotate_left; (simp only [Act.put, List.setIfInBounds_toArray, List.set_cons_zero, List.set_cons_succ, i64_w, i32_w]; rfl)
      refine pure_ (i := 4) (N := some 33) (v := ?_) (a' := ?_) (bA 13 29) rfl rfl (any_of HT_.out (by kernel_rfl)) (fun _ _ _ h => h) (Or.inl ⟨by rfl, ?_⟩) ?_ ?_
      rotate_left; (intro w'; go_simp; with_reducible rfl); rotate_left; (simp only [Act.put, List.setIfInBounds_toArray, List.set_cons_zero, List.set_cons_succ, i64_w, i32_w]; rfl)
      refine take_ (i := 1) (N := some 30) (v := ?_) (a' := ?_) #[true,true,true,true,true,false,false,false,false,false,false,false,false] rfl rfl (tkw HT_.out HW_.out (by kernel_rfl)) (fun _ _ _ h => h) (Or.inl ⟨by rfl, ?_⟩) hHeld ?_ ?_
      rotate_left
      · rintro w' ⟨s0, s1, s2, s3⟩
        go_simp
        with_reducible rfl
      rotate_left; (simp only [Act.put, List.setIfInBounds_toArray, List.set_cons_zero, List.set_cons_succ, i64_w, i32_w]; rfl)
      refine take_ (i := 5) (N := some 34) (v := ?_) (a' := ?_) #[true,true,true,true,true,true,false,false,false,false,false,false,false] rfl rfl (tkw HT_.out HW_.out (by kernel_rfl)) (fun _ _ _ h => h) (Or.inl ⟨by rfl, ?_⟩) hHeld ?_ ?_
      rotate_left
      · rintro w' ⟨s0, s1, s2, s3⟩
        go_simp
        with_reducible rfl
      rotate_left; (simp only [Act.put, List.setIfInBounds_toArray, List.set_cons_zero, List.set_cons_succ, i64_w, i32_w]; rfl)
      refine join_ (σ := Nat) 2 #[true,true,true,true,true,true,true,true,true,true,true,false,false] (fun s_ => [(35, .tuple #[.agg #[.string t217, .int .i64 t218], .bool false]), (8, .pointer (some ⟨s_, 0, none⟩)), (28, .tuple #[.agg #[.string t217, .int .i64 t218], .bool false]), (36, .agg #[.string t217, .int .i64 t218]), (37, .bool false)]) (fun s_ w' => (w'.cell? ⟨gb214, 0, none⟩ = some (.string x215000_1) ∧ w'.cell? ⟨gb214, 1, none⟩ = some (.int .i64 x215001_1) ∧ w'.cell? (ad216.add ((x7_1).toNat * 2)) = some (.int .i64 ((rd_T43 l1 x7_1).f0)) ∧ w'.cell? ⟨(ad216.add ((x7_1).toNat * 2)).block, (ad216.add ((x7_1).toNat * 2)).off + 1, none⟩ = some (.int .i64 ((rd_T43 l1 x7_1).f1))) ∧ (w'.heap[gb214]? = some (.cells #[.string x215000_1, .int .i64 x215001_1] 39 (0, 0))) ∧ (w'.heap[s_]? = some (.cells #[.string (⟨#[]⟩ : ByteArray), .int .i64 0] 39 (0, 0))) ∧ (w.heap.size ≤ s_) ∧ (w.heap.size ≤ s_) ∧ (g213 ≠ s_) ∧ (s_ ≠ g213) ∧ (gb214 ≠ s_) ∧ (s_ ≠ gb214) ∧ (IsS75 w w' g213 t220 t221) ∧ (Below w.heap.size w w')) ?_ ?_
      rotate_left
      · intro hCont
        refine two_ (i := 6) (j := 10) (Ni := some 35) (Nj := some 8) #[true,true,true,true,true,true,true,false,false,false,false,false,false] #[true,true,true,true,true,true,false,false,false,false,true,false,false] rfl rfl rfl rfl (two_of HT_.out (by kernel_rfl)) (by decide) (by decide) (fun K hK => ?_) (fun K hK => ?_)
        · skip
          refine goes_ Tryd.func19 (by kernel_rfl) rfl #[.pointer (some ⟨g213, 0, none⟩), .agg #[.string x215000_1, .int .i64 x215001_1], .agg #[.int .i64 ((rd_T43 l1 x7_1).f0), .int .i64 ((rd_T43 l1 x7_1).f1)]] (by rfl) rfl rfl (by (try simp only [List.map_toArray, List.map_cons, List.map_nil]); first | done | rfl | (simp only [List.length_drop, List.length_take]; rfl) | (simp only [Act.eval, Array.getD_eq_getD_getElem?, Option.getD_some, *]; done) | (simp only [Array.mk.injEq, List.cons.injEq, Value.int.injEq, true_and, and_true]; first | omega | (simp [IntKind.wrap, IntKind.bits, IntKind.signed]; omega))) ?_
          with_reducible refine (armoirelaw02_take.calls k1 g213 x214000_1 x214001_1 x215000_1 x215001_1 ((rd_T43 l1 x7_1).f0) ((rd_T43 l1 x7_1).f1) t217 t218 false t220 t221 w _ ?side1 ?side2 A16.out).mono ?_
          (case side1 => repeat (first | (with_reducible first | exact HI213.out | apply IsS75.alloc | apply IsS75.drewN | apply IsS75.drew | apply IsS75.set_0 | apply IsS75.set_1 | refine IsS75.far ?_ NB213_214.out _) | exact HI213.out))
          (case side2 => repeat (first | (with_reducible first | exact HB.out | apply bal | apply bdn | apply bd1 | refine bst ?_ (IsS75.ge HI213.out) | refine bst ?_ GE214.out) | exact HB.out))
          rintro e w53 ⟨rfl, hi, hb, hk⟩
          refine ⟨_, rfl, ?_⟩
          have n0_ := Aside0.mk (KeepBut.blk hk (g' := gb214) (o := .cells #[.string x215000_1, .int .i64 x215001_1] 39 (0, 0)) bk_ NB214_213.out (by simp))
          have n1_ := Aside0.mk (hb)
          have n2_ := Aside0.mk (hi)
          clear BK214
          clear HB
          clear HI213
          have BK214 := n0_
          have HB := n1_
          have HI213 := n2_
          clear n0_ n1_ n2_
          (try clear hb)
          (try clear hb2)
          (try clear hk)
          (try clear hi)
          refine hK.out _ _ ⟨(kcl BK214.out 0).trans rfl, (kcl BK214.out 1).trans rfl, ((HB.out.cell (World.block_lt_of_cell? w _ hw216_0)).trans hw216_0), ((HB.out.cell (World.block_lt_of_cell? w _ hw216_1)).trans hw216_1)⟩ (fun hHeld => ?_)
          clear hK K
          refine norm_ (a' := ?_) ?_ ?_
          rotate_left
          · show Act.put _ (some 35) _ = _
            simp only [Act.put, List.setIfInBounds_toArray, List.set_cons_zero, List.set_cons_succ, i64_w, i32_w]
            rfl
          refine pure_ (i := 7) (N := some 28) (v := ?_) (a' := ?_) (bA 13 255) rfl rfl (any_of HT_.out (by kernel_rfl)) (fun _ _ _ h => h) (Or.inl ⟨by rfl, ?_⟩) ?_ ?_
          rotate_left; (intro w'; go_simp; with_reducible rfl); rotate_left; (simp only [Act.put, List.setIfInBounds_toArray, List.set_cons_zero, List.set_cons_succ, i64_w, i32_w]; rfl)
          refine pure_ (i := 8) (N := some 36) (v := ?_) (a' := ?_) (bA 13 511) rfl rfl (any_of HT_.out (by kernel_rfl)) (fun _ _ _ h => h) (Or.inl ⟨by rfl, ?_⟩) ?_ ?_
          rotate_left; (intro w'; go_simp; with_reducible rfl); rotate_left; (simp only [Act.put, List.setIfInBounds_toArray, List.set_cons_zero, List.set_cons_succ, i64_w, i32_w]; rfl)
          refine pure_ (i := 9) (N := some 37) (v := ?_) (a' := ?_) (bA 13 1023) rfl rfl (any_of HT_.out (by kernel_rfl)) (fun _ _ _ h => h) (Or.inl ⟨by rfl, ?_⟩) ?_ ?_
          rotate_left; (intro w'; go_simp; with_reducible rfl); rotate_left; (simp only [Act.put, List.setIfInBounds_toArray, List.set_cons_zero, List.set_cons_succ, i64_w, i32_w]; rfl)
          refine one_ (i := 10) (N := some 8) #[true,true,true,true,true,true,true,true,true,true,true,false,false] rfl rfl (one_of HT_.out (by kernel_rfl)) (by decide) (fun K hK => ?_)
          refine box_step ?hg (N := 8) ?hd (cs := #[.string (⟨#[]⟩ : ByteArray), .int .i64 0]) (t := 39) ?hr ?_; (case hd => rfl); (case hg => rfl); (case hr => first | (go_simp; done) | (go_simp; rfl))
          intro gb222 hg w54 hbox hb
          have n0_ := Aside0.mk (kbl (g := gb214) (o := .cells #[.string x215000_1, .int .i64 x215001_1] 39 (0, 0)) bk_ hb)
          have n1_ := Aside0.mk (IsS75.below (by repeat (first | (with_reducible first | exact HI213.out | apply IsS75.alloc | apply IsS75.drewN | apply IsS75.drew | apply IsS75.set_0 | apply IsS75.set_1 | refine IsS75.far ?_ NB213_214.out _) | exact HI213.out)) hb)
          have n2_ := Aside0.mk (bsp (by repeat (first | (with_reducible first | exact HB.out | apply bal | apply bdn | apply bd1 | refine bst ?_ (IsS75.ge HI213.out) | refine bst ?_ GE214.out) | exact HB.out)) hb)
          have n3_ := Aside0.mk (hbox)
          have n4_ := Aside0.mk ((by rw [hg]; exact (bsz (by repeat (first | (with_reducible first | exact HB.out | apply bal | apply bdn | apply bd1 | refine bst ?_ (IsS75.ge HI213.out) | refine bst ?_ GE214.out) | exact HB.out))) : w.heap.size ≤ gb222))
          have n5_ := Aside0.mk ((by rw [hg]; exact (bsz (by repeat (first | (with_reducible first | exact HB.out | apply bal | apply bdn | apply bd1 | refine bst ?_ (IsS75.ge HI213.out) | refine bst ?_ GE214.out) | exact HB.out))) : w.heap.size ≤ gb222))
          have n6_ := Aside0.mk ((by rw [hg]; exact Nat.ne_of_lt (blk_lt (g := gb214) (o := .cells #[.string x215000_1, .int .i64 x215001_1] 39 (0, 0)) bk_) : gb214 ≠ gb222))
          have n7_ := Aside0.mk ((by rw [hg]; exact Nat.ne_of_gt (blk_lt (g := gb214) (o := .cells #[.string x215000_1, .int .i64 x215001_1] 39 (0, 0)) bk_) : gb222 ≠ gb214))
          have n8_ := Aside0.mk ((by rw [hg]; exact Nat.ne_of_lt (IsS75.lt (show IsS75 w _ g213 t220 t221 from by repeat (first | (with_reducible first | exact HI213.out | apply IsS75.alloc | apply IsS75.drewN | apply IsS75.drew | apply IsS75.set_0 | apply IsS75.set_1 | refine IsS75.far ?_ NB213_214.out _) | exact HI213.out))) : g213 ≠ gb222))
          have n9_ := Aside0.mk ((by rw [hg]; exact Nat.ne_of_gt (IsS75.lt (show IsS75 w _ g213 t220 t221 from by repeat (first | (with_reducible first | exact HI213.out | apply IsS75.alloc | apply IsS75.drewN | apply IsS75.drew | apply IsS75.set_0 | apply IsS75.set_1 | refine IsS75.far ?_ NB213_214.out _) | exact HI213.out))) : gb222 ≠ g213))
          clear BK214
          clear HI213
          clear HB
          have BK214 := n0_
          have HI213 := n1_
          have HB := n2_
          have BK222 := n3_
          have GW222 := n4_
          have GE222 := n5_
          have NB214_222 := n6_
          have NB222_214 := n7_
          have NB213_222 := n8_
          have NB222_213 := n9_
          clear n0_ n1_ n2_ n3_ n4_ n5_ n6_ n7_ n8_ n9_
          clear hb hbox hg
          refine hK.out _ _ ⟨(kcl BK214.out 0).trans rfl, (kcl BK214.out 1).trans rfl, ((HB.out.cell (World.block_lt_of_cell? w _ hw216_0)).trans hw216_0), ((HB.out.cell (World.block_lt_of_cell? w _ hw216_1)).trans hw216_1)⟩ (fun hHeld => ?_)
          clear hK K
          refine norm_ (a' := ?_) ?_ ?_
          rotate_left
          · show Act.put _ (some 8) _ = _
            simp only [Act.put, List.setIfInBounds_toArray, List.set_cons_zero, List.set_cons_succ, i64_w, i32_w]
            rfl
          exact norm_ (by simp only [putAll, Act.put, List.setIfInBounds_toArray, List.set_cons_zero, List.set_cons_succ]) (hCont (gb222) _ ⟨hHeld, bk_, bk_, GW222.out, GE222.out, NB213_222.out, NB222_213.out, NB214_222.out, NB222_214.out, (by repeat (first | (with_reducible first | exact HI213.out | apply IsS75.alloc | apply IsS75.drewN | apply IsS75.drew | apply IsS75.set_0 | apply IsS75.set_1 | refine IsS75.far ?_ NB213_214.out _ | refine IsS75.far ?_ NB213_222.out _) | exact HI213.out)), (by repeat (first | (with_reducible first | exact HB.out | apply bal | apply bdn | apply bd1 | refine bst ?_ (IsS75.ge HI213.out) | refine bst ?_ GE214.out | refine bst ?_ GE222.out) | exact HB.out))⟩)
        · skip
          refine box_step ?hg (N := 8) ?hd (cs := #[.string (⟨#[]⟩ : ByteArray), .int .i64 0]) (t := 39) ?hr ?_; (case hd => rfl); (case hg => rfl); (case hr => first | (go_simp; done) | (go_simp; rfl))
          intro gb222 hg w53 hbox hb
          have n0_ := Aside0.mk (kbl (g := gb214) (o := .cells #[.string x215000_1, .int .i64 x215001_1] 39 (0, 0)) bk_ hb)
          have n1_ := Aside0.mk (IsS75.below (by repeat (first | (with_reducible first | exact HI213.out | apply IsS75.alloc | apply IsS75.drewN | apply IsS75.drew | apply IsS75.set_0 | apply IsS75.set_1 | refine IsS75.far ?_ NB213_214.out _) | exact HI213.out)) hb)
          have n2_ := Aside0.mk (bsp (by repeat (first | (with_reducible first | exact HB.out | apply bal | apply bdn | apply bd1 | refine bst ?_ (IsS75.ge HI213.out) | refine bst ?_ GE214.out) | exact HB.out)) hb)
          have n3_ := Aside0.mk (hbox)
          have n4_ := Aside0.mk ((by rw [hg]; exact (bsz (by repeat (first | (with_reducible first | exact HB.out | apply bal | apply bdn | apply bd1 | refine bst ?_ (IsS75.ge HI213.out) | refine bst ?_ GE214.out) | exact HB.out))) : w.heap.size ≤ gb222))
          have n5_ := Aside0.mk ((by rw [hg]; exact (bsz (by repeat (first | (with_reducible first | exact HB.out | apply bal | apply bdn | apply bd1 | refine bst ?_ (IsS75.ge HI213.out) | refine bst ?_ GE214.out) | exact HB.out))) : w.heap.size ≤ gb222))
          have n6_ := Aside0.mk ((by rw [hg]; exact Nat.ne_of_lt (blk_lt (g := gb214) (o := .cells #[.string x215000_1, .int .i64 x215001_1] 39 (0, 0)) bk_) : gb214 ≠ gb222))
          have n7_ := Aside0.mk ((by rw [hg]; exact Nat.ne_of_gt (blk_lt (g := gb214) (o := .cells #[.string x215000_1, .int .i64 x215001_1] 39 (0, 0)) bk_) : gb222 ≠ gb214))
          have n8_ := Aside0.mk ((by rw [hg]; exact Nat.ne_of_lt (IsS75.lt (show IsS75 w _ g213 x214000_1 x214001_1 from by repeat (first | (with_reducible first | exact HI213.out | apply IsS75.alloc | apply IsS75.drewN | apply IsS75.drew | apply IsS75.set_0 | apply IsS75.set_1 | refine IsS75.far ?_ NB213_214.out _) | exact HI213.out))) : g213 ≠ gb222))
          have n9_ := Aside0.mk ((by rw [hg]; exact Nat.ne_of_gt (IsS75.lt (show IsS75 w _ g213 x214000_1 x214001_1 from by repeat (first | (with_reducible first | exact HI213.out | apply IsS75.alloc | apply IsS75.drewN | apply IsS75.drew | apply IsS75.set_0 | apply IsS75.set_1 | refine IsS75.far ?_ NB213_214.out _) | exact HI213.out))) : gb222 ≠ g213))
          clear BK214
          clear HI213
          clear HB
          have BK214 := n0_
          have HI213 := n1_
          have HB := n2_
          have BK222 := n3_
          have GW222 := n4_
          have GE222 := n5_
          have NB214_222 := n6_
          have NB222_214 := n7_
          have NB213_222 := n8_
          have NB222_213 := n9_
          clear n0_ n1_ n2_ n3_ n4_ n5_ n6_ n7_ n8_ n9_
          clear hb hbox hg
          refine hK.out _ _ ⟨(kcl BK214.out 0).trans rfl, (kcl BK214.out 1).trans rfl, ((HB.out.cell (World.block_lt_of_cell? w _ hw216_0)).trans hw216_0), ((HB.out.cell (World.block_lt_of_cell? w _ hw216_1)).trans hw216_1)⟩ (fun hHeld => ?_)
          clear hK K
          refine norm_ (a' := ?_) ?_ ?_
          rotate_left
          · show Act.put _ (some 8) _ = _
            simp only [Act.put, List.setIfInBounds_toArray, List.set_cons_zero, List.set_cons_succ, i64_w, i32_w]
            rfl
          refine one_ (i := 6) (N := some 35) #[true,true,true,true,true,true,true,false,false,false,true,false,false] rfl rfl (one_of HT_.out (by kernel_rfl)) (by decide) (fun K hK => ?_)
          refine goes_ Tryd.func19 (by kernel_rfl) rfl #[.pointer (some ⟨g213, 0, none⟩), .agg #[.string x215000_1, .int .i64 x215001_1], .agg #[.int .i64 ((rd_T43 l1 x7_1).f0), .int .i64 ((rd_T43 l1 x7_1).f1)]] (by rfl) rfl rfl (by (try simp only [List.map_toArray, List.map_cons, List.map_nil]); first | done | rfl | (simp only [List.length_drop, List.length_take]; rfl) | (simp only [Act.eval, Array.getD_eq_getD_getElem?, Option.getD_some, *]; done) | (simp only [Array.mk.injEq, List.cons.injEq, Value.int.injEq, true_and, and_true]; first | omega | (simp [IntKind.wrap, IntKind.bits, IntKind.signed]; omega))) ?_
          with_reducible refine (armoirelaw02_take.calls k1 g213 x214000_1 x214001_1 x215000_1 x215001_1 ((rd_T43 l1 x7_1).f0) ((rd_T43 l1 x7_1).f1) t217 t218 false t220 t221 w _ ?side1 ?side2 A16.out).mono ?_
          (case side1 => repeat (first | (with_reducible first | exact HI213.out | apply IsS75.alloc | apply IsS75.drewN | apply IsS75.drew | apply IsS75.set_0 | apply IsS75.set_1 | refine IsS75.far ?_ NB213_214.out _ | refine IsS75.far ?_ NB213_222.out _) | exact HI213.out))
          (case side2 => repeat (first | (with_reducible first | exact HB.out | apply bal | apply bdn | apply bd1 | refine bst ?_ (IsS75.ge HI213.out) | refine bst ?_ GE214.out | refine bst ?_ GE222.out) | exact HB.out))
          rintro e w54 ⟨rfl, hi, hb, hk⟩
          refine ⟨_, rfl, ?_⟩
          have n0_ := Aside0.mk (KeepBut.blk hk (g' := gb214) (o := .cells #[.string x215000_1, .int .i64 x215001_1] 39 (0, 0)) bk_ NB214_213.out (by simp))
          have n1_ := Aside0.mk (KeepBut.blk hk (g' := gb222) (o := .cells #[.string (⟨#[]⟩ : ByteArray), .int .i64 0] 39 (0, 0)) bk_ NB222_213.out (by simp))
          have n2_ := Aside0.mk (hb)
          have n3_ := Aside0.mk (hi)
          clear BK214
          clear BK222
          clear HB
          clear HI213
          have BK214 := n0_
          have BK222 := n1_
          have HB := n2_
          have HI213 := n3_
          clear n0_ n1_ n2_ n3_
          (try clear hb)
          (try clear hb2)
          (try clear hk)
          (try clear hi)
          refine hK.out _ _ ⟨(kcl BK214.out 0).trans rfl, (kcl BK214.out 1).trans rfl, ((HB.out.cell (World.block_lt_of_cell? w _ hw216_0)).trans hw216_0), ((HB.out.cell (World.block_lt_of_cell? w _ hw216_1)).trans hw216_1)⟩ (fun hHeld => ?_)
          clear hK K
          refine norm_ (a' := ?_) ?_ ?_
          rotate_left
          · show Act.put _ (some 35) _ = _
            simp only [Act.put, List.setIfInBounds_toArray, List.set_cons_zero, List.set_cons_succ, i64_w, i32_w]
            rfl
          refine pure_ (i := 7) (N := some 28) (v := ?_) (a' := ?_) (bA 13 1279) rfl rfl (any_of HT_.out (by kernel_rfl)) (fun _ _ _ h => h) (Or.inl ⟨by rfl, ?_⟩) ?_ ?_
          rotate_left; (intro w'; go_simp; with_reducible rfl); rotate_left; (simp only [Act.put, List.setIfInBounds_toArray, List.set_cons_zero, List.set_cons_succ, i64_w, i32_w]; rfl)
          refine pure_ (i := 8) (N := some 36) (v := ?_) (a' := ?_) (bA 13 1535) rfl rfl (any_of HT_.out (by kernel_rfl)) (fun _ _ _ h => h) (Or.inl ⟨by rfl, ?_⟩) ?_ ?_
          rotate_left; (intro w'; go_simp; with_reducible rfl); rotate_left; (simp only [Act.put, List.setIfInBounds_toArray, List.set_cons_zero, List.set_cons_succ, i64_w, i32_w]; rfl)
          refine pure_ (i := 9) (N := some 37) (v := ?_) (a' := ?_) (bA 13 2047) rfl rfl (any_of HT_.out (by kernel_rfl)) (fun _ _ _ h => h) (Or.inl ⟨by rfl, ?_⟩) ?_ ?_
          rotate_left; (intro w'; go_simp; with_reducible rfl); rotate_left; (simp only [Act.put, List.setIfInBounds_toArray, List.set_cons_zero, List.set_cons_succ, i64_w, i32_w]; rfl)
          exact norm_ (by simp only [putAll, Act.put, List.setIfInBounds_toArray, List.set_cons_zero, List.set_cons_succ]) (hCont (gb222) _ ⟨hHeld, bk_, bk_, GW222.out, GE222.out, NB213_222.out, NB222_213.out, NB214_222.out, NB222_214.out, (by repeat (first | (with_reducible first | exact HI213.out | apply IsS75.alloc | apply IsS75.drewN | apply IsS75.drew | apply IsS75.set_0 | apply IsS75.set_1 | refine IsS75.far ?_ NB213_214.out _ | refine IsS75.far ?_ NB213_222.out _) | exact HI213.out)), (by repeat (first | (with_reducible first | exact HB.out | apply bal | apply bdn | apply bd1 | refine bst ?_ (IsS75.ge HI213.out) | refine bst ?_ GE214.out | refine bst ?_ GE222.out) | exact HB.out))⟩)
      rintro gb222 w55 ⟨hS_, h0_, h1_, h2_, h3_, h4_, h5_, h6_, h7_, h8_, h9_⟩
      have n0_ : Aside0 (w55.heap[gb214]? = some (.cells #[.string x215000_1, .int .i64 x215001_1] 39 (0, 0))) := ⟨h0_⟩
      have n1_ : Aside0 (w55.heap[gb222]? = some (.cells #[.string (⟨#[]⟩ : ByteArray), .int .i64 0] 39 (0, 0))) := ⟨h1_⟩
      have n2_ : Aside0 (w.heap.size ≤ gb222) := ⟨h2_⟩
      have n3_ : Aside0 (w.heap.size ≤ gb222) := ⟨h3_⟩
      have n4_ : Aside0 (g213 ≠ gb222) := ⟨h4_⟩
      have n5_ : Aside0 (gb222 ≠ g213) := ⟨h5_⟩
      have n6_ : Aside0 (gb214 ≠ gb222) := ⟨h6_⟩
      have n7_ : Aside0 (gb222 ≠ gb214) := ⟨h7_⟩
      have n8_ : Aside0 (IsS75 w w55 g213 t220 t221) := ⟨h8_⟩
      have n9_ : Aside0 (Below w.heap.size w w55) := ⟨h9_⟩
      clear BK214
      clear HI213
      clear HB
      clear h0_ h1_ h2_ h3_ h4_ h5_ h6_ h7_ h8_ h9_
      have BK214 := n0_
      have BK222 := n1_
      have GW222 := n2_
      have GE222 := n3_
      have NB213_222 := n4_
      have NB222_213 := n5_
      have NB214_222 := n6_
      have NB222_214 := n7_
      have HI213 := n8_
      have HB := n9_
      clear n0_ n1_ n2_ n3_ n4_ n5_ n6_ n7_ n8_ n9_
      have hHeld : w55.cell? ⟨gb214, 0, none⟩ = some (.string x215000_1) ∧ w55.cell? ⟨gb214, 1, none⟩ = some (.int .i64 x215001_1) ∧ w55.cell? (ad216.add ((x7_1).toNat * 2)) = some (.int .i64 ((rd_T43 l1 x7_1).f0)) ∧ w55.cell? ⟨(ad216.add ((x7_1).toNat * 2)).block, (ad216.add ((x7_1).toNat * 2)).off + 1, none⟩ = some (.int .i64 ((rd_T43 l1 x7_1).f1)) := hS_
      refine norm_ (a' := ?_) ?_ ?_
      rotate_left; (simp only [putAll, Act.put, List.setIfInBounds_toArray, List.set_cons_zero, List.set_cons_succ]; rfl)
      refine one_ (i := 11) (N := none) #[true,true,true,true,true,true,true,true,true,true,true,true,false] rfl rfl (one_of HT_.out (by kernel_rfl)) (by decide) (fun K hK => ?_)
      have hs56 : w55.cell? ⟨gb222, 0, none⟩ = some (.string (⟨#[]⟩ : ByteArray)) := (kcl BK222.out 0).trans rfl
      have hfs56 := kfr BK222.out 0
      have hns56_0 := NB214_222.out
      have hms56_0 := NB222_214.out
      have hs57 : w55.cell? ⟨gb222, 1, none⟩ = some (.int .i64 0) := (kcl BK222.out 1).trans rfl
      have hfs57 := kfr BK222.out 1
      have hns57_0 := NB214_222.out
      have hms57_0 := NB222_214.out
      refine skip_ (w1 := ?_) (by rfl) rfl ?_ ?_
      rotate_left
      · go_simp
        rfl
      refine hK.out _ _ ⟨((cell_far (p := ⟨gb222, _, none⟩) NB214_222.out _).trans (((cell_far (p := ⟨gb222, _, none⟩) NB214_222.out _).trans (hHeld.1)))), ((cell_far (p := ⟨gb222, _, none⟩) NB214_222.out _).trans (((cell_far (p := ⟨gb222, _, none⟩) NB214_222.out _).trans (hHeld.2.1)))), ((cell_far (p := ⟨gb222, _, none⟩) (by first | exact Nat.ne_of_lt (Nat.lt_of_lt_of_le (by have := World.block_lt_of_cell? _ _ hw216_0; first | rwa [add_block] at this | exact this) GW222.out) | (rw [add_block]; exact Nat.ne_of_lt (Nat.lt_of_lt_of_le (by have := World.block_lt_of_cell? _ _ hw216_0; first | rwa [add_block] at this | exact this) GW222.out)) | (show (Addr.add _ _).block ≠ _; rw [add_block]; exact Nat.ne_of_lt (Nat.lt_of_lt_of_le (by have := World.block_lt_of_cell? _ _ hw216_0; first | rwa [add_block] at this | exact this) GW222.out)) | (dsimp only; exact Nat.ne_of_lt (Nat.lt_of_lt_of_le (by have := World.block_lt_of_cell? _ _ hw216_0; first | rwa [add_block] at this | exact this) GW222.out))) _).trans (((cell_far (p := ⟨gb222, _, none⟩) (by first | exact Nat.ne_of_lt (Nat.lt_of_lt_of_le (by have := World.block_lt_of_cell? _ _ hw216_0; first | rwa [add_block] at this | exact this) GW222.out) | (rw [add_block]; exact Nat.ne_of_lt (Nat.lt_of_lt_of_le (by have := World.block_lt_of_cell? _ _ hw216_0; first | rwa [add_block] at this | exact this) GW222.out)) | (show (Addr.add _ _).block ≠ _; rw [add_block]; exact Nat.ne_of_lt (Nat.lt_of_lt_of_le (by have := World.block_lt_of_cell? _ _ hw216_0; first | rwa [add_block] at this | exact this) GW222.out)) | (dsimp only; exact Nat.ne_of_lt (Nat.lt_of_lt_of_le (by have := World.block_lt_of_cell? _ _ hw216_0; first | rwa [add_block] at this | exact this) GW222.out))) _).trans (hHeld.2.2.1)))), ((cell_far (p := ⟨gb222, _, none⟩) (by first | exact Nat.ne_of_lt (Nat.lt_of_lt_of_le (by have := World.block_lt_of_cell? _ _ hw216_1; first | rwa [add_block] at this | exact this) GW222.out) | (rw [add_block]; exact Nat.ne_of_lt (Nat.lt_of_lt_of_le (by have := World.block_lt_of_cell? _ _ hw216_1; first | rwa [add_block] at this | exact this) GW222.out)) | (show (Addr.add _ _).block ≠ _; rw [add_block]; exact Nat.ne_of_lt (Nat.lt_of_lt_of_le (by have := World.block_lt_of_cell? _ _ hw216_1; first | rwa [add_block] at this | exact this) GW222.out)) | (dsimp only; exact Nat.ne_of_lt (Nat.lt_of_lt_of_le (by have := World.block_lt_of_cell? _ _ hw216_1; first | rwa [add_block] at this | exact this) GW222.out))) _).trans (((cell_far (p := ⟨gb222, _, none⟩) (by first | exact Nat.ne_of_lt (Nat.lt_of_lt_of_le (by have := World.block_lt_of_cell? _ _ hw216_1; first | rwa [add_block] at this | exact this) GW222.out) | (rw [add_block]; exact Nat.ne_of_lt (Nat.lt_of_lt_of_le (by have := World.block_lt_of_cell? _ _ hw216_1; first | rwa [add_block] at this | exact this) GW222.out)) | (show (Addr.add _ _).block ≠ _; rw [add_block]; exact Nat.ne_of_lt (Nat.lt_of_lt_of_le (by have := World.block_lt_of_cell? _ _ hw216_1; first | rwa [add_block] at this | exact this) GW222.out)) | (dsimp only; exact Nat.ne_of_lt (Nat.lt_of_lt_of_le (by have := World.block_lt_of_cell? _ _ hw216_1; first | rwa [add_block] at this | exact this) GW222.out))) _).trans (hHeld.2.2.2))))⟩ (fun hHeld => ?_)
      clear hK K
      refine pure_ (i := 12) (N := some 9) (v := ?_) (a' := ?_) (bA 13 8191) rfl rfl (any_of HT_.out (by kernel_rfl)) (fun _ _ _ h => h) (Or.inl ⟨by rfl, ?_⟩) ?_ ?_
      rotate_left; (intro w'; go_simp; with_reducible rfl); rotate_left; (simp only [Act.put, List.setIfInBounds_toArray, List.set_cons_zero, List.set_cons_succ, i64_w, i32_w]; rfl)
      refine done_ (done_of HT_.out (by kernel_rfl)) ?_
      have hnb58 := NB222_214.out
      have hnc58 := NB214_222.out
      have hnb59 := NB222_213.out
      have hnc59 := NB213_222.out
      have hcz60 := bc2 BK222.out
      have hnb61 := NB214_213.out
      have hnc61 := NB213_214.out
      have hcz62 := bc2 BK214.out
      try go_wp2
      have n0_ : Aside0 (((((w55.setCell ⟨gb222, 0, none⟩ (.string t217)).setCell ⟨gb222, 1, none⟩ (.int .i64 t218)).setCell ⟨gb214, 0, none⟩ (.string t217)).setCell ⟨gb214, 1, none⟩ (.int .i64 t218)).heap[gb214]? = some (.cells #[.string t217, .int .i64 t218] 39 (0, 0))) := ⟨bk_⟩
      have n1_ : Aside0 (((((w55.setCell ⟨gb222, 0, none⟩ (.string t217)).setCell ⟨gb222, 1, none⟩ (.int .i64 t218)).setCell ⟨gb214, 0, none⟩ (.string t217)).setCell ⟨gb214, 1, none⟩ (.int .i64 t218)).heap[gb222]? = some (.cells #[.string t217, .int .i64 t218] 39 (0, 0))) := ⟨bk_⟩
      have n2_ : Aside0 (IsS75 w ((((w55.setCell ⟨gb222, 0, none⟩ (.string t217)).setCell ⟨gb222, 1, none⟩ (.int .i64 t218)).setCell ⟨gb214, 0, none⟩ (.string t217)).setCell ⟨gb214, 1, none⟩ (.int .i64 t218)) g213 t220 t221) := ⟨by repeat (first | (with_reducible first | exact HI213.out | apply IsS75.alloc | apply IsS75.drewN | apply IsS75.drew | apply IsS75.set_0 | apply IsS75.set_1 | refine IsS75.far ?_ NB213_214.out _ | refine IsS75.far ?_ NB213_222.out _) | exact HI213.out)⟩
      have n3_ : Aside0 (Below w.heap.size w ((((w55.setCell ⟨gb222, 0, none⟩ (.string t217)).setCell ⟨gb222, 1, none⟩ (.int .i64 t218)).setCell ⟨gb214, 0, none⟩ (.string t217)).setCell ⟨gb214, 1, none⟩ (.int .i64 t218))) := ⟨by repeat (first | (with_reducible first | exact HB.out | apply bal | apply bdn | apply bd1 | refine bst ?_ (IsS75.ge HI213.out) | refine bst ?_ GE214.out | refine bst ?_ GE222.out) | exact HB.out)⟩
      (try clear BK214)
      (try clear BK222)
      (try clear HI213)
      (try clear HB)
      generalize ((((w55.setCell ⟨gb222, 0, none⟩ (.string t217)).setCell ⟨gb222, 1, none⟩ (.int .i64 t218)).setCell ⟨gb214, 0, none⟩ (.string t217)).setCell ⟨gb214, 1, none⟩ (.int .i64 t218)) = w63 at n0_ n1_ n2_ n3_ ⊢
      have BK214 := n0_
      have BK222 := n1_
      have HI213 := n2_
      have HB := n3_
      clear n0_ n1_ n2_ n3_
      have n0_ := Aside0.mk (kdw BK214.out)
      have n1_ := Aside0.mk (kdw BK222.out)
      have n2_ := Aside0.mk (IsS75.drew HI213.out)
      have n3_ := Aside0.mk (bd1 HB.out)
      clear BK214
      clear BK222
      clear HI213
      clear HB
      have BK214 := n0_
      have BK222 := n1_
      have HI213 := n2_
      have HB := n3_
      clear n0_ n1_ n2_ n3_
      refine start_ (n := 17) (S := fun w' => True) (ds := []) #[false,false,false,false,false,false,false,false,false,false,false,false,false,false,false,false,false] (by kernel_rfl) rfl rfl trivial (fun hHeld => ?_); refine with_tabW armoirelaw02_CodecTakes.tab11 armoirelaw02_CodecTakes.bits11 (fun HT_ HW_ => ?_)
      generalize w63.drew = w64 at BK214 BK222 HI213 HB hHeld ⊢
      refine pure_ (i := 0) (N := some 39) (v := ?_) (a' := ?_) (bA 17 1) rfl rfl (any_of HT_.out (by kernel_rfl)) (fun _ _ _ h => h) (Or.inl ⟨by rfl, ?_⟩) ?_ ?_
      rotate_left; (intro w'; go_simp; with_reducible rfl); rotate_left; (simp only [Act.put, List.setIfInBounds_toArray, List.set_cons_zero, List.set_cons_succ, i64_w, i32_w]; rfl)
      refine pure_ (i := 1) (N := some 40) (v := ?_) (a' := ?_) (bA 17 3) rfl rfl (any_of HT_.out (by kernel_rfl)) (fun _ _ _ h => h) (Or.inl ⟨by rfl, ?_⟩) ?_ ?_
      rotate_left; (intro w'; go_simp; with_reducible rfl); rotate_left; (simp only [Act.put, List.setIfInBounds_toArray, List.set_cons_zero, List.set_cons_succ, i64_w, i32_w]; rfl)
      refine pure_ (i := 2) (N := some 41) (v := ?_) (a' := ?_) (bA 17 7) rfl rfl (any_of HT_.out (by kernel_rfl)) (fun _ _ _ h => h) (Or.inl ⟨by rfl, ?_⟩) ?_ ?_
      rotate_left; (intro w'; go_simp; with_reducible rfl); rotate_left; (simp only [Act.put, List.setIfInBounds_toArray, List.set_cons_zero, List.set_cons_succ, i64_w, i32_w]; rfl)
      refine pure_ (i := 3) (N := some 42) (v := undef) (a' := ?_) (bA 17 15) rfl rfl (any_of HT_.out (by kernel_rfl)) (fun _ _ _ h => h) (Or.inr ⟨by rfl, rfl⟩) ?_ ?_
      rotate_left; (simp only [Act.put, List.setIfInBounds_toArray, List.set_cons_zero, List.set_cons_succ, i64_w, i32_w]; rfl)
      refine pure_ (i := 4) (N := some 43) (v := undef) (a' := ?_) (bA 17 31) rfl rfl (any_of HT_.out (by kernel_rfl)) (fun _ _ _ h => h) (Or.inr ⟨by rfl, rfl⟩) ?_ ?_
      rotate_left; (simp only [Act.put, List.setIfInBounds_toArray, List.set_cons_zero, List.set_cons_succ, i64_w, i32_w]; rfl)
      refine pure_ (i := 5) (N := some 44) (v := undef) (a' := ?_) (bA 17 63) rfl rfl (any_of HT_.out (by kernel_rfl)) (fun _ _ _ h => h) (Or.inr ⟨by rfl, rfl⟩) ?_ ?_
      rotate_left; (simp only [Act.put, List.setIfInBounds_toArray, List.set_cons_zero, List.set_cons_succ, i64_w, i32_w]; rfl)
      refine pure_ (i := 6) (N := some 45) (v := undef) (a' := ?_) (bA 17 127) rfl rfl (any_of HT_.out (by kernel_rfl)) (fun _ _ _ h => h) (Or.inr ⟨by rfl, rfl⟩) ?_ ?_
      rotate_left; (simp only [Act.put, List.setIfInBounds_toArray, List.set_cons_zero, List.set_cons_succ, i64_w, i32_w]; rfl)
      refine pure_ (i := 7) (N := some 46) (v := undef) (a' := ?_) (bA 17 255) rfl rfl (any_of HT_.out (by kernel_rfl)) (fun _ _ _ h => h) (Or.inr ⟨by rfl, rfl⟩) ?_ ?_
      rotate_left; (simp only [Act.put, List.setIfInBounds_toArray, List.set_cons_zero, List.set_cons_succ, i64_w, i32_w]; rfl)
      refine pure_ (i := 8) (N := some 47) (v := ?_) (a' := ?_) (bA 17 511) rfl rfl (any_of HT_.out (by kernel_rfl)) (fun _ _ _ h => h) (Or.inl ⟨by rfl, ?_⟩) ?_ ?_
      rotate_left; (intro w'; go_simp; with_reducible rfl); rotate_left; (simp only [Act.put, List.setIfInBounds_toArray, List.set_cons_zero, List.set_cons_succ, i64_w, i32_w]; rfl)
      refine pure_ (i := 9) (N := some 48) (v := ?_) (a' := ?_) (bA 17 1023) rfl rfl (any_of HT_.out (by kernel_rfl)) (fun _ _ _ h => h) (Or.inl ⟨by rfl, ?_⟩) ?_ ?_
      rotate_left; (intro w'; go_simp; with_reducible rfl); rotate_left; (simp only [Act.put, List.setIfInBounds_toArray, List.set_cons_zero, List.set_cons_succ, i64_w, i32_w]; rfl)
      refine pure_ (i := 10) (N := some 49) (v := undef) (a' := ?_) (bA 17 2047) rfl rfl (any_of HT_.out (by kernel_rfl)) (fun _ _ _ h => h) (Or.inr ⟨by rfl, rfl⟩) ?_ ?_
      rotate_left; (simp only [Act.put, List.setIfInBounds_toArray, List.set_cons_zero, List.set_cons_succ, i64_w, i32_w]; rfl)
      refine pure_ (i := 11) (N := some 50) (v := undef) (a' := ?_) (bA 17 4095) rfl rfl (any_of HT_.out (by kernel_rfl)) (fun _ _ _ h => h) (Or.inr ⟨by rfl, rfl⟩) ?_ ?_
      rotate_left; (simp only [Act.put, List.setIfInBounds_toArray, List.set_cons_zero, List.set_cons_succ, i64_w, i32_w]; rfl)
      refine pure_ (i := 12) (N := some 51) (v := undef) (a' := ?_) (bA 17 8191) rfl rfl (any_of HT_.out (by kernel_rfl)) (fun _ _ _ h => h) (Or.inr ⟨by rfl, rfl⟩) ?_ ?_
      rotate_left; (simp only [Act.put, List.setIfInBounds_toArray, List.set_cons_zero, List.set_cons_succ, i64_w, i32_w]; rfl)
      refine pure_ (i := 13) (N := some 52) (v := undef) (a' := ?_) (bA 17 16383) rfl rfl (any_of HT_.out (by kernel_rfl)) (fun _ _ _ h => h) (Or.inr ⟨by rfl, rfl⟩) ?_ ?_
      rotate_left; (simp only [Act.put, List.setIfInBounds_toArray, List.set_cons_zero, List.set_cons_succ, i64_w, i32_w]; rfl)
      refine pure_ (i := 14) (N := some 53) (v := undef) (a' := ?_) (bA 17 32767) rfl rfl (any_of HT_.out (by kernel_rfl)) (fun _ _ _ h => h) (Or.inr ⟨by rfl, rfl⟩) ?_ ?_
      rotate_left; (simp only [Act.put, List.setIfInBounds_toArray, List.set_cons_zero, List.set_cons_succ, i64_w, i32_w]; rfl)
      refine pure_ (i := 15) (N := some 54) (v := undef) (a' := ?_) (bA 17 65535) rfl rfl (any_of HT_.out (by kernel_rfl)) (fun _ _ _ h => h) (Or.inr ⟨by rfl, rfl⟩) ?_ ?_
      rotate_left; (simp only [Act.put, List.setIfInBounds_toArray, List.set_cons_zero, List.set_cons_succ, i64_w, i32_w]; rfl)
      refine pure_ (i := 16) (N := some 55) (v := ?_) (a' := ?_) (bA 17 131071) rfl rfl (any_of HT_.out (by kernel_rfl)) (fun _ _ _ h => h) (Or.inl ⟨by rfl, ?_⟩) ?_ ?_
      rotate_left; (intro w'; go_simp; with_reducible rfl); rotate_left; (simp only [Act.put, List.setIfInBounds_toArray, List.set_cons_zero, List.set_cons_succ, i64_w, i32_w]; rfl)
      refine done_ (done_of HT_.out (by kernel_rfl)) ?_
      try go_wp2
      go_ret
      exact ⟨er_, by repeat (first | (with_reducible first | exact HB.out | apply bal | apply bdn | apply bd1 | refine bst ?_ (IsS75.ge HI213.out) | refine bst ?_ GE214.out | refine bst ?_ GE222.out) | exact HB.out)⟩
    subst c17
    have H1 : ((codec_In_Err.f t220 t221).bind fun bt223 => (if bt223.1 = t218 then ((codec_In_Len.f bt223.2.1 bt223.2.2).bind fun bt226 => (if bt226.1 = (t217.size : Int) then (armoirelaw02_CodecTakes.l0 k1 l1 (wrap64 (x7_1 + 1)) bt226.2.1 bt226.2.2 t217 t218) else (some false))) else (some false))) = some r := by rw [if_pos rfl] at H; exact H
    clear H
    have H := H1
    clear H1
    replace H := Option.bind_eq_some_iff.mp H
    obtain ⟨⟨t223, t224, t225⟩, A180, H⟩ := H
    replace H : (if t223 = t218 then ((codec_In_Len.f t224 t225).bind fun bt226 => (if bt226.1 = (t217.size : Int) then (armoirelaw02_CodecTakes.l0 k1 l1 (wrap64 (x7_1 + 1)) bt226.2.1 bt226.2.2 t217 t218) else (some false))) else (some false)) = some r := H
    have A18 := Aside0.mk A180
    clear A180
    by_cases c19 : t223 = t218
    rotate_left
    · rw [if_neg c19] at H
      have c19b0 : (t223 == t218) = false := beq_eq_false_iff_ne.mpr c19
      have c19b1 : (t223 != t218) = true := bne_iff_ne.mpr c19
      obtain rfl := Option.some.inj H
      try go_wp2
      have n0_ := Aside0.mk (kdw BK214.out)
      have n1_ := Aside0.mk (IsS75.drew HI213.out)
      have n2_ := Aside0.mk (bd1 HB.out)
      clear BK214
      clear HI213
      clear HB
      have BK214 := n0_
      have HI213 := n1_
      have HB := n2_
      clear n0_ n1_ n2_
      have p216 : 0 ≤ (x7_1 : Int) := of_decide_eq_true (by first | (with_reducible assumption) | assumption)
      have q216 : x7_1 < (l1.length : Int) := of_decide_eq_true (by first | (with_reducible assumption) | assumption)
      obtain ⟨ad216, e216, hx216_0, hx216_1⟩ := at_T43 HR1.out x7_1 p216 q216
      have hw216_1 := hx216_1
      have hw216_0 := hx216_0
      cases e216
      replace hx216_0 := (HB.out.cell (World.block_lt_of_cell? w _ hx216_0)).trans hx216_0
      replace hx216_1 := (HB.out.cell (World.block_lt_of_cell? w _ hx216_1)).trans hx216_1
      replace p216 := eq_true p216
      replace q216 := eq_true q216
      refine start_ (n := 13) (S := fun w' => w'.cell? ⟨gb214, 0, none⟩ = some (.string x215000_1) ∧ w'.cell? ⟨gb214, 1, none⟩ = some (.int .i64 x215001_1) ∧ w'.cell? (ad216.add ((x7_1).toNat * 2)) = some (.int .i64 ((rd_T43 l1 x7_1).f0)) ∧ w'.cell? ⟨(ad216.add ((x7_1).toNat * 2)).block, (ad216.add ((x7_1).toNat * 2)).off + 1, none⟩ = some (.int .i64 ((rd_T43 l1 x7_1).f1))) (ds := []) #[false,false,false,false,false,false,false,false,false,false,false,false,false] (by kernel_rfl) rfl rfl ⟨(kcl BK214.out 0).trans rfl, (kcl BK214.out 1).trans rfl, ((HB.out.cell (World.block_lt_of_cell? w _ hw216_0)).trans hw216_0), ((HB.out.cell (World.block_lt_of_cell? w _ hw216_1)).trans hw216_1)⟩ (fun hHeld => ?_); refine with_tabW armoirelaw02_CodecTakes.tab9 armoirelaw02_CodecTakes.bits9 (fun HT_ HW_ => ?_)
      generalize wr.drew = w38 at BK214 HI213 HB hx216_0 hx216_1 hHeld ⊢
      refine pure_ (i := 0) (N := some 29) (v := ?_) (a' := ?_) (bA 13 1) rfl rfl (any_of HT_.out (by kernel_rfl)) (fun _ _ _ h => h) (Or.inl ⟨by rfl, ?_⟩) ?_ ?_
      rotate_left; (intro w'; go_simp; with_reducible rfl); rotate_left; (simp only [Act.put, List.setIfInBounds_toArray, List.set_cons_zero, List.set_cons_succ, i64_w, i32_w]; rfl)
      refine pure_ (i := 2) (N := some 31) (v := ?_) (a' := ?_) (bA 13 5) rfl rfl (any_of HT_.out (by kernel_rfl)) (fun _ _ _ h => h) (Or.inl ⟨by rfl, ?_⟩) ?_ ?_
      rotate_left; (intro w'; go_simp; with_reducible rfl); rotate_left; (simp only [Act.put, List.setIfInBounds_toArray, List.set_cons_zero, List.set_cons_succ, i64_w, i32_w]; rfl)
      refine pure_ (i := 3) (N := some 32) (v := ?_) (a' := ?_) (bA 13 13) rfl rfl (any_of HT_.out (by kernel_rfl)) (fun _ _ _ h => h) (Or.inl ⟨by rfl, ?_⟩) ?_ ?_
      rotate_left; (intro w'; go_simp; with_reducible rfl); rotate_left; (simp only [Act.put, List.setIfInBounds_toArray, List.set_cons_zero, List.set_cons_succ, i64_w, i32_w]; rfl)
      refine pure_ (i := 4) (N := some 33) (v := ?_) (a' := ?_) (bA 13 29) rfl rfl (any_of HT_.out (by kernel_rfl)) (fun _ _ _ h => h) (Or.inl ⟨by rfl, ?_⟩) ?_ ?_
      rotate_left; (intro w'; go_simp; with_reducible rfl); rotate_left; (simp only [Act.put, List.setIfInBounds_toArray, List.set_cons_zero, List.set_cons_succ, i64_w, i32_w]; rfl)
      refine take_ (i := 1) (N := some 30) (v := ?_) (a' := ?_) #[true,true,true,true,true,false,false,false,false,false,false,false,false] rfl rfl (tkw HT_.out HW_.out (by kernel_rfl)) (fun _ _ _ h => h) (Or.inl ⟨by rfl, ?_⟩) hHeld ?_ ?_
      rotate_left
      · rintro w' ⟨s0, s1, s2, s3⟩
        go_simp
        with_reducible rfl
      rotate_left; (simp only [Act.put, List.setIfInBounds_toArray, List.set_cons_zero, List.set_cons_succ, i64_w, i32_w]; rfl)
      refine take_ (i := 5) (N := some 34) (v := ?_) (a' := ?_) #[true,true,true,true,true,true,false,false,false,false,false,false,false] rfl rfl (tkw HT_.out HW_.out (by kernel_rfl)) (fun _ _ _ h => h) (Or.inl ⟨by rfl, ?_⟩) hHeld ?_ ?_
      rotate_left
      · rintro w' ⟨s0, s1, s2, s3⟩
        go_simp
        with_reducible rfl
      rotate_left; (simp only [Act.put, List.setIfInBounds_toArray, List.set_cons_zero, List.set_cons_succ, i64_w, i32_w]; rfl)
      refine join_ (σ := Nat) 2 #[true,true,true,true,true,true,true,true,true,true,true,false,false] (fun s_ => [(35, .tuple #[.agg #[.string t217, .int .i64 t218], .bool true]), (8, .pointer (some ⟨s_, 0, none⟩)), (28, .tuple #[.agg #[.string t217, .int .i64 t218], .bool true]), (36, .agg #[.string t217, .int .i64 t218]), (37, .bool true)]) (fun s_ w' => (w'.cell? ⟨gb214, 0, none⟩ = some (.string x215000_1) ∧ w'.cell? ⟨gb214, 1, none⟩ = some (.int .i64 x215001_1) ∧ w'.cell? (ad216.add ((x7_1).toNat * 2)) = some (.int .i64 ((rd_T43 l1 x7_1).f0)) ∧ w'.cell? ⟨(ad216.add ((x7_1).toNat * 2)).block, (ad216.add ((x7_1).toNat * 2)).off + 1, none⟩ = some (.int .i64 ((rd_T43 l1 x7_1).f1))) ∧ (w'.heap[gb214]? = some (.cells #[.string x215000_1, .int .i64 x215001_1] 39 (0, 0))) ∧ (w'.heap[s_]? = some (.cells #[.string (⟨#[]⟩ : ByteArray), .int .i64 0] 39 (0, 0))) ∧ (w.heap.size ≤ s_) ∧ (w.heap.size ≤ s_) ∧ (g213 ≠ s_) ∧ (s_ ≠ g213) ∧ (gb214 ≠ s_) ∧ (s_ ≠ gb214) ∧ (IsS75 w w' g213 t220 t221) ∧ (Below w.heap.size w w')) ?_ ?_
      rotate_left
      · intro hCont
        refine two_ (i := 6) (j := 10) (Ni := some 35) (Nj := some 8) #[true,true,true,true,true,true,true,false,false,false,false,false,false] #[true,true,true,true,true,true,false,false,false,false,true,false,false] rfl rfl rfl rfl (two_of HT_.out (by kernel_rfl)) (by decide) (by decide) (fun K hK => ?_) (fun K hK => ?_)
        · skip
          refine goes_ Tryd.func19 (by kernel_rfl) rfl #[.pointer (some ⟨g213, 0, none⟩), .agg #[.string x215000_1, .int .i64 x215001_1], .agg #[.int .i64 ((rd_T43 l1 x7_1).f0), .int .i64 ((rd_T43 l1 x7_1).f1)]] (by rfl) rfl rfl (by (try simp only [List.map_toArray, List.map_cons, List.map_nil]); first | done | rfl | (simp only [List.length_drop, List.length_take]; rfl) | (simp only [Act.eval, Array.getD_eq_getD_getElem?, Option.getD_some, *]; done) | (simp only [Array.mk.injEq, List.cons.injEq, Value.int.injEq, true_and, and_true]; first | omega | (simp [IntKind.wrap, IntKind.bits, IntKind.signed]; omega))) ?_
          with_reducible refine (armoirelaw02_take.calls k1 g213 x214000_1 x214001_1 x215000_1 x215001_1 ((rd_T43 l1 x7_1).f0) ((rd_T43 l1 x7_1).f1) t217 t218 true t220 t221 w _ ?side1 ?side2 A16.out).mono ?_
          (case side1 => repeat (first | (with_reducible first | exact HI213.out | apply IsS75.alloc | apply IsS75.drewN | apply IsS75.drew | apply IsS75.set_0 | apply IsS75.set_1 | refine IsS75.far ?_ NB213_214.out _) | exact HI213.out))
          (case side2 => repeat (first | (with_reducible first | exact HB.out | apply bal | apply bdn | apply bd1 | refine bst ?_ (IsS75.ge HI213.out) | refine bst ?_ GE214.out) | exact HB.out))
          rintro e w39 ⟨rfl, hi, hb, hk⟩
          refine ⟨_, rfl, ?_⟩
          have n0_ := Aside0.mk (KeepBut.blk hk (g' := gb214) (o := .cells #[.string x215000_1, .int .i64 x215001_1] 39 (0, 0)) bk_ NB214_213.out (by simp))
          have n1_ := Aside0.mk (hb)
          have n2_ := Aside0.mk (hi)
          clear BK214
          clear HB
          clear HI213
          have BK214 := n0_
          have HB := n1_
          have HI213 := n2_
          clear n0_ n1_ n2_
          (try clear hb)
          (try clear hb2)
          (try clear hk)
          (try clear hi)
          refine hK.out _ _ ⟨(kcl BK214.out 0).trans rfl, (kcl BK214.out 1).trans rfl, ((HB.out.cell (World.block_lt_of_cell? w _ hw216_0)).trans hw216_0), ((HB.out.cell (World.block_lt_of_cell? w _ hw216_1)).trans hw216_1)⟩ (fun hHeld => ?_)
          clear hK K
          refine norm_ (a' := ?_) ?_ ?_
          rotate_left
          · show Act.put _ (some 35) _ = _
            simp only [Act.put, List.setIfInBounds_toArray, List.set_cons_zero, List.set_cons_succ, i64_w, i32_w]
            rfl
          refine pure_ (i := 7) (N := some 28) (v := ?_) (a' := ?_) (bA 13 255) rfl rfl (any_of HT_.out (by kernel_rfl)) (fun _ _ _ h => h) (Or.inl ⟨by rfl, ?_⟩) ?_ ?_
          rotate_left; (intro w'; go_simp; with_reducible rfl); rotate_left; (simp only [Act.put, List.setIfInBounds_toArray, List.set_cons_zero, List.set_cons_succ, i64_w, i32_w]; rfl)
          refine pure_ (i := 8) (N := some 36) (v := ?_) (a' := ?_) (bA 13 511) rfl rfl (any_of HT_.out (by kernel_rfl)) (fun _ _ _ h => h) (Or.inl ⟨by rfl, ?_⟩) ?_ ?_
          rotate_left; (intro w'; go_simp; with_reducible rfl); rotate_left; (simp only [Act.put, List.setIfInBounds_toArray, List.set_cons_zero, List.set_cons_succ, i64_w, i32_w]; rfl)
          refine pure_ (i := 9) (N := some 37) (v := ?_) (a' := ?_) (bA 13 1023) rfl rfl (any_of HT_.out (by kernel_rfl)) (fun _ _ _ h => h) (Or.inl ⟨by rfl, ?_⟩) ?_ ?_
          rotate_left; (intro w'; go_simp; with_reducible rfl); rotate_left; (simp only [Act.put, List.setIfInBounds_toArray, List.set_cons_zero, List.set_cons_succ, i64_w, i32_w]; rfl)
          refine one_ (i := 10) (N := some 8) #[true,true,true,true,true,true,true,true,true,true,true,false,false] rfl rfl (one_of HT_.out (by kernel_rfl)) (by decide) (fun K hK => ?_)
          refine box_step ?hg (N := 8) ?hd (cs := #[.string (⟨#[]⟩ : ByteArray), .int .i64 0]) (t := 39) ?hr ?_; (case hd => rfl); (case hg => rfl); (case hr => first | (go_simp; done) | (go_simp; rfl))
          intro gb222 hg w40 hbox hb
          have n0_ := Aside0.mk (kbl (g := gb214) (o := .cells #[.string x215000_1, .int .i64 x215001_1] 39 (0, 0)) bk_ hb)
          have n1_ := Aside0.mk (IsS75.below (by repeat (first | (with_reducible first | exact HI213.out | apply IsS75.alloc | apply IsS75.drewN | apply IsS75.drew | apply IsS75.set_0 | apply IsS75.set_1 | refine IsS75.far ?_ NB213_214.out _) | exact HI213.out)) hb)
          have n2_ := Aside0.mk (bsp (by repeat (first | (with_reducible first | exact HB.out | apply bal | apply bdn | apply bd1 | refine bst ?_ (IsS75.ge HI213.out) | refine bst ?_ GE214.out) | exact HB.out)) hb)
          have n3_ := Aside0.mk (hbox)
          have n4_ := Aside0.mk ((by rw [hg]; exact (bsz (by repeat (first | (with_reducible first | exact HB.out | apply bal | apply bdn | apply bd1 | refine bst ?_ (IsS75.ge HI213.out) | refine bst ?_ GE214.out) | exact HB.out))) : w.heap.size ≤ gb222))
          have n5_ := Aside0.mk ((by rw [hg]; exact (bsz (by repeat (first | (with_reducible first | exact HB.out | apply bal | apply bdn | apply bd1 | refine bst ?_ (IsS75.ge HI213.out) | refine bst ?_ GE214.out) | exact HB.out))) : w.heap.size ≤ gb222))
          have n6_ := Aside0.mk ((by rw [hg]; exact Nat.ne_of_lt (blk_lt (g := gb214) (o := .cells #[.string x215000_1, .int .i64 x215001_1] 39 (0, 0)) bk_) : gb214 ≠ gb222))
          have n7_ := Aside0.mk ((by rw [hg]; exact Nat.ne_of_gt (blk_lt (g := gb214) (o := .cells #[.string x215000_1, .int .i64 x215001_1] 39 (0, 0)) bk_) : gb222 ≠ gb214))
          have n8_ := Aside0.mk ((by rw [hg]; exact Nat.ne_of_lt (IsS75.lt (show IsS75 w _ g213 t220 t221 from by repeat (first | (with_reducible first | exact HI213.out | apply IsS75.alloc | apply IsS75.drewN | apply IsS75.drew | apply IsS75.set_0 | apply IsS75.set_1 | refine IsS75.far ?_ NB213_214.out _) | exact HI213.out))) : g213 ≠ gb222))
          have n9_ := Aside0.mk ((by rw [hg]; exact Nat.ne_of_gt (IsS75.lt (show IsS75 w _ g213 t220 t221 from by repeat (first | (with_reducible first | exact HI213.out | apply IsS75.alloc | apply IsS75.drewN | apply IsS75.drew | apply IsS75.set_0 | apply IsS75.set_1 | refine IsS75.far ?_ NB213_214.out _) | exact HI213.out))) : gb222 ≠ g213))
          clear BK214
          clear HI213
          clear HB
          have BK214 := n0_
          have HI213 := n1_
          have HB := n2_
          have BK222 := n3_
          have GW222 := n4_
          have GE222 := n5_
          have NB214_222 := n6_
          have NB222_214 := n7_
          have NB213_222 := n8_
          have NB222_213 := n9_
          clear n0_ n1_ n2_ n3_ n4_ n5_ n6_ n7_ n8_ n9_
          clear hb hbox hg
          refine hK.out _ _ ⟨(kcl BK214.out 0).trans rfl, (kcl BK214.out 1).trans rfl, ((HB.out.cell (World.block_lt_of_cell? w _ hw216_0)).trans hw216_0), ((HB.out.cell (World.block_lt_of_cell? w _ hw216_1)).trans hw216_1)⟩ (fun hHeld => ?_)
          clear hK K
          refine norm_ (a' := ?_) ?_ ?_
          rotate_left
          · show Act.put _ (some 8) _ = _
            simp only [Act.put, List.setIfInBounds_toArray, List.set_cons_zero, List.set_cons_succ, i64_w, i32_w]
            rfl
          exact norm_ (by simp only [putAll, Act.put, List.setIfInBounds_toArray, List.set_cons_zero, List.set_cons_succ]) (hCont (gb222) _ ⟨hHeld, bk_, bk_, GW222.out, GE222.out, NB213_222.out, NB222_213.out, NB214_222.out, NB222_214.out, (by repeat (first | (with_reducible first | exact HI213.out | apply IsS75.alloc | apply IsS75.drewN | apply IsS75.drew | apply IsS75.set_0 | apply IsS75.set_1 | refine IsS75.far ?_ NB213_214.out _ | refine IsS75.far ?_ NB213_222.out _) | exact HI213.out)), (by repeat (first | (with_reducible first | exact HB.out | apply bal | apply bdn | apply bd1 | refine bst ?_ (IsS75.ge HI213.out) | refine bst ?_ GE214.out | refine bst ?_ GE222.out) | exact HB.out))⟩)
        · skip
          refine box_step ?hg (N := 8) ?hd (cs := #[.string (⟨#[]⟩ : ByteArray), .int .i64 0]) (t := 39) ?hr ?_; (case hd => rfl); (case hg => rfl); (case hr => first | (go_simp; done) | (go_simp; rfl))
          intro gb222 hg w39 hbox hb
          have n0_ := Aside0.mk (kbl (g := gb214) (o := .cells #[.string x215000_1, .int .i64 x215001_1] 39 (0, 0)) bk_ hb)
          have n1_ := Aside0.mk (IsS75.below (by repeat (first | (with_reducible first | exact HI213.out | apply IsS75.alloc | apply IsS75.drewN | apply IsS75.drew | apply IsS75.set_0 | apply IsS75.set_1 | refine IsS75.far ?_ NB213_214.out _) | exact HI213.out)) hb)
          have n2_ := Aside0.mk (bsp (by repeat (first | (with_reducible first | exact HB.out | apply bal | apply bdn | apply bd1 | refine bst ?_ (IsS75.ge HI213.out) | refine bst ?_ GE214.out) | exact HB.out)) hb)
          have n3_ := Aside0.mk (hbox)
          have n4_ := Aside0.mk ((by rw [hg]; exact (bsz (by repeat (first | (with_reducible first | exact HB.out | apply bal | apply bdn | apply bd1 | refine bst ?_ (IsS75.ge HI213.out) | refine bst ?_ GE214.out) | exact HB.out))) : w.heap.size ≤ gb222))
          have n5_ := Aside0.mk ((by rw [hg]; exact (bsz (by repeat (first | (with_reducible first | exact HB.out | apply bal | apply bdn | apply bd1 | refine bst ?_ (IsS75.ge HI213.out) | refine bst ?_ GE214.out) | exact HB.out))) : w.heap.size ≤ gb222))
          have n6_ := Aside0.mk ((by rw [hg]; exact Nat.ne_of_lt (blk_lt (g := gb214) (o := .cells #[.string x215000_1, .int .i64 x215001_1] 39 (0, 0)) bk_) : gb214 ≠ gb222))
          have n7_ := Aside0.mk ((by rw [hg]; exact Nat.ne_of_gt (blk_lt (g := gb214) (o := .cells #[.string x215000_1, .int .i64 x215001_1] 39 (0, 0)) bk_) : gb222 ≠ gb214))
          have n8_ := Aside0.mk ((by rw [hg]; exact Nat.ne_of_lt (IsS75.lt (show IsS75 w _ g213 x214000_1 x214001_1 from by repeat (first | (with_reducible first | exact HI213.out | apply IsS75.alloc | apply IsS75.drewN | apply IsS75.drew | apply IsS75.set_0 | apply IsS75.set_1 | refine IsS75.far ?_ NB213_214.out _) | exact HI213.out))) : g213 ≠ gb222))
          have n9_ := Aside0.mk ((by rw [hg]; exact Nat.ne_of_gt (IsS75.lt (show IsS75 w _ g213 x214000_1 x214001_1 from by repeat (first | (with_reducible first | exact HI213.out | apply IsS75.alloc | apply IsS75.drewN | apply IsS75.drew | apply IsS75.set_0 | apply IsS75.set_1 | refine IsS75.far ?_ NB213_214.out _) | exact HI213.out))) : gb222 ≠ g213))
          clear BK214
          clear HI213
          clear HB
          have BK214 := n0_
          have HI213 := n1_
          have HB := n2_
          have BK222 := n3_
          have GW222 := n4_
          have GE222 := n5_
          have NB214_222 := n6_
          have NB222_214 := n7_
          have NB213_222 := n8_
          have NB222_213 := n9_
          clear n0_ n1_ n2_ n3_ n4_ n5_ n6_ n7_ n8_ n9_
          clear hb hbox hg
          refine hK.out _ _ ⟨(kcl BK214.out 0).trans rfl, (kcl BK214.out 1).trans rfl, ((HB.out.cell (World.block_lt_of_cell? w _ hw216_0)).trans hw216_0), ((HB.out.cell (World.block_lt_of_cell? w _ hw216_1)).trans hw216_1)⟩ (fun hHeld => ?_)
          clear hK K
          refine norm_ (a' := ?_) ?_ ?_
          rotate_left
          · show Act.put _ (some 8) _ = _
            simp only [Act.put, List.setIfInBounds_toArray, List.set_cons_zero, List.set_cons_succ, i64_w, i32_w]
            rfl
          refine one_ (i := 6) (N := some 35) #[true,true,true,true,true,true,true,false,false,false,true,false,false] rfl rfl (one_of HT_.out (by kernel_rfl)) (by decide) (fun K hK => ?_)
          refine goes_ Tryd.func19 (by kernel_rfl) rfl #[.pointer (some ⟨g213, 0, none⟩), .agg #[.string x215000_1, .int .i64 x215001_1], .agg #[.int .i64 ((rd_T43 l1 x7_1).f0), .int .i64 ((rd_T43 l1 x7_1).f1)]] (by rfl) rfl rfl (by (try simp only [List.map_toArray, List.map_cons, List.map_nil]); first | done | rfl | (simp only [List.length_drop, List.length_take]; rfl) | (simp only [Act.eval, Array.getD_eq_getD_getElem?, Option.getD_some, *]; done) | (simp only [Array.mk.injEq, List.cons.injEq, Value.int.injEq, true_and, and_true]; first | omega | (simp [IntKind.wrap, IntKind.bits, IntKind.signed]; omega))) ?_
          with_reducible refine (armoirelaw02_take.calls k1 g213 x214000_1 x214001_1 x215000_1 x215001_1 ((rd_T43 l1 x7_1).f0) ((rd_T43 l1 x7_1).f1) t217 t218 true t220 t221 w _ ?side1 ?side2 A16.out).mono ?_
          (case side1 => repeat (first | (with_reducible first | exact HI213.out | apply IsS75.alloc | apply IsS75.drewN | apply IsS75.drew | apply IsS75.set_0 | apply IsS75.set_1 | refine IsS75.far ?_ NB213_214.out _ | refine IsS75.far ?_ NB213_222.out _) | exact HI213.out))
          (case side2 => repeat (first | (with_reducible first | exact HB.out | apply bal | apply bdn | apply bd1 | refine bst ?_ (IsS75.ge HI213.out) | refine bst ?_ GE214.out | refine bst ?_ GE222.out) | exact HB.out))
          rintro e w40 ⟨rfl, hi, hb, hk⟩
          refine ⟨_, rfl, ?_⟩
          have n0_ := Aside0.mk (KeepBut.blk hk (g' := gb214) (o := .cells #[.string x215000_1, .int .i64 x215001_1] 39 (0, 0)) bk_ NB214_213.out (by simp))
          have n1_ := Aside0.mk (KeepBut.blk hk (g' := gb222) (o := .cells #[.string (⟨#[]⟩ : ByteArray), .int .i64 0] 39 (0, 0)) bk_ NB222_213.out (by simp))
          have n2_ := Aside0.mk (hb)
          have n3_ := Aside0.mk (hi)
          clear BK214
          clear BK222
          clear HB
          clear HI213
          have BK214 := n0_
          have BK222 := n1_
          have HB := n2_
          have HI213 := n3_
          clear n0_ n1_ n2_ n3_
          (try clear hb)
          (try clear hb2)
          (try clear hk)
          (try clear hi)
          refine hK.out _ _ ⟨(kcl BK214.out 0).trans rfl, (kcl BK214.out 1).trans rfl, ((HB.out.cell (World.block_lt_of_cell? w _ hw216_0)).trans hw216_0), ((HB.out.cell (World.block_lt_of_cell? w _ hw216_1)).trans hw216_1)⟩ (fun hHeld => ?_)
          clear hK K
          refine norm_ (a' := ?_) ?_ ?_
          rotate_left
          · show Act.put _ (some 35) _ = _
            simp only [Act.put, List.setIfInBounds_toArray, List.set_cons_zero, List.set_cons_succ, i64_w, i32_w]
            rfl
          refine pure_ (i := 7) (N := some 28) (v := ?_) (a' := ?_) (bA 13 1279) rfl rfl (any_of HT_.out (by kernel_rfl)) (fun _ _ _ h => h) (Or.inl ⟨by rfl, ?_⟩) ?_ ?_
          rotate_left; (intro w'; go_simp; with_reducible rfl); rotate_left; (simp only [Act.put, List.setIfInBounds_toArray, List.set_cons_zero, List.set_cons_succ, i64_w, i32_w]; rfl)
          refine pure_ (i := 8) (N := some 36) (v := ?_) (a' := ?_) (bA 13 1535) rfl rfl (any_of HT_.out (by kernel_rfl)) (fun _ _ _ h => h) (Or.inl ⟨by rfl, ?_⟩) ?_ ?_
          rotate_left; (intro w'; go_simp; with_reducible rfl); rotate_left; (simp only [Act.put, List.setIfInBounds_toArray, List.set_cons_zero, List.set_cons_succ, i64_w, i32_w]; rfl)
          refine pure_ (i := 9) (N := some 37) (v := ?_) (a' := ?_) (bA 13 2047) rfl rfl (any_of HT_.out (by kernel_rfl)) (fun _ _ _ h => h) (Or.inl ⟨by rfl, ?_⟩) ?_ ?_
          rotate_left; (intro w'; go_simp; with_reducible rfl); rotate_left; (simp only [Act.put, List.setIfInBounds_toArray, List.set_cons_zero, List.set_cons_succ, i64_w, i32_w]; rfl)
          exact norm_ (by simp only [putAll, Act.put, List.setIfInBounds_toArray, List.set_cons_zero, List.set_cons_succ]) (hCont (gb222) _ ⟨hHeld, bk_, bk_, GW222.out, GE222.out, NB213_222.out, NB222_213.out, NB214_222.out, NB222_214.out, (by repeat (first | (with_reducible first | exact HI213.out | apply IsS75.alloc | apply IsS75.drewN | apply IsS75.drew | apply IsS75.set_0 | apply IsS75.set_1 | refine IsS75.far ?_ NB213_214.out _ | refine IsS75.far ?_ NB213_222.out _) | exact HI213.out)), (by repeat (first | (with_reducible first | exact HB.out | apply bal | apply bdn | apply bd1 | refine bst ?_ (IsS75.ge HI213.out) | refine bst ?_ GE214.out | refine bst ?_ GE222.out) | exact HB.out))⟩)
      rintro gb222 w41 ⟨hS_, h0_, h1_, h2_, h3_, h4_, h5_, h6_, h7_, h8_, h9_⟩
      have n0_ : Aside0 (w41.heap[gb214]? = some (.cells #[.string x215000_1, .int .i64 x215001_1] 39 (0, 0))) := ⟨h0_⟩
      have n1_ : Aside0 (w41.heap[gb222]? = some (.cells #[.string (⟨#[]⟩ : ByteArray), .int .i64 0] 39 (0, 0))) := ⟨h1_⟩
      have n2_ : Aside0 (w.heap.size ≤ gb222) := ⟨h2_⟩
      have n3_ : Aside0 (w.heap.size ≤ gb222) := ⟨h3_⟩
      have n4_ : Aside0 (g213 ≠ gb222) := ⟨h4_⟩
      have n5_ : Aside0 (gb222 ≠ g213) := ⟨h5_⟩
      have n6_ : Aside0 (gb214 ≠ gb222) := ⟨h6_⟩
      have n7_ : Aside0 (gb222 ≠ gb214) := ⟨h7_⟩
      have n8_ : Aside0 (IsS75 w w41 g213 t220 t221) := ⟨h8_⟩
      have n9_ : Aside0 (Below w.heap.size w w41) := ⟨h9_⟩
      clear BK214
      clear HI213
      clear HB
      clear h0_ h1_ h2_ h3_ h4_ h5_ h6_ h7_ h8_ h9_
      have BK214 := n0_
      have BK222 := n1_
      have GW222 := n2_
      have GE222 := n3_
      have NB213_222 := n4_
      have NB222_213 := n5_
      have NB214_222 := n6_
      have NB222_214 := n7_
      have HI213 := n8_
      have HB := n9_
      clear n0_ n1_ n2_ n3_ n4_ n5_ n6_ n7_ n8_ n9_
      have hHeld : w41.cell? ⟨gb214, 0, none⟩ = some (.string x215000_1) ∧ w41.cell? ⟨gb214, 1, none⟩ = some (.int .i64 x215001_1) ∧ w41.cell? (ad216.add ((x7_1).toNat * 2)) = some (.int .i64 ((rd_T43 l1 x7_1).f0)) ∧ w41.cell? ⟨(ad216.add ((x7_1).toNat * 2)).block, (ad216.add ((x7_1).toNat * 2)).off + 1, none⟩ = some (.int .i64 ((rd_T43 l1 x7_1).f1)) := hS_
      refine norm_ (a' := ?_) ?_ ?_
      rotate_left; (simp only [putAll, Act.put, List.setIfInBounds_toArray, List.set_cons_zero, List.set_cons_succ]; rfl)
      refine one_ (i := 11) (N := none) #[true,true,true,true,true,true,true,true,true,true,true,true,false] rfl rfl (one_of HT_.out (by kernel_rfl)) (by decide) (fun K hK => ?_)
      have hs42 : w41.cell? ⟨gb222, 0, none⟩ = some (.string (⟨#[]⟩ : ByteArray)) := (kcl BK222.out 0).trans rfl
      have hfs42 := kfr BK222.out 0
      have hns42_0 := NB214_222.out
      have hms42_0 := NB222_214.out
      have hs43 : w41.cell? ⟨gb222, 1, none⟩ = some (.int .i64 0) := (kcl BK222.out 1).trans rfl
      have hfs43 := kfr BK222.out 1
      have hns43_0 := NB214_222.out
      have hms43_0 := NB222_214.out
      refine skip_ (w1 := ?_) (by rfl) rfl ?_ ?_
      rotate_left
      · go_simp
        rfl
      refine hK.out _ _ ⟨((cell_far (p := ⟨gb222, _, none⟩) NB214_222.out _).trans (((cell_far (p := ⟨gb222, _, none⟩) NB214_222.out _).trans (hHeld.1)))), ((cell_far (p := ⟨gb222, _, none⟩) NB214_222.out _).trans (((cell_far (p := ⟨gb222, _, none⟩) NB214_222.out _).trans (hHeld.2.1)))), ((cell_far (p := ⟨gb222, _, none⟩) (by first | exact Nat.ne_of_lt (Nat.lt_of_lt_of_le (by have := World.block_lt_of_cell? _ _ hw216_0; first | rwa [add_block] at this | exact this) GW222.out) | (rw [add_block]; exact Nat.ne_of_lt (Nat.lt_of_lt_of_le (by have := World.block_lt_of_cell? _ _ hw216_0; first | rwa [add_block] at this | exact this) GW222.out)) | (show (Addr.add _ _).block ≠ _; rw [add_block]; exact Nat.ne_of_lt (Nat.lt_of_lt_of_le (by have := World.block_lt_of_cell? _ _ hw216_0; first | rwa [add_block] at this | exact this) GW222.out)) | (dsimp only; exact Nat.ne_of_lt (Nat.lt_of_lt_of_le (by have := World.block_lt_of_cell? _ _ hw216_0; first | rwa [add_block] at this | exact this) GW222.out))) _).trans (((cell_far (p := ⟨gb222, _, none⟩) (by first | exact Nat.ne_of_lt (Nat.lt_of_lt_of_le (by have := World.block_lt_of_cell? _ _ hw216_0; first | rwa [add_block] at this | exact this) GW222.out) | (rw [add_block]; exact Nat.ne_of_lt (Nat.lt_of_lt_of_le (by have := World.block_lt_of_cell? _ _ hw216_0; first | rwa [add_block] at this | exact this) GW222.out)) | (show (Addr.add _ _).block ≠ _; rw [add_block]; exact Nat.ne_of_lt (Nat.lt_of_lt_of_le (by have := World.block_lt_of_cell? _ _ hw216_0; first | rwa [add_block] at this | exact this) GW222.out)) | (dsimp only; exact Nat.ne_of_lt (Nat.lt_of_lt_of_le (by have := World.block_lt_of_cell? _ _ hw216_0; first | rwa [add_block] at this | exact this) GW222.out))) _).trans (hHeld.2.2.1)))), ((cell_far (p := ⟨gb222, _, none⟩) (by first | exact Nat.ne_of_lt (Nat.lt_of_lt_of_le (by have := World.block_lt_of_cell? _ _ hw216_1; first | rwa [add_block] at this | exact this) GW222.out) | (rw [add_block]; exact Nat.ne_of_lt (Nat.lt_of_lt_of_le (by have := World.block_lt_of_cell? _ _ hw216_1; first | rwa [add_block] at this | exact this) GW222.out)) | (show (Addr.add _ _).block ≠ _; rw [add_block]; exact Nat.ne_of_lt (Nat.lt_of_lt_of_le (by have := World.block_lt_of_cell? _ _ hw216_1; first | rwa [add_block] at this | exact this) GW222.out)) | (dsimp only; exact Nat.ne_of_lt (Nat.lt_of_lt_of_le (by have := World.block_lt_of_cell? _ _ hw216_1; first | rwa [add_block] at this | exact this) GW222.out))) _).trans (((cell_far (p := ⟨gb222, _, none⟩) (by first | exact Nat.ne_of_lt (Nat.lt_of_lt_of_le (by have := World.block_lt_of_cell? _ _ hw216_1; first | rwa [add_block] at this | exact this) GW222.out) | (rw [add_block]; exact Nat.ne_of_lt (Nat.lt_of_lt_of_le (by have := World.block_lt_of_cell? _ _ hw216_1; first | rwa [add_block] at this | exact this) GW222.out)) | (show (Addr.add _ _).block ≠ _; rw [add_block]; exact Nat.ne_of_lt (Nat.lt_of_lt_of_le (by have := World.block_lt_of_cell? _ _ hw216_1; first | rwa [add_block] at this | exact this) GW222.out)) | (dsimp only; exact Nat.ne_of_lt (Nat.lt_of_lt_of_le (by have := World.block_lt_of_cell? _ _ hw216_1; first | rwa [add_block] at this | exact this) GW222.out))) _).trans (hHeld.2.2.2))))⟩ (fun hHeld => ?_)
      clear hK K
      refine pure_ (i := 12) (N := some 9) (v := ?_) (a' := ?_) (bA 13 8191) rfl rfl (any_of HT_.out (by kernel_rfl)) (fun _ _ _ h => h) (Or.inl ⟨by rfl, ?_⟩) ?_ ?_
      rotate_left; (intro w'; go_simp; with_reducible rfl); rotate_left; (simp only [Act.put, List.setIfInBounds_toArray, List.set_cons_zero, List.set_cons_succ, i64_w, i32_w]; rfl)
      refine done_ (done_of HT_.out (by kernel_rfl)) ?_
      have hnb44 := NB222_214.out
      have hnc44 := NB214_222.out
      have hnb45 := NB222_213.out
      have hnc45 := NB213_222.out
      have hcz46 := bc2 BK222.out
      have hnb47 := NB214_213.out
      have hnc47 := NB213_214.out
      have hcz48 := bc2 BK214.out
      try go_wp2
      have n0_ : Aside0 (((((w41.setCell ⟨gb222, 0, none⟩ (.string t217)).setCell ⟨gb222, 1, none⟩ (.int .i64 t218)).setCell ⟨gb214, 0, none⟩ (.string t217)).setCell ⟨gb214, 1, none⟩ (.int .i64 t218)).heap[gb214]? = some (.cells #[.string t217, .int .i64 t218] 39 (0, 0))) := ⟨bk_⟩
      have n1_ : Aside0 (((((w41.setCell ⟨gb222, 0, none⟩ (.string t217)).setCell ⟨gb222, 1, none⟩ (.int .i64 t218)).setCell ⟨gb214, 0, none⟩ (.string t217)).setCell ⟨gb214, 1, none⟩ (.int .i64 t218)).heap[gb222]? = some (.cells #[.string t217, .int .i64 t218] 39 (0, 0))) := ⟨bk_⟩
      have n2_ : Aside0 (IsS75 w ((((w41.setCell ⟨gb222, 0, none⟩ (.string t217)).setCell ⟨gb222, 1, none⟩ (.int .i64 t218)).setCell ⟨gb214, 0, none⟩ (.string t217)).setCell ⟨gb214, 1, none⟩ (.int .i64 t218)) g213 t220 t221) := ⟨by repeat (first | (with_reducible first | exact HI213.out | apply IsS75.alloc | apply IsS75.drewN | apply IsS75.drew | apply IsS75.set_0 | apply IsS75.set_1 | refine IsS75.far ?_ NB213_214.out _ | refine IsS75.far ?_ NB213_222.out _) | exact HI213.out)⟩
      have n3_ : Aside0 (Below w.heap.size w ((((w41.setCell ⟨gb222, 0, none⟩ (.string t217)).setCell ⟨gb222, 1, none⟩ (.int .i64 t218)).setCell ⟨gb214, 0, none⟩ (.string t217)).setCell ⟨gb214, 1, none⟩ (.int .i64 t218))) := ⟨by repeat (first | (with_reducible first | exact HB.out | apply bal | apply bdn | apply bd1 | refine bst ?_ (IsS75.ge HI213.out) | refine bst ?_ GE214.out | refine bst ?_ GE222.out) | exact HB.out)⟩
      (try clear BK214)
      (try clear BK222)
      (try clear HI213)
      (try clear HB)
      generalize ((((w41.setCell ⟨gb222, 0, none⟩ (.string t217)).setCell ⟨gb222, 1, none⟩ (.int .i64 t218)).setCell ⟨gb214, 0, none⟩ (.string t217)).setCell ⟨gb214, 1, none⟩ (.int .i64 t218)) = w49 at n0_ n1_ n2_ n3_ ⊢
      have BK214 := n0_
      have BK222 := n1_
      have HI213 := n2_
      have HB := n3_
      clear n0_ n1_ n2_ n3_
      have n0_ := Aside0.mk (kdw BK214.out)
      have n1_ := Aside0.mk (kdw BK222.out)
      have n2_ := Aside0.mk (IsS75.drew HI213.out)
      have n3_ := Aside0.mk (bd1 HB.out)
      clear BK214
      clear BK222
      clear HI213
      clear HB
      have BK214 := n0_
      have BK222 := n1_
      have HI213 := n2_
      have HB := n3_
      clear n0_ n1_ n2_ n3_
      refine start_ (n := 17) (S := fun w' => w'.cell? ⟨gb214, 0, none⟩ = some (.string t217) ∧ w'.cell? ⟨gb214, 1, none⟩ = some (.int .i64 t218)) (ds := []) #[false,false,false,false,false,false,false,false,false,false,false,false,false,false,false,false,false] (by kernel_rfl) rfl rfl ⟨(kcl BK214.out 0).trans rfl, (kcl BK214.out 1).trans rfl⟩ (fun hHeld => ?_); refine with_tabW armoirelaw02_CodecTakes.tab11 armoirelaw02_CodecTakes.bits11 (fun HT_ HW_ => ?_)
      generalize w49.drew = w50 at BK214 BK222 HI213 HB hHeld ⊢
      refine pure_ (i := 0) (N := some 39) (v := ?_) (a' := ?_) (bA 17 1) rfl rfl (any_of HT_.out (by kernel_rfl)) (fun _ _ _ h => h) (Or.inl ⟨by rfl, ?_⟩) ?_ ?_
      rotate_left; (intro w'; go_simp; with_reducible rfl); rotate_left; (simp only [Act.put, List.setIfInBounds_toArray, List.set_cons_zero, List.set_cons_succ, i64_w, i32_w]; rfl)
      refine pure_ (i := 1) (N := some 40) (v := ?_) (a' := ?_) (bA 17 3) rfl rfl (any_of HT_.out (by kernel_rfl)) (fun _ _ _ h => h) (Or.inl ⟨by rfl, ?_⟩) ?_ ?_
      rotate_left; (intro w'; go_simp; with_reducible rfl); rotate_left; (simp only [Act.put, List.setIfInBounds_toArray, List.set_cons_zero, List.set_cons_succ, i64_w, i32_w]; rfl)
      refine pure_ (i := 2) (N := some 41) (v := ?_) (a' := ?_) (bA 17 7) rfl rfl (any_of HT_.out (by kernel_rfl)) (fun _ _ _ h => h) (Or.inl ⟨by rfl, ?_⟩) ?_ ?_
      rotate_left; (intro w'; go_simp; with_reducible rfl); rotate_left; (simp only [Act.put, List.setIfInBounds_toArray, List.set_cons_zero, List.set_cons_succ, i64_w, i32_w]; rfl)
      refine pure_ (i := 3) (N := some 42) (v := ?_) (a' := ?_) (bA 17 15) rfl rfl (any_of HT_.out (by kernel_rfl)) (fun _ _ _ h => h) (Or.inl ⟨by rfl, ?_⟩) ?_ ?_
      rotate_left; (intro w'; go_simp; with_reducible rfl); rotate_left; (simp only [Act.put, List.setIfInBounds_toArray, List.set_cons_zero, List.set_cons_succ, i64_w, i32_w]; rfl)
      refine pure_ (i := 5) (N := some 44) (v := ?_) (a' := ?_) (bA 17 47) rfl rfl (any_of HT_.out (by kernel_rfl)) (fun _ _ _ h => h) (Or.inl ⟨by rfl, ?_⟩) ?_ ?_
      rotate_left; (intro w'; go_simp; with_reducible rfl); rotate_left; (simp only [Act.put, List.setIfInBounds_toArray, List.set_cons_zero, List.set_cons_succ, i64_w, i32_w]; rfl)
      refine take_ (i := 6) (N := some 45) (v := ?_) (a' := ?_) #[true,true,true,true,false,true,true,false,false,false,false,false,false,false,false,false,false] rfl rfl (tkw HT_.out HW_.out (by kernel_rfl)) (fun _ _ _ h => h) (Or.inl ⟨by rfl, ?_⟩) hHeld ?_ ?_
      rotate_left
      · rintro w' ⟨s0, s1⟩
        go_simp
        with_reducible rfl
      rotate_left; (simp only [Act.put, List.setIfInBounds_toArray, List.set_cons_zero, List.set_cons_succ, i64_w, i32_w]; rfl)
      refine one_ (i := 4) (N := some 43) #[true,true,true,true,true,true,true,false,false,false,false,false,false,false,false,false,false] rfl rfl (one_of HT_.out (by kernel_rfl)) (by decide) (fun K hK => ?_)
      refine goes_ Tryd.func16 (by kernel_rfl) rfl #[.pointer (some ⟨g213, 0, none⟩)] (by rfl) rfl rfl (by (try simp only [List.map_toArray, List.map_cons, List.map_nil]); first | done | rfl | (simp only [List.length_drop, List.length_take]; rfl) | (simp only [Act.eval, Array.getD_eq_getD_getElem?, Option.getD_some, *]; done) | (simp only [Array.mk.injEq, List.cons.injEq, Value.int.injEq, true_and, and_true]; first | omega | (simp [IntKind.wrap, IntKind.bits, IntKind.signed]; omega))) ?_
      with_reducible refine (codec_In_Err.calls g213 t220 t221 t223 t224 t225 w _ ?side1 ?side2 A18.out).mono ?_
      (case side1 => repeat (first | (with_reducible first | exact HI213.out | apply IsS75.alloc | apply IsS75.drewN | apply IsS75.drew | apply IsS75.set_0 | apply IsS75.set_1 | refine IsS75.far ?_ NB213_214.out _ | refine IsS75.far ?_ NB213_222.out _) | exact HI213.out))
      (case side2 => repeat (first | (with_reducible first | exact HB.out | apply bal | apply bdn | apply bd1 | refine bst ?_ (IsS75.ge HI213.out) | refine bst ?_ GE214.out | refine bst ?_ GE222.out) | exact HB.out))
      rintro e w51 ⟨rfl, hi, hb, hk⟩
      refine ⟨_, rfl, ?_⟩
      have n0_ := Aside0.mk (KeepBut.blk hk (g' := gb214) (o := .cells #[.string t217, .int .i64 t218] 39 (0, 0)) bk_ NB214_213.out (by simp))
      have n1_ := Aside0.mk (KeepBut.blk hk (g' := gb222) (o := .cells #[.string t217, .int .i64 t218] 39 (0, 0)) bk_ NB222_213.out (by simp))
      have n2_ := Aside0.mk (hb)
      have n3_ := Aside0.mk (hi)
      clear BK214
      clear BK222
      clear HB
      clear HI213
      have BK214 := n0_
      have BK222 := n1_
      have HB := n2_
      have HI213 := n3_
      clear n0_ n1_ n2_ n3_
      (try clear hb)
      (try clear hb2)
      (try clear hk)
      (try clear hi)
      refine hK.out _ _ ⟨(kcl BK214.out 0).trans rfl, (kcl BK214.out 1).trans rfl⟩ (fun hHeld => ?_)
      clear hK K
      refine norm_ (a' := ?_) ?_ ?_
      rotate_left
      · show Act.put _ (some 43) _ = _
        simp only [Act.put, List.setIfInBounds_toArray, List.set_cons_zero, List.set_cons_succ, i64_w, i32_w]
        rfl
      refine pure_ (i := 7) (N := some 46) (v := ?_) (a' := ?_) (bA 17 255) rfl rfl (any_of HT_.out (by kernel_rfl)) (fun _ _ _ h => h) (Or.inl ⟨by rfl, ?_⟩) ?_ ?_
      rotate_left; (intro w'; go_simp; with_reducible rfl); rotate_left; (simp only [Act.put, List.setIfInBounds_toArray, List.set_cons_zero, List.set_cons_succ, i64_w, i32_w]; rfl)
      refine pure_ (i := 8) (N := some 47) (v := ?_) (a' := ?_) (bA 17 511) rfl rfl (any_of HT_.out (by kernel_rfl)) (fun _ _ _ h => h) (Or.inl ⟨by rfl, ?_⟩) ?_ ?_
      rotate_left; (intro w'; go_simp; with_reducible rfl); rotate_left; (simp only [Act.put, List.setIfInBounds_toArray, List.set_cons_zero, List.set_cons_succ, i64_w, i32_w]; rfl)
      refine pure_ (i := 9) (N := some 48) (v := ?_) (a' := ?_) (bA 17 1023) rfl rfl (any_of HT_.out (by kernel_rfl)) (fun _ _ _ h => h) (Or.inl ⟨by rfl, ?_⟩) ?_ ?_
      rotate_left; (intro w'; go_simp; with_reducible rfl); rotate_left; (simp only [Act.put, List.setIfInBounds_toArray, List.set_cons_zero, List.set_cons_succ, i64_w, i32_w]; rfl)
      refine pure_ (i := 10) (N := some 49) (v := undef) (a' := ?_) (bA 17 2047) rfl rfl (any_of HT_.out (by kernel_rfl)) (fun _ _ _ h => h) (Or.inr ⟨by rfl, rfl⟩) ?_ ?_
      rotate_left; (simp only [Act.put, List.setIfInBounds_toArray, List.set_cons_zero, List.set_cons_succ, i64_w, i32_w]; rfl)
      refine pure_ (i := 11) (N := some 50) (v := undef) (a' := ?_) (bA 17 4095) rfl rfl (any_of HT_.out (by kernel_rfl)) (fun _ _ _ h => h) (Or.inr ⟨by rfl, rfl⟩) ?_ ?_
      rotate_left; (simp only [Act.put, List.setIfInBounds_toArray, List.set_cons_zero, List.set_cons_succ, i64_w, i32_w]; rfl)
      refine pure_ (i := 12) (N := some 51) (v := undef) (a' := ?_) (bA 17 8191) rfl rfl (any_of HT_.out (by kernel_rfl)) (fun _ _ _ h => h) (Or.inr ⟨by rfl, rfl⟩) ?_ ?_
      rotate_left; (simp only [Act.put, List.setIfInBounds_toArray, List.set_cons_zero, List.set_cons_succ, i64_w, i32_w]; rfl)
      refine pure_ (i := 13) (N := some 52) (v := undef) (a' := ?_) (bA 17 16383) rfl rfl (any_of HT_.out (by kernel_rfl)) (fun _ _ _ h => h) (Or.inr ⟨by rfl, rfl⟩) ?_ ?_
      rotate_left; (simp only [Act.put, List.setIfInBounds_toArray, List.set_cons_zero, List.set_cons_succ, i64_w, i32_w]; rfl)
      refine pure_ (i := 14) (N := some 53) (v := undef) (a' := ?_) (bA 17 32767) rfl rfl (any_of HT_.out (by kernel_rfl)) (fun _ _ _ h => h) (Or.inr ⟨by rfl, rfl⟩) ?_ ?_
      rotate_left; (simp only [Act.put, List.setIfInBounds_toArray, List.set_cons_zero, List.set_cons_succ, i64_w, i32_w]; rfl)
      refine pure_ (i := 15) (N := some 54) (v := undef) (a' := ?_) (bA 17 65535) rfl rfl (any_of HT_.out (by kernel_rfl)) (fun _ _ _ h => h) (Or.inr ⟨by rfl, rfl⟩) ?_ ?_
      rotate_left; (simp only [Act.put, List.setIfInBounds_toArray, List.set_cons_zero, List.set_cons_succ, i64_w, i32_w]; rfl)
      refine pure_ (i := 16) (N := some 55) (v := ?_) (a' := ?_) (bA 17 131071) rfl rfl (any_of HT_.out (by kernel_rfl)) (fun _ _ _ h => h) (Or.inl ⟨by rfl, ?_⟩) ?_ ?_
      rotate_left; (intro w'; go_simp; with_reducible rfl); rotate_left; (simp only [Act.put, List.setIfInBounds_toArray, List.set_cons_zero, List.set_cons_succ, i64_w, i32_w]; rfl)
      refine done_ (done_of HT_.out (by kernel_rfl)) ?_
      try go_wp2
      go_ret
      exact ⟨er_, by repeat (first | (with_reducible first | exact HB.out | apply bal | apply bdn | apply bd1 | refine bst ?_ (IsS75.ge HI213.out) | refine bst ?_ GE214.out | refine bst ?_ GE222.out) | exact HB.out)⟩
    rw [if_pos c19] at H
    have c19b0 : (t223 == t218) = true := beq_iff_eq.mpr c19
    have c19b1 : (t223 != t218) = false := bne_eq_false_iff_eq.mpr c19
    clear c19
    replace H := Option.bind_eq_some_iff.mp H
    obtain ⟨⟨t226, t227, t228⟩, A200, H⟩ := H
    replace H : (if t226 = (t217.size : Int) then (armoirelaw02_CodecTakes.l0 k1 l1 (wrap64 (x7_1 + 1)) t227 t228 t217 t218) else (some false)) = some r := H
    have A20 := Aside0.mk A200
    clear A200
    have HS21 := Aside0.mk H
    clear H
    try go_wp2
    have n0_ := Aside0.mk (kdw BK214.out)
    have n1_ := Aside0.mk (IsS75.drew HI213.out)
    have n2_ := Aside0.mk (bd1 HB.out)
    clear BK214
    clear HI213
    clear HB
    have BK214 := n0_
    have HI213 := n1_
    have HB := n2_
    clear n0_ n1_ n2_
    have p216 : 0 ≤ (x7_1 : Int) := of_decide_eq_true (by first | (with_reducible assumption) | assumption)
    have q216 : x7_1 < (l1.length : Int) := of_decide_eq_true (by first | (with_reducible assumption) | assumption)
    obtain ⟨ad216, e216, hx216_0, hx216_1⟩ := at_T43 HR1.out x7_1 p216 q216
    have hw216_1 := hx216_1
    have hw216_0 := hx216_0
    cases e216
    replace hx216_0 := (HB.out.cell (World.block_lt_of_cell? w _ hx216_0)).trans hx216_0
    replace hx216_1 := (HB.out.cell (World.block_lt_of_cell? w _ hx216_1)).trans hx216_1
    replace p216 := eq_true p216
    replace q216 := eq_true q216
    refine start_ (n := 13) (S := fun w' => w'.cell? ⟨gb214, 0, none⟩ = some (.string x215000_1) ∧ w'.cell? ⟨gb214, 1, none⟩ = some (.int .i64 x215001_1) ∧ w'.cell? (ad216.add ((x7_1).toNat * 2)) = some (.int .i64 ((rd_T43 l1 x7_1).f0)) ∧ w'.cell? ⟨(ad216.add ((x7_1).toNat * 2)).block, (ad216.add ((x7_1).toNat * 2)).off + 1, none⟩ = some (.int .i64 ((rd_T43 l1 x7_1).f1))) (ds := []) #[false,false,false,false,false,false,false,false,false,false,false,false,false] (by kernel_rfl) rfl rfl ⟨(kcl BK214.out 0).trans rfl, (kcl BK214.out 1).trans rfl, ((HB.out.cell (World.block_lt_of_cell? w _ hw216_0)).trans hw216_0), ((HB.out.cell (World.block_lt_of_cell? w _ hw216_1)).trans hw216_1)⟩ (fun hHeld => ?_); refine with_tabW armoirelaw02_CodecTakes.tab9 armoirelaw02_CodecTakes.bits9 (fun HT_ HW_ => ?_)
    generalize wr.drew = w22 at BK214 HI213 HB hx216_0 hx216_1 hHeld ⊢
    refine pure_ (i := 0) (N := some 29) (v := ?_) (a' := ?_) (bA 13 1) rfl rfl (any_of HT_.out (by kernel_rfl)) (fun _ _ _ h => h) (Or.inl ⟨by rfl, ?_⟩) ?_ ?_
    rotate_left; (intro w'; go_simp; with_reducible rfl); rotate_left; (simp only [Act.put, List.setIfInBounds_toArray, List.set_cons_zero, List.set_cons_succ, i64_w, i32_w]; rfl)
    refine pure_ (i := 2) (N := some 31) (v := ?_) (a' := ?_) (bA 13 5) rfl rfl (any_of HT_.out (by kernel_rfl)) (fun _ _ _ h => h) (Or.inl ⟨by rfl, ?_⟩) ?_ ?_
    rotate_left; (intro w'; go_simp; with_reducible rfl); rotate_left; (simp only [Act.put, List.setIfInBounds_toArray, List.set_cons_zero, List.set_cons_succ, i64_w, i32_w]; rfl)
    refine pure_ (i := 3) (N := some 32) (v := ?_) (a' := ?_) (bA 13 13) rfl rfl (any_of HT_.out (by kernel_rfl)) (fun _ _ _ h => h) (Or.inl ⟨by rfl, ?_⟩) ?_ ?_
    rotate_left; (intro w'; go_simp; with_reducible rfl); rotate_left; (simp only [Act.put, List.setIfInBounds_toArray, List.set_cons_zero, List.set_cons_succ, i64_w, i32_w]; rfl)
    refine pure_ (i := 4) (N := some 33) (v := ?_) (a' := ?_) (bA 13 29) rfl rfl (any_of HT_.out (by kernel_rfl)) (fun _ _ _ h => h) (Or.inl ⟨by rfl, ?_⟩) ?_ ?_
    rotate_left; (intro w'; go_simp; with_reducible rfl); rotate_left; (simp only [Act.put, List.setIfInBounds_toArray, List.set_cons_zero, List.set_cons_succ, i64_w, i32_w]; rfl)
    refine take_ (i := 1) (N := some 30) (v := ?_) (a' := ?_) #[true,true,true,true,true,false,false,false,false,false,false,false,false] rfl rfl (tkw HT_.out HW_.out (by kernel_rfl)) (fun _ _ _ h => h) (Or.inl ⟨by rfl, ?_⟩) hHeld ?_ ?_
    rotate_left
    · rintro w' ⟨s0, s1, s2, s3⟩
      go_simp
      with_reducible rfl
    rotate_left; (simp only [Act.put, List.setIfInBounds_toArray, List.set_cons_zero, List.set_cons_succ, i64_w, i32_w]; rfl)
    refine take_ (i := 5) (N := some 34) (v := ?_) (a' := ?_) #[true,true,true,true,true,true,false,false,false,false,false,false,false] rfl rfl (tkw HT_.out HW_.out (by kernel_rfl)) (fun _ _ _ h => h) (Or.inl ⟨by rfl, ?_⟩) hHeld ?_ ?_
    rotate_left
    · rintro w' ⟨s0, s1, s2, s3⟩
      go_simp
      with_reducible rfl
    rotate_left; (simp only [Act.put, List.setIfInBounds_toArray, List.set_cons_zero, List.set_cons_succ, i64_w, i32_w]; rfl)
    refine join_ (σ := Nat) 2 #[true,true,true,true,true,true,true,true,true,true,true,false,false] (fun s_ => [(35, .tuple #[.agg #[.string t217, .int .i64 t218], .bool true]), (8, .pointer (some ⟨s_, 0, none⟩)), (28, .tuple #[.agg #[.string t217, .int .i64 t218], .bool true]), (36, .agg #[.string t217, .int .i64 t218]), (37, .bool true)]) (fun s_ w' => (w'.cell? ⟨gb214, 0, none⟩ = some (.string x215000_1) ∧ w'.cell? ⟨gb214, 1, none⟩ = some (.int .i64 x215001_1) ∧ w'.cell? (ad216.add ((x7_1).toNat * 2)) = some (.int .i64 ((rd_T43 l1 x7_1).f0)) ∧ w'.cell? ⟨(ad216.add ((x7_1).toNat * 2)).block, (ad216.add ((x7_1).toNat * 2)).off + 1, none⟩ = some (.int .i64 ((rd_T43 l1 x7_1).f1))) ∧ (w'.heap[gb214]? = some (.cells #[.string x215000_1, .int .i64 x215001_1] 39 (0, 0))) ∧ (w'.heap[s_]? = some (.cells #[.string (⟨#[]⟩ : ByteArray), .int .i64 0] 39 (0, 0))) ∧ (w.heap.size ≤ s_) ∧ (w.heap.size ≤ s_) ∧ (g213 ≠ s_) ∧ (s_ ≠ g213) ∧ (gb214 ≠ s_) ∧ (s_ ≠ gb214) ∧ (IsS75 w w' g213 t220 t221) ∧ (Below w.heap.size w w')) ?_ ?_
    rotate_left
    · intro hCont
      refine two_ (i := 6) (j := 10) (Ni := some 35) (Nj := some 8) #[true,true,true,true,true,true,true,false,false,false,false,false,false] #[true,true,true,true,true,true,false,false,false,false,true,false,false] rfl rfl rfl rfl (two_of HT_.out (by kernel_rfl)) (by decide) (by decide) (fun K hK => ?_) (fun K hK => ?_)
      · skip
        refine goes_ Tryd.func19 (by kernel_rfl) rfl #[.pointer (some ⟨g213, 0, none⟩), .agg #[.string x215000_1, .int .i64 x215001_1], .agg #[.int .i64 ((rd_T43 l1 x7_1).f0), .int .i64 ((rd_T43 l1 x7_1).f1)]] (by rfl) rfl rfl (by (try simp only [List.map_toArray, List.map_cons, List.map_nil]); first | done | rfl | (simp only [List.length_drop, List.length_take]; rfl) | (simp only [Act.eval, Array.getD_eq_getD_getElem?, Option.getD_some, *]; done) | (simp only [Array.mk.injEq, List.cons.injEq, Value.int.injEq, true_and, and_true]; first | omega | (simp [IntKind.wrap, IntKind.bits, IntKind.signed]; omega))) ?_
        with_reducible refine (armoirelaw02_take.calls k1 g213 x214000_1 x214001_1 x215000_1 x215001_1 ((rd_T43 l1 x7_1).f0) ((rd_T43 l1 x7_1).f1) t217 t218 true t220 t221 w _ ?side1 ?side2 A16.out).mono ?_
        (case side1 => repeat (first | (with_reducible first | exact HI213.out | apply IsS75.alloc | apply IsS75.drewN | apply IsS75.drew | apply IsS75.set_0 | apply IsS75.set_1 | refine IsS75.far ?_ NB213_214.out _) | exact HI213.out))
        (case side2 => repeat (first | (with_reducible first | exact HB.out | apply bal | apply bdn | apply bd1 | refine bst ?_ (IsS75.ge HI213.out) | refine bst ?_ GE214.out) | exact HB.out))
        rintro e w23 ⟨rfl, hi, hb, hk⟩
        refine ⟨_, rfl, ?_⟩
        have n0_ := Aside0.mk (KeepBut.blk hk (g' := gb214) (o := .cells #[.string x215000_1, .int .i64 x215001_1] 39 (0, 0)) bk_ NB214_213.out (by simp))
        have n1_ := Aside0.mk (hb)
        have n2_ := Aside0.mk (hi)
        clear BK214
        clear HB
        clear HI213
        have BK214 := n0_
        have HB := n1_
        have HI213 := n2_
        clear n0_ n1_ n2_
        (try clear hb)
        (try clear hb2)
        (try clear hk)
        (try clear hi)
        refine hK.out _ _ ⟨(kcl BK214.out 0).trans rfl, (kcl BK214.out 1).trans rfl, ((HB.out.cell (World.block_lt_of_cell? w _ hw216_0)).trans hw216_0), ((HB.out.cell (World.block_lt_of_cell? w _ hw216_1)).trans hw216_1)⟩ (fun hHeld => ?_)
        clear hK K
        refine norm_ (a' := ?_) ?_ ?_
        rotate_left
        · show Act.put _ (some 35) _ = _
          simp only [Act.put, List.setIfInBounds_toArray, List.set_cons_zero, List.set_cons_succ, i64_w, i32_w]
          rfl
        refine pure_ (i := 7) (N := some 28) (v := ?_) (a' := ?_) (bA 13 255) rfl rfl (any_of HT_.out (by kernel_rfl)) (fun _ _ _ h => h) (Or.inl ⟨by rfl, ?_⟩) ?_ ?_
        rotate_left; (intro w'; go_simp; with_reducible rfl); rotate_left; (simp only [Act.put, List.setIfInBounds_toArray, List.set_cons_zero, List.set_cons_succ, i64_w, i32_w]; rfl)
        refine pure_ (i := 8) (N := some 36) (v := ?_) (a' := ?_) (bA 13 511) rfl rfl (any_of HT_.out (by kernel_rfl)) (fun _ _ _ h => h) (Or.inl ⟨by rfl, ?_⟩) ?_ ?_
        rotate_left; (intro w'; go_simp; with_reducible rfl); rotate_left; (simp only [Act.put, List.setIfInBounds_toArray, List.set_cons_zero, List.set_cons_succ, i64_w, i32_w]; rfl)
        refine pure_ (i := 9) (N := some 37) (v := ?_) (a' := ?_) (bA 13 1023) rfl rfl (any_of HT_.out (by kernel_rfl)) (fun _ _ _ h => h) (Or.inl ⟨by rfl, ?_⟩) ?_ ?_
        rotate_left; (intro w'; go_simp; with_reducible rfl); rotate_left; (simp only [Act.put, List.setIfInBounds_toArray, List.set_cons_zero, List.set_cons_succ, i64_w, i32_w]; rfl)
        refine one_ (i := 10) (N := some 8) #[true,true,true,true,true,true,true,true,true,true,true,false,false] rfl rfl (one_of HT_.out (by kernel_rfl)) (by decide) (fun K hK => ?_)
        refine box_step ?hg (N := 8) ?hd (cs := #[.string (⟨#[]⟩ : ByteArray), .int .i64 0]) (t := 39) ?hr ?_; (case hd => rfl); (case hg => rfl); (case hr => first | (go_simp; done) | (go_simp; rfl))
        intro gb222 hg w24 hbox hb
        have n0_ := Aside0.mk (kbl (g := gb214) (o := .cells #[.string x215000_1, .int .i64 x215001_1] 39 (0, 0)) bk_ hb)
        have n1_ := Aside0.mk (IsS75.below (by repeat (first | (with_reducible first | exact HI213.out | apply IsS75.alloc | apply IsS75.drewN | apply IsS75.drew | apply IsS75.set_0 | apply IsS75.set_1 | refine IsS75.far ?_ NB213_214.out _) | exact HI213.out)) hb)
        have n2_ := Aside0.mk (bsp (by repeat (first | (with_reducible first | exact HB.out | apply bal | apply bdn | apply bd1 | refine bst ?_ (IsS75.ge HI213.out) | refine bst ?_ GE214.out) | exact HB.out)) hb)
        have n3_ := Aside0.mk (hbox)
        have n4_ := Aside0.mk ((by rw [hg]; exact (bsz (by repeat (first | (with_reducible first | exact HB.out | apply bal | apply bdn | apply bd1 | refine bst ?_ (IsS75.ge HI213.out) | refine bst ?_ GE214.out) | exact HB.out))) : w.heap.size ≤ gb222))
        have n5_ := Aside0.mk ((by rw [hg]; exact (bsz (by repeat (first | (with_reducible first | exact HB.out | apply bal | apply bdn | apply bd1 | refine bst ?_ (IsS75.ge HI213.out) | refine bst ?_ GE214.out) | exact HB.out))) : w.heap.size ≤ gb222))
        have n6_ := Aside0.mk ((by rw [hg]; exact Nat.ne_of_lt (blk_lt (g := gb214) (o := .cells #[.string x215000_1, .int .i64 x215001_1] 39 (0, 0)) bk_) : gb214 ≠ gb222))
        have n7_ := Aside0.mk ((by rw [hg]; exact Nat.ne_of_gt (blk_lt (g := gb214) (o := .cells #[.string x215000_1, .int .i64 x215001_1] 39 (0, 0)) bk_) : gb222 ≠ gb214))
        have n8_ := Aside0.mk ((by rw [hg]; exact Nat.ne_of_lt (IsS75.lt (show IsS75 w _ g213 t220 t221 from by repeat (first | (with_reducible first | exact HI213.out | apply IsS75.alloc | apply IsS75.drewN | apply IsS75.drew | apply IsS75.set_0 | apply IsS75.set_1 | refine IsS75.far ?_ NB213_214.out _) | exact HI213.out))) : g213 ≠ gb222))
        have n9_ := Aside0.mk ((by rw [hg]; exact Nat.ne_of_gt (IsS75.lt (show IsS75 w _ g213 t220 t221 from by repeat (first | (with_reducible first | exact HI213.out | apply IsS75.alloc | apply IsS75.drewN | apply IsS75.drew | apply IsS75.set_0 | apply IsS75.set_1 | refine IsS75.far ?_ NB213_214.out _) | exact HI213.out))) : gb222 ≠ g213))
        clear BK214
        clear HI213
        clear HB
        have BK214 := n0_
        have HI213 := n1_
        have HB := n2_
        have BK222 := n3_
        have GW222 := n4_
        have GE222 := n5_
        have NB214_222 := n6_
        have NB222_214 := n7_
        have NB213_222 := n8_
        have NB222_213 := n9_
        clear n0_ n1_ n2_ n3_ n4_ n5_ n6_ n7_ n8_ n9_
        clear hb hbox hg
        refine hK.out _ _ ⟨(kcl BK214.out 0).trans rfl, (kcl BK214.out 1).trans rfl, ((HB.out.cell (World.block_lt_of_cell? w _ hw216_0)).trans hw216_0), ((HB.out.cell (World.block_lt_of_cell? w _ hw216_1)).trans hw216_1)⟩ (fun hHeld => ?_)
        clear hK K
        refine norm_ (a' := ?_) ?_ ?_
        rotate_left
        · show Act.put _ (some 8) _ = _
          simp only [Act.put, List.setIfInBounds_toArray, List.set_cons_zero, List.set_cons_succ, i64_w, i32_w]
          rfl
        exact norm_ (by simp only [putAll, Act.put, List.setIfInBounds_toArray, List.set_cons_zero, List.set_cons_succ]) (hCont (gb222) _ ⟨hHeld, bk_, bk_, GW222.out, GE222.out, NB213_222.out, NB222_213.out, NB214_222.out, NB222_214.out, (by repeat (first | (with_reducible first | exact HI213.out | apply IsS75.alloc | apply IsS75.drewN | apply IsS75.drew | apply IsS75.set_0 | apply IsS75.set_1 | refine IsS75.far ?_ NB213_214.out _ | refine IsS75.far ?_ NB213_222.out _) | exact HI213.out)), (by repeat (first | (with_reducible first | exact HB.out | apply bal | apply bdn | apply bd1 | refine bst ?_ (IsS75.ge HI213.out) | refine bst ?_ GE214.out | refine bst ?_ GE222.out) | exact HB.out))⟩)
      · skip
        refine box_step ?hg (N := 8) ?hd (cs := #[.string (⟨#[]⟩ : ByteArray), .int .i64 0]) (t := 39) ?hr ?_; (case hd => rfl); (case hg => rfl); (case hr => first | (go_simp; done) | (go_simp; rfl))
        intro gb222 hg w23 hbox hb
        have n0_ := Aside0.mk (kbl (g := gb214) (o := .cells #[.string x215000_1, .int .i64 x215001_1] 39 (0, 0)) bk_ hb)
        have n1_ := Aside0.mk (IsS75.below (by repeat (first | (with_reducible first | exact HI213.out | apply IsS75.alloc | apply IsS75.drewN | apply IsS75.drew | apply IsS75.set_0 | apply IsS75.set_1 | refine IsS75.far ?_ NB213_214.out _) | exact HI213.out)) hb)
        have n2_ := Aside0.mk (bsp (by repeat (first | (with_reducible first | exact HB.out | apply bal | apply bdn | apply bd1 | refine bst ?_ (IsS75.ge HI213.out) | refine bst ?_ GE214.out) | exact HB.out)) hb)
        have n3_ := Aside0.mk (hbox)
        have n4_ := Aside0.mk ((by rw [hg]; exact (bsz (by repeat (first | (with_reducible first | exact HB.out | apply bal | apply bdn | apply bd1 | refine bst ?_ (IsS75.ge HI213.out) | refine bst ?_ GE214.out) | exact HB.out))) : w.heap.size ≤ gb222))
        have n5_ := Aside0.mk ((by rw [hg]; exact (bsz (by repeat (first | (with_reducible first | exact HB.out | apply bal | apply bdn | apply bd1 | refine bst ?_ (IsS75.ge HI213.out) | refine bst ?_ GE214.out) | exact HB.out))) : w.heap.size ≤ gb222))
        have n6_ := Aside0.mk ((by rw [hg]; exact Nat.ne_of_lt (blk_lt (g := gb214) (o := .cells #[.string x215000_1, .int .i64 x215001_1] 39 (0, 0)) bk_) : gb214 ≠ gb222))
        have n7_ := Aside0.mk ((by rw [hg]; exact Nat.ne_of_gt (blk_lt (g := gb214) (o := .cells #[.string x215000_1, .int .i64 x215001_1] 39 (0, 0)) bk_) : gb222 ≠ gb214))
        have n8_ := Aside0.mk ((by rw [hg]; exact Nat.ne_of_lt (IsS75.lt (show IsS75 w _ g213 x214000_1 x214001_1 from by repeat (first | (with_reducible first | exact HI213.out | apply IsS75.alloc | apply IsS75.drewN | apply IsS75.drew | apply IsS75.set_0 | apply IsS75.set_1 | refine IsS75.far ?_ NB213_214.out _) | exact HI213.out))) : g213 ≠ gb222))
        have n9_ := Aside0.mk ((by rw [hg]; exact Nat.ne_of_gt (IsS75.lt (show IsS75 w _ g213 x214000_1 x214001_1 from by repeat (first | (with_reducible first | exact HI213.out | apply IsS75.alloc | apply IsS75.drewN | apply IsS75.drew | apply IsS75.set_0 | apply IsS75.set_1 | refine IsS75.far ?_ NB213_214.out _) | exact HI213.out))) : gb222 ≠ g213))
        clear BK214
        clear HI213
        clear HB
        have BK214 := n0_
        have HI213 := n1_
        have HB := n2_
        have BK222 := n3_
        have GW222 := n4_
        have GE222 := n5_
        have NB214_222 := n6_
        have NB222_214 := n7_
        have NB213_222 := n8_
        have NB222_213 := n9_
        clear n0_ n1_ n2_ n3_ n4_ n5_ n6_ n7_ n8_ n9_
        clear hb hbox hg
        refine hK.out _ _ ⟨(kcl BK214.out 0).trans rfl, (kcl BK214.out 1).trans rfl, ((HB.out.cell (World.block_lt_of_cell? w _ hw216_0)).trans hw216_0), ((HB.out.cell (World.block_lt_of_cell? w _ hw216_1)).trans hw216_1)⟩ (fun hHeld => ?_)
        clear hK K
        refine norm_ (a' := ?_) ?_ ?_
        rotate_left
        · show Act.put _ (some 8) _ = _
          simp only [Act.put, List.setIfInBounds_toArray, List.set_cons_zero, List.set_cons_succ, i64_w, i32_w]
          rfl
        refine one_ (i := 6) (N := some 35) #[true,true,true,true,true,true,true,false,false,false,true,false,false] rfl rfl (one_of HT_.out (by kernel_rfl)) (by decide) (fun K hK => ?_)
        refine goes_ Tryd.func19 (by kernel_rfl) rfl #[.pointer (some ⟨g213, 0, none⟩), .agg #[.string x215000_1, .int .i64 x215001_1], .agg #[.int .i64 ((rd_T43 l1 x7_1).f0), .int .i64 ((rd_T43 l1 x7_1).f1)]] (by rfl) rfl rfl (by (try simp only [List.map_toArray, List.map_cons, List.map_nil]); first | done | rfl | (simp only [List.length_drop, List.length_take]; rfl) | (simp only [Act.eval, Array.getD_eq_getD_getElem?, Option.getD_some, *]; done) | (simp only [Array.mk.injEq, List.cons.injEq, Value.int.injEq, true_and, and_true]; first | omega | (simp [IntKind.wrap, IntKind.bits, IntKind.signed]; omega))) ?_
        with_reducible refine (armoirelaw02_take.calls k1 g213 x214000_1 x214001_1 x215000_1 x215001_1 ((rd_T43 l1 x7_1).f0) ((rd_T43 l1 x7_1).f1) t217 t218 true t220 t221 w _ ?side1 ?side2 A16.out).mono ?_
        (case side1 => repeat (first | (with_reducible first | exact HI213.out | apply IsS75.alloc | apply IsS75.drewN | apply IsS75.drew | apply IsS75.set_0 | apply IsS75.set_1 | refine IsS75.far ?_ NB213_214.out _ | refine IsS75.far ?_ NB213_222.out _) | exact HI213.out))
        (case side2 => repeat (first | (with_reducible first | exact HB.out | apply bal | apply bdn | apply bd1 | refine bst ?_ (IsS75.ge HI213.out) | refine bst ?_ GE214.out | refine bst ?_ GE222.out) | exact HB.out))
        rintro e w24 ⟨rfl, hi, hb, hk⟩
        refine ⟨_, rfl, ?_⟩
        have n0_ := Aside0.mk (KeepBut.blk hk (g' := gb214) (o := .cells #[.string x215000_1, .int .i64 x215001_1] 39 (0, 0)) bk_ NB214_213.out (by simp))
        have n1_ := Aside0.mk (KeepBut.blk hk (g' := gb222) (o := .cells #[.string (⟨#[]⟩ : ByteArray), .int .i64 0] 39 (0, 0)) bk_ NB222_213.out (by simp))
        have n2_ := Aside0.mk (hb)
        have n3_ := Aside0.mk (hi)
        clear BK214
        clear BK222
        clear HB
        clear HI213
        have BK214 := n0_
        have BK222 := n1_
        have HB := n2_
        have HI213 := n3_
        clear n0_ n1_ n2_ n3_
        (try clear hb)
        (try clear hb2)
        (try clear hk)
        (try clear hi)
        refine hK.out _ _ ⟨(kcl BK214.out 0).trans rfl, (kcl BK214.out 1).trans rfl, ((HB.out.cell (World.block_lt_of_cell? w _ hw216_0)).trans hw216_0), ((HB.out.cell (World.block_lt_of_cell? w _ hw216_1)).trans hw216_1)⟩ (fun hHeld => ?_)
        clear hK K
        refine norm_ (a' := ?_) ?_ ?_
        rotate_left
        · show Act.put _ (some 35) _ = _
          simp only [Act.put, List.setIfInBounds_toArray, List.set_cons_zero, List.set_cons_succ, i64_w, i32_w]
          rfl
        refine pure_ (i := 7) (N := some 28) (v := ?_) (a' := ?_) (bA 13 1279) rfl rfl (any_of HT_.out (by kernel_rfl)) (fun _ _ _ h => h) (Or.inl ⟨by rfl, ?_⟩) ?_ ?_
        rotate_left; (intro w'; go_simp; with_reducible rfl); rotate_left; (simp only [Act.put, List.setIfInBounds_toArray, List.set_cons_zero, List.set_cons_succ, i64_w, i32_w]; rfl)
        refine pure_ (i := 8) (N := some 36) (v := ?_) (a' := ?_) (bA 13 1535) rfl rfl (any_of HT_.out (by kernel_rfl)) (fun _ _ _ h => h) (Or.inl ⟨by rfl, ?_⟩) ?_ ?_
        rotate_left; (intro w'; go_simp; with_reducible rfl); rotate_left; (simp only [Act.put, List.setIfInBounds_toArray, List.set_cons_zero, List.set_cons_succ, i64_w, i32_w]; rfl)
        refine pure_ (i := 9) (N := some 37) (v := ?_) (a' := ?_) (bA 13 2047) rfl rfl (any_of HT_.out (by kernel_rfl)) (fun _ _ _ h => h) (Or.inl ⟨by rfl, ?_⟩) ?_ ?_
        rotate_left; (intro w'; go_simp; with_reducible rfl); rotate_left; (simp only [Act.put, List.setIfInBounds_toArray, List.set_cons_zero, List.set_cons_succ, i64_w, i32_w]; rfl)
        exact norm_ (by simp only [putAll, Act.put, List.setIfInBounds_toArray, List.set_cons_zero, List.set_cons_succ]) (hCont (gb222) _ ⟨hHeld, bk_, bk_, GW222.out, GE222.out, NB213_222.out, NB222_213.out, NB214_222.out, NB222_214.out, (by repeat (first | (with_reducible first | exact HI213.out | apply IsS75.alloc | apply IsS75.drewN | apply IsS75.drew | apply IsS75.set_0 | apply IsS75.set_1 | refine IsS75.far ?_ NB213_214.out _ | refine IsS75.far ?_ NB213_222.out _) | exact HI213.out)), (by repeat (first | (with_reducible first | exact HB.out | apply bal | apply bdn | apply bd1 | refine bst ?_ (IsS75.ge HI213.out) | refine bst ?_ GE214.out | refine bst ?_ GE222.out) | exact HB.out))⟩)
    rintro gb222 w25 ⟨hS_, h0_, h1_, h2_, h3_, h4_, h5_, h6_, h7_, h8_, h9_⟩
    have n0_ : Aside0 (w25.heap[gb214]? = some (.cells #[.string x215000_1, .int .i64 x215001_1] 39 (0, 0))) := ⟨h0_⟩
    have n1_ : Aside0 (w25.heap[gb222]? = some (.cells #[.string (⟨#[]⟩ : ByteArray), .int .i64 0] 39 (0, 0))) := ⟨h1_⟩
    have n2_ : Aside0 (w.heap.size ≤ gb222) := ⟨h2_⟩
    have n3_ : Aside0 (w.heap.size ≤ gb222) := ⟨h3_⟩
    have n4_ : Aside0 (g213 ≠ gb222) := ⟨h4_⟩
    have n5_ : Aside0 (gb222 ≠ g213) := ⟨h5_⟩
    have n6_ : Aside0 (gb214 ≠ gb222) := ⟨h6_⟩
    have n7_ : Aside0 (gb222 ≠ gb214) := ⟨h7_⟩
    have n8_ : Aside0 (IsS75 w w25 g213 t220 t221) := ⟨h8_⟩
    have n9_ : Aside0 (Below w.heap.size w w25) := ⟨h9_⟩
    clear BK214
    clear HI213
    clear HB
    clear h0_ h1_ h2_ h3_ h4_ h5_ h6_ h7_ h8_ h9_
    have BK214 := n0_
    have BK222 := n1_
    have GW222 := n2_
    have GE222 := n3_
    have NB213_222 := n4_
    have NB222_213 := n5_
    have NB214_222 := n6_
    have NB222_214 := n7_
    have HI213 := n8_
    have HB := n9_
    clear n0_ n1_ n2_ n3_ n4_ n5_ n6_ n7_ n8_ n9_
    have hHeld : w25.cell? ⟨gb214, 0, none⟩ = some (.string x215000_1) ∧ w25.cell? ⟨gb214, 1, none⟩ = some (.int .i64 x215001_1) ∧ w25.cell? (ad216.add ((x7_1).toNat * 2)) = some (.int .i64 ((rd_T43 l1 x7_1).f0)) ∧ w25.cell? ⟨(ad216.add ((x7_1).toNat * 2)).block, (ad216.add ((x7_1).toNat * 2)).off + 1, none⟩ = some (.int .i64 ((rd_T43 l1 x7_1).f1)) := hS_
    refine norm_ (a' := ?_) ?_ ?_
    rotate_left; (simp only [putAll, Act.put, List.setIfInBounds_toArray, List.set_cons_zero, List.set_cons_succ]; rfl)
    refine one_ (i := 11) (N := none) #[true,true,true,true,true,true,true,true,true,true,true,true,false] rfl rfl (one_of HT_.out (by kernel_rfl)) (by decide) (fun K hK => ?_)
    have hs26 : w25.cell? ⟨gb222, 0, none⟩ = some (.string (⟨#[]⟩ : ByteArray)) := (kcl BK222.out 0).trans rfl
    have hfs26 := kfr BK222.out 0
    have hns26_0 := NB214_222.out
    have hms26_0 := NB222_214.out
    have hs27 : w25.cell? ⟨gb222, 1, none⟩ = some (.int .i64 0) := (kcl BK222.out 1).trans rfl
    have hfs27 := kfr BK222.out 1
    have hns27_0 := NB214_222.out
    have hms27_0 := NB222_214.out
    refine skip_ (w1 := ?_) (by rfl) rfl ?_ ?_
    rotate_left
    · go_simp
      rfl
    refine hK.out _ _ ⟨((cell_far (p := ⟨gb222, _, none⟩) NB214_222.out _).trans (((cell_far (p := ⟨gb222, _, none⟩) NB214_222.out _).trans (hHeld.1)))), ((cell_far (p := ⟨gb222, _, none⟩) NB214_222.out _).trans (((cell_far (p := ⟨gb222, _, none⟩) NB214_222.out _).trans (hHeld.2.1)))), ((cell_far (p := ⟨gb222, _, none⟩) (by first | exact Nat.ne_of_lt (Nat.lt_of_lt_of_le (by have := World.block_lt_of_cell? _ _ hw216_0; first | rwa [add_block] at this | exact this) GW222.out) | (rw [add_block]; exact Nat.ne_of_lt (Nat.lt_of_lt_of_le (by have := World.block_lt_of_cell? _ _ hw216_0; first | rwa [add_block] at this | exact this) GW222.out)) | (show (Addr.add _ _).block ≠ _; rw [add_block]; exact Nat.ne_of_lt (Nat.lt_of_lt_of_le (by have := World.block_lt_of_cell? _ _ hw216_0; first | rwa [add_block] at this | exact this) GW222.out)) | (dsimp only; exact Nat.ne_of_lt (Nat.lt_of_lt_of_le (by have := World.block_lt_of_cell? _ _ hw216_0; first | rwa [add_block] at this | exact this) GW222.out))) _).trans (((cell_far (p := ⟨gb222, _, none⟩) (by first | exact Nat.ne_of_lt (Nat.lt_of_lt_of_le (by have := World.block_lt_of_cell? _ _ hw216_0; first | rwa [add_block] at this | exact this) GW222.out) | (rw [add_block]; exact Nat.ne_of_lt (Nat.lt_of_lt_of_le (by have := World.block_lt_of_cell? _ _ hw216_0; first | rwa [add_block] at this | exact this) GW222.out)) | (show (Addr.add _ _).block ≠ _; rw [add_block]; exact Nat.ne_of_lt (Nat.lt_of_lt_of_le (by have := World.block_lt_of_cell? _ _ hw216_0; first | rwa [add_block] at this | exact this) GW222.out)) | (dsimp only; exact Nat.ne_of_lt (Nat.lt_of_lt_of_le (by have := World.block_lt_of_cell? _ _ hw216_0; first | rwa [add_block] at this | exact this) GW222.out))) _).trans (hHeld.2.2.1)))), ((cell_far (p := ⟨gb222, _, none⟩) (by first | exact Nat.ne_of_lt (Nat.lt_of_lt_of_le (by have := World.block_lt_of_cell? _ _ hw216_1; first | rwa [add_block] at this | exact this) GW222.out) | (rw [add_block]; exact Nat.ne_of_lt (Nat.lt_of_lt_of_le (by have := World.block_lt_of_cell? _ _ hw216_1; first | rwa [add_block] at this | exact this) GW222.out)) | (show (Addr.add _ _).block ≠ _; rw [add_block]; exact Nat.ne_of_lt (Nat.lt_of_lt_of_le (by have := World.block_lt_of_cell? _ _ hw216_1; first | rwa [add_block] at this | exact this) GW222.out)) | (dsimp only; exact Nat.ne_of_lt (Nat.lt_of_lt_of_le (by have := World.block_lt_of_cell? _ _ hw216_1; first | rwa [add_block] at this | exact this) GW222.out))) _).trans (((cell_far (p := ⟨gb222, _, none⟩) (by first | exact Nat.ne_of_lt (Nat.lt_of_lt_of_le (by have := World.block_lt_of_cell? _ _ hw216_1; first | rwa [add_block] at this | exact this) GW222.out) | (rw [add_block]; exact Nat.ne_of_lt (Nat.lt_of_lt_of_le (by have := World.block_lt_of_cell? _ _ hw216_1; first | rwa [add_block] at this | exact this) GW222.out)) | (show (Addr.add _ _).block ≠ _; rw [add_block]; exact Nat.ne_of_lt (Nat.lt_of_lt_of_le (by have := World.block_lt_of_cell? _ _ hw216_1; first | rwa [add_block] at this | exact this) GW222.out)) | (dsimp only; exact Nat.ne_of_lt (Nat.lt_of_lt_of_le (by have := World.block_lt_of_cell? _ _ hw216_1; first | rwa [add_block] at this | exact this) GW222.out))) _).trans (hHeld.2.2.2))))⟩ (fun hHeld => ?_)
    clear hK K
    refine pure_ (i := 12) (N := some 9) (v := ?_) (a' := ?_) (bA 13 8191) rfl rfl (any_of HT_.out (by kernel_rfl)) (fun _ _ _ h => h) (Or.inl ⟨by rfl, ?_⟩) ?_ ?_
    rotate_left; (intro w'; go_simp; with_reducible rfl); rotate_left; (simp only [Act.put, List.setIfInBounds_toArray, List.set_cons_zero, List.set_cons_succ, i64_w, i32_w]; rfl)
    refine done_ (done_of HT_.out (by kernel_rfl)) ?_
    have hnb28 := NB222_214.out
    have hnc28 := NB214_222.out
    have hnb29 := NB222_213.out
    have hnc29 := NB213_222.out
    have hcz30 := bc2 BK222.out
    have hnb31 := NB214_213.out
    have hnc31 := NB213_214.out
    have hcz32 := bc2 BK214.out
    try go_wp2
    have n0_ : Aside0 (((((w25.setCell ⟨gb222, 0, none⟩ (.string t217)).setCell ⟨gb222, 1, none⟩ (.int .i64 t218)).setCell ⟨gb214, 0, none⟩ (.string t217)).setCell ⟨gb214, 1, none⟩ (.int .i64 t218)).heap[gb214]? = some (.cells #[.string t217, .int .i64 t218] 39 (0, 0))) := ⟨bk_⟩
    have n1_ : Aside0 (((((w25.setCell ⟨gb222, 0, none⟩ (.string t217)).setCell ⟨gb222, 1, none⟩ (.int .i64 t218)).setCell ⟨gb214, 0, none⟩ (.string t217)).setCell ⟨gb214, 1, none⟩ (.int .i64 t218)).heap[gb222]? = some (.cells #[.string t217, .int .i64 t218] 39 (0, 0))) := ⟨bk_⟩
    have n2_ : Aside0 (IsS75 w ((((w25.setCell ⟨gb222, 0, none⟩ (.string t217)).setCell ⟨gb222, 1, none⟩ (.int .i64 t218)).setCell ⟨gb214, 0, none⟩ (.string t217)).setCell ⟨gb214, 1, none⟩ (.int .i64 t218)) g213 t220 t221) := ⟨by repeat (first | (with_reducible first | exact HI213.out | apply IsS75.alloc | apply IsS75.drewN | apply IsS75.drew | apply IsS75.set_0 | apply IsS75.set_1 | refine IsS75.far ?_ NB213_214.out _ | refine IsS75.far ?_ NB213_222.out _) | exact HI213.out)⟩
    have n3_ : Aside0 (Below w.heap.size w ((((w25.setCell ⟨gb222, 0, none⟩ (.string t217)).setCell ⟨gb222, 1, none⟩ (.int .i64 t218)).setCell ⟨gb214, 0, none⟩ (.string t217)).setCell ⟨gb214, 1, none⟩ (.int .i64 t218))) := ⟨by repeat (first | (with_reducible first | exact HB.out | apply bal | apply bdn | apply bd1 | refine bst ?_ (IsS75.ge HI213.out) | refine bst ?_ GE214.out | refine bst ?_ GE222.out) | exact HB.out)⟩
    (try clear BK214)
    (try clear BK222)
    (try clear HI213)
    (try clear HB)
    generalize ((((w25.setCell ⟨gb222, 0, none⟩ (.string t217)).setCell ⟨gb222, 1, none⟩ (.int .i64 t218)).setCell ⟨gb214, 0, none⟩ (.string t217)).setCell ⟨gb214, 1, none⟩ (.int .i64 t218)) = w33 at n0_ n1_ n2_ n3_ ⊢
    have BK214 := n0_
    have BK222 := n1_
    have HI213 := n2_
    have HB := n3_
    clear n0_ n1_ n2_ n3_
    have n0_ := Aside0.mk (kdw BK214.out)
    have n1_ := Aside0.mk (kdw BK222.out)
    have n2_ := Aside0.mk (IsS75.drew HI213.out)
    have n3_ := Aside0.mk (bd1 HB.out)
    clear BK214
    clear BK222
    clear HI213
    clear HB
    have BK214 := n0_
    have BK222 := n1_
    have HI213 := n2_
    have HB := n3_
    clear n0_ n1_ n2_ n3_
    refine start_ (n := 17) (S := fun w' => w'.cell? ⟨gb214, 0, none⟩ = some (.string t217) ∧ w'.cell? ⟨gb214, 1, none⟩ = some (.int .i64 t218)) (ds := []) #[false,false,false,false,false,false,false,false,false,false,false,false,false,false,false,false,false] (by kernel_rfl) rfl rfl ⟨(kcl BK214.out 0).trans rfl, (kcl BK214.out 1).trans rfl⟩ (fun hHeld => ?_); refine with_tabW armoirelaw02_CodecTakes.tab11 armoirelaw02_CodecTakes.bits11 (fun HT_ HW_ => ?_)
    generalize w33.drew = w34 at BK214 BK222 HI213 HB hHeld ⊢
    refine pure_ (i := 0) (N := some 39) (v := ?_) (a' := ?_) (bA 17 1) rfl rfl (any_of HT_.out (by kernel_rfl)) (fun _ _ _ h => h) (Or.inl ⟨by rfl, ?_⟩) ?_ ?_
    rotate_left; (intro w'; go_simp; with_reducible rfl); rotate_left; (simp only [Act.put, List.setIfInBounds_toArray, List.set_cons_zero, List.set_cons_succ, i64_w, i32_w]; rfl)
    refine pure_ (i := 1) (N := some 40) (v := ?_) (a' := ?_) (bA 17 3) rfl rfl (any_of HT_.out (by kernel_rfl)) (fun _ _ _ h => h) (Or.inl ⟨by rfl, ?_⟩) ?_ ?_
    rotate_left; (intro w'; go_simp; with_reducible rfl); rotate_left; (simp only [Act.put, List.setIfInBounds_toArray, List.set_cons_zero, List.set_cons_succ, i64_w, i32_w]; rfl)
    refine pure_ (i := 2) (N := some 41) (v := ?_) (a' := ?_) (bA 17 7) rfl rfl (any_of HT_.out (by kernel_rfl)) (fun _ _ _ h => h) (Or.inl ⟨by rfl, ?_⟩) ?_ ?_
    rotate_left; (intro w'; go_simp; with_reducible rfl); rotate_left; (simp only [Act.put, List.setIfInBounds_toArray, List.set_cons_zero, List.set_cons_succ, i64_w, i32_w]; rfl)
    refine pure_ (i := 3) (N := some 42) (v := ?_) (a' := ?_) (bA 17 15) rfl rfl (any_of HT_.out (by kernel_rfl)) (fun _ _ _ h => h) (Or.inl ⟨by rfl, ?_⟩) ?_ ?_
    rotate_left; (intro w'; go_simp; with_reducible rfl); rotate_left; (simp only [Act.put, List.setIfInBounds_toArray, List.set_cons_zero, List.set_cons_succ, i64_w, i32_w]; rfl)
    refine pure_ (i := 5) (N := some 44) (v := ?_) (a' := ?_) (bA 17 47) rfl rfl (any_of HT_.out (by kernel_rfl)) (fun _ _ _ h => h) (Or.inl ⟨by rfl, ?_⟩) ?_ ?_
    rotate_left; (intro w'; go_simp; with_reducible rfl); rotate_left; (simp only [Act.put, List.setIfInBounds_toArray, List.set_cons_zero, List.set_cons_succ, i64_w, i32_w]; rfl)
    refine take_ (i := 6) (N := some 45) (v := ?_) (a' := ?_) #[true,true,true,true,false,true,true,false,false,false,false,false,false,false,false,false,false] rfl rfl (tkw HT_.out HW_.out (by kernel_rfl)) (fun _ _ _ h => h) (Or.inl ⟨by rfl, ?_⟩) hHeld ?_ ?_
    rotate_left
    · rintro w' ⟨s0, s1⟩
      go_simp
      with_reducible rfl
    rotate_left; (simp only [Act.put, List.setIfInBounds_toArray, List.set_cons_zero, List.set_cons_succ, i64_w, i32_w]; rfl)
    refine one_ (i := 4) (N := some 43) #[true,true,true,true,true,true,true,false,false,false,false,false,false,false,false,false,false] rfl rfl (one_of HT_.out (by kernel_rfl)) (by decide) (fun K hK => ?_)
    refine goes_ Tryd.func16 (by kernel_rfl) rfl #[.pointer (some ⟨g213, 0, none⟩)] (by rfl) rfl rfl (by (try simp only [List.map_toArray, List.map_cons, List.map_nil]); first | done | rfl | (simp only [List.length_drop, List.length_take]; rfl) | (simp only [Act.eval, Array.getD_eq_getD_getElem?, Option.getD_some, *]; done) | (simp only [Array.mk.injEq, List.cons.injEq, Value.int.injEq, true_and, and_true]; first | omega | (simp [IntKind.wrap, IntKind.bits, IntKind.signed]; omega))) ?_
    with_reducible refine (codec_In_Err.calls g213 t220 t221 t223 t224 t225 w _ ?side1 ?side2 A18.out).mono ?_
    (case side1 => repeat (first | (with_reducible first | exact HI213.out | apply IsS75.alloc | apply IsS75.drewN | apply IsS75.drew | apply IsS75.set_0 | apply IsS75.set_1 | refine IsS75.far ?_ NB213_214.out _ | refine IsS75.far ?_ NB213_222.out _) | exact HI213.out))
    (case side2 => repeat (first | (with_reducible first | exact HB.out | apply bal | apply bdn | apply bd1 | refine bst ?_ (IsS75.ge HI213.out) | refine bst ?_ GE214.out | refine bst ?_ GE222.out) | exact HB.out))
    rintro e w35 ⟨rfl, hi, hb, hk⟩
    refine ⟨_, rfl, ?_⟩
    have n0_ := Aside0.mk (KeepBut.blk hk (g' := gb214) (o := .cells #[.string t217, .int .i64 t218] 39 (0, 0)) bk_ NB214_213.out (by simp))
    have n1_ := Aside0.mk (KeepBut.blk hk (g' := gb222) (o := .cells #[.string t217, .int .i64 t218] 39 (0, 0)) bk_ NB222_213.out (by simp))
    have n2_ := Aside0.mk (hb)
    have n3_ := Aside0.mk (hi)
    clear BK214
    clear BK222
    clear HB
    clear HI213
    have BK214 := n0_
    have BK222 := n1_
    have HB := n2_
    have HI213 := n3_
    clear n0_ n1_ n2_ n3_
    (try clear hb)
    (try clear hb2)
    (try clear hk)
    (try clear hi)
    refine hK.out _ _ ⟨(kcl BK214.out 0).trans rfl, (kcl BK214.out 1).trans rfl⟩ (fun hHeld => ?_)
    clear hK K
    refine norm_ (a' := ?_) ?_ ?_
    rotate_left
    · show Act.put _ (some 43) _ = _
      simp only [Act.put, List.setIfInBounds_toArray, List.set_cons_zero, List.set_cons_succ, i64_w, i32_w]
      rfl
    refine pure_ (i := 7) (N := some 46) (v := ?_) (a' := ?_) (bA 17 255) rfl rfl (any_of HT_.out (by kernel_rfl)) (fun _ _ _ h => h) (Or.inl ⟨by rfl, ?_⟩) ?_ ?_
    rotate_left; (intro w'; go_simp; with_reducible rfl); rotate_left; (simp only [Act.put, List.setIfInBounds_toArray, List.set_cons_zero, List.set_cons_succ, i64_w, i32_w]; rfl)
    refine pure_ (i := 8) (N := some 47) (v := ?_) (a' := ?_) (bA 17 511) rfl rfl (any_of HT_.out (by kernel_rfl)) (fun _ _ _ h => h) (Or.inl ⟨by rfl, ?_⟩) ?_ ?_
    rotate_left; (intro w'; go_simp; with_reducible rfl); rotate_left; (simp only [Act.put, List.setIfInBounds_toArray, List.set_cons_zero, List.set_cons_succ, i64_w, i32_w]; rfl)
    refine pure_ (i := 9) (N := some 48) (v := ?_) (a' := ?_) (bA 17 1023) rfl rfl (any_of HT_.out (by kernel_rfl)) (fun _ _ _ h => h) (Or.inl ⟨by rfl, ?_⟩) ?_ ?_
    rotate_left; (intro w'; go_simp; with_reducible rfl); rotate_left; (simp only [Act.put, List.setIfInBounds_toArray, List.set_cons_zero, List.set_cons_succ, i64_w, i32_w]; rfl)
    refine pure_ (i := 10) (N := some 49) (v := ?_) (a' := ?_) (bA 17 2047) rfl rfl (any_of HT_.out (by kernel_rfl)) (fun _ _ _ h => h) (Or.inl ⟨by rfl, ?_⟩) ?_ ?_
    rotate_left; (intro w'; go_simp; with_reducible rfl); rotate_left; (simp only [Act.put, List.setIfInBounds_toArray, List.set_cons_zero, List.set_cons_succ, i64_w, i32_w]; rfl)
    refine pure_ (i := 12) (N := some 51) (v := ?_) (a' := ?_) (bA 17 6143) rfl rfl (any_of HT_.out (by kernel_rfl)) (fun _ _ _ h => h) (Or.inl ⟨by rfl, ?_⟩) ?_ ?_
    rotate_left; (intro w'; go_simp; with_reducible rfl); rotate_left; (simp only [Act.put, List.setIfInBounds_toArray, List.set_cons_zero, List.set_cons_succ, i64_w, i32_w]; rfl)
    refine take_ (i := 13) (N := some 52) (v := ?_) (a' := ?_) #[true,true,true,true,true,true,true,true,true,true,true,false,true,true,false,false,false] rfl rfl (tkw HT_.out HW_.out (by kernel_rfl)) (fun _ _ _ h => h) (Or.inl ⟨by rfl, ?_⟩) hHeld ?_ ?_
    rotate_left
    · rintro w' ⟨s0, s1⟩
      go_simp
      with_reducible rfl
    rotate_left; (simp only [Act.put, List.setIfInBounds_toArray, List.set_cons_zero, List.set_cons_succ, i64_w, i32_w]; rfl)
    refine pure_ (i := 14) (N := some 53) (v := ?_) (a' := ?_) (bA 17 30719) rfl rfl (any_of HT_.out (by kernel_rfl)) (fun _ _ _ h => h) (Or.inl ⟨by rfl, ?_⟩) ?_ ?_
    rotate_left; (intro w'; go_simp; with_reducible rfl); rotate_left; (simp only [Act.put, List.setIfInBounds_toArray, List.set_cons_zero, List.set_cons_succ, i64_w, i32_w]; rfl)
    refine one_ (i := 11) (N := some 50) #[true,true,true,true,true,true,true,true,true,true,true,true,true,true,true,false,false] rfl rfl (one_of HT_.out (by kernel_rfl)) (by decide) (fun K hK => ?_)
    refine goes_ Tryd.func18 (by kernel_rfl) rfl #[.pointer (some ⟨g213, 0, none⟩)] (by rfl) rfl rfl (by (try simp only [List.map_toArray, List.map_cons, List.map_nil]); first | done | rfl | (simp only [List.length_drop, List.length_take]; rfl) | (simp only [Act.eval, Array.getD_eq_getD_getElem?, Option.getD_some, *]; done) | (simp only [Array.mk.injEq, List.cons.injEq, Value.int.injEq, true_and, and_true]; first | omega | (simp [IntKind.wrap, IntKind.bits, IntKind.signed]; omega))) ?_
    with_reducible refine (codec_In_Len.calls g213 t224 t225 t226 t227 t228 w _ ?side1 ?side2 A20.out).mono ?_
    (case side1 => repeat (first | (with_reducible first | exact HI213.out | apply IsS75.alloc | apply IsS75.drewN | apply IsS75.drew | apply IsS75.set_0 | apply IsS75.set_1 | refine IsS75.far ?_ NB213_214.out _ | refine IsS75.far ?_ NB213_222.out _) | exact HI213.out))
    (case side2 => repeat (first | (with_reducible first | exact HB.out | apply bal | apply bdn | apply bd1 | refine bst ?_ (IsS75.ge HI213.out) | refine bst ?_ GE214.out | refine bst ?_ GE222.out) | exact HB.out))
    rintro e w36 ⟨rfl, hi, hb, hk⟩
    refine ⟨_, rfl, ?_⟩
    have n0_ := Aside0.mk (KeepBut.blk hk (g' := gb214) (o := .cells #[.string t217, .int .i64 t218] 39 (0, 0)) bk_ NB214_213.out (by simp))
    have n1_ := Aside0.mk (KeepBut.blk hk (g' := gb222) (o := .cells #[.string t217, .int .i64 t218] 39 (0, 0)) bk_ NB222_213.out (by simp))
    have n2_ := Aside0.mk (hb)
    have n3_ := Aside0.mk (hi)
    clear BK214
    clear BK222
    clear HB
    clear HI213
    have BK214 := n0_
    have BK222 := n1_
    have HB := n2_
    have HI213 := n3_
    clear n0_ n1_ n2_ n3_
    (try clear hb)
    (try clear hb2)
    (try clear hk)
    (try clear hi)
    refine hK.out _ _ ⟨(kcl BK214.out 0).trans rfl, (kcl BK214.out 1).trans rfl⟩ (fun hHeld => ?_)
    clear hK K
    refine norm_ (a' := ?_) ?_ ?_
    rotate_left
    · show Act.put _ (some 50) _ = _
      simp only [Act.put, List.setIfInBounds_toArray, List.set_cons_zero, List.set_cons_succ, i64_w, i32_w]
      rfl
    refine pure_ (i := 15) (N := some 54) (v := ?_) (a' := ?_) (bA 17 65535) rfl rfl (any_of HT_.out (by kernel_rfl)) (fun _ _ _ h => h) (Or.inl ⟨by rfl, ?_⟩) ?_ ?_
    rotate_left; (intro w'; go_simp; with_reducible rfl); rotate_left; (simp only [Act.put, List.setIfInBounds_toArray, List.set_cons_zero, List.set_cons_succ, i64_w, i32_w]; rfl)
    refine pure_ (i := 16) (N := some 55) (v := ?_) (a' := ?_) (bA 17 131071) rfl rfl (any_of HT_.out (by kernel_rfl)) (fun _ _ _ h => h) (Or.inl ⟨by rfl, ?_⟩) ?_ ?_
    rotate_left; (intro w'; go_simp; with_reducible rfl); rotate_left; (simp only [Act.put, List.setIfInBounds_toArray, List.set_cons_zero, List.set_cons_succ, i64_w, i32_w]; rfl)
    refine done_ (done_of HT_.out (by kernel_rfl)) ?_
    go_upto_if 55 with (fail)
    have H := HS21.out
    clear HS21
    by_cases c37 : t226 = (t217.size : Int)
    rotate_left
    · rw [if_neg c37] at H
      have c37b0 : (t226 == (t217.size : Int)) = false := beq_eq_false_iff_ne.mpr c37
      have c37b1 : (t226 != (t217.size : Int)) = true := bne_iff_ne.mpr c37
      (first | rw [c37b0] | rw [c37b1] | (simp only [i64_w, i32_w]; rw [c37b0]) | (simp only [i64_w, i32_w]; rw [c37b1]) | rw [c37b2] | skip)
      obtain rfl := Option.some.inj H
      go_wp2
      go_ret
      exact ⟨er_, by repeat (first | (with_reducible first | exact HB.out | apply bal | apply bdn | apply bd1 | refine bst ?_ (IsS75.ge HI213.out) | refine bst ?_ GE214.out | refine bst ?_ GE222.out) | exact HB.out)⟩
    rw [if_pos c37] at H
    have c37b0 : (t226 == (t217.size : Int)) = true := beq_iff_eq.mpr c37
    have c37b1 : (t226 != (t217.size : Int)) = false := bne_eq_false_iff_eq.mpr c37
    clear c37
    (first | rw [c37b0] | rw [c37b1] | (simp only [i64_w, i32_w]; rw [c37b0]) | (simp only [i64_w, i32_w]; rw [c37b1]) | rw [c37b2] | skip)
    have H' := Aside0.mk H
    clear H
    go_wp2
    go_roundg k1
    case measure => have := HK1.out; omega
    case rel => exact ⟨(wrap64 (x7_1 + 1)), (t227), (t228), (t217), (t218), (by first | rfl | (simp; done) | (simp [*]; done) | exact emp1_ _ | exact (emp1_ _).symm | exact emp2_ _ | exact (emp2_ _).symm), H', ⟨by have := HK1.out; omega⟩, ⟨bk_⟩, ⟨by repeat (first | (with_reducible first | exact HI213.out | apply IsS75.alloc | apply IsS75.drewN | apply IsS75.drew | apply IsS75.set_0 | apply IsS75.set_1 | refine IsS75.far ?_ NB213_214.out _ | refine IsS75.far ?_ NB213_222.out _) | exact HI213.out)⟩, ⟨by repeat (first | (with_reducible first | exact HB.out | apply bal | apply bdn | apply bd1 | refine bst ?_ (IsS75.ge HI213.out) | refine bst ?_ GE214.out | refine bst ?_ GE222.out) | exact HB.out)⟩⟩
def armoirelaw02_CodecTakes.Pure : Prop := ∀ (a0 : ByteArray) (l1 : List (S43)), a0.size ≤ 140737488351232 → (l1.length ≤ maxLen ∧ ∀ q1_ ∈ l1, ((Lit.int .i64 q1_.f0).wf = true ∧ (Lit.int .i64 q1_.f1).wf = true)) → ∃ k, armoirelaw02_CodecTakes.f k a0 l1 = some true
theorem armoirelaw02_CodecTakes.walk (P : armoirelaw02_CodecTakes.Pure) (a0 : ByteArray) (A1 : Option Addr) (c1 : Nat) (l1 : List (S43)) (w : World) (w0 : a0.size ≤ 140737488351232) (hr1 : Kd.C k43 w A1 l1.length l1) (hc1 : l1.length ≤ c1) (w1 : (l1.length ≤ maxLen ∧ ∀ q1_ ∈ l1, ((Lit.int .i64 q1_.f0).wf = true ∧ (Lit.int .i64 q1_.f1).wf = true))) :
    Calls Tryd.prog 5 #[.string a0, .slice A1 l1.length c1] w fun e w' => e = .returned (.bool true) ∧ Below w.heap.size w w' := by
  obtain ⟨k, h⟩ := P a0 l1 w0 w1
  refine (armoirelaw02_CodecTakes.calls k a0 _ _ l1 true w hr1 hc1 h).mono ?_
  rintro e w' ⟨rfl, hd⟩
  exact ⟨rfl, hd⟩
end Go.Proofs.YtndekeigagjfiaaDoor.PA

