import Derived.Test.YtndekeigagjfiaaDoorQTkPAx1
namespace Go.Proofs.YtndekeigagjfiaaDoor.PA
open Go.Proofs.YtndekeigagjfiaaDoor.PL
open Go.RowKit Go.Proofs.YtndekeigagjfiaaDoorW.PrintWords Go.Proofs.YtndekeigagjfiaaDoorW.PrintLast Go.Proofs.YtndekeigagjfiaaDoorW.PrintMore
attribute [local go_sem] max2_int min2_int max_two min_two max_three min_three max_four min_four
set_option linter.unusedVariables false
set_option linter.unusedSimpArgs false
mutual
def armoireref02_TakeU.j0 : Nat → ByteArray → Bool → ByteArray → Int → Option (ByteArray × Int × Int)
  | 0, _, _, _, _ => none
  | k + 1, x5, x41, x143000, x143001 => if x41 = true then (some ((⟨#[]⟩ : ByteArray), 2, 0)) else (armoireref02_TakeU.l0 k x5 0 0 x143000 x143001)
def armoireref02_TakeU.l0 : Nat → ByteArray → Int → Int → ByteArray → Int → Option (ByteArray × Int × Int)
  | 0, _, _, _, _, _ => none
  | k + 1, x5, x6, x7, x143000, x143001 => if x7 < (x5.size : Int) then (if 0 ≤ x7 then (armoireref02_TakeU.l0 k x5 (IntKind.u64.wrap ((IntKind.u64.wrap (x6 * 256)) + (IntKind.u64.wrap (bt x5 x7)))) (wrap64 (x7 + 1)) x143000 x143001) else (none)) else (some (x143000, x143001, x6))
end
def armoireref02_TakeU.f (k : Nat) (a0_0 : ByteArray) (a0_1 : Int) : Option (ByteArray × Int × Int) := (armoireref02_take.f a0_0 a0_1 1).bind fun bt144 => (if bt144.2.1 = 0 then (if 0 < (bt144.2.2.size : Int) then (if (bt bt144.2.2 0) > 8 then (some ((⟨#[]⟩ : ByteArray), 2, 0)) else ((armoireref02_take.f bt144.1 bt144.2.1 (wrap64 (bt bt144.2.2 0))).bind fun bt147 => (if bt147.2.1 = 0 then (if (bt147.2.2.size : Int) > 0 then (if 0 < (bt147.2.2.size : Int) then (armoireref02_TakeU.j0 k bt147.2.2 ((bt bt147.2.2 0) == 0) bt147.1 bt147.2.1) else (none)) else (armoireref02_TakeU.j0 k bt147.2.2 false bt147.1 bt147.2.1)) else (armoireref02_TakeU.j0 k bt147.2.2 false bt147.1 bt147.2.1)))) else (none)) else (some (bt144.1, bt144.2.1, 0)))
def armoireref02_TakeU.T6 : Bool × List (List Nat × List Nat) := (true, [([], []), ([], []), ([1], [1]), ([2], [2]), ([0, 3], [0, 3]), ([4], [4]), ([5], [5]), ([5], [5]), ([6, 4, 0, 1, 2, 3, 4, 5, 6], [6]), ([7, 8, 0, 1, 2, 3, 4, 5, 6, 7, 8], [7])])
def armoireref02_TakeU.B6 : List Nat := [0, 0, 2, 6, 15, 31, 63, 63, 127, 511]
theorem armoireref02_TakeU.tab6 : rtab .any (opsOf Tryd.f40 6) = armoireref02_TakeU.T6 := by kernel_rfl
theorem armoireref02_TakeU.bits6 : waitsOk armoireref02_TakeU.T6.2 armoireref02_TakeU.B6 = true := by kernel_rfl
set_option maxHeartbeats 2000000 in
set_option maxRecDepth 100000 in
theorem armoireref02_TakeU.calls (k : Nat) (a0_0 : ByteArray) (a0_1 : Int) (r1 : ByteArray) (r2 : Int) (r3 : Int) (w : World) (h : armoireref02_TakeU.f k a0_0 a0_1 = some (r1, r2, r3)) :
    Calls Tryd.prog 40 #[.agg #[.string a0_0, .int .i64 a0_1]] w fun e w' => e = .returned (.tuple #[.agg #[.string r1, .int .i64 r2], .int .u64 r3]) ∧ Below w.heap.size w w' := by
  have hu39 := Tryd.underlying39
  have HB := Aside0.mk (Below.refl w.heap.size w)
  have H : ((armoireref02_take.f a0_0 a0_1 1).bind fun bt144 => (if bt144.2.1 = 0 then (if 0 < (bt144.2.2.size : Int) then (if (bt bt144.2.2 0) > 8 then (some ((⟨#[]⟩ : ByteArray), 2, 0)) else ((armoireref02_take.f bt144.1 bt144.2.1 (wrap64 (bt bt144.2.2 0))).bind fun bt147 => (if bt147.2.1 = 0 then (if (bt147.2.2.size : Int) > 0 then (if 0 < (bt147.2.2.size : Int) then (armoireref02_TakeU.j0 k bt147.2.2 ((bt bt147.2.2 0) == 0) bt147.1 bt147.2.1) else (none)) else (armoireref02_TakeU.j0 k bt147.2.2 false bt147.1 bt147.2.1)) else (armoireref02_TakeU.j0 k bt147.2.2 false bt147.1 bt147.2.1)))) else (none)) else (some (bt144.1, bt144.2.1, 0)))) = some (r1, r2, r3) := h
  clear h
  replace H := Option.bind_eq_some_iff.mp H
  obtain ⟨⟨t144, t145, t146⟩, A20, H⟩ := H
  replace H : (if t145 = 0 then (if 0 < (t146.size : Int) then (if (bt t146 0) > 8 then (some ((⟨#[]⟩ : ByteArray), 2, 0)) else ((armoireref02_take.f t144 t145 (wrap64 (bt t146 0))).bind fun bt147 => (if bt147.2.1 = 0 then (if (bt147.2.2.size : Int) > 0 then (if 0 < (bt147.2.2.size : Int) then (armoireref02_TakeU.j0 k bt147.2.2 ((bt bt147.2.2 0) == 0) bt147.1 bt147.2.1) else (none)) else (armoireref02_TakeU.j0 k bt147.2.2 false bt147.1 bt147.2.1)) else (armoireref02_TakeU.j0 k bt147.2.2 false bt147.1 bt147.2.1)))) else (none)) else (some (t144, t145, 0))) = some (r1, r2, r3) := H
  have A2 := Aside0.mk A20
  clear A20
  have HS3 := Aside0.mk H
  clear H
  go_enter Tryd.func40, Tryd.ntmps40
  go_upto_if 15 with (first | ((with_reducible refine gds (N := 1) rfl ?_); (try (refine gate_guard (by rfl) ?_; dsimp only)); refine bev ?hg (N := 1) ?hd (cs := #[.string a0_0, .int .i64 a0_1]) (t := 39) ?hr ?_; (case hd => rfl); (case hg => rfl); (case hr => first | (go_simp; done) | (go_simp; rfl)); intro gb142 hg w4 hbox hb; have n0_ := Aside0.mk (bsp bl_ hb); have n1_ := Aside0.mk (hbox); have n2_ := Aside0.mk ((by rw [hg]; exact bsz bl_ : w.heap.size ≤ gb142)); have n3_ := Aside0.mk ((by rw [hg]; exact bsz bl_ : w.heap.size ≤ gb142)); clear HB; have HB := n0_; have BK142 := n1_; have GW142 := n2_; have GE142 := n3_; clear n0_ n1_ n2_ n3_; clear hb hbox hg) | ((with_reducible refine gds (N := 2) rfl ?_); (try (refine gate_guard (by rfl) ?_; dsimp only)); refine bev ?hg (N := 2) ?hd (cs := #[.string (⟨#[]⟩ : ByteArray), .int .i64 0]) (t := 39) ?hr ?_; (case hd => rfl); (case hg => rfl); (case hr => first | (go_simp; done) | (go_simp; rfl)); intro gb143 hg w5 hbox hb; have n0_ := Aside0.mk (kbl (g := gb142) (o := .cells #[.string a0_0, .int .i64 a0_1] 39 (0, 0)) bk_ hb); have n1_ := Aside0.mk (bsp bl_ hb); have n2_ := Aside0.mk (hbox); have n3_ := Aside0.mk ((by rw [hg]; exact bsz bl_ : w.heap.size ≤ gb143)); have n4_ := Aside0.mk ((by rw [hg]; exact bsz bl_ : w.heap.size ≤ gb143)); have n5_ := Aside0.mk ((by rw [hg]; exact Nat.ne_of_lt (blk_lt (g := gb142) (o := .cells #[.string a0_0, .int .i64 a0_1] 39 (0, 0)) bk_) : gb142 ≠ gb143)); have n6_ := Aside0.mk ((by rw [hg]; exact Nat.ne_of_gt (blk_lt (g := gb142) (o := .cells #[.string a0_0, .int .i64 a0_1] 39 (0, 0)) bk_) : gb143 ≠ gb142)); clear BK142; clear HB; have BK142 := n0_; have HB := n1_; have BK143 := n2_; have GW143 := n3_; have GE143 := n4_; have NB142_143 := n5_; have NB143_142 := n6_; clear n0_ n1_ n2_ n3_ n4_ n5_ n6_; clear hb hbox hg; have hnb6 := NB142_143.out; have hnc6 := NB143_142.out; have hcz7 := bc2 BK142.out) | ((with_reducible refine gcl (f := 48) rfl ?_); refine gl_ (some 10) rfl rfl Tryd.func48 (by kernel_rfl) rfl #[.agg #[.string a0_0, .int .i64 a0_1], .int .i64 1] rfl ar_ ?_; (with_reducible refine (armoireref02_take.calls a0_0 a0_1 1 t144 t145 t146 _ A2.out).mono ?_); rintro e w8 ⟨rfl, hb⟩; refine ⟨_, rfl, ?_⟩; have n0_ := Aside0.mk (kbl (g := gb142) (o := .cells #[.string a0_0, .int .i64 a0_1] 39 (0, 0)) bk_ hb); have n1_ := Aside0.mk (kbl (g := gb143) (o := .cells #[.string (⟨#[]⟩ : ByteArray), .int .i64 0] 39 (0, 0)) bk_ hb); have n2_ := Aside0.mk (bsp bl_ hb); clear BK142; clear BK143; clear HB; have BK142 := n0_; have BK143 := n1_; have HB := n2_; clear n0_ n1_ n2_; (try clear hb); (try clear hb2); (try clear hk); (try clear hi); have hcz9 := bc2 BK142.out))
  (try simp only [Act.put, List.setIfInBounds_toArray, List.set_cons_zero, List.set_cons_succ])
  have H := HS3.out
  clear HS3
  by_cases c10 : t145 = 0
  rotate_left
  · rw [if_neg c10] at H
    have c10b0 : (t145 == 0) = false := beq_eq_false_iff_ne.mpr c10
    have c10b1 : (t145 != 0) = true := bne_iff_ne.mpr c10
    (first | rw [c10b0] | (simp only [i64_w, i32_w]; rw [c10b0]) | skip)
    simp only [Option.some.injEq, Prod.mk.injEq] at H
    obtain ⟨rfl, rfl, rfl⟩ := H
    have hnb43 := NB142_143.out
    have hnc43 := NB143_142.out
    have hcz44 := bc2 BK142.out
    have hcz45 := bc2 BK143.out
    go_wp2
    refine bodyPost_ret (results_ct rfl _ _ gb143 39 #[.string t144, .int .i64 t145] (0, 0) _ rfl bk_ Tryd.underlying39 rfl (by kernel_rfl)) rfl ?_
    exact ⟨er_, bl_⟩
  rw [if_pos c10] at H
  have c10b0 : (t145 == 0) = true := beq_iff_eq.mpr c10
  have c10b1 : (t145 != 0) = false := bne_eq_false_iff_eq.mpr c10
  clear c10
  (first | rw [c10b0] | (simp only [i64_w, i32_w]; rw [c10b0]) | skip)
  by_cases c11 : 0 < (t146.size : Int)
  rotate_left
  · rw [if_neg c11] at H
    exact absurd H (by simp)
  rw [if_pos c11] at H
  have c11b0 : decide (0 < (t146.size : Int)) = true := decide_eq_true c11
  have c11b1 : decide (0 < t146.size) = true := decide_eq_true (by omega)
  clear c11
  by_cases c13 : (bt t146 0) > 8
  · rw [if_pos c13] at H
    have c13b0 : decide (8 < (bt t146 0)) = true := decide_eq_true c13
    clear c13
    simp only [Option.some.injEq, Prod.mk.injEq] at H
    obtain ⟨rfl, rfl, rfl⟩ := H
    have p12 : 0 ≤ (0 : Int) := (by omega)
    have q12 : 0 < t146.size := (by have : (0 : Int) < (t146.size : Int) := of_decide_eq_true (by first | (with_reducible assumption) | assumption); omega)
    have hx12 : ∀ h : 0 < t146.size, ((t146[0]'h).toNat : Int) = bt t146 0 := bt_at t146 0
    clear p12
    have qi12 : (0 < (t146.size : Int)) = True := eq_true (of_decide_eq_true (by first | (with_reducible assumption) | assumption))
    replace q12 := eq_true q12
    have hnb14 := NB143_142.out
    have hnc14 := NB142_143.out
    have hcz15 := bc2 BK143.out
    go_wp2
    refine bodyPost_ret (results_ct rfl _ _ gb143 39 #[.string (⟨#[]⟩ : ByteArray), .int .i64 2] (0, 0) _ rfl bk_ Tryd.underlying39 rfl (by kernel_rfl)) rfl ?_
    exact ⟨er_, bl_⟩
  rw [if_neg c13] at H
  have c13b0 : decide (8 < (bt t146 0)) = false := decide_eq_false c13
  clear c13
  replace H := Option.bind_eq_some_iff.mp H
  obtain ⟨⟨t147, t148, t149⟩, A170, H⟩ := H
  replace H : (if t148 = 0 then (if (t149.size : Int) > 0 then (if 0 < (t149.size : Int) then (armoireref02_TakeU.j0 k t149 ((bt t149 0) == 0) t147 t148) else (none)) else (armoireref02_TakeU.j0 k t149 false t147 t148)) else (armoireref02_TakeU.j0 k t149 false t147 t148)) = some (r1, r2, r3) := H
  have A17 := Aside0.mk A170
  clear A170
  have HC18 := Aside0.mk H
  clear H
  have p12 : 0 ≤ (0 : Int) := (by omega)
  have q12 : 0 < t146.size := (by have : (0 : Int) < (t146.size : Int) := of_decide_eq_true (by first | (with_reducible assumption) | assumption); omega)
  have hx12 : ∀ h : 0 < t146.size, ((t146[0]'h).toNat : Int) = bt t146 0 := bt_at t146 0
  clear p12
  have qi12 : (0 < (t146.size : Int)) = True := eq_true (of_decide_eq_true (by first | (with_reducible assumption) | assumption))
  replace q12 := eq_true q12
  try go_wp2
  have n0_ : Aside0 (((w8.setCell ⟨gb142, 0, none⟩ (.string t144)).setCell ⟨gb142, 1, none⟩ (.int .i64 t145)).heap[gb142]? = some (.cells #[.string t144, .int .i64 t145] 39 (0, 0))) := ⟨bk_⟩
  have n1_ : Aside0 (((w8.setCell ⟨gb142, 0, none⟩ (.string t144)).setCell ⟨gb142, 1, none⟩ (.int .i64 t145)).heap[gb143]? = some (.cells #[.string (⟨#[]⟩ : ByteArray), .int .i64 0] 39 (0, 0))) := ⟨bk_⟩
  have n2_ : Aside0 (Below w.heap.size w ((w8.setCell ⟨gb142, 0, none⟩ (.string t144)).setCell ⟨gb142, 1, none⟩ (.int .i64 t145))) := ⟨bl_⟩
  (try clear BK142)
  (try clear BK143)
  (try clear HB)
  generalize ((w8.setCell ⟨gb142, 0, none⟩ (.string t144)).setCell ⟨gb142, 1, none⟩ (.int .i64 t145)) = w19 at n0_ n1_ n2_ ⊢
  have BK142 := n0_
  have BK143 := n1_
  have HB := n2_
  clear n0_ n1_ n2_
  have n0_ := Aside0.mk (kdw BK142.out)
  have n1_ := Aside0.mk (kdw BK143.out)
  have n2_ := Aside0.mk (bd1 HB.out)
  clear BK142
  clear BK143
  clear HB
  have BK142 := n0_
  have BK143 := n1_
  have HB := n2_
  clear n0_ n1_ n2_
  have p16 : 0 ≤ (0 : Int) := (by omega)
  have q16 : 0 < t146.size := (by have : (0 : Int) < (t146.size : Int) := of_decide_eq_true (by first | (with_reducible assumption) | assumption); omega)
  have hx16 : ∀ h : 0 < t146.size, ((t146[0]'h).toNat : Int) = bt t146 0 := bt_at t146 0
  clear p16
  have qi16 : (0 < (t146.size : Int)) = True := eq_true (of_decide_eq_true (by first | (with_reducible assumption) | assumption))
  replace q16 := eq_true q16
  refine start_ (n := 10) (S := fun w' => w'.cell? ⟨gb142, 0, none⟩ = some (.string t144) ∧ w'.cell? ⟨gb142, 1, none⟩ = some (.int .i64 t145)) (ds := [8]) #[false,false,false,false,false,false,false,false,false,false] (by kernel_rfl) rfl rfl ⟨(kcl BK142.out 0).trans rfl, (kcl BK142.out 1).trans rfl⟩ (fun hHeld => ?_); refine with_tabW armoireref02_TakeU.tab6 armoireref02_TakeU.bits6 (fun HT_ HW_ => ?_)
  generalize w19.drew = w20 at BK142 BK143 HB hHeld ⊢
  refine pure_ (i := 1) (N := some 23) (v := ?_) (a' := ?_) (bA 10 2) rfl rfl (any_of HT_.out (by kernel_rfl)) (fun _ _ _ h => h) (Or.inl ⟨by rfl, ?_⟩) ?_ ?_
  rotate_left; (intro w'; go_simp; with_reducible rfl); rotate_left; (simp only [Act.put, List.setIfInBounds_toArray, List.set_cons_zero, List.set_cons_succ, i64_w, i32_w]; rfl)
  refine take_ (i := 0) (N := some 22) (v := ?_) (a' := ?_) #[true,true,false,false,false,false,false,false,false,false] rfl rfl (tkw HT_.out HW_.out (by kernel_rfl)) (fun _ _ _ h => h) (Or.inl ⟨by rfl, ?_⟩) hHeld ?_ ?_
  rotate_left
  · rintro w' ⟨s0, s1⟩
    go_simp
    with_reducible rfl
  rotate_left; (simp only [Act.put, List.setIfInBounds_toArray, List.set_cons_zero, List.set_cons_succ, i64_w, i32_w]; rfl)
  refine take_ (i := 2) (N := some 24) (v := ?_) (a' := ?_) #[true,true,true,false,false,false,false,false,false,false] rfl rfl (tkw HT_.out HW_.out (by kernel_rfl)) (fun _ _ _ h => h) (Or.inl ⟨by rfl, ?_⟩) hHeld ?_ ?_
  rotate_left
  · rintro w' ⟨s0, s1⟩
    go_simp
    with_reducible rfl
  rotate_left; (simp only [Act.put, List.setIfInBounds_toArray, List.set_cons_zero, List.set_cons_succ, i64_w, i32_w]; rfl)
  refine pure_ (i := 3) (N := some 25) (v := ?_) (a' := ?_) (bA 10 15) rfl rfl (any_of HT_.out (by kernel_rfl)) (fun _ _ _ h => h) (Or.inl ⟨by rfl, ?_⟩) ?_ ?_
  rotate_left; (intro w'; go_simp; with_reducible rfl); rotate_left; (simp only [Act.put, List.setIfInBounds_toArray, List.set_cons_zero, List.set_cons_succ, i64_w, i32_w]; rfl)
  refine one_ (i := 4) (N := some 26) #[true,true,true,true,true,false,false,false,false,false] rfl rfl (one_of HT_.out (by kernel_rfl)) (by decide) (fun K hK => ?_)
  refine goes_ Tryd.func48 (by kernel_rfl) rfl #[.agg #[.string t144, .int .i64 t145], .int .i64 (wrap64 (bt t146 0))] (by rfl) rfl rfl (by (try simp only [List.map_toArray, List.map_cons, List.map_nil]); first | done | rfl | (simp only [List.length_drop, List.length_take]; rfl) | (simp only [Act.eval, Array.getD_eq_getD_getElem?, Option.getD_some, *]; done) | (simp only [Array.mk.injEq, List.cons.injEq, Value.int.injEq, true_and, and_true]; first | omega | (simp [IntKind.wrap, IntKind.bits, IntKind.signed]; omega))) ?_
  with_reducible refine (armoireref02_take.calls t144 t145 (wrap64 (bt t146 0)) t147 t148 t149 _ A17.out).mono ?_
  rintro e w21 ⟨rfl, hb⟩
  refine ⟨_, rfl, ?_⟩
  have n0_ := Aside0.mk (kbl (g := gb142) (o := .cells #[.string t144, .int .i64 t145] 39 (0, 0)) bk_ hb)
  have n1_ := Aside0.mk (kbl (g := gb143) (o := .cells #[.string (⟨#[]⟩ : ByteArray), .int .i64 0] 39 (0, 0)) bk_ hb)
  have n2_ := Aside0.mk (bsp bl_ hb)
  clear BK142
  clear BK143
  clear HB
  have BK142 := n0_
  have BK143 := n1_
  have HB := n2_
  clear n0_ n1_ n2_
  (try clear hb)
  (try clear hb2)
  (try clear hk)
  (try clear hi)
  refine hK.out _ _ ⟨(kcl BK142.out 0).trans rfl, (kcl BK142.out 1).trans rfl⟩ (fun hHeld => ?_)
  clear hK K
  refine norm_ (a' := ?_) ?_ ?_
  rotate_left
  · show Act.put _ (some 26) _ = _
    simp only [Act.put, List.setIfInBounds_toArray, List.set_cons_zero, List.set_cons_succ, i64_w, i32_w]
    rfl
  refine pure_ (i := 5) (N := some 21) (v := ?_) (a' := ?_) (bA 10 63) rfl rfl (any_of HT_.out (by kernel_rfl)) (fun _ _ _ h => h) (Or.inl ⟨by rfl, ?_⟩) ?_ ?_
  rotate_left; (intro w'; go_simp; with_reducible rfl); rotate_left; (simp only [Act.put, List.setIfInBounds_toArray, List.set_cons_zero, List.set_cons_succ, i64_w, i32_w]; rfl)
  refine pure_ (i := 6) (N := some 27) (v := ?_) (a' := ?_) (bA 10 127) rfl rfl (any_of HT_.out (by kernel_rfl)) (fun _ _ _ h => h) (Or.inl ⟨by rfl, ?_⟩) ?_ ?_
  rotate_left; (intro w'; go_simp; with_reducible rfl); rotate_left; (simp only [Act.put, List.setIfInBounds_toArray, List.set_cons_zero, List.set_cons_succ, i64_w, i32_w]; rfl)
  refine pure_ (i := 7) (N := some 28) (v := ?_) (a' := ?_) (bA 10 255) rfl rfl (any_of HT_.out (by kernel_rfl)) (fun _ _ _ h => h) (Or.inl ⟨by rfl, ?_⟩) ?_ ?_
  rotate_left; (intro w'; go_simp; with_reducible rfl); rotate_left; (simp only [Act.put, List.setIfInBounds_toArray, List.set_cons_zero, List.set_cons_succ, i64_w, i32_w]; rfl)
  refine last_ (i := 8) (N := none) #[true,true,true,true,true,true,true,true,true,false] rfl rfl (one_of HT_.out (by kernel_rfl)) (by decide) (fun K hK => ?_)
  have hs22 : w21.cell? ⟨gb142, 0, none⟩ = some (.string t144) := (kcl BK142.out 0).trans rfl
  have hfs22 := kfr BK142.out 0
  have hns22_1 := NB143_142.out
  have hms22_1 := NB142_143.out
  have hs23 : w21.cell? ⟨gb142, 1, none⟩ = some (.int .i64 t145) := (kcl BK142.out 1).trans rfl
  have hfs23 := kfr BK142.out 1
  have hns23_1 := NB143_142.out
  have hms23_1 := NB142_143.out
  refine skip_ (w1 := ?_) (by rfl) rfl ?_ ?_
  rotate_left
  · go_simp
    rfl
  refine hK.out _ _ ?_
  clear hK K
  refine pure_ (i := 9) (N := some 5) (v := ?_) (a' := ?_) (bA 10 1023) rfl rfl (any_of HT_.out (by kernel_rfl)) (fun _ _ _ h => h) (Or.inl ⟨by rfl, ?_⟩) ?_ ?_
  rotate_left; (intro w'; go_simp; with_reducible rfl); rotate_left; (simp only [Act.put, List.setIfInBounds_toArray, List.set_cons_zero, List.set_cons_succ, i64_w, i32_w]; rfl)
  refine done_ (done_of HT_.out (by kernel_rfl)) ?_
  go_upto_region 7 with (fail)
  go_cut [41] (fun v41 wc => ∃ (kq : Nat) (x41_17 : Bool), v41 = .bool x41_17 ∧ Aside0 (armoireref02_TakeU.j0 kq t149 x41_17 t147 t148 = some (r1, r2, r3)) ∧ Aside0 (kq ≤ k) ∧ Aside0 (wc.heap[gb142]? = some (.cells #[.string t147, .int .i64 t148] 39 (0, 0))) ∧ Aside0 (wc.heap[gb143]? = some (.cells #[.string (⟨#[]⟩ : ByteArray), .int .i64 0] 39 (0, 0))) ∧ Aside0 (Below w.heap.size w wc))
  case first =>
    have H := HC18.out
    clear HC18
    by_cases c24 : t148 = 0
    rotate_left
    · rw [if_neg c24] at H
      have c24b0 : (t148 == 0) = false := beq_eq_false_iff_ne.mpr c24
      have c24b1 : (t148 != 0) = true := bne_iff_ne.mpr c24
      (first | rw [c24b0] | (simp only [i64_w, i32_w]; rw [c24b0]) | skip)
      have H' := Aside0.mk H
      clear H
      have hnb32 := NB142_143.out
      have hnc32 := NB143_142.out
      have hcz33 := bc2 BK142.out
      go_wp2
      go_meet
      case rel => exact ⟨_, (false), (by first | rfl | (simp; done) | (simp [*]; done) | exact emp1_ _ | exact (emp1_ _).symm | exact emp2_ _ | exact (emp2_ _).symm), H', ⟨by first | omega | exact Nat.le_refl _⟩, ⟨bk_⟩, ⟨bk_⟩, ⟨bl_⟩⟩
    rw [if_pos c24] at H
    have c24b0 : (t148 == 0) = true := beq_iff_eq.mpr c24
    have c24b1 : (t148 != 0) = false := bne_eq_false_iff_eq.mpr c24
    clear c24
    (first | rw [c24b0] | (simp only [i64_w, i32_w]; rw [c24b0]) | skip)
    by_cases c25 : (t149.size : Int) > 0
    rotate_left
    · rw [if_neg c25] at H
      have c25b0 : decide (0 < (t149.size : Int)) = false := decide_eq_false c25
      have c25b1 : decide (0 < t149.size) = false := decide_eq_false (by omega)
      clear c25
      have H' := Aside0.mk H
      clear H
      have hnb30 := NB142_143.out
      have hnc30 := NB143_142.out
      have hcz31 := bc2 BK142.out
      go_wp2
      go_meet
      case rel => exact ⟨_, (false), (by first | rfl | (simp; done) | (simp [*]; done) | exact emp1_ _ | exact (emp1_ _).symm | exact emp2_ _ | exact (emp2_ _).symm), H', ⟨by first | omega | exact Nat.le_refl _⟩, ⟨bk_⟩, ⟨bk_⟩, ⟨bl_⟩⟩
    rw [if_pos c25] at H
    have c25b0 : decide (0 < (t149.size : Int)) = true := decide_eq_true c25
    have c25b1 : decide (0 < t149.size) = true := decide_eq_true (by omega)
    clear c25
    by_cases c26 : 0 < (t149.size : Int)
    rotate_left
    · rw [if_neg c26] at H
      exact absurd H (by simp)
    rw [if_pos c26] at H
    have c26b0 : decide (0 < (t149.size : Int)) = true := decide_eq_true c26
    have c26b1 : decide (0 < t149.size) = true := decide_eq_true (by omega)
    clear c26
    have H' := Aside0.mk H
    clear H
    have hnb28 := NB142_143.out
    have hnc28 := NB143_142.out
    have hcz29 := bc2 BK142.out
    have p27 : 0 ≤ (0 : Int) := (by omega)
    have q27 : 0 < t149.size := (by have : (0 : Int) < (t149.size : Int) := of_decide_eq_true (by first | (with_reducible assumption) | assumption); omega)
    have hx27 : ∀ h : 0 < t149.size, ((t149[0]'h).toNat : Int) = bt t149 0 := bt_at t149 0
    clear p27
    have qi27 : (0 < (t149.size : Int)) = True := eq_true (of_decide_eq_true (by first | (with_reducible assumption) | assumption))
    replace q27 := eq_true q27
    go_wp2
    go_meet
    case rel => exact ⟨_, (((bt t149 0) == 0)), (by first | rfl | (simp; done) | (simp [*]; done) | exact emp1_ _ | exact (emp1_ _).symm | exact emp2_ _ | exact (emp2_ _).symm), H', ⟨by first | omega | exact Nat.le_refl _⟩, ⟨bk_⟩, ⟨bk_⟩, ⟨bl_⟩⟩
  clear HC18
  try clear c1
  try clear p1
  try clear q1
  try clear hx1
  try clear qi1
  try clear c2
  try clear p2
  try clear q2
  try clear hx2
  try clear qi2
  try clear c3
  try clear c4
  try clear c6
  try clear p6
  try clear c10
  try clear c10b0
  try clear c10b1
  try clear c11
  try clear c11b0
  try clear c11b1
  try clear p12
  try clear q12
  try clear hx12
  try clear qi12
  try clear c13
  try clear c13b0
  try clear c14
  try clear p16
  try clear q16
  try clear hx16
  try clear qi16
  try clear c24
  try clear c24b0
  try clear c24b1
  try clear c25
  try clear c25b0
  try clear c25b1
  try clear c26
  try clear c26b0
  try clear c26b1
  try clear p27
  try clear q27
  try clear hx27
  try clear qi27
  try clear c28
  try clear c30
  try clear c32
  try clear hcz15
  try clear hcz29
  try clear hcz31
  try clear hcz33
  try clear hcz7
  try clear hcz9
  try clear hcz15
  try clear hcz29
  try clear hcz31
  try clear hcz33
  try clear hcz7
  try clear hcz9
  try clear p12
  try clear p16
  try clear p27
  try clear q12
  try clear q16
  try clear q27
  obtain ⟨kq, x41_17, rfl, HA, HJ17, BK142, BK143, HB⟩ := hcut
  cases kq with
  | zero => exact absurd HA.out (by simp [armoireref02_TakeU.j0])
  | succ kj17 =>
    have H := HA.out
    clear HA
    simp only [armoireref02_TakeU.j0] at H
    by_cases c34 : x41_17 = true
    · subst c34
      have H1 : (some ((⟨#[]⟩ : ByteArray), 2, 0)) = some (r1, r2, r3) := by rw [if_pos rfl] at H; exact H
      clear H
      have H := H1
      clear H1
      simp only [Option.some.injEq, Prod.mk.injEq] at H
      obtain ⟨rfl, rfl, rfl⟩ := H
      have hnb35 := NB143_142.out
      have hnc35 := NB142_143.out
      have hcz36 := bc2 BK143.out
      go_wp2
      refine bodyPost_ret (results_ct rfl _ _ gb143 39 #[.string (⟨#[]⟩ : ByteArray), .int .i64 2] (0, 0) _ rfl bk_ Tryd.underlying39 rfl (by kernel_rfl)) rfl ?_
      exact ⟨er_, bl_⟩
    replace c34 := Bool.eq_false_iff.mpr c34
    subst c34
    have H1 : (armoireref02_TakeU.l0 kj17 t149 0 0 t147 t148) = some (r1, r2, r3) := by rw [if_neg (show ¬ (false = true) by decide)] at H; exact H
    clear H
    have H := H1
    clear H1
    have H' := Aside0.mk H
    clear H
    go_wp2
    go_loopg [6, 7] kj17 (fun kq v6 v7 w' => ∃ (x6_2 : Int) (x7_2 : Int), v6 = .int .u64 x6_2 ∧ v7 = .int .i64 x7_2 ∧ Aside0 (armoireref02_TakeU.l0 kq t149 x6_2 x7_2 t147 t148 = some (r1, r2, r3)) ∧ Aside0 (kq ≤ kj17) ∧ Aside0 (w'.heap[gb142]? = some (.cells #[.string t147, .int .i64 t148] 39 (0, 0))) ∧ Aside0 (w'.heap[gb143]? = some (.cells #[.string (⟨#[]⟩ : ByteArray), .int .i64 0] 39 (0, 0))) ∧ Aside0 (Below w.heap.size w w'))
    case atStart => exact ⟨(0), (0), (by first | rfl | (simp; done) | (simp [*]; done) | exact emp1_ _ | exact (emp1_ _).symm | exact emp2_ _ | exact (emp2_ _).symm), (by first | rfl | (simp; done) | (simp [*]; done) | exact emp1_ _ | exact (emp1_ _).symm | exact emp2_ _ | exact (emp2_ _).symm), H', ⟨Nat.le_refl _⟩, ⟨bk_⟩, ⟨bk_⟩, ⟨bl_⟩⟩
    clear H'
    try clear c1
    try clear p1
    try clear q1
    try clear hx1
    try clear qi1
    try clear c2
    try clear p2
    try clear q2
    try clear hx2
    try clear qi2
    try clear c3
    try clear c4
    try clear c6
    try clear p6
    try clear c10
    try clear c10b0
    try clear c10b1
    try clear c11
    try clear c11b0
    try clear c11b1
    try clear p12
    try clear q12
    try clear hx12
    try clear qi12
    try clear c13
    try clear c13b0
    try clear c14
    try clear p16
    try clear q16
    try clear hx16
    try clear qi16
    try clear c24
    try clear c24b0
    try clear c24b1
    try clear c25
    try clear c25b0
    try clear c25b1
    try clear c26
    try clear c26b0
    try clear c26b1
    try clear p27
    try clear q27
    try clear hx27
    try clear qi27
    try clear c28
    try clear c30
    try clear c32
    try clear c34
    try clear c35
    try clear hcz15
    try clear hcz29
    try clear hcz31
    try clear hcz33
    try clear hcz36
    try clear hcz7
    try clear hcz9
    try clear hcz15
    try clear hcz29
    try clear hcz31
    try clear hcz33
    try clear hcz36
    try clear hcz7
    try clear hcz9
    try clear p1
    try clear p12
    try clear p16
    try clear p2
    try clear p27
    try clear p6
    try clear q1
    try clear q12
    try clear q16
    try clear q2
    try clear q27
    obtain ⟨x6_2, x7_2, rfl, rfl, HA, HK2, BK142, BK143, HB⟩ := hrel
    cases gk with
    | zero => exact absurd HA.out (by simp [armoireref02_TakeU.l0])
    | succ k2 =>
      have H := HA.out
      clear HA
      simp only [armoireref02_TakeU.l0] at H
      by_cases c37 : x7_2 < (t149.size : Int)
      · rw [if_pos c37] at H
        have c37b0 : decide (x7_2 < (t149.size : Int)) = true := decide_eq_true c37
        clear c37
        by_cases c38 : 0 ≤ x7_2
        rotate_left
        · rw [if_neg c38] at H
          exact absurd H (by simp)
        rw [if_pos c38] at H
        have c38b0 : decide (0 ≤ x7_2) = true := decide_eq_true c38
        clear c38
        have H' := Aside0.mk H
        clear H
        have p39 : 0 ≤ (x7_2 : Int) := of_decide_eq_true (by first | (with_reducible assumption) | assumption)
        have q39 : x7_2 < (t149.size : Int) := of_decide_eq_true (by first | (with_reducible assumption) | assumption)
        have hx39 := bt_at t149 x7_2
        replace p39 := eq_true p39
        replace q39 := eq_true q39
        go_wp2
        go_roundg k2
        case measure => have := HJ17.out; have := HK2.out; omega
        case rel => exact ⟨(IntKind.u64.wrap ((IntKind.u64.wrap (x6_2 * 256)) + (IntKind.u64.wrap (bt t149 x7_2)))), (wrap64 (x7_2 + 1)), (by first | rfl | (simp; done) | (simp [*]; done) | exact emp1_ _ | exact (emp1_ _).symm | exact emp2_ _ | exact (emp2_ _).symm), (by first | rfl | (simp; done) | (simp [*]; done) | exact emp1_ _ | exact (emp1_ _).symm | exact emp2_ _ | exact (emp2_ _).symm), H', ⟨by have := HJ17.out; have := HK2.out; omega⟩, ⟨bk_⟩, ⟨bk_⟩, ⟨bl_⟩⟩
      rw [if_neg c37] at H
      have c37b0 : decide (x7_2 < (t149.size : Int)) = false := decide_eq_false c37
      clear c37
      simp only [Option.some.injEq, Prod.mk.injEq] at H
      obtain ⟨rfl, rfl, rfl⟩ := H
      have hnb40 := NB142_143.out
      have hnc40 := NB143_142.out
      have hcz41 := bc2 BK142.out
      have hcz42 := bc2 BK143.out
      go_wp2
      refine bodyPost_ret (results_ct rfl _ _ gb143 39 #[.string t147, .int .i64 t148] (0, 0) _ rfl bk_ Tryd.underlying39 rfl (by kernel_rfl)) rfl ?_
      exact ⟨er_, bl_⟩
def armoireref02_TakeI.f (k : Nat) (a0_0 : ByteArray) (a0_1 : Int) : Option (ByteArray × Int × Int) := (armoireref02_TakeU.f k a0_0 a0_1).bind fun bt152 => (if (Int.tmod bt152.2.2 2) = 1 then (some (bt152.1, bt152.2.1, wrap64 ((wrap64 (-(wrap64 (IntKind.u64.wrap (Int.tdiv bt152.2.2 2))))) - 1))) else (some (bt152.1, bt152.2.1, wrap64 (IntKind.u64.wrap (Int.tdiv bt152.2.2 2)))))
set_option maxHeartbeats 2000000 in
set_option maxRecDepth 100000 in
theorem armoireref02_TakeI.calls (k : Nat) (a0_0 : ByteArray) (a0_1 : Int) (r1 : ByteArray) (r2 : Int) (r3 : Int) (w : World) (h : armoireref02_TakeI.f k a0_0 a0_1 = some (r1, r2, r3)) :
    Calls Tryd.prog 41 #[.agg #[.string a0_0, .int .i64 a0_1]] w fun e w' => e = .returned (.tuple #[.agg #[.string r1, .int .i64 r2], .int .i64 r3]) ∧ Below w.heap.size w w' := by
  have hu39 := Tryd.underlying39
  have HB := Aside0.mk (Below.refl w.heap.size w)
  have H : ((armoireref02_TakeU.f k a0_0 a0_1).bind fun bt152 => (if (Int.tmod bt152.2.2 2) = 1 then (some (bt152.1, bt152.2.1, wrap64 ((wrap64 (-(wrap64 (IntKind.u64.wrap (Int.tdiv bt152.2.2 2))))) - 1))) else (some (bt152.1, bt152.2.1, wrap64 (IntKind.u64.wrap (Int.tdiv bt152.2.2 2)))))) = some (r1, r2, r3) := h
  clear h
  replace H := Option.bind_eq_some_iff.mp H
  obtain ⟨⟨t152, t153, t154⟩, A20, H⟩ := H
  replace H : (if (Int.tmod t154 2) = 1 then (some (t152, t153, wrap64 ((wrap64 (-(wrap64 (IntKind.u64.wrap (Int.tdiv t154 2))))) - 1))) else (some (t152, t153, wrap64 (IntKind.u64.wrap (Int.tdiv t154 2))))) = some (r1, r2, r3) := H
  have A2 := Aside0.mk A20
  clear A20
  have HS3 := Aside0.mk H
  clear H
  go_enter Tryd.func41, Tryd.ntmps41
  go_upto_if 12 with (first | ((with_reducible refine gds (N := 1) rfl ?_); refine bev ?hg (N := 1) ?hd (cs := #[.string a0_0, .int .i64 a0_1]) (t := 39) ?hr ?_; (case hd => rfl); (case hg => rfl); (case hr => first | (go_simp; done) | (go_simp; rfl)); intro gb150 hg w4 hbox hb; have n0_ := Aside0.mk (bsp bl_ hb); have n1_ := Aside0.mk (hbox); have n2_ := Aside0.mk ((by rw [hg]; exact bsz bl_ : w.heap.size ≤ gb150)); have n3_ := Aside0.mk ((by rw [hg]; exact bsz bl_ : w.heap.size ≤ gb150)); clear HB; have HB := n0_; have BK150 := n1_; have GW150 := n2_; have GE150 := n3_; clear n0_ n1_ n2_ n3_; clear hb hbox hg) | ((with_reducible refine gds (N := 2) rfl ?_); refine bev ?hg (N := 2) ?hd (cs := #[.string (⟨#[]⟩ : ByteArray), .int .i64 0]) (t := 39) ?hr ?_; (case hd => rfl); (case hg => rfl); (case hr => first | (go_simp; done) | (go_simp; rfl)); intro gb151 hg w5 hbox hb; have n0_ := Aside0.mk (kbl (g := gb150) (o := .cells #[.string a0_0, .int .i64 a0_1] 39 (0, 0)) bk_ hb); have n1_ := Aside0.mk (bsp bl_ hb); have n2_ := Aside0.mk (hbox); have n3_ := Aside0.mk ((by rw [hg]; exact bsz bl_ : w.heap.size ≤ gb151)); have n4_ := Aside0.mk ((by rw [hg]; exact bsz bl_ : w.heap.size ≤ gb151)); have n5_ := Aside0.mk ((by rw [hg]; exact Nat.ne_of_lt (blk_lt (g := gb150) (o := .cells #[.string a0_0, .int .i64 a0_1] 39 (0, 0)) bk_) : gb150 ≠ gb151)); have n6_ := Aside0.mk ((by rw [hg]; exact Nat.ne_of_gt (blk_lt (g := gb150) (o := .cells #[.string a0_0, .int .i64 a0_1] 39 (0, 0)) bk_) : gb151 ≠ gb150)); clear BK150; clear HB; have BK150 := n0_; have HB := n1_; have BK151 := n2_; have GW151 := n3_; have GE151 := n4_; have NB150_151 := n5_; have NB151_150 := n6_; clear n0_ n1_ n2_ n3_ n4_ n5_ n6_; clear hb hbox hg; have hnb6 := NB150_151.out; have hnc6 := NB151_150.out; have hcz7 := bc2 BK150.out) | ((with_reducible refine gcl (f := 40) rfl ?_); refine gl_ (some 7) rfl rfl Tryd.func40 (by kernel_rfl) rfl #[.agg #[.string a0_0, .int .i64 a0_1]] rfl ar_ ?_; (with_reducible refine (armoireref02_TakeU.calls k a0_0 a0_1 t152 t153 t154 _ A2.out).mono ?_); rintro e w8 ⟨rfl, hb⟩; refine ⟨_, rfl, ?_⟩; have n0_ := Aside0.mk (kbl (g := gb150) (o := .cells #[.string a0_0, .int .i64 a0_1] 39 (0, 0)) bk_ hb); have n1_ := Aside0.mk (kbl (g := gb151) (o := .cells #[.string (⟨#[]⟩ : ByteArray), .int .i64 0] 39 (0, 0)) bk_ hb); have n2_ := Aside0.mk (bsp bl_ hb); clear BK150; clear BK151; clear HB; have BK150 := n0_; have BK151 := n1_; have HB := n2_; clear n0_ n1_ n2_; (try clear hb); (try clear hb2); (try clear hk); (try clear hi); have hcz9 := bc2 BK150.out))
  (try simp only [Act.put, List.setIfInBounds_toArray, List.set_cons_zero, List.set_cons_succ])
  have H := HS3.out
  clear HS3
  by_cases c10 : (Int.tmod t154 2) = 1
  rotate_left
  · rw [if_neg c10] at H
    have c10b0 : ((Int.tmod t154 2) == 1) = false := beq_eq_false_iff_ne.mpr c10
    have c10b1 : ((Int.tmod t154 2) != 1) = true := bne_iff_ne.mpr c10
    (first | rw [c10b0] | (simp only [i64_w, i32_w]; rw [c10b0]) | skip)
    simp only [Option.some.injEq, Prod.mk.injEq] at H
    obtain ⟨rfl, rfl, rfl⟩ := H
    have hnb14 := NB150_151.out
    have hnc14 := NB151_150.out
    have hcz15 := bc2 BK150.out
    have hcz16 := bc2 BK151.out
    go_wp2
    refine bodyPost_ret (results_ct rfl _ _ gb151 39 #[.string t152, .int .i64 t153] (0, 0) _ rfl bk_ Tryd.underlying39 rfl (by kernel_rfl)) rfl ?_
    exact ⟨er_, bl_⟩
  rw [if_pos c10] at H
  have c10b0 : ((Int.tmod t154 2) == 1) = true := beq_iff_eq.mpr c10
  have c10b1 : ((Int.tmod t154 2) != 1) = false := bne_eq_false_iff_eq.mpr c10
  clear c10
  (first | rw [c10b0] | (simp only [i64_w, i32_w]; rw [c10b0]) | skip)
  simp only [Option.some.injEq, Prod.mk.injEq] at H
  obtain ⟨rfl, rfl, rfl⟩ := H
  have hnb11 := NB150_151.out
  have hnc11 := NB151_150.out
  have hcz12 := bc2 BK150.out
  have hcz13 := bc2 BK151.out
  go_wp2
  refine bodyPost_ret (results_ct rfl _ _ gb151 39 #[.string t152, .int .i64 t153] (0, 0) _ rfl bk_ Tryd.underlying39 rfl (by kernel_rfl)) rfl ?_
  exact ⟨er_, bl_⟩
def armoireref02_Fail.f (a0_0 : ByteArray) (a0_1 : Int) (a1 : Int) : Option (ByteArray × Int) := if a0_1 = 0 then (if a1 = 0 then (some (a0_0, a0_1)) else (some ((⟨#[]⟩ : ByteArray), a1))) else (some (a0_0, a0_1))
set_option maxHeartbeats 2000000 in
set_option maxRecDepth 100000 in
theorem armoireref02_Fail.calls (a0_0 : ByteArray) (a0_1 : Int) (a1 : Int) (r1 : ByteArray) (r2 : Int) (w : World) (h : armoireref02_Fail.f a0_0 a0_1 a1 = some (r1, r2)) :
    Calls Tryd.prog 45 #[.agg #[.string a0_0, .int .i64 a0_1], .int .i64 a1] w fun e w' => e = .returned (.agg #[.string r1, .int .i64 r2]) ∧ Below w.heap.size w w' := by
  have hu39 := Tryd.underlying39
  have HB := Aside0.mk (Below.refl w.heap.size w)
  have H : (if a0_1 = 0 then (if a1 = 0 then (some (a0_0, a0_1)) else (some ((⟨#[]⟩ : ByteArray), a1))) else (some (a0_0, a0_1))) = some (r1, r2) := h
  clear h
  by_cases c3 : a0_1 = 0
  rotate_left
  · rw [if_neg c3] at H
    have c3b0 : (a0_1 == 0) = false := beq_eq_false_iff_ne.mpr c3
    have c3b1 : (a0_1 != 0) = true := bne_iff_ne.mpr c3
    simp only [Option.some.injEq, Prod.mk.injEq] at H
    obtain ⟨rfl, rfl⟩ := H
    go_enter Tryd.func45, Tryd.ntmps45
    go_wp2_with (first | ((with_reducible refine gds (N := 2) rfl ?_); refine bev ?hg (N := 2) ?hd (cs := #[.string a0_0, .int .i64 a0_1]) (t := 39) ?hr ?_; (case hd => rfl); (case hg => rfl); (case hr => first | (go_simp; done) | (go_simp; rfl)); intro gb155 hg w15 hbox hb; have n0_ := Aside0.mk (bsp bl_ hb); have n1_ := Aside0.mk (hbox); have n2_ := Aside0.mk ((by rw [hg]; exact bsz bl_ : w.heap.size ≤ gb155)); have n3_ := Aside0.mk ((by rw [hg]; exact bsz bl_ : w.heap.size ≤ gb155)); clear HB; have HB := n0_; have BK155 := n1_; have GW155 := n2_; have GE155 := n3_; clear n0_ n1_ n2_ n3_; clear hb hbox hg) | ((with_reducible refine gds (N := 4) rfl ?_); refine bev ?hg (N := 4) ?hd (cs := #[.string (⟨#[]⟩ : ByteArray), .int .i64 0]) (t := 39) ?hr ?_; (case hd => rfl); (case hg => rfl); (case hr => first | (go_simp; done) | (go_simp; rfl)); intro gb156 hg w16 hbox hb; have n0_ := Aside0.mk (kbl (g := gb155) (o := .cells #[.string a0_0, .int .i64 a0_1] 39 (0, 0)) bk_ hb); have n1_ := Aside0.mk (bsp bl_ hb); have n2_ := Aside0.mk (hbox); have n3_ := Aside0.mk ((by rw [hg]; exact bsz bl_ : w.heap.size ≤ gb156)); have n4_ := Aside0.mk ((by rw [hg]; exact bsz bl_ : w.heap.size ≤ gb156)); have n5_ := Aside0.mk ((by rw [hg]; exact Nat.ne_of_lt (blk_lt (g := gb155) (o := .cells #[.string a0_0, .int .i64 a0_1] 39 (0, 0)) bk_) : gb155 ≠ gb156)); have n6_ := Aside0.mk ((by rw [hg]; exact Nat.ne_of_gt (blk_lt (g := gb155) (o := .cells #[.string a0_0, .int .i64 a0_1] 39 (0, 0)) bk_) : gb156 ≠ gb155)); clear BK155; clear HB; have BK155 := n0_; have HB := n1_; have BK156 := n2_; have GW156 := n3_; have GE156 := n4_; have NB155_156 := n5_; have NB156_155 := n6_; clear n0_ n1_ n2_ n3_ n4_ n5_ n6_; clear hb hbox hg; have hnb17 := NB155_156.out; have hnc17 := NB156_155.out; have hcz18 := bc2 BK155.out; have hcz19 := bc2 BK156.out))
    refine bodyPost_ret (results_cell_row rfl _ _ gb156 39 #[.string a0_0, .int .i64 a0_1] (0, 0) _ rfl bk_ Tryd.underlying39 rfl (by kernel_rfl)) rfl ?_
    exact ⟨er_, bl_⟩
  rw [if_pos c3] at H
  have c3b0 : (a0_1 == 0) = true := beq_iff_eq.mpr c3
  have c3b1 : (a0_1 != 0) = false := bne_eq_false_iff_eq.mpr c3
  clear c3
  have HS4 := Aside0.mk H
  clear H
  go_enter Tryd.func45, Tryd.ntmps45
  go_upto_if 11 with (first | ((with_reducible refine gds (N := 2) rfl ?_); refine bev ?hg (N := 2) ?hd (cs := #[.string a0_0, .int .i64 a0_1]) (t := 39) ?hr ?_; (case hd => rfl); (case hg => rfl); (case hr => first | (go_simp; done) | (go_simp; rfl)); intro gb155 hg w5 hbox hb; have n0_ := Aside0.mk (bsp bl_ hb); have n1_ := Aside0.mk (hbox); have n2_ := Aside0.mk ((by rw [hg]; exact bsz bl_ : w.heap.size ≤ gb155)); have n3_ := Aside0.mk ((by rw [hg]; exact bsz bl_ : w.heap.size ≤ gb155)); clear HB; have HB := n0_; have BK155 := n1_; have GW155 := n2_; have GE155 := n3_; clear n0_ n1_ n2_ n3_; clear hb hbox hg) | ((with_reducible refine gds (N := 4) rfl ?_); refine bev ?hg (N := 4) ?hd (cs := #[.string (⟨#[]⟩ : ByteArray), .int .i64 0]) (t := 39) ?hr ?_; (case hd => rfl); (case hg => rfl); (case hr => first | (go_simp; done) | (go_simp; rfl)); intro gb156 hg w6 hbox hb; have n0_ := Aside0.mk (kbl (g := gb155) (o := .cells #[.string a0_0, .int .i64 a0_1] 39 (0, 0)) bk_ hb); have n1_ := Aside0.mk (bsp bl_ hb); have n2_ := Aside0.mk (hbox); have n3_ := Aside0.mk ((by rw [hg]; exact bsz bl_ : w.heap.size ≤ gb156)); have n4_ := Aside0.mk ((by rw [hg]; exact bsz bl_ : w.heap.size ≤ gb156)); have n5_ := Aside0.mk ((by rw [hg]; exact Nat.ne_of_lt (blk_lt (g := gb155) (o := .cells #[.string a0_0, .int .i64 a0_1] 39 (0, 0)) bk_) : gb155 ≠ gb156)); have n6_ := Aside0.mk ((by rw [hg]; exact Nat.ne_of_gt (blk_lt (g := gb155) (o := .cells #[.string a0_0, .int .i64 a0_1] 39 (0, 0)) bk_) : gb156 ≠ gb155)); clear BK155; clear HB; have BK155 := n0_; have HB := n1_; have BK156 := n2_; have GW156 := n3_; have GE156 := n4_; have NB155_156 := n5_; have NB156_155 := n6_; clear n0_ n1_ n2_ n3_ n4_ n5_ n6_; clear hb hbox hg; have hnb7 := NB155_156.out; have hnc7 := NB156_155.out; have hcz8 := bc2 BK155.out))
  (try simp only [Act.put, List.setIfInBounds_toArray, List.set_cons_zero, List.set_cons_succ])
  have H := HS4.out
  clear HS4
  by_cases c9 : a1 = 0
  rotate_left
  · rw [if_neg c9] at H
    have c9b0 : (a1 == 0) = false := beq_eq_false_iff_ne.mpr c9
    have c9b1 : (a1 != 0) = true := bne_iff_ne.mpr c9
    (first | rw [c9b0] | (simp only [i64_w, i32_w]; rw [c9b0]) | skip)
    simp only [Option.some.injEq, Prod.mk.injEq] at H
    obtain ⟨rfl, rfl⟩ := H
    have hnb13 := NB156_155.out
    have hnc13 := NB155_156.out
    have hcz14 := bc2 BK156.out
    go_wp2
    refine bodyPost_ret (results_cell_row rfl _ _ gb156 39 #[.string (⟨#[]⟩ : ByteArray), .int .i64 a1] (0, 0) _ rfl bk_ Tryd.underlying39 rfl (by kernel_rfl)) rfl ?_
    exact ⟨er_, bl_⟩
  rw [if_pos c9] at H
  have c9b0 : (a1 == 0) = true := beq_iff_eq.mpr c9
  have c9b1 : (a1 != 0) = false := bne_eq_false_iff_eq.mpr c9
  clear c9
  (first | rw [c9b0] | (simp only [i64_w, i32_w]; rw [c9b0]) | skip)
  simp only [Option.some.injEq, Prod.mk.injEq] at H
  obtain ⟨rfl, rfl⟩ := H
  have hnb10 := NB155_156.out
  have hnc10 := NB156_155.out
  have hcz11 := bc2 BK155.out
  have hcz12 := bc2 BK156.out
  go_wp2
  refine bodyPost_ret (results_cell_row rfl _ _ gb156 39 #[.string a0_0, .int .i64 a0_1] (0, 0) _ rfl bk_ Tryd.underlying39 rfl (by kernel_rfl)) rfl ?_
  exact ⟨er_, bl_⟩
def armoireref02_TakeN.f (k : Nat) (a0_0 : ByteArray) (a0_1 : Int) (a1 : Int) : Option (ByteArray × Int × Int) := (armoireref02_TakeU.f k a0_0 a0_1).bind fun bt159 => (if bt159.2.2 > (IntKind.u64.wrap (mx a1 0)) then ((armoireref02_Fail.f bt159.1 bt159.2.1 3).bind fun bt162 => (some (bt162.1, bt162.2, 0))) else (some (bt159.1, bt159.2.1, wrap64 (bt159.2.2))))
set_option maxHeartbeats 2000000 in
set_option maxRecDepth 100000 in
theorem armoireref02_TakeN.calls (k : Nat) (a0_0 : ByteArray) (a0_1 : Int) (a1 : Int) (r1 : ByteArray) (r2 : Int) (r3 : Int) (w : World) (h : armoireref02_TakeN.f k a0_0 a0_1 a1 = some (r1, r2, r3)) :
    Calls Tryd.prog 43 #[.agg #[.string a0_0, .int .i64 a0_1], .int .i64 a1] w fun e w' => e = .returned (.tuple #[.agg #[.string r1, .int .i64 r2], .int .i64 r3]) ∧ Below w.heap.size w w' := by
  have hu39 := Tryd.underlying39
  have HB := Aside0.mk (Below.refl w.heap.size w)
  have H : ((armoireref02_TakeU.f k a0_0 a0_1).bind fun bt159 => (if bt159.2.2 > (IntKind.u64.wrap (mx a1 0)) then ((armoireref02_Fail.f bt159.1 bt159.2.1 3).bind fun bt162 => (some (bt162.1, bt162.2, 0))) else (some (bt159.1, bt159.2.1, wrap64 (bt159.2.2))))) = some (r1, r2, r3) := h
  clear h
  replace H := Option.bind_eq_some_iff.mp H
  obtain ⟨⟨t159, t160, t161⟩, A30, H⟩ := H
  replace H : (if t161 > (IntKind.u64.wrap (mx a1 0)) then ((armoireref02_Fail.f t159 t160 3).bind fun bt162 => (some (bt162.1, bt162.2, 0))) else (some (t159, t160, wrap64 (t161)))) = some (r1, r2, r3) := H
  have A3 := Aside0.mk A30
  clear A30
  obtain ⟨ji4, hji4⟩ : ∃ j_ : Int, (mx a1 0) = j_ := ⟨_, rfl⟩
  replace H : (if t161 > (IntKind.u64.wrap (ji4)) then ((armoireref02_Fail.f t159 t160 3).bind fun bt162 => (some (bt162.1, bt162.2, 0))) else (some (t159, t160, wrap64 (t161)))) = some (r1, r2, r3) := by first | (rw [hji4] at H; exact H) | (simp only [hji4] at H ⊢; exact H)
  (try rw [hji4] at A3)
  (try (have hji4l : 0 ≤ ji4 := by (rw [← hji4]; unfold mx; (repeat' split) <;> omega)))
  (try (have hji4m : 0 ≤ ji4 := by omega))
  have hji4_ : (if a1 < 0 then 0 else a1) = ji4 := hji4
  have HS5 := Aside0.mk H
  clear H
  go_enter Tryd.func43, Tryd.ntmps43
  go_upto_if 16 with (first | ((with_reducible refine gds (N := 2) rfl ?_); refine bev ?hg (N := 2) ?hd (cs := #[.string a0_0, .int .i64 a0_1]) (t := 39) ?hr ?_; (case hd => rfl); (case hg => rfl); (case hr => first | (go_simp; done) | (go_simp; rfl)); intro gb157 hg w6 hbox hb; have n0_ := Aside0.mk (bsp bl_ hb); have n1_ := Aside0.mk (hbox); have n2_ := Aside0.mk ((by rw [hg]; exact bsz bl_ : w.heap.size ≤ gb157)); have n3_ := Aside0.mk ((by rw [hg]; exact bsz bl_ : w.heap.size ≤ gb157)); clear HB; have HB := n0_; have BK157 := n1_; have GW157 := n2_; have GE157 := n3_; clear n0_ n1_ n2_ n3_; clear hb hbox hg) | ((with_reducible refine gds (N := 4) rfl ?_); refine bev ?hg (N := 4) ?hd (cs := #[.string (⟨#[]⟩ : ByteArray), .int .i64 0]) (t := 39) ?hr ?_; (case hd => rfl); (case hg => rfl); (case hr => first | (go_simp; done) | (go_simp; rfl)); intro gb158 hg w7 hbox hb; have n0_ := Aside0.mk (kbl (g := gb157) (o := .cells #[.string a0_0, .int .i64 a0_1] 39 (0, 0)) bk_ hb); have n1_ := Aside0.mk (bsp bl_ hb); have n2_ := Aside0.mk (hbox); have n3_ := Aside0.mk ((by rw [hg]; exact bsz bl_ : w.heap.size ≤ gb158)); have n4_ := Aside0.mk ((by rw [hg]; exact bsz bl_ : w.heap.size ≤ gb158)); have n5_ := Aside0.mk ((by rw [hg]; exact Nat.ne_of_lt (blk_lt (g := gb157) (o := .cells #[.string a0_0, .int .i64 a0_1] 39 (0, 0)) bk_) : gb157 ≠ gb158)); have n6_ := Aside0.mk ((by rw [hg]; exact Nat.ne_of_gt (blk_lt (g := gb157) (o := .cells #[.string a0_0, .int .i64 a0_1] 39 (0, 0)) bk_) : gb158 ≠ gb157)); clear BK157; clear HB; have BK157 := n0_; have HB := n1_; have BK158 := n2_; have GW158 := n3_; have GE158 := n4_; have NB157_158 := n5_; have NB158_157 := n6_; clear n0_ n1_ n2_ n3_ n4_ n5_ n6_; clear hb hbox hg; have hnb8 := NB157_158.out; have hnc8 := NB158_157.out; have hcz9 := bc2 BK157.out) | ((with_reducible refine gcl (f := 40) rfl ?_); refine gl_ (some 9) rfl rfl Tryd.func40 (by kernel_rfl) rfl #[.agg #[.string a0_0, .int .i64 a0_1]] rfl ar_ ?_; (with_reducible refine (armoireref02_TakeU.calls k a0_0 a0_1 t159 t160 t161 _ A3.out).mono ?_); rintro e w10 ⟨rfl, hb⟩; refine ⟨_, rfl, ?_⟩; have n0_ := Aside0.mk (kbl (g := gb157) (o := .cells #[.string a0_0, .int .i64 a0_1] 39 (0, 0)) bk_ hb); have n1_ := Aside0.mk (kbl (g := gb158) (o := .cells #[.string (⟨#[]⟩ : ByteArray), .int .i64 0] 39 (0, 0)) bk_ hb); have n2_ := Aside0.mk (bsp bl_ hb); clear BK157; clear BK158; clear HB; have BK157 := n0_; have BK158 := n1_; have HB := n2_; clear n0_ n1_ n2_; (try clear hb); (try clear hb2); (try clear hk); (try clear hi); have hcz11 := bc2 BK157.out))
  (try simp only [Act.put, List.setIfInBounds_toArray, List.set_cons_zero, List.set_cons_succ])
  have H := HS5.out
  clear HS5
  by_cases c12 : t161 > (IntKind.u64.wrap (ji4))
  rotate_left
  · rw [if_neg c12] at H
    have c12b0 : decide ((IntKind.u64.wrap (ji4)) < t161) = false := decide_eq_false c12
    clear c12
    (first | rw [c12b0] | (simp only [i64_w, i32_w]; rw [c12b0]) | skip)
    simp only [Option.some.injEq, Prod.mk.injEq] at H
    obtain ⟨rfl, rfl, rfl⟩ := H
    have hnb18 := NB157_158.out
    have hnc18 := NB158_157.out
    have hcz19 := bc2 BK157.out
    have hcz20 := bc2 BK158.out
    go_wp2
    refine bodyPost_ret (results_ct rfl _ _ gb158 39 #[.string t159, .int .i64 t160] (0, 0) _ rfl bk_ Tryd.underlying39 rfl (by kernel_rfl)) rfl ?_
    exact ⟨by first | rfl | (simp [errW_none, errW_some] <;> rfl) | (simp only [← hji4]; first | rfl | (simp [errW_none, errW_some] <;> rfl)) | (simp [*, errW_none, errW_some] <;> rfl), bl_⟩
  rw [if_pos c12] at H
  have c12b0 : decide ((IntKind.u64.wrap (ji4)) < t161) = true := decide_eq_true c12
  clear c12
  (first | rw [c12b0] | (simp only [i64_w, i32_w]; rw [c12b0]) | skip)
  replace H := Option.bind_eq_some_iff.mp H
  obtain ⟨⟨t162, t163⟩, A130, H⟩ := H
  replace H : (some (t162, t163, 0)) = some (r1, r2, r3) := H
  have A13 := Aside0.mk A130
  clear A130
  simp only [Option.some.injEq, Prod.mk.injEq] at H
  obtain ⟨rfl, rfl, rfl⟩ := H
  have hnb14 := NB157_158.out
  have hnc14 := NB158_157.out
  have hcz15 := bc2 BK157.out
  go_wp2_with (first | ((with_reducible refine gcl (f := 45) rfl ?_); refine gl_ (some 18) rfl rfl Tryd.func45 (by kernel_rfl) rfl #[.agg #[.string t159, .int .i64 t160], .int .i64 3] rfl ar_ ?_; (with_reducible refine (armoireref02_Fail.calls t159 t160 3 t162 t163 _ A13.out).mono ?_); rintro e w16 ⟨rfl, hb⟩; refine ⟨_, rfl, ?_⟩; have n0_ := Aside0.mk (kbl (g := gb157) (o := .cells #[.string t159, .int .i64 t160] 39 (0, 0)) bk_ hb); have n1_ := Aside0.mk (kbl (g := gb158) (o := .cells #[.string (⟨#[]⟩ : ByteArray), .int .i64 0] 39 (0, 0)) bk_ hb); have n2_ := Aside0.mk (bsp bl_ hb); clear BK157; clear BK158; clear HB; have BK157 := n0_; have BK158 := n1_; have HB := n2_; clear n0_ n1_ n2_; (try clear hb); (try clear hb2); (try clear hk); (try clear hi); have hcz17 := bc2 BK158.out))
  refine bodyPost_ret (results_ct rfl _ _ gb158 39 #[.string t162, .int .i64 t163] (0, 0) _ rfl bk_ Tryd.underlying39 rfl (by kernel_rfl)) rfl ?_
  exact ⟨by first | rfl | (simp [errW_none, errW_some] <;> rfl) | (simp only [← hji4]; first | rfl | (simp [errW_none, errW_some] <;> rfl)) | (simp [*, errW_none, errW_some] <;> rfl), bl_⟩
def armoireref02_TakeS.f (k : Nat) (a0_0 : ByteArray) (a0_1 : Int) (a1 : Int) : Option (ByteArray × Int × ByteArray) := (armoireref02_TakeN.f k a0_0 a0_1 a1).bind fun bt166 => ((armoireref02_take.f bt166.1 bt166.2.1 bt166.2.2).bind fun bt169 => (some (bt169.1, bt169.2.1, bt169.2.2)))
set_option maxHeartbeats 2000000 in
set_option maxRecDepth 100000 in
theorem armoireref02_TakeS.calls (k : Nat) (a0_0 : ByteArray) (a0_1 : Int) (a1 : Int) (r1 : ByteArray) (r2 : Int) (r3 : ByteArray) (w : World) (h : armoireref02_TakeS.f k a0_0 a0_1 a1 = some (r1, r2, r3)) :
    Calls Tryd.prog 44 #[.agg #[.string a0_0, .int .i64 a0_1], .int .i64 a1] w fun e w' => e = .returned (.tuple #[.agg #[.string r1, .int .i64 r2], .string r3]) ∧ Below w.heap.size w w' := by
  have hu39 := Tryd.underlying39
  have HB := Aside0.mk (Below.refl w.heap.size w)
  have H : ((armoireref02_TakeN.f k a0_0 a0_1 a1).bind fun bt166 => ((armoireref02_take.f bt166.1 bt166.2.1 bt166.2.2).bind fun bt169 => (some (bt169.1, bt169.2.1, bt169.2.2)))) = some (r1, r2, r3) := h
  clear h
  replace H := Option.bind_eq_some_iff.mp H
  obtain ⟨⟨t166, t167, t168⟩, A30, H⟩ := H
  replace H : ((armoireref02_take.f t166 t167 t168).bind fun bt169 => (some (bt169.1, bt169.2.1, bt169.2.2))) = some (r1, r2, r3) := H
  have A3 := Aside0.mk A30
  clear A30
  replace H := Option.bind_eq_some_iff.mp H
  obtain ⟨⟨t169, t170, t171⟩, A40, H⟩ := H
  replace H : (some (t169, t170, t171)) = some (r1, r2, r3) := H
  have A4 := Aside0.mk A40
  clear A40
  simp only [Option.some.injEq, Prod.mk.injEq] at H
  obtain ⟨rfl, rfl, rfl⟩ := H
  go_enter Tryd.func44, Tryd.ntmps44
  go_wp2_with (first | ((with_reducible refine gds (N := 2) rfl ?_); refine bev ?hg (N := 2) ?hd (cs := #[.string a0_0, .int .i64 a0_1]) (t := 39) ?hr ?_; (case hd => rfl); (case hg => rfl); (case hr => first | (go_simp; done) | (go_simp; rfl)); intro gb164 hg w5 hbox hb; have n0_ := Aside0.mk (bsp bl_ hb); have n1_ := Aside0.mk (hbox); have n2_ := Aside0.mk ((by rw [hg]; exact bsz bl_ : w.heap.size ≤ gb164)); have n3_ := Aside0.mk ((by rw [hg]; exact bsz bl_ : w.heap.size ≤ gb164)); clear HB; have HB := n0_; have BK164 := n1_; have GW164 := n2_; have GE164 := n3_; clear n0_ n1_ n2_ n3_; clear hb hbox hg) | ((with_reducible refine gds (N := 4) rfl ?_); refine bev ?hg (N := 4) ?hd (cs := #[.string (⟨#[]⟩ : ByteArray), .int .i64 0]) (t := 39) ?hr ?_; (case hd => rfl); (case hg => rfl); (case hr => first | (go_simp; done) | (go_simp; rfl)); intro gb165 hg w6 hbox hb; have n0_ := Aside0.mk (kbl (g := gb164) (o := .cells #[.string a0_0, .int .i64 a0_1] 39 (0, 0)) bk_ hb); have n1_ := Aside0.mk (bsp bl_ hb); have n2_ := Aside0.mk (hbox); have n3_ := Aside0.mk ((by rw [hg]; exact bsz bl_ : w.heap.size ≤ gb165)); have n4_ := Aside0.mk ((by rw [hg]; exact bsz bl_ : w.heap.size ≤ gb165)); have n5_ := Aside0.mk ((by rw [hg]; exact Nat.ne_of_lt (blk_lt (g := gb164) (o := .cells #[.string a0_0, .int .i64 a0_1] 39 (0, 0)) bk_) : gb164 ≠ gb165)); have n6_ := Aside0.mk ((by rw [hg]; exact Nat.ne_of_gt (blk_lt (g := gb164) (o := .cells #[.string a0_0, .int .i64 a0_1] 39 (0, 0)) bk_) : gb165 ≠ gb164)); clear BK164; clear HB; have BK164 := n0_; have HB := n1_; have BK165 := n2_; have GW165 := n3_; have GE165 := n4_; have NB164_165 := n5_; have NB165_164 := n6_; clear n0_ n1_ n2_ n3_ n4_ n5_ n6_; clear hb hbox hg; have hnb7 := NB164_165.out; have hnc7 := NB165_164.out; have hcz8 := bc2 BK164.out) | ((with_reducible refine gcl (f := 43) rfl ?_); refine gl_ (some 10) rfl rfl Tryd.func43 (by kernel_rfl) rfl #[.agg #[.string a0_0, .int .i64 a0_1], .int .i64 a1] rfl ar_ ?_; (with_reducible refine (armoireref02_TakeN.calls k a0_0 a0_1 a1 t166 t167 t168 _ A3.out).mono ?_); rintro e w9 ⟨rfl, hb⟩; refine ⟨_, rfl, ?_⟩; have n0_ := Aside0.mk (kbl (g := gb164) (o := .cells #[.string a0_0, .int .i64 a0_1] 39 (0, 0)) bk_ hb); have n1_ := Aside0.mk (kbl (g := gb165) (o := .cells #[.string (⟨#[]⟩ : ByteArray), .int .i64 0] 39 (0, 0)) bk_ hb); have n2_ := Aside0.mk (bsp bl_ hb); clear BK164; clear BK165; clear HB; have BK164 := n0_; have BK165 := n1_; have HB := n2_; clear n0_ n1_ n2_; (try clear hb); (try clear hb2); (try clear hk); (try clear hi); have hcz10 := bc2 BK164.out) | ((with_reducible refine gcl (f := 48) rfl ?_); refine gl_ (some 15) rfl rfl Tryd.func48 (by kernel_rfl) rfl #[.agg #[.string t166, .int .i64 t167], .int .i64 t168] rfl ar_ ?_; (with_reducible refine (armoireref02_take.calls t166 t167 t168 t169 t170 t171 _ A4.out).mono ?_); rintro e w11 ⟨rfl, hb⟩; refine ⟨_, rfl, ?_⟩; have n0_ := Aside0.mk (kbl (g := gb164) (o := .cells #[.string t166, .int .i64 t167] 39 (0, 0)) bk_ hb); have n1_ := Aside0.mk (kbl (g := gb165) (o := .cells #[.string (⟨#[]⟩ : ByteArray), .int .i64 0] 39 (0, 0)) bk_ hb); have n2_ := Aside0.mk (bsp bl_ hb); clear BK164; clear BK165; clear HB; have BK164 := n0_; have BK165 := n1_; have HB := n2_; clear n0_ n1_ n2_; (try clear hb); (try clear hb2); (try clear hk); (try clear hi); have hcz12 := bc2 BK165.out))
  refine bodyPost_ret (results_ct rfl _ _ gb165 39 #[.string t169, .int .i64 t170] (0, 0) _ rfl bk_ Tryd.underlying39 rfl (by kernel_rfl)) rfl ?_
  exact ⟨er_, bl_⟩
end Go.Proofs.YtndekeigagjfiaaDoor.PA

