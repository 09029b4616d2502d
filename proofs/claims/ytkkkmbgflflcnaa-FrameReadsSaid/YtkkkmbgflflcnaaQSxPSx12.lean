import Derived.Test.YtkkkmbgflflcnaaQSxPSx6
import Derived.Test.YtkkkmbgflflcnaaQSxPSx11
namespace Go.Proofs.Ytkkkmbgflflcnaa.PS
open Go.Proofs.Ytkkkmbgflflcnaa.PL
open Go.RowKit Go.Proofs.YtkkkmbgflflcnaaW.PrintWords Go.Proofs.YtkkkmbgflflcnaaW.PrintLast Go.Proofs.YtkkkmbgflflcnaaW.PrintMore
attribute [local go_sem] max2_int min2_int max_two min_two max_three min_three max_four min_four
set_option linter.unusedVariables false
set_option linter.unusedSimpArgs false
mutual
def armoireref02_TakeU.j0 : Nat → ByteArray → Bool → ByteArray → Int → Option (ByteArray × Int × Int)
  | 0, _, _, _, _ => none
  | k + 1, x5, x41, x277000, x277001 => if x41 = true then (some ((⟨#[]⟩ : ByteArray), 2, 0)) else (armoireref02_TakeU.l0 k x5 0 0 x277000 x277001)
def armoireref02_TakeU.l0 : Nat → ByteArray → Int → Int → ByteArray → Int → Option (ByteArray × Int × Int)
  | 0, _, _, _, _, _ => none
  | k + 1, x5, x6, x7, x277000, x277001 => if x7 < (x5.size : Int) then (if 0 ≤ x7 then (armoireref02_TakeU.l0 k x5 (IntKind.u64.wrap ((IntKind.u64.wrap (x6 * 256)) + (IntKind.u64.wrap (bt x5 x7)))) (wrap64 (x7 + 1)) x277000 x277001) else (none)) else (some (x277000, x277001, x6))
end
def armoireref02_TakeU.f (k : Nat) (a0_0 : ByteArray) (a0_1 : Int) : Option (ByteArray × Int × Int) := (armoireref02_take.f a0_0 a0_1 1).bind fun bt278 => (if bt278.2.1 = 0 then (if 0 < (bt278.2.2.size : Int) then (if (bt bt278.2.2 0) > 8 then (some ((⟨#[]⟩ : ByteArray), 2, 0)) else ((armoireref02_take.f bt278.1 bt278.2.1 (wrap64 (bt bt278.2.2 0))).bind fun bt281 => (if bt281.2.1 = 0 then (if (bt281.2.2.size : Int) > 0 then (if 0 < (bt281.2.2.size : Int) then (armoireref02_TakeU.j0 k bt281.2.2 ((bt bt281.2.2 0) == 0) bt281.1 bt281.2.1) else (none)) else (armoireref02_TakeU.j0 k bt281.2.2 false bt281.1 bt281.2.1)) else (armoireref02_TakeU.j0 k bt281.2.2 false bt281.1 bt281.2.1)))) else (none)) else (some (bt278.1, bt278.2.1, 0)))
def armoireref02_TakeU.T6 : Bool × List (List Nat × List Nat) := (true, [([], []), ([], []), ([1], [1]), ([2], [2]), ([0, 3], [0, 3]), ([4], [4]), ([5], [5]), ([5], [5]), ([6, 4, 0, 1, 2, 3, 4, 5, 6], [6]), ([7, 8, 0, 1, 2, 3, 4, 5, 6, 7, 8], [7])])
def armoireref02_TakeU.B6 : List Nat := [0, 0, 2, 6, 15, 31, 63, 63, 127, 511]
theorem armoireref02_TakeU.tab6 : rtab .any (opsOf Try.f71 6) = armoireref02_TakeU.T6 := by kernel_rfl
theorem armoireref02_TakeU.bits6 : waitsOk armoireref02_TakeU.T6.2 armoireref02_TakeU.B6 = true := by kernel_rfl
set_option maxHeartbeats 2000000 in
set_option maxRecDepth 100000 in
theorem armoireref02_TakeU.calls (k : Nat) (a0_0 : ByteArray) (a0_1 : Int) (r1 : ByteArray) (r2 : Int) (r3 : Int) (w : World) (h : armoireref02_TakeU.f k a0_0 a0_1 = some (r1, r2, r3)) :
    Calls Try.prog 71 #[.agg #[.string a0_0, .int .i64 a0_1]] w fun e w' => e = .returned (.tuple #[.agg #[.string r1, .int .i64 r2], .int .u64 r3]) ∧ Below w.heap.size w w' := by
  have hu88 := Try.underlying88
  have HB := Aside0.mk (Below.refl w.heap.size w)
  have H : ((armoireref02_take.f a0_0 a0_1 1).bind fun bt278 => (if bt278.2.1 = 0 then (if 0 < (bt278.2.2.size : Int) then (if (bt bt278.2.2 0) > 8 then (some ((⟨#[]⟩ : ByteArray), 2, 0)) else ((armoireref02_take.f bt278.1 bt278.2.1 (wrap64 (bt bt278.2.2 0))).bind fun bt281 => (if bt281.2.1 = 0 then (if (bt281.2.2.size : Int) > 0 then (if 0 < (bt281.2.2.size : Int) then (armoireref02_TakeU.j0 k bt281.2.2 ((bt bt281.2.2 0) == 0) bt281.1 bt281.2.1) else (none)) else (armoireref02_TakeU.j0 k bt281.2.2 false bt281.1 bt281.2.1)) else (armoireref02_TakeU.j0 k bt281.2.2 false bt281.1 bt281.2.1)))) else (none)) else (some (bt278.1, bt278.2.1, 0)))) = some (r1, r2, r3) := h
  clear h
  replace H := Option.bind_eq_some_iff.mp H
  obtain ⟨⟨t278, t279, t280⟩, A20, H⟩ := H
  replace H : (if t279 = 0 then (if 0 < (t280.size : Int) then (if (bt t280 0) > 8 then (some ((⟨#[]⟩ : ByteArray), 2, 0)) else ((armoireref02_take.f t278 t279 (wrap64 (bt t280 0))).bind fun bt281 => (if bt281.2.1 = 0 then (if (bt281.2.2.size : Int) > 0 then (if 0 < (bt281.2.2.size : Int) then (armoireref02_TakeU.j0 k bt281.2.2 ((bt bt281.2.2 0) == 0) bt281.1 bt281.2.1) else (none)) else (armoireref02_TakeU.j0 k bt281.2.2 false bt281.1 bt281.2.1)) else (armoireref02_TakeU.j0 k bt281.2.2 false bt281.1 bt281.2.1)))) else (none)) else (some (t278, t279, 0))) = some (r1, r2, r3) := H
  have A2 := Aside0.mk A20
  clear A20
  have HS3 := Aside0.mk H
  clear H
  go_enter Try.func71, Try.ntmps71
  go_upto_if 15 with (first | ((with_reducible refine gds (N := 1) rfl ?_); (try (refine gate_guard (by rfl) ?_; dsimp only)); refine bev ?hg (N := 1) ?hd (cs := #[.string a0_0, .int .i64 a0_1]) (t := 88) ?hr ?_; (case hd => rfl); (case hg => rfl); (case hr => first | (go_simp; done) | (go_simp; rfl)); intro gb276 hg w4 hbox hb; have n0_ := Aside0.mk (bsp bl_ hb); have n1_ := Aside0.mk (hbox); have n2_ := Aside0.mk ((by rw [hg]; exact bsz bl_ : w.heap.size ≤ gb276)); have n3_ := Aside0.mk ((by rw [hg]; exact bsz bl_ : w.heap.size ≤ gb276)); clear HB; have HB := n0_; have BK276 := n1_; have GW276 := n2_; have GE276 := n3_; clear n0_ n1_ n2_ n3_; clear hb hbox hg) | ((with_reducible refine gds (N := 2) rfl ?_); (try (refine gate_guard (by rfl) ?_; dsimp only)); refine bev ?hg (N := 2) ?hd (cs := #[.string (⟨#[]⟩ : ByteArray), .int .i64 0]) (t := 88) ?hr ?_; (case hd => rfl); (case hg => rfl); (case hr => first | (go_simp; done) | (go_simp; rfl)); intro gb277 hg w5 hbox hb; have n0_ := Aside0.mk (kbl (g := gb276) (o := .cells #[.string a0_0, .int .i64 a0_1] 88 (0, 0)) bk_ hb); have n1_ := Aside0.mk (bsp bl_ hb); have n2_ := Aside0.mk (hbox); have n3_ := Aside0.mk ((by rw [hg]; exact bsz bl_ : w.heap.size ≤ gb277)); have n4_ := Aside0.mk ((by rw [hg]; exact bsz bl_ : w.heap.size ≤ gb277)); have n5_ := Aside0.mk ((by rw [hg]; exact Nat.ne_of_lt (blk_lt (g := gb276) (o := .cells #[.string a0_0, .int .i64 a0_1] 88 (0, 0)) bk_) : gb276 ≠ gb277)); have n6_ := Aside0.mk ((by rw [hg]; exact Nat.ne_of_gt (blk_lt (g := gb276) (o := .cells #[.string a0_0, .int .i64 a0_1] 88 (0, 0)) bk_) : gb277 ≠ gb276)); clear BK276; clear HB; have BK276 := n0_; have HB := n1_; have BK277 := n2_; have GW277 := n3_; have GE277 := n4_; have NB276_277 := n5_; have NB277_276 := n6_; clear n0_ n1_ n2_ n3_ n4_ n5_ n6_; clear hb hbox hg; have hnb6 := NB276_277.out; have hnc6 := NB277_276.out; have hcz7 := bc2 BK276.out) | ((with_reducible refine gcl (f := 73) rfl ?_); refine gl_ (some 10) rfl rfl Try.func73 (by kernel_rfl) rfl #[.agg #[.string a0_0, .int .i64 a0_1], .int .i64 1] rfl ar_ ?_; (with_reducible refine (armoireref02_take.calls a0_0 a0_1 1 t278 t279 t280 _ A2.out).mono ?_); rintro e w8 ⟨rfl, hb⟩; refine ⟨_, rfl, ?_⟩; have n0_ := Aside0.mk (kbl (g := gb276) (o := .cells #[.string a0_0, .int .i64 a0_1] 88 (0, 0)) bk_ hb); have n1_ := Aside0.mk (kbl (g := gb277) (o := .cells #[.string (⟨#[]⟩ : ByteArray), .int .i64 0] 88 (0, 0)) bk_ hb); have n2_ := Aside0.mk (bsp bl_ hb); clear BK276; clear BK277; clear HB; have BK276 := n0_; have BK277 := n1_; have HB := n2_; clear n0_ n1_ n2_; (try clear hb); (try clear hb2); (try clear hk); (try clear hi); have hcz9 := bc2 BK276.out))
  (try simp only [Act.put, List.setIfInBounds_toArray, List.set_cons_zero, List.set_cons_succ])
  have H := HS3.out
  clear HS3
  by_cases c10 : t279 = 0
  rotate_left
  · rw [if_neg c10] at H
    have c10b0 : (t279 == 0) = false := beq_eq_false_iff_ne.mpr c10
    have c10b1 : (t279 != 0) = true := bne_iff_ne.mpr c10
    (first | rw [c10b0] | (simp only [i64_w, i32_w]; rw [c10b0]) | skip)
    simp only [Option.some.injEq, Prod.mk.injEq] at H
    obtain ⟨rfl, rfl, rfl⟩ := H
    have hnb43 := NB276_277.out
    have hnc43 := NB277_276.out
    have hcz44 := bc2 BK276.out
    have hcz45 := bc2 BK277.out
    go_wp2
    refine bodyPost_ret (results_ct rfl _ _ gb277 88 #[.string t278, .int .i64 t279] (0, 0) _ rfl bk_ Try.underlying88 rfl (by kernel_rfl)) rfl ?_
    exact ⟨er_, bl_⟩
  rw [if_pos c10] at H
  have c10b0 : (t279 == 0) = true := beq_iff_eq.mpr c10
  have c10b1 : (t279 != 0) = false := bne_eq_false_iff_eq.mpr c10
  clear c10
  (first | rw [c10b0] | (simp only [i64_w, i32_w]; rw [c10b0]) | skip)
  by_cases c11 : 0 < (t280.size : Int)
  rotate_left
  · rw [if_neg c11] at H
    exact absurd H (by simp)
  rw [if_pos c11] at H
  have c11b0 : decide (0 < (t280.size : Int)) = true := decide_eq_true c11
  have c11b1 : decide (0 < t280.size) = true := decide_eq_true (by omega)
  clear c11
  by_cases c13 : (bt t280 0) > 8
  · rw [if_pos c13] at H
    have c13b0 : decide (8 < (bt t280 0)) = true := decide_eq_true c13
    clear c13
    simp only [Option.some.injEq, Prod.mk.injEq] at H
    obtain ⟨rfl, rfl, rfl⟩ := H
    have p12 : 0 ≤ (0 : Int) := (by omega)
    have q12 : 0 < t280.size := (by have : (0 : Int) < (t280.size : Int) := of_decide_eq_true (by first | (with_reducible assumption) | assumption); omega)
    have hx12 : ∀ h : 0 < t280.size, ((t280[0]'h).toNat : Int) = bt t280 0 := bt_at t280 0
    clear p12
    have qi12 : (0 < (t280.size : Int)) = True := eq_true (of_decide_eq_true (by first | (with_reducible assumption) | assumption))
    replace q12 := eq_true q12
    have hnb14 := NB277_276.out
    have hnc14 := NB276_277.out
    have hcz15 := bc2 BK277.out
    go_wp2
    refine bodyPost_ret (results_ct rfl _ _ gb277 88 #[.string (⟨#[]⟩ : ByteArray), .int .i64 2] (0, 0) _ rfl bk_ Try.underlying88 rfl (by kernel_rfl)) rfl ?_
    exact ⟨er_, bl_⟩
  rw [if_neg c13] at H
  have c13b0 : decide (8 < (bt t280 0)) = false := decide_eq_false c13
  clear c13
  replace H := Option.bind_eq_some_iff.mp H
  obtain ⟨⟨t281, t282, t283⟩, A170, H⟩ := H
  replace H : (if t282 = 0 then (if (t283.size : Int) > 0 then (if 0 < (t283.size : Int) then (armoireref02_TakeU.j0 k t283 ((bt t283 0) == 0) t281 t282) else (none)) else (armoireref02_TakeU.j0 k t283 false t281 t282)) else (armoireref02_TakeU.j0 k t283 false t281 t282)) = some (r1, r2, r3) := H
  have A17 := Aside0.mk A170
  clear A170
  have HC18 := Aside0.mk H
  clear H
  have p12 : 0 ≤ (0 : Int) := (by omega)
  have q12 : 0 < t280.size := (by have : (0 : Int) < (t280.size : Int) := of_decide_eq_true (by first | (with_reducible assumption) | assumption); omega)
  have hx12 : ∀ h : 0 < t280.size, ((t280[0]'h).toNat : Int) = bt t280 0 := bt_at t280 0
  clear p12
  have qi12 : (0 < (t280.size : Int)) = True := eq_true (of_decide_eq_true (by first | (with_reducible assumption) | assumption))
  replace q12 := eq_true q12
  try go_wp2
  have n0_ : Aside0 (((w8.setCell ⟨gb276, 0, none⟩ (.string t278)).setCell ⟨gb276, 1, none⟩ (.int .i64 t279)).heap[gb276]? = some (.cells #[.string t278, .int .i64 t279] 88 (0, 0))) := ⟨bk_⟩
  have n1_ : Aside0 (((w8.setCell ⟨gb276, 0, none⟩ (.string t278)).setCell ⟨gb276, 1, none⟩ (.int .i64 t279)).heap[gb277]? = some (.cells #[.string (⟨#[]⟩ : ByteArray), .int .i64 0] 88 (0, 0))) := ⟨bk_⟩
  have n2_ : Aside0 (Below w.heap.size w ((w8.setCell ⟨gb276, 0, none⟩ (.string t278)).setCell ⟨gb276, 1, none⟩ (.int .i64 t279))) := ⟨bl_⟩
  (try clear BK276)
  (try clear BK277)
  (try clear HB)
  generalize ((w8.setCell ⟨gb276, 0, none⟩ (.string t278)).setCell ⟨gb276, 1, none⟩ (.int .i64 t279)) = w19 at n0_ n1_ n2_ ⊢
  have BK276 := n0_
  have BK277 := n1_
  have HB := n2_
  clear n0_ n1_ n2_
  have n0_ := Aside0.mk (kdw BK276.out)
  have n1_ := Aside0.mk (kdw BK277.out)
  have n2_ := Aside0.mk (bd1 HB.out)
  clear BK276
  clear BK277
  clear HB
  have BK276 := n0_
  have BK277 := n1_
  have HB := n2_
  clear n0_ n1_ n2_
  have p16 : 0 ≤ (0 : Int) := (by omega)
  have q16 : 0 < t280.size := (by have : (0 : Int) < (t280.size : Int) := of_decide_eq_true (by first | (with_reducible assumption) | assumption); omega)
  have hx16 : ∀ h : 0 < t280.size, ((t280[0]'h).toNat : Int) = bt t280 0 := bt_at t280 0
  clear p16
  have qi16 : (0 < (t280.size : Int)) = True := eq_true (of_decide_eq_true (by first | (with_reducible assumption) | assumption))
  replace q16 := eq_true q16
  refine start_ (n := 10) (S := fun w' => w'.cell? ⟨gb276, 0, none⟩ = some (.string t278) ∧ w'.cell? ⟨gb276, 1, none⟩ = some (.int .i64 t279)) (ds := [8]) #[false,false,false,false,false,false,false,false,false,false] (by kernel_rfl) rfl rfl ⟨(kcl BK276.out 0).trans rfl, (kcl BK276.out 1).trans rfl⟩ (fun hHeld => ?_); refine with_tabW armoireref02_TakeU.tab6 armoireref02_TakeU.bits6 (fun HT_ HW_ => ?_)
  generalize w19.drew = w20 at BK276 BK277 HB hHeld ⊢
  refine pure_ (i := 1) (N := some 23) (v := ?_) (a' := ?_) (bA 10 2) rfl rfl (any_of HT_.out (by kernel_rfl)) (fun _ _ _ h => h) (Or.inl ⟨by rfl, ?_⟩) ?_ ?_
  rotate_left; (intro w'; go_simp; with_reducible rfl); rotate_left; (simp only [Act.put, List.setIfInBounds_toArray, List.set_cons_zero, List.set_cons_succ, i64_w, i32_w]; rfl)
  refine take_ (i := 0) (N := some 22) (v := ?_) (a' := ?_) #[true,true,false,false,false,false,false,false,false,false] rfl rfl (tkw HT_.out HW_.out (by kernel_rfl)) (fun _ _ _ h => h) (Or.inl ⟨by rfl, ?_⟩) hHeld ?_ ?_
  rotate_left
  · rintro w' ⟨s0, s1⟩
    go_simp
    with_reducible rfl
  rotate_left; (simp only [Act.put, List.setIfInBounds_toArray, List.set_cons_zero, List.set_cons_succ, i64_w, i32_w]; rfl)
  refine take_ (i := 2) (N := some 24) (v := ?_) (a' := ?_) #[true,true,true,false,false,false,false,false,false,false] rfl rfl (tkw HT_.out HW_.out (by kernel_rfl)) (fun _ _ _ h => h) (Or.inl ⟨by rfl, ?_⟩) hHeld ?_ ?_
  rotate_left
  · rintro w' ⟨s0, s1⟩
    go_simp
    with_reducible rfl
  rotate_left; (simp only [Act.put, List.setIfInBounds_toArray, List.set_cons_zero, List.set_cons_succ, i64_w, i32_w]; rfl)
  refine pure_ (i := 3) (N := some 25) (v := ?_) (a' := ?_) (bA 10 15) rfl rfl (any_of HT_.out (by kernel_rfl)) (fun _ _ _ h => h) (Or.inl ⟨by rfl, ?_⟩) ?_ ?_
  rotate_left; (intro w'; go_simp; with_reducible rfl); rotate_left; (simp only [Act.put, List.setIfInBounds_toArray, List.set_cons_zero, List.set_cons_succ, i64_w, i32_w]; rfl)
  refine one_ (i := 4) (N := some 26) #[true,true,true,true,true,false,false,false,false,false] rfl rfl (one_of HT_.out (by kernel_rfl)) (by decide) (fun K hK => ?_)
  refine goes_ Try.func73 (by kernel_rfl) rfl #[.agg #[.string t278, .int .i64 t279], .int .i64 (wrap64 (bt t280 0))] (by rfl) rfl rfl (by (try simp only [List.map_toArray, List.map_cons, List.map_nil]); first | done | rfl | (simp only [List.length_drop, List.length_take]; rfl) | (simp only [Act.eval, Array.getD_eq_getD_getElem?, Option.getD_some, *]; done) | (simp only [Array.mk.injEq, List.cons.injEq, Value.int.injEq, true_and, and_true]; first | omega | (simp [IntKind.wrap, IntKind.bits, IntKind.signed]; omega))) ?_
  with_reducible refine (armoireref02_take.calls t278 t279 (wrap64 (bt t280 0)) t281 t282 t283 _ A17.out).mono ?_
  rintro e w21 ⟨rfl, hb⟩
  refine ⟨_, rfl, ?_⟩
  have n0_ := Aside0.mk (kbl (g := gb276) (o := .cells #[.string t278, .int .i64 t279] 88 (0, 0)) bk_ hb)
  have n1_ := Aside0.mk (kbl (g := gb277) (o := .cells #[.string (⟨#[]⟩ : ByteArray), .int .i64 0] 88 (0, 0)) bk_ hb)
  have n2_ := Aside0.mk (bsp bl_ hb)
  clear BK276
  clear BK277
  clear HB
  have BK276 := n0_
  have BK277 := n1_
  have HB := n2_
  clear n0_ n1_ n2_
  (try clear hb)
  (try clear hb2)
  (try clear hk)
  (try clear hi)
  refine hK.out _ _ ⟨(kcl BK276.out 0).trans rfl, (kcl BK276.out 1).trans rfl⟩ (fun hHeld => ?_)
  clear hK K
  refine norm_ (a' := ?_) ?_ ?_
  rotate_left
  · show Act.put _ (some 26) _ = _
    simp only [Act.put, List.setIfInBounds_toArray, List.set_cons_zero, List.set_cons_succ, i64_w, i32_w]
    rfl
  refine pure_ (i := 5) (N := some 21) (v := ?_) (a' := ?_) (bA 10 63) rfl rfl (any_of HT_.out (by kernel_rfl)) (fun _ _ _ h => h) (Or.inl ⟨by rfl, ?_⟩) ?_ ?_
  rotate_left; (intro w'; go_simp; with_reducible rfl); rotate_left; (simp only [Act.put, List.setIfInBounds_toArray, List.set_cons_zero, List.set_cons_succ, i64_w, i32_w]; rfl)
  refine pure_ (i := 6) (N := some 27) (v := ?_) (a' := ?_) (bA 10 127) rfl rfl (any_of HT_.out (by kernel_rfl)) (fun _ _ _ h => h) (Or.inl ⟨by rfl, ?_⟩) ?_ ?_
  rotate_left; (intro w'; go_simp; with_reducible rfl); rotate_left; (simp only [Act.put, List.setIfInBounds_toArray, List.set_cons_zero, List.set_cons_succ, i64_w, i32_w]; rfl)
  refine pure_ (i := 7) (N := some 28) (v := ?_) (a' := ?_) (bA 10 255) rfl rfl (any_of HT_.out (by kernel_rfl)) (fun _ _ _ h => h) (Or.inl ⟨by rfl, ?_⟩) ?_ ?_
  rotate_left; (intro w'; go_simp; with_reducible rfl); rotate_left; (simp only [Act.put, List.setIfInBounds_toArray, List.set_cons_zero, List.set_cons_succ, i64_w, i32_w]; rfl)
  refine last_ (i := 8) (N := none) #[true,true,true,true,true,true,true,true,true,false] rfl rfl (one_of HT_.out (by kernel_rfl)) (by decide) (fun K hK => ?_)
  have hs22 : w21.cell? ⟨gb276, 0, none⟩ = some (.string t278) := (kcl BK276.out 0).trans rfl
  have hfs22 := kfr BK276.out 0
  have hns22_1 := NB277_276.out
  have hms22_1 := NB276_277.out
  have hs23 : w21.cell? ⟨gb276, 1, none⟩ = some (.int .i64 t279) := (kcl BK276.out 1).trans rfl
  have hfs23 := kfr BK276.out 1
  have hns23_1 := NB277_276.out
  have hms23_1 := NB276_277.out
  refine skip_ (w1 := ?_) (by rfl) rfl ?_ ?_
  rotate_left
  · go_simp
    rfl
  refine hK.out _ _ ?_
  clear hK K
  refine pure_ (i := 9) (N := some 5) (v := ?_) (a' := ?_) (bA 10 1023) rfl rfl (any_of HT_.out (by kernel_rfl)) (fun _ _ _ h => h) (Or.inl ⟨by rfl, ?_⟩) ?_ ?_
  rotate_left; (intro w'; go_simp; with_reducible rfl); rotate_left; (simp only [Act.put, List.setIfInBounds_toArray, List.set_cons_zero, List.set_cons_succ, i64_w, i32_w]; rfl)
  refine done_ (done_of HT_.out (by kernel_rfl)) ?_
  go_upto_region 7 with (fail)
  go_cut [41] (fun v41 wc => ∃ (kq : Nat) (x41_17 : Bool), v41 = .bool x41_17 ∧ Aside0 (armoireref02_TakeU.j0 kq t283 x41_17 t281 t282 = some (r1, r2, r3)) ∧ Aside0 (kq ≤ k) ∧ Aside0 (wc.heap[gb276]? = some (.cells #[.string t281, .int .i64 t282] 88 (0, 0))) ∧ Aside0 (wc.heap[gb277]? = some (.cells #[.string (⟨#[]⟩ : ByteArray), .int .i64 0] 88 (0, 0))) ∧ Aside0 (Below w.heap.size w wc))
  case first =>
    have H := HC18.out
    clear HC18
    by_cases c24 : t282 = 0
    rotate_left
    · rw [if_neg c24] at H
      have c24b0 : (t282 == 0) = false := beq_eq_false_iff_ne.mpr c24
      have c24b1 : (t282 != 0) = true := bne_iff_ne.mpr c24
      (first | rw [c24b0] | (simp only [i64_w, i32_w]; rw [c24b0]) | skip)
      have H' := Aside0.mk H
      clear H
      have hnb32 := NB276_277.out
      have hnc32 := NB277_276.out
      have hcz33 := bc2 BK276.out
      go_wp2
      go_meet
      case rel => exact ⟨_, (false), (by first | rfl | (simp; done) | (simp [*]; done) | exact emp1_ _ | exact (emp1_ _).symm | exact emp2_ _ | exact (emp2_ _).symm), H', ⟨by first | omega | exact Nat.le_refl _⟩, ⟨bk_⟩, ⟨bk_⟩, ⟨bl_⟩⟩
    rw [if_pos c24] at H
    have c24b0 : (t282 == 0) = true := beq_iff_eq.mpr c24
    have c24b1 : (t282 != 0) = false := bne_eq_false_iff_eq.mpr c24
    clear c24
    (first | rw [c24b0] | (simp only [i64_w, i32_w]; rw [c24b0]) | skip)
    by_cases c25 : (t283.size : Int) > 0
    rotate_left
    · rw [if_neg c25] at H
      have c25b0 : decide (0 < (t283.size : Int)) = false := decide_eq_false c25
      have c25b1 : decide (0 < t283.size) = false := decide_eq_false (by omega)
      clear c25
      have H' := Aside0.mk H
      clear H
      have hnb30 := NB276_277.out
      have hnc30 := NB277_276.out
      have hcz31 := bc2 BK276.out
      go_wp2
      go_meet
      case rel => exact ⟨_, (false), (by first | rfl | (simp; done) | (simp [*]; done) | exact emp1_ _ | exact (emp1_ _).symm | exact emp2_ _ | exact (emp2_ _).symm), H', ⟨by first | omega | exact Nat.le_refl _⟩, ⟨bk_⟩, ⟨bk_⟩, ⟨bl_⟩⟩
    rw [if_pos c25] at H
    have c25b0 : decide (0 < (t283.size : Int)) = true := decide_eq_true c25
    have c25b1 : decide (0 < t283.size) = true := decide_eq_true (by omega)
    clear c25
    by_cases c26 : 0 < (t283.size : Int)
    rotate_left
    · rw [if_neg c26] at H
      exact absurd H (by simp)
    rw [if_pos c26] at H
    have c26b0 : decide (0 < (t283.size : Int)) = true := decide_eq_true c26
    have c26b1 : decide (0 < t283.size) = true := decide_eq_true (by omega)
    clear c26
    have H' := Aside0.mk H
    clear H
    have hnb28 := NB276_277.out
    have hnc28 := NB277_276.out
    have hcz29 := bc2 BK276.out
    have p27 : 0 ≤ (0 : Int) := (by omega)
    have q27 : 0 < t283.size := (by have : (0 : Int) < (t283.size : Int) := of_decide_eq_true (by first | (with_reducible assumption) | assumption); omega)
    have hx27 : ∀ h : 0 < t283.size, ((t283[0]'h).toNat : Int) = bt t283 0 := bt_at t283 0
    clear p27
    have qi27 : (0 < (t283.size : Int)) = True := eq_true (of_decide_eq_true (by first | (with_reducible assumption) | assumption))
    replace q27 := eq_true q27
    go_wp2
    go_meet
    case rel => exact ⟨_, (((bt t283 0) == 0)), (by first | rfl | (simp; done) | (simp [*]; done) | exact emp1_ _ | exact (emp1_ _).symm | exact emp2_ _ | exact (emp2_ _).symm), H', ⟨by first | omega | exact Nat.le_refl _⟩, ⟨bk_⟩, ⟨bk_⟩, ⟨bl_⟩⟩
  clear HC18
  try clear c1
  try clear p1
  try clear q1
  try clear hx1
  try clear qi1
  try clear c2
  try clear p2
  try clear q2
  try clear hx2
  try clear qi2
  try clear c3
  try clear c6
  try clear p6
  try clear c7
  try clear c10
  try clear c10b0
  try clear c10b1
  try clear c11
  try clear c11b0
  try clear c11b1
  try clear p12
  try clear q12
  try clear hx12
  try clear qi12
  try clear c13
  try clear c13b0
  try clear c14
  try clear p16
  try clear q16
  try clear hx16
  try clear qi16
  try clear c24
  try clear c24b0
  try clear c24b1
  try clear c25
  try clear c25b0
  try clear c25b1
  try clear c26
  try clear c26b0
  try clear c26b1
  try clear p27
  try clear q27
  try clear hx27
  try clear qi27
  try clear c28
  try clear c30
  try clear c32
  try clear hcz15
  try clear hcz29
  try clear hcz31
  try clear hcz33
  try clear hcz7
  try clear hcz9
  try clear hcz15
  try clear hcz29
  try clear hcz31
  try clear hcz33
  try clear hcz7
  try clear hcz9
  try clear p12
  try clear p16
  try clear p27
  try clear q12
  try clear q16
  try clear q27
  obtain ⟨kq, x41_17, rfl, HA, HJ17, BK276, BK277, HB⟩ := hcut
  cases kq with
  | zero => exact absurd HA.out (by simp [armoireref02_TakeU.j0])
  | succ kj17 =>
    have H := HA.out
    clear HA
    simp only [armoireref02_TakeU.j0] at H
    by_cases c34 : x41_17 = true
    · subst c34
      have H1 : (some ((⟨#[]⟩ : ByteArray), 2, 0)) = some (r1, r2, r3) := by rw [if_pos rfl] at H; exact H
      clear H
      have H := H1
      clear H1
      simp only [Option.some.injEq, Prod.mk.injEq] at H
      obtain ⟨rfl, rfl, rfl⟩ := H
      have hnb35 := NB277_276.out
      have hnc35 := NB276_277.out
      have hcz36 := bc2 BK277.out
      go_wp2
      refine bodyPost_ret (results_ct rfl _ _ gb277 88 #[.string (⟨#[]⟩ : ByteArray), .int .i64 2] (0, 0) _ rfl bk_ Try.underlying88 rfl (by kernel_rfl)) rfl ?_
      exact ⟨er_, bl_⟩
    replace c34 := Bool.eq_false_iff.mpr c34
    subst c34
    have H1 : (armoireref02_TakeU.l0 kj17 t283 0 0 t281 t282) = some (r1, r2, r3) := by rw [if_neg (show ¬ (false = true) by decide)] at H; exact H
    clear H
    have H := H1
    clear H1
    have H' := Aside0.mk H
    clear H
    go_wp2
    go_loopg [6, 7] kj17 (fun kq v6 v7 w' => ∃ (x6_2 : Int) (x7_2 : Int), v6 = .int .u64 x6_2 ∧ v7 = .int .i64 x7_2 ∧ Aside0 (armoireref02_TakeU.l0 kq t283 x6_2 x7_2 t281 t282 = some (r1, r2, r3)) ∧ Aside0 (kq ≤ kj17) ∧ Aside0 (w'.heap[gb276]? = some (.cells #[.string t281, .int .i64 t282] 88 (0, 0))) ∧ Aside0 (w'.heap[gb277]? = some (.cells #[.string (⟨#[]⟩ : ByteArray), .int .i64 0] 88 (0, 0))) ∧ Aside0 (Below w.heap.size w w'))
    case atStart => exact ⟨(0), (0), (by first | rfl | (simp; done) | (simp [*]; done) | exact emp1_ _ | exact (emp1_ _).symm | exact emp2_ _ | exact (emp2_ _).symm), (by first | rfl | (simp; done) | (simp [*]; done) | exact emp1_ _ | exact (emp1_ _).symm | exact emp2_ _ | exact (emp2_ _).symm), H', ⟨Nat.le_refl _⟩, ⟨bk_⟩, ⟨bk_⟩, ⟨bl_⟩⟩
    clear H'
    try clear c1
    try clear p1
    try clear q1
    try clear hx1
    try clear qi1
    try clear c2
    try clear p2
    try clear q2
    try clear hx2
    try clear qi2
    try clear c3
    try clear c6
    try clear p6
    try clear c7
    try clear c10
    try clear c10b0
    try clear c10b1
    try clear c11
    try clear c11b0
    try clear c11b1
    try clear p12
    try clear q12
    try clear hx12
    try clear qi12
    try clear c13
    try clear c13b0
    try clear c14
    try clear p16
    try clear q16
    try clear hx16
    try clear qi16
    try clear c24
    try clear c24b0
    try clear c24b1
    try clear c25
    try clear c25b0
    try clear c25b1
    try clear c26
    try clear c26b0
    try clear c26b1
    try clear p27
    try clear q27
    try clear hx27
    try clear qi27
    try clear c28
    try clear c30
    try clear c32
    try clear c34
    try clear c35
    try clear hcz15
    try clear hcz29
    try clear hcz31
    try clear hcz33
    try clear hcz36
    try clear hcz7
    try clear hcz9
    try clear hcz15
    try clear hcz29
    try clear hcz31
    try clear hcz33
    try clear hcz36
    try clear hcz7
    try clear hcz9
    try clear p1
    try clear p12
    try clear p16
    try clear p2
    try clear p27
    try clear p6
    try clear q1
    try clear q12
    try clear q16
    try clear q2
    try clear q27
    obtain ⟨x6_2, x7_2, rfl, rfl, HA, HK2, BK276, BK277, HB⟩ := hrel
    cases gk with
    | zero => exact absurd HA.out (by simp [armoireref02_TakeU.l0])
    | succ k2 =>
      have H := HA.out
      clear HA
      simp only [armoireref02_TakeU.l0] at H
      by_cases c37 : x7_2 < (t283.size : Int)
      · rw [if_pos c37] at H
        have c37b0 : decide (x7_2 < (t283.size : Int)) = true := decide_eq_true c37
        clear c37
        by_cases c38 : 0 ≤ x7_2
        rotate_left
        · rw [if_neg c38] at H
          exact absurd H (by simp)
        rw [if_pos c38] at H
        have c38b0 : decide (0 ≤ x7_2) = true := decide_eq_true c38
        clear c38
        have H' := Aside0.mk H
        clear H
        have p39 : 0 ≤ (x7_2 : Int) := of_decide_eq_true (by first | (with_reducible assumption) | assumption)
        have q39 : x7_2 < (t283.size : Int) := of_decide_eq_true (by first | (with_reducible assumption) | assumption)
        have hx39 := bt_at t283 x7_2
        replace p39 := eq_true p39
        replace q39 := eq_true q39
        go_wp2
        go_roundg k2
        case measure => have := HJ17.out; have := HK2.out; omega
        case rel => exact ⟨(IntKind.u64.wrap ((IntKind.u64.wrap (x6_2 * 256)) + (IntKind.u64.wrap (bt t283 x7_2)))), (wrap64 (x7_2 + 1)), (by first | rfl | (simp; done) | (simp [*]; done) | exact emp1_ _ | exact (emp1_ _).symm | exact emp2_ _ | exact (emp2_ _).symm), (by first | rfl | (simp; done) | (simp [*]; done) | exact emp1_ _ | exact (emp1_ _).symm | exact emp2_ _ | exact (emp2_ _).symm), H', ⟨by have := HJ17.out; have := HK2.out; omega⟩, ⟨bk_⟩, ⟨bk_⟩, ⟨bl_⟩⟩
      rw [if_neg c37] at H
      have c37b0 : decide (x7_2 < (t283.size : Int)) = false := decide_eq_false c37
      clear c37
      simp only [Option.some.injEq, Prod.mk.injEq] at H
      obtain ⟨rfl, rfl, rfl⟩ := H
      have hnb40 := NB276_277.out
      have hnc40 := NB277_276.out
      have hcz41 := bc2 BK276.out
      have hcz42 := bc2 BK277.out
      go_wp2
      refine bodyPost_ret (results_ct rfl _ _ gb277 88 #[.string t281, .int .i64 t282] (0, 0) _ rfl bk_ Try.underlying88 rfl (by kernel_rfl)) rfl ?_
      exact ⟨er_, bl_⟩
def armoireref02_Fail.f (a0_0 : ByteArray) (a0_1 : Int) (a1 : Int) : Option (ByteArray × Int) := if a0_1 = 0 then (if a1 = 0 then (some (a0_0, a0_1)) else (some ((⟨#[]⟩ : ByteArray), a1))) else (some (a0_0, a0_1))
set_option maxHeartbeats 2000000 in
set_option maxRecDepth 100000 in
theorem armoireref02_Fail.calls (a0_0 : ByteArray) (a0_1 : Int) (a1 : Int) (r1 : ByteArray) (r2 : Int) (w : World) (h : armoireref02_Fail.f a0_0 a0_1 a1 = some (r1, r2)) :
    Calls Try.prog 72 #[.agg #[.string a0_0, .int .i64 a0_1], .int .i64 a1] w fun e w' => e = .returned (.agg #[.string r1, .int .i64 r2]) ∧ Below w.heap.size w w' := by
  have hu88 := Try.underlying88
  have HB := Aside0.mk (Below.refl w.heap.size w)
  have H : (if a0_1 = 0 then (if a1 = 0 then (some (a0_0, a0_1)) else (some ((⟨#[]⟩ : ByteArray), a1))) else (some (a0_0, a0_1))) = some (r1, r2) := h
  clear h
  by_cases c3 : a0_1 = 0
  rotate_left
  · rw [if_neg c3] at H
    have c3b0 : (a0_1 == 0) = false := beq_eq_false_iff_ne.mpr c3
    have c3b1 : (a0_1 != 0) = true := bne_iff_ne.mpr c3
    simp only [Option.some.injEq, Prod.mk.injEq] at H
    obtain ⟨rfl, rfl⟩ := H
    go_enter Try.func72, Try.ntmps72
    go_wp2_with (first | ((with_reducible refine gds (N := 2) rfl ?_); refine bev ?hg (N := 2) ?hd (cs := #[.string a0_0, .int .i64 a0_1]) (t := 88) ?hr ?_; (case hd => rfl); (case hg => rfl); (case hr => first | (go_simp; done) | (go_simp; rfl)); intro gb284 hg w15 hbox hb; have n0_ := Aside0.mk (bsp bl_ hb); have n1_ := Aside0.mk (hbox); have n2_ := Aside0.mk ((by rw [hg]; exact bsz bl_ : w.heap.size ≤ gb284)); have n3_ := Aside0.mk ((by rw [hg]; exact bsz bl_ : w.heap.size ≤ gb284)); clear HB; have HB := n0_; have BK284 := n1_; have GW284 := n2_; have GE284 := n3_; clear n0_ n1_ n2_ n3_; clear hb hbox hg) | ((with_reducible refine gds (N := 4) rfl ?_); refine bev ?hg (N := 4) ?hd (cs := #[.string (⟨#[]⟩ : ByteArray), .int .i64 0]) (t := 88) ?hr ?_; (case hd => rfl); (case hg => rfl); (case hr => first | (go_simp; done) | (go_simp; rfl)); intro gb285 hg w16 hbox hb; have n0_ := Aside0.mk (kbl (g := gb284) (o := .cells #[.string a0_0, .int .i64 a0_1] 88 (0, 0)) bk_ hb); have n1_ := Aside0.mk (bsp bl_ hb); have n2_ := Aside0.mk (hbox); have n3_ := Aside0.mk ((by rw [hg]; exact bsz bl_ : w.heap.size ≤ gb285)); have n4_ := Aside0.mk ((by rw [hg]; exact bsz bl_ : w.heap.size ≤ gb285)); have n5_ := Aside0.mk ((by rw [hg]; exact Nat.ne_of_lt (blk_lt (g := gb284) (o := .cells #[.string a0_0, .int .i64 a0_1] 88 (0, 0)) bk_) : gb284 ≠ gb285)); have n6_ := Aside0.mk ((by rw [hg]; exact Nat.ne_of_gt (blk_lt (g := gb284) (o := .cells #[.string a0_0, .int .i64 a0_1] 88 (0, 0)) bk_) : gb285 ≠ gb284)); clear BK284; clear HB; have BK284 := n0_; have HB := n1_; have BK285 := n2_; have GW285 := n3_; have GE285 := n4_; have NB284_285 := n5_; have NB285_284 := n6_; clear n0_ n1_ n2_ n3_ n4_ n5_ n6_; clear hb hbox hg; have hnb17 := NB284_285.out; have hnc17 := NB285_284.out; have hcz18 := bc2 BK284.out; have hcz19 := bc2 BK285.out))
    refine bodyPost_ret (results_cell_row rfl _ _ gb285 88 #[.string a0_0, .int .i64 a0_1] (0, 0) _ rfl bk_ Try.underlying88 rfl (by kernel_rfl)) rfl ?_
    exact ⟨er_, bl_⟩
  rw [if_pos c3] at H
  have c3b0 : (a0_1 == 0) = true := beq_iff_eq.mpr c3
  have c3b1 : (a0_1 != 0) = false := bne_eq_false_iff_eq.mpr c3
  clear c3
  have HS4 := Aside0.mk H
  clear H
  go_enter Try.func72, Try.ntmps72
  go_upto_if 11 with (first | ((with_reducible refine gds (N := 2) rfl ?_); refine bev ?hg (N := 2) ?hd (cs := #[.string a0_0, .int .i64 a0_1]) (t := 88) ?hr ?_; (case hd => rfl); (case hg => rfl); (case hr => first | (go_simp; done) | (go_simp; rfl)); intro gb284 hg w5 hbox hb; have n0_ := Aside0.mk (bsp bl_ hb); have n1_ := Aside0.mk (hbox); have n2_ := Aside0.mk ((by rw [hg]; exact bsz bl_ : w.heap.size ≤ gb284)); have n3_ := Aside0.mk ((by rw [hg]; exact bsz bl_ : w.heap.size ≤ gb284)); clear HB; have HB := n0_; have BK284 := n1_; have GW284 := n2_; have GE284 := n3_; clear n0_ n1_ n2_ n3_; clear hb hbox hg) | ((with_reducible refine gds (N := 4) rfl ?_); refine bev ?hg (N := 4) ?hd (cs := #[.string (⟨#[]⟩ : ByteArray), .int .i64 0]) (t := 88) ?hr ?_; (case hd => rfl); (case hg => rfl); (case hr => first | (go_simp; done) | (go_simp; rfl)); intro gb285 hg w6 hbox hb; have n0_ := Aside0.mk (kbl (g := gb284) (o := .cells #[.string a0_0, .int .i64 a0_1] 88 (0, 0)) bk_ hb); have n1_ := Aside0.mk (bsp bl_ hb); have n2_ := Aside0.mk (hbox); have n3_ := Aside0.mk ((by rw [hg]; exact bsz bl_ : w.heap.size ≤ gb285)); have n4_ := Aside0.mk ((by rw [hg]; exact bsz bl_ : w.heap.size ≤ gb285)); have n5_ := Aside0.mk ((by rw [hg]; exact Nat.ne_of_lt (blk_lt (g := gb284) (o := .cells #[.string a0_0, .int .i64 a0_1] 88 (0, 0)) bk_) : gb284 ≠ gb285)); have n6_ := Aside0.mk ((by rw [hg]; exact Nat.ne_of_gt (blk_lt (g := gb284) (o := .cells #[.string a0_0, .int .i64 a0_1] 88 (0, 0)) bk_) : gb285 ≠ gb284)); clear BK284; clear HB; have BK284 := n0_; have HB := n1_; have BK285 := n2_; have GW285 := n3_; have GE285 := n4_; have NB284_285 := n5_; have NB285_284 := n6_; clear n0_ n1_ n2_ n3_ n4_ n5_ n6_; clear hb hbox hg; have hnb7 := NB284_285.out; have hnc7 := NB285_284.out; have hcz8 := bc2 BK284.out))
  (try simp only [Act.put, List.setIfInBounds_toArray, List.set_cons_zero, List.set_cons_succ])
  have H := HS4.out
  clear HS4
  by_cases c9 : a1 = 0
  rotate_left
  · rw [if_neg c9] at H
    have c9b0 : (a1 == 0) = false := beq_eq_false_iff_ne.mpr c9
    have c9b1 : (a1 != 0) = true := bne_iff_ne.mpr c9
    (first | rw [c9b0] | (simp only [i64_w, i32_w]; rw [c9b0]) | skip)
    simp only [Option.some.injEq, Prod.mk.injEq] at H
    obtain ⟨rfl, rfl⟩ := H
    have hnb13 := NB285_284.out
    have hnc13 := NB284_285.out
    have hcz14 := bc2 BK285.out
    go_wp2
    refine bodyPost_ret (results_cell_row rfl _ _ gb285 88 #[.string (⟨#[]⟩ : ByteArray), .int .i64 a1] (0, 0) _ rfl bk_ Try.underlying88 rfl (by kernel_rfl)) rfl ?_
    exact ⟨er_, bl_⟩
  rw [if_pos c9] at H
  have c9b0 : (a1 == 0) = true := beq_iff_eq.mpr c9
  have c9b1 : (a1 != 0) = false := bne_eq_false_iff_eq.mpr c9
  clear c9
  (first | rw [c9b0] | (simp only [i64_w, i32_w]; rw [c9b0]) | skip)
  simp only [Option.some.injEq, Prod.mk.injEq] at H
  obtain ⟨rfl, rfl⟩ := H
  have hnb10 := NB284_285.out
  have hnc10 := NB285_284.out
  have hcz11 := bc2 BK284.out
  have hcz12 := bc2 BK285.out
  go_wp2
  refine bodyPost_ret (results_cell_row rfl _ _ gb285 88 #[.string a0_0, .int .i64 a0_1] (0, 0) _ rfl bk_ Try.underlying88 rfl (by kernel_rfl)) rfl ?_
  exact ⟨er_, bl_⟩
def armoireref02_TakeN.f (k : Nat) (a0_0 : ByteArray) (a0_1 : Int) (a1 : Int) : Option (ByteArray × Int × Int) := (armoireref02_TakeU.f k a0_0 a0_1).bind fun bt288 => (if bt288.2.2 > (IntKind.u64.wrap (mx a1 0)) then ((armoireref02_Fail.f bt288.1 bt288.2.1 3).bind fun bt291 => (some (bt291.1, bt291.2, 0))) else (some (bt288.1, bt288.2.1, wrap64 (bt288.2.2))))
set_option maxHeartbeats 2000000 in
set_option maxRecDepth 100000 in
theorem armoireref02_TakeN.calls (k : Nat) (a0_0 : ByteArray) (a0_1 : Int) (a1 : Int) (r1 : ByteArray) (r2 : Int) (r3 : Int) (w : World) (h : armoireref02_TakeN.f k a0_0 a0_1 a1 = some (r1, r2, r3)) :
    Calls Try.prog 47 #[.agg #[.string a0_0, .int .i64 a0_1], .int .i64 a1] w fun e w' => e = .returned (.tuple #[.agg #[.string r1, .int .i64 r2], .int .i64 r3]) ∧ Below w.heap.size w w' := by
  have hu88 := Try.underlying88
  have HB := Aside0.mk (Below.refl w.heap.size w)
  have H : ((armoireref02_TakeU.f k a0_0 a0_1).bind fun bt288 => (if bt288.2.2 > (IntKind.u64.wrap (mx a1 0)) then ((armoireref02_Fail.f bt288.1 bt288.2.1 3).bind fun bt291 => (some (bt291.1, bt291.2, 0))) else (some (bt288.1, bt288.2.1, wrap64 (bt288.2.2))))) = some (r1, r2, r3) := h
  clear h
  replace H := Option.bind_eq_some_iff.mp H
  obtain ⟨⟨t288, t289, t290⟩, A30, H⟩ := H
  replace H : (if t290 > (IntKind.u64.wrap (mx a1 0)) then ((armoireref02_Fail.f t288 t289 3).bind fun bt291 => (some (bt291.1, bt291.2, 0))) else (some (t288, t289, wrap64 (t290)))) = some (r1, r2, r3) := H
  have A3 := Aside0.mk A30
  clear A30
  obtain ⟨ji4, hji4⟩ : ∃ j_ : Int, (mx a1 0) = j_ := ⟨_, rfl⟩
  replace H : (if t290 > (IntKind.u64.wrap (ji4)) then ((armoireref02_Fail.f t288 t289 3).bind fun bt291 => (some (bt291.1, bt291.2, 0))) else (some (t288, t289, wrap64 (t290)))) = some (r1, r2, r3) := by first | (rw [hji4] at H; exact H) | (simp only [hji4] at H ⊢; exact H)
  (try rw [hji4] at A3)
  (try (have hji4l : 0 ≤ ji4 := by (rw [← hji4]; unfold mx; (repeat' split) <;> omega)))
  (try (have hji4m : 0 ≤ ji4 := by omega))
  have hji4_ : (if a1 < 0 then 0 else a1) = ji4 := hji4
  have HS5 := Aside0.mk H
  clear H
  go_enter Try.func47, Try.ntmps47
  go_upto_if 16 with (first | ((with_reducible refine gds (N := 2) rfl ?_); refine bev ?hg (N := 2) ?hd (cs := #[.string a0_0, .int .i64 a0_1]) (t := 88) ?hr ?_; (case hd => rfl); (case hg => rfl); (case hr => first | (go_simp; done) | (go_simp; rfl)); intro gb286 hg w6 hbox hb; have n0_ := Aside0.mk (bsp bl_ hb); have n1_ := Aside0.mk (hbox); have n2_ := Aside0.mk ((by rw [hg]; exact bsz bl_ : w.heap.size ≤ gb286)); have n3_ := Aside0.mk ((by rw [hg]; exact bsz bl_ : w.heap.size ≤ gb286)); clear HB; have HB := n0_; have BK286 := n1_; have GW286 := n2_; have GE286 := n3_; clear n0_ n1_ n2_ n3_; clear hb hbox hg) | ((with_reducible refine gds (N := 4) rfl ?_); refine bev ?hg (N := 4) ?hd (cs := #[.string (⟨#[]⟩ : ByteArray), .int .i64 0]) (t := 88) ?hr ?_; (case hd => rfl); (case hg => rfl); (case hr => first | (go_simp; done) | (go_simp; rfl)); intro gb287 hg w7 hbox hb; have n0_ := Aside0.mk (kbl (g := gb286) (o := .cells #[.string a0_0, .int .i64 a0_1] 88 (0, 0)) bk_ hb); have n1_ := Aside0.mk (bsp bl_ hb); have n2_ := Aside0.mk (hbox); have n3_ := Aside0.mk ((by rw [hg]; exact bsz bl_ : w.heap.size ≤ gb287)); have n4_ := Aside0.mk ((by rw [hg]; exact bsz bl_ : w.heap.size ≤ gb287)); have n5_ := Aside0.mk ((by rw [hg]; exact Nat.ne_of_lt (blk_lt (g := gb286) (o := .cells #[.string a0_0, .int .i64 a0_1] 88 (0, 0)) bk_) : gb286 ≠ gb287)); have n6_ := Aside0.mk ((by rw [hg]; exact Nat.ne_of_gt (blk_lt (g := gb286) (o := .cells #[.string a0_0, .int .i64 a0_1] 88 (0, 0)) bk_) : gb287 ≠ gb286)); clear BK286; clear HB; have BK286 := n0_; have HB := n1_; have BK287 := n2_; have GW287 := n3_; have GE287 := n4_; have NB286_287 := n5_; have NB287_286 := n6_; clear n0_ n1_ n2_ n3_ n4_ n5_ n6_; clear hb hbox hg; have hnb8 := NB286_287.out; have hnc8 := NB287_286.out; have hcz9 := bc2 BK286.out) | ((with_reducible refine gcl (f := 71) rfl ?_); refine gl_ (some 9) rfl rfl Try.func71 (by kernel_rfl) rfl #[.agg #[.string a0_0, .int .i64 a0_1]] rfl ar_ ?_; (with_reducible refine (armoireref02_TakeU.calls k a0_0 a0_1 t288 t289 t290 _ A3.out).mono ?_); rintro e w10 ⟨rfl, hb⟩; refine ⟨_, rfl, ?_⟩; have n0_ := Aside0.mk (kbl (g := gb286) (o := .cells #[.string a0_0, .int .i64 a0_1] 88 (0, 0)) bk_ hb); have n1_ := Aside0.mk (kbl (g := gb287) (o := .cells #[.string (⟨#[]⟩ : ByteArray), .int .i64 0] 88 (0, 0)) bk_ hb); have n2_ := Aside0.mk (bsp bl_ hb); clear BK286; clear BK287; clear HB; have BK286 := n0_; have BK287 := n1_; have HB := n2_; clear n0_ n1_ n2_; (try clear hb); (try clear hb2); (try clear hk); (try clear hi); have hcz11 := bc2 BK286.out))
  (try simp only [Act.put, List.setIfInBounds_toArray, List.set_cons_zero, List.set_cons_succ])
  have H := HS5.out
  clear HS5
  by_cases c12 : t290 > (IntKind.u64.wrap (ji4))
  rotate_left
  · rw [if_neg c12] at H
    have c12b0 : decide ((IntKind.u64.wrap (ji4)) < t290) = false := decide_eq_false c12
    clear c12
    (first | rw [c12b0] | (simp only [i64_w, i32_w]; rw [c12b0]) | skip)
    simp only [Option.some.injEq, Prod.mk.injEq] at H
    obtain ⟨rfl, rfl, rfl⟩ := H
    have hnb18 := NB286_287.out
    have hnc18 := NB287_286.out
    have hcz19 := bc2 BK286.out
    have hcz20 := bc2 BK287.out
    go_wp2
    refine bodyPost_ret (results_ct rfl _ _ gb287 88 #[.string t288, .int .i64 t289] (0, 0) _ rfl bk_ Try.underlying88 rfl (by kernel_rfl)) rfl ?_
    exact ⟨by first | rfl | (simp [errW_none, errW_some] <;> rfl) | (simp only [← hji4]; first | rfl | (simp [errW_none, errW_some] <;> rfl)) | (simp [*, errW_none, errW_some] <;> rfl), bl_⟩
  rw [if_pos c12] at H
  have c12b0 : decide ((IntKind.u64.wrap (ji4)) < t290) = true := decide_eq_true c12
  clear c12
  (first | rw [c12b0] | (simp only [i64_w, i32_w]; rw [c12b0]) | skip)
  replace H := Option.bind_eq_some_iff.mp H
  obtain ⟨⟨t291, t292⟩, A130, H⟩ := H
  replace H : (some (t291, t292, 0)) = some (r1, r2, r3) := H
  have A13 := Aside0.mk A130
  clear A130
  simp only [Option.some.injEq, Prod.mk.injEq] at H
  obtain ⟨rfl, rfl, rfl⟩ := H
  have hnb14 := NB286_287.out
  have hnc14 := NB287_286.out
  have hcz15 := bc2 BK286.out
  go_wp2_with (first | ((with_reducible refine gcl (f := 72) rfl ?_); refine gl_ (some 18) rfl rfl Try.func72 (by kernel_rfl) rfl #[.agg #[.string t288, .int .i64 t289], .int .i64 3] rfl ar_ ?_; (with_reducible refine (armoireref02_Fail.calls t288 t289 3 t291 t292 _ A13.out).mono ?_); rintro e w16 ⟨rfl, hb⟩; refine ⟨_, rfl, ?_⟩; have n0_ := Aside0.mk (kbl (g := gb286) (o := .cells #[.string t288, .int .i64 t289] 88 (0, 0)) bk_ hb); have n1_ := Aside0.mk (kbl (g := gb287) (o := .cells #[.string (⟨#[]⟩ : ByteArray), .int .i64 0] 88 (0, 0)) bk_ hb); have n2_ := Aside0.mk (bsp bl_ hb); clear BK286; clear BK287; clear HB; have BK286 := n0_; have BK287 := n1_; have HB := n2_; clear n0_ n1_ n2_; (try clear hb); (try clear hb2); (try clear hk); (try clear hi); have hcz17 := bc2 BK287.out))
  refine bodyPost_ret (results_ct rfl _ _ gb287 88 #[.string t291, .int .i64 t292] (0, 0) _ rfl bk_ Try.underlying88 rfl (by kernel_rfl)) rfl ?_
  exact ⟨by first | rfl | (simp [errW_none, errW_some] <;> rfl) | (simp only [← hji4]; first | rfl | (simp [errW_none, errW_some] <;> rfl)) | (simp [*, errW_none, errW_some] <;> rfl), bl_⟩
def armoireref02_TakeS.f (k : Nat) (a0_0 : ByteArray) (a0_1 : Int) (a1 : Int) : Option (ByteArray × Int × ByteArray) := (armoireref02_TakeN.f k a0_0 a0_1 a1).bind fun bt295 => ((armoireref02_take.f bt295.1 bt295.2.1 bt295.2.2).bind fun bt298 => (some (bt298.1, bt298.2.1, bt298.2.2)))
set_option maxHeartbeats 2000000 in
set_option maxRecDepth 100000 in
theorem armoireref02_TakeS.calls (k : Nat) (a0_0 : ByteArray) (a0_1 : Int) (a1 : Int) (r1 : ByteArray) (r2 : Int) (r3 : ByteArray) (w : World) (h : armoireref02_TakeS.f k a0_0 a0_1 a1 = some (r1, r2, r3)) :
    Calls Try.prog 48 #[.agg #[.string a0_0, .int .i64 a0_1], .int .i64 a1] w fun e w' => e = .returned (.tuple #[.agg #[.string r1, .int .i64 r2], .string r3]) ∧ Below w.heap.size w w' := by
  have hu88 := Try.underlying88
  have HB := Aside0.mk (Below.refl w.heap.size w)
  have H : ((armoireref02_TakeN.f k a0_0 a0_1 a1).bind fun bt295 => ((armoireref02_take.f bt295.1 bt295.2.1 bt295.2.2).bind fun bt298 => (some (bt298.1, bt298.2.1, bt298.2.2)))) = some (r1, r2, r3) := h
  clear h
  replace H := Option.bind_eq_some_iff.mp H
  obtain ⟨⟨t295, t296, t297⟩, A30, H⟩ := H
  replace H : ((armoireref02_take.f t295 t296 t297).bind fun bt298 => (some (bt298.1, bt298.2.1, bt298.2.2))) = some (r1, r2, r3) := H
  have A3 := Aside0.mk A30
  clear A30
  replace H := Option.bind_eq_some_iff.mp H
  obtain ⟨⟨t298, t299, t300⟩, A40, H⟩ := H
  replace H : (some (t298, t299, t300)) = some (r1, r2, r3) := H
  have A4 := Aside0.mk A40
  clear A40
  simp only [Option.some.injEq, Prod.mk.injEq] at H
  obtain ⟨rfl, rfl, rfl⟩ := H
  go_enter Try.func48, Try.ntmps48
  go_wp2_with (first | ((with_reducible refine gds (N := 2) rfl ?_); refine bev ?hg (N := 2) ?hd (cs := #[.string a0_0, .int .i64 a0_1]) (t := 88) ?hr ?_; (case hd => rfl); (case hg => rfl); (case hr => first | (go_simp; done) | (go_simp; rfl)); intro gb293 hg w5 hbox hb; have n0_ := Aside0.mk (bsp bl_ hb); have n1_ := Aside0.mk (hbox); have n2_ := Aside0.mk ((by rw [hg]; exact bsz bl_ : w.heap.size ≤ gb293)); have n3_ := Aside0.mk ((by rw [hg]; exact bsz bl_ : w.heap.size ≤ gb293)); clear HB; have HB := n0_; have BK293 := n1_; have GW293 := n2_; have GE293 := n3_; clear n0_ n1_ n2_ n3_; clear hb hbox hg) | ((with_reducible refine gds (N := 4) rfl ?_); refine bev ?hg (N := 4) ?hd (cs := #[.string (⟨#[]⟩ : ByteArray), .int .i64 0]) (t := 88) ?hr ?_; (case hd => rfl); (case hg => rfl); (case hr => first | (go_simp; done) | (go_simp; rfl)); intro gb294 hg w6 hbox hb; have n0_ := Aside0.mk (kbl (g := gb293) (o := .cells #[.string a0_0, .int .i64 a0_1] 88 (0, 0)) bk_ hb); have n1_ := Aside0.mk (bsp bl_ hb); have n2_ := Aside0.mk (hbox); have n3_ := Aside0.mk ((by rw [hg]; exact bsz bl_ : w.heap.size ≤ gb294)); have n4_ := Aside0.mk ((by rw [hg]; exact bsz bl_ : w.heap.size ≤ gb294)); have n5_ := Aside0.mk ((by rw [hg]; exact Nat.ne_of_lt (blk_lt (g := gb293) (o := .cells #[.string a0_0, .int .i64 a0_1] 88 (0, 0)) bk_) : gb293 ≠ gb294)); have n6_ := Aside0.mk ((by rw [hg]; exact Nat.ne_of_gt (blk_lt (g := gb293) (o := .cells #[.string a0_0, .int .i64 a0_1] 88 (0, 0)) bk_) : gb294 ≠ gb293)); clear BK293; clear HB; have BK293 := n0_; have HB := n1_; have BK294 := n2_; have GW294 := n3_; have GE294 := n4_; have NB293_294 := n5_; have NB294_293 := n6_; clear n0_ n1_ n2_ n3_ n4_ n5_ n6_; clear hb hbox hg; have hnb7 := NB293_294.out; have hnc7 := NB294_293.out; have hcz8 := bc2 BK293.out) | ((with_reducible refine gcl (f := 47) rfl ?_); refine gl_ (some 10) rfl rfl Try.func47 (by kernel_rfl) rfl #[.agg #[.string a0_0, .int .i64 a0_1], .int .i64 a1] rfl ar_ ?_; (with_reducible refine (armoireref02_TakeN.calls k a0_0 a0_1 a1 t295 t296 t297 _ A3.out).mono ?_); rintro e w9 ⟨rfl, hb⟩; refine ⟨_, rfl, ?_⟩; have n0_ := Aside0.mk (kbl (g := gb293) (o := .cells #[.string a0_0, .int .i64 a0_1] 88 (0, 0)) bk_ hb); have n1_ := Aside0.mk (kbl (g := gb294) (o := .cells #[.string (⟨#[]⟩ : ByteArray), .int .i64 0] 88 (0, 0)) bk_ hb); have n2_ := Aside0.mk (bsp bl_ hb); clear BK293; clear BK294; clear HB; have BK293 := n0_; have BK294 := n1_; have HB := n2_; clear n0_ n1_ n2_; (try clear hb); (try clear hb2); (try clear hk); (try clear hi); have hcz10 := bc2 BK293.out) | ((with_reducible refine gcl (f := 73) rfl ?_); refine gl_ (some 15) rfl rfl Try.func73 (by kernel_rfl) rfl #[.agg #[.string t295, .int .i64 t296], .int .i64 t297] rfl ar_ ?_; (with_reducible refine (armoireref02_take.calls t295 t296 t297 t298 t299 t300 _ A4.out).mono ?_); rintro e w11 ⟨rfl, hb⟩; refine ⟨_, rfl, ?_⟩; have n0_ := Aside0.mk (kbl (g := gb293) (o := .cells #[.string t295, .int .i64 t296] 88 (0, 0)) bk_ hb); have n1_ := Aside0.mk (kbl (g := gb294) (o := .cells #[.string (⟨#[]⟩ : ByteArray), .int .i64 0] 88 (0, 0)) bk_ hb); have n2_ := Aside0.mk (bsp bl_ hb); clear BK293; clear BK294; clear HB; have BK293 := n0_; have BK294 := n1_; have HB := n2_; clear n0_ n1_ n2_; (try clear hb); (try clear hb2); (try clear hk); (try clear hi); have hcz12 := bc2 BK294.out))
  refine bodyPost_ret (results_ct rfl _ _ gb294 88 #[.string t298, .int .i64 t299] (0, 0) _ rfl bk_ Try.underlying88 rfl (by kernel_rfl)) rfl ?_
  exact ⟨er_, bl_⟩
def armoireref12_HasA.f (a0 : Int) : Option (Bool) := if a0 = 2 then (some true) else (if a0 ≥ 8 then (if a0 ≤ 14 then (some true) else (some (a0 == 16))) else (some (a0 == 16)))
set_option maxHeartbeats 2000000 in
set_option maxRecDepth 100000 in
theorem armoireref12_HasA.calls (a0 : Int) (r : Bool) (w : World) (h : armoireref12_HasA.f a0 = some r) :
    Calls Try.prog 58 #[.int .i64 a0] w fun e w' => e = .returned (.bool r) ∧ Drawn0 w w' := by
  have H : (if a0 = 2 then (some true) else (if a0 ≥ 8 then (if a0 ≤ 14 then (some true) else (some (a0 == 16))) else (some (a0 == 16)))) = some r := h
  clear h
  by_cases c2 : a0 = 2
  · rw [if_pos c2] at H
    have c2b0 : (a0 == 2) = true := beq_iff_eq.mpr c2
    have c2b1 : (a0 != 2) = false := bne_eq_false_iff_eq.mpr c2
    clear c2
    obtain rfl := Option.some.inj H
    go_enter Try.func58, Try.ntmps58
    go_wp2
    go_ret
    exact ⟨by first | rfl | (simp; done) | (simp [*]; done), by repeat (first | exact Drawn0.refl _ | apply Drawn0.step)⟩
  rw [if_neg c2] at H
  have c2b0 : (a0 == 2) = false := beq_eq_false_iff_ne.mpr c2
  have c2b1 : (a0 != 2) = true := bne_iff_ne.mpr c2
  by_cases c3 : a0 ≥ 8
  rotate_left
  · rw [if_neg c3] at H
    have c3b0 : decide (8 ≤ a0) = false := decide_eq_false c3
    clear c3
    obtain rfl := Option.some.inj H
    go_enter Try.func58, Try.ntmps58
    go_wp2
    go_ret
    exact ⟨by first | rfl | (simp; done) | (simp [*]; done), by repeat (first | exact Drawn0.refl _ | apply Drawn0.step)⟩
  rw [if_pos c3] at H
  have c3b0 : decide (8 ≤ a0) = true := decide_eq_true c3
  clear c3
  by_cases c4 : a0 ≤ 14
  · rw [if_pos c4] at H
    have c4b0 : decide (a0 ≤ 14) = true := decide_eq_true c4
    clear c4
    obtain rfl := Option.some.inj H
    go_enter Try.func58, Try.ntmps58
    go_wp2
    go_ret
    exact ⟨by first | rfl | (simp; done) | (simp [*]; done), by repeat (first | exact Drawn0.refl _ | apply Drawn0.step)⟩
  rw [if_neg c4] at H
  have c4b0 : decide (a0 ≤ 14) = false := decide_eq_false c4
  clear c4
  obtain rfl := Option.some.inj H
  go_enter Try.func58, Try.ntmps58
  go_wp2
  go_ret
  exact ⟨by first | rfl | (simp; done) | (simp [*]; done), by repeat (first | exact Drawn0.refl _ | apply Drawn0.step)⟩
def armoireref12_HasN.f (a0 : Int) : Option (Bool) := if a0 = 3 then (some true) else (if a0 = 5 then (some true) else (some (a0 == 6)))
set_option maxHeartbeats 2000000 in
set_option maxRecDepth 100000 in
theorem armoireref12_HasN.calls (a0 : Int) (r : Bool) (w : World) (h : armoireref12_HasN.f a0 = some r) :
    Calls Try.prog 59 #[.int .i64 a0] w fun e w' => e = .returned (.bool r) ∧ Drawn0 w w' := by
  have H : (if a0 = 3 then (some true) else (if a0 = 5 then (some true) else (some (a0 == 6)))) = some r := h
  clear h
  by_cases c2 : a0 = 3
  · rw [if_pos c2] at H
    have c2b0 : (a0 == 3) = true := beq_iff_eq.mpr c2
    have c2b1 : (a0 != 3) = false := bne_eq_false_iff_eq.mpr c2
    clear c2
    obtain rfl := Option.some.inj H
    go_enter Try.func59, Try.ntmps59
    go_wp2
    go_ret
    exact ⟨by first | rfl | (simp; done) | (simp [*]; done), by repeat (first | exact Drawn0.refl _ | apply Drawn0.step)⟩
  rw [if_neg c2] at H
  have c2b0 : (a0 == 3) = false := beq_eq_false_iff_ne.mpr c2
  have c2b1 : (a0 != 3) = true := bne_iff_ne.mpr c2
  by_cases c3 : a0 = 5
  rotate_left
  · rw [if_neg c3] at H
    have c3b0 : (a0 == 5) = false := beq_eq_false_iff_ne.mpr c3
    have c3b1 : (a0 != 5) = true := bne_iff_ne.mpr c3
    obtain rfl := Option.some.inj H
    go_enter Try.func59, Try.ntmps59
    go_wp2
    go_ret
    exact ⟨by first | rfl | (simp; done) | (simp [*]; done), by repeat (first | exact Drawn0.refl _ | apply Drawn0.step)⟩
  rw [if_pos c3] at H
  have c3b0 : (a0 == 5) = true := beq_iff_eq.mpr c3
  have c3b1 : (a0 != 5) = false := bne_eq_false_iff_eq.mpr c3
  clear c3
  obtain rfl := Option.some.inj H
  go_enter Try.func59, Try.ntmps59
  go_wp2
  go_ret
  exact ⟨by first | rfl | (simp; done) | (simp [*]; done), by repeat (first | exact Drawn0.refl _ | apply Drawn0.step)⟩
end Go.Proofs.Ytkkkmbgflflcnaa.PS

