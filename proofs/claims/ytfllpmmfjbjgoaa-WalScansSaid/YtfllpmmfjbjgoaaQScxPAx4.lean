import Derived.Test.YtfllpmmfjbjgoaaQScxPAx0
import Derived.Test.YtfllpmmfjbjgoaaQScxPAx3
namespace Go.Proofs.Ytfllpmmfjbjgoaa.PA
open Go.Proofs.Ytfllpmmfjbjgoaa.PL
open Go.RowKit Go.Proofs.YtfllpmmfjbjgoaaW.PrintWords Go.Proofs.YtfllpmmfjbjgoaaW.PrintLast Go.Proofs.YtfllpmmfjbjgoaaW.PrintMore
attribute [local go_sem] max2_int min2_int max_two min_two max_three min_three max_four min_four
set_option linter.unusedVariables false
set_option linter.unusedSimpArgs false
mutual
def armoireref02_TakeU.j0 : Nat → ByteArray → Bool → ByteArray → Int → Option (ByteArray × Int × Int)
  | 0, _, _, _, _ => none
  | k + 1, x5, x41, x175000, x175001 => if x41 = true then (some ((⟨#[]⟩ : ByteArray), 2, 0)) else (armoireref02_TakeU.l0 k x5 0 0 x175000 x175001)
def armoireref02_TakeU.l0 : Nat → ByteArray → Int → Int → ByteArray → Int → Option (ByteArray × Int × Int)
  | 0, _, _, _, _, _ => none
  | k + 1, x5, x6, x7, x175000, x175001 => if x7 < (x5.size : Int) then (if 0 ≤ x7 then (armoireref02_TakeU.l0 k x5 (IntKind.u64.wrap ((IntKind.u64.wrap (x6 * 256)) + (IntKind.u64.wrap (bt x5 x7)))) (wrap64 (x7 + 1)) x175000 x175001) else (none)) else (some (x175000, x175001, x6))
end
def armoireref02_TakeU.f (k : Nat) (a0_0 : ByteArray) (a0_1 : Int) : Option (ByteArray × Int × Int) := (armoireref02_take.f a0_0 a0_1 1).bind fun bt176 => (if bt176.2.1 = 0 then (if 0 < (bt176.2.2.size : Int) then (if (bt bt176.2.2 0) > 8 then (some ((⟨#[]⟩ : ByteArray), 2, 0)) else ((armoireref02_take.f bt176.1 bt176.2.1 (wrap64 (bt bt176.2.2 0))).bind fun bt179 => (if bt179.2.1 = 0 then (if (bt179.2.2.size : Int) > 0 then (if 0 < (bt179.2.2.size : Int) then (armoireref02_TakeU.j0 k bt179.2.2 ((bt bt179.2.2 0) == 0) bt179.1 bt179.2.1) else (none)) else (armoireref02_TakeU.j0 k bt179.2.2 false bt179.1 bt179.2.1)) else (armoireref02_TakeU.j0 k bt179.2.2 false bt179.1 bt179.2.1)))) else (none)) else (some (bt176.1, bt176.2.1, 0)))
def armoireref02_TakeU.T6 : Bool × List (List Nat × List Nat) := (true, [([], []), ([], []), ([1], [1]), ([2], [2]), ([0, 3], [0, 3]), ([4], [4]), ([5], [5]), ([5], [5]), ([6, 4, 0, 1, 2, 3, 4, 5, 6], [6]), ([7, 8, 0, 1, 2, 3, 4, 5, 6, 7, 8], [7])])
def armoireref02_TakeU.B6 : List Nat := [0, 0, 2, 6, 15, 31, 63, 63, 127, 511]
theorem armoireref02_TakeU.tab6 : rtab .any (opsOf Try.f69 6) = armoireref02_TakeU.T6 := by kernel_rfl
theorem armoireref02_TakeU.bits6 : waitsOk armoireref02_TakeU.T6.2 armoireref02_TakeU.B6 = true := by kernel_rfl
set_option maxHeartbeats 2000000 in
set_option maxRecDepth 100000 in
theorem armoireref02_TakeU.calls (k : Nat) (a0_0 : ByteArray) (a0_1 : Int) (r1 : ByteArray) (r2 : Int) (r3 : Int) (w : World) (h : armoireref02_TakeU.f k a0_0 a0_1 = some (r1, r2, r3)) :
    Calls Try.prog 69 #[.agg #[.string a0_0, .int .i64 a0_1]] w fun e w' => e = .returned (.tuple #[.agg #[.string r1, .int .i64 r2], .int .u64 r3]) ∧ Below w.heap.size w w' := by
  have hu110 := Try.underlying110
  have HB := Aside0.mk (Below.refl w.heap.size w)
  have H : ((armoireref02_take.f a0_0 a0_1 1).bind fun bt176 => (if bt176.2.1 = 0 then (if 0 < (bt176.2.2.size : Int) then (if (bt bt176.2.2 0) > 8 then (some ((⟨#[]⟩ : ByteArray), 2, 0)) else ((armoireref02_take.f bt176.1 bt176.2.1 (wrap64 (bt bt176.2.2 0))).bind fun bt179 => (if bt179.2.1 = 0 then (if (bt179.2.2.size : Int) > 0 then (if 0 < (bt179.2.2.size : Int) then (armoireref02_TakeU.j0 k bt179.2.2 ((bt bt179.2.2 0) == 0) bt179.1 bt179.2.1) else (none)) else (armoireref02_TakeU.j0 k bt179.2.2 false bt179.1 bt179.2.1)) else (armoireref02_TakeU.j0 k bt179.2.2 false bt179.1 bt179.2.1)))) else (none)) else (some (bt176.1, bt176.2.1, 0)))) = some (r1, r2, r3) := h
  clear h
  replace H := Option.bind_eq_some_iff.mp H
  obtain ⟨⟨t176, t177, t178⟩, A20, H⟩ := H
  replace H : (if t177 = 0 then (if 0 < (t178.size : Int) then (if (bt t178 0) > 8 then (some ((⟨#[]⟩ : ByteArray), 2, 0)) else ((armoireref02_take.f t176 t177 (wrap64 (bt t178 0))).bind fun bt179 => (if bt179.2.1 = 0 then (if (bt179.2.2.size : Int) > 0 then (if 0 < (bt179.2.2.size : Int) then (armoireref02_TakeU.j0 k bt179.2.2 ((bt bt179.2.2 0) == 0) bt179.1 bt179.2.1) else (none)) else (armoireref02_TakeU.j0 k bt179.2.2 false bt179.1 bt179.2.1)) else (armoireref02_TakeU.j0 k bt179.2.2 false bt179.1 bt179.2.1)))) else (none)) else (some (t176, t177, 0))) = some (r1, r2, r3) := H
  have A2 := Aside0.mk A20
  clear A20
  have HS3 := Aside0.mk H
  clear H
  go_enter Try.func69, Try.ntmps69
  go_upto_if 15 with (first | ((with_reducible refine gds (N := 1) rfl ?_); (try (refine gate_guard (by rfl) ?_; dsimp only)); refine bev ?hg (N := 1) ?hd (cs := #[.string a0_0, .int .i64 a0_1]) (t := 110) ?hr ?_; (case hd => rfl); (case hg => rfl); (case hr => first | (go_simp; done) | (go_simp; rfl)); intro gb174 hg w4 hbox hb; have n0_ := Aside0.mk (bsp bl_ hb); have n1_ := Aside0.mk (hbox); have n2_ := Aside0.mk ((by rw [hg]; exact bsz bl_ : w.heap.size ≤ gb174)); have n3_ := Aside0.mk ((by rw [hg]; exact bsz bl_ : w.heap.size ≤ gb174)); clear HB; have HB := n0_; have BK174 := n1_; have GW174 := n2_; have GE174 := n3_; clear n0_ n1_ n2_ n3_; clear hb hbox hg) | ((with_reducible refine gds (N := 2) rfl ?_); (try (refine gate_guard (by rfl) ?_; dsimp only)); refine bev ?hg (N := 2) ?hd (cs := #[.string (⟨#[]⟩ : ByteArray), .int .i64 0]) (t := 110) ?hr ?_; (case hd => rfl); (case hg => rfl); (case hr => first | (go_simp; done) | (go_simp; rfl)); intro gb175 hg w5 hbox hb; have n0_ := Aside0.mk (kbl (g := gb174) (o := .cells #[.string a0_0, .int .i64 a0_1] 110 (0, 0)) bk_ hb); have n1_ := Aside0.mk (bsp bl_ hb); have n2_ := Aside0.mk (hbox); have n3_ := Aside0.mk ((by rw [hg]; exact bsz bl_ : w.heap.size ≤ gb175)); have n4_ := Aside0.mk ((by rw [hg]; exact bsz bl_ : w.heap.size ≤ gb175)); have n5_ := Aside0.mk ((by rw [hg]; exact Nat.ne_of_lt (blk_lt (g := gb174) (o := .cells #[.string a0_0, .int .i64 a0_1] 110 (0, 0)) bk_) : gb174 ≠ gb175)); have n6_ := Aside0.mk ((by rw [hg]; exact Nat.ne_of_gt (blk_lt (g := gb174) (o := .cells #[.string a0_0, .int .i64 a0_1] 110 (0, 0)) bk_) : gb175 ≠ gb174)); clear BK174; clear HB; have BK174 := n0_; have HB := n1_; have BK175 := n2_; have GW175 := n3_; have GE175 := n4_; have NB174_175 := n5_; have NB175_174 := n6_; clear n0_ n1_ n2_ n3_ n4_ n5_ n6_; clear hb hbox hg; have hnb6 := NB174_175.out; have hnc6 := NB175_174.out; have hcz7 := bc2 BK174.out) | ((with_reducible refine gcl (f := 71) rfl ?_); refine gl_ (some 10) rfl rfl Try.func71 (by kernel_rfl) rfl #[.agg #[.string a0_0, .int .i64 a0_1], .int .i64 1] rfl ar_ ?_; (with_reducible refine (armoireref02_take.calls a0_0 a0_1 1 t176 t177 t178 _ A2.out).mono ?_); rintro e w8 ⟨rfl, hb⟩; refine ⟨_, rfl, ?_⟩; have n0_ := Aside0.mk (kbl (g := gb174) (o := .cells #[.string a0_0, .int .i64 a0_1] 110 (0, 0)) bk_ hb); have n1_ := Aside0.mk (kbl (g := gb175) (o := .cells #[.string (⟨#[]⟩ : ByteArray), .int .i64 0] 110 (0, 0)) bk_ hb); have n2_ := Aside0.mk (bsp bl_ hb); clear BK174; clear BK175; clear HB; have BK174 := n0_; have BK175 := n1_; have HB := n2_; clear n0_ n1_ n2_; (try clear hb); (try clear hb2); (try clear hk); (try clear hi); have hcz9 := bc2 BK174.out))
  (try simp only [Act.put, List.setIfInBounds_toArray, List.set_cons_zero, List.set_cons_succ])
  have H := HS3.out
  clear HS3
  by_cases c10 : t177 = 0
  rotate_left
  · rw [if_neg c10] at H
    have c10b0 : (t177 == 0) = false := beq_eq_false_iff_ne.mpr c10
    have c10b1 : (t177 != 0) = true := bne_iff_ne.mpr c10
    (first | rw [c10b0] | (simp only [i64_w, i32_w]; rw [c10b0]) | skip)
    simp only [Option.some.injEq, Prod.mk.injEq] at H
    obtain ⟨rfl, rfl, rfl⟩ := H
    have hnb43 := NB174_175.out
    have hnc43 := NB175_174.out
    have hcz44 := bc2 BK174.out
    have hcz45 := bc2 BK175.out
    go_wp2
    refine bodyPost_ret (results_ct rfl _ _ gb175 110 #[.string t176, .int .i64 t177] (0, 0) _ rfl bk_ Try.underlying110 rfl (by kernel_rfl)) rfl ?_
    exact ⟨er_, bl_⟩
  rw [if_pos c10] at H
  have c10b0 : (t177 == 0) = true := beq_iff_eq.mpr c10
  have c10b1 : (t177 != 0) = false := bne_eq_false_iff_eq.mpr c10
  clear c10
  (first | rw [c10b0] | (simp only [i64_w, i32_w]; rw [c10b0]) | skip)
  by_cases c11 : 0 < (t178.size : Int)
  rotate_left
  · rw [if_neg c11] at H
    exact absurd H (by simp)
  rw [if_pos c11] at H
  have c11b0 : decide (0 < (t178.size : Int)) = true := decide_eq_true c11
  have c11b1 : decide (0 < t178.size) = true := decide_eq_true (by omega)
  clear c11
  by_cases c13 : (bt t178 0) > 8
  · rw [if_pos c13] at H
    have c13b0 : decide (8 < (bt t178 0)) = true := decide_eq_true c13
    clear c13
    simp only [Option.some.injEq, Prod.mk.injEq] at H
    obtain ⟨rfl, rfl, rfl⟩ := H
    have p12 : 0 ≤ (0 : Int) := (by omega)
    have q12 : 0 < t178.size := (by have : (0 : Int) < (t178.size : Int) := of_decide_eq_true (by first | (with_reducible assumption) | assumption); omega)
    have hx12 : ∀ h : 0 < t178.size, ((t178[0]'h).toNat : Int) = bt t178 0 := bt_at t178 0
    clear p12
    have qi12 : (0 < (t178.size : Int)) = True := eq_true (of_decide_eq_true (by first | (with_reducible assumption) | assumption))
    replace q12 := eq_true q12
    have hnb14 := NB175_174.out
    have hnc14 := NB174_175.out
    have hcz15 := bc2 BK175.out
    go_wp2
    refine bodyPost_ret (results_ct rfl _ _ gb175 110 #[.string (⟨#[]⟩ : ByteArray), .int .i64 2] (0, 0) _ rfl bk_ Try.underlying110 rfl (by kernel_rfl)) rfl ?_
    exact ⟨er_, bl_⟩
  rw [if_neg c13] at H
  have c13b0 : decide (8 < (bt t178 0)) = false := decide_eq_false c13
  clear c13
  replace H := Option.bind_eq_some_iff.mp H
  obtain ⟨⟨t179, t180, t181⟩, A170, H⟩ := H
  replace H : (if t180 = 0 then (if (t181.size : Int) > 0 then (if 0 < (t181.size : Int) then (armoireref02_TakeU.j0 k t181 ((bt t181 0) == 0) t179 t180) else (none)) else (armoireref02_TakeU.j0 k t181 false t179 t180)) else (armoireref02_TakeU.j0 k t181 false t179 t180)) = some (r1, r2, r3) := H
  have A17 := Aside0.mk A170
  clear A170
  have HC18 := Aside0.mk H
  clear H
  have p12 : 0 ≤ (0 : Int) := (by omega)
  have q12 : 0 < t178.size := (by have : (0 : Int) < (t178.size : Int) := of_decide_eq_true (by first | (with_reducible assumption) | assumption); omega)
  have hx12 : ∀ h : 0 < t178.size, ((t178[0]'h).toNat : Int) = bt t178 0 := bt_at t178 0
  clear p12
  have qi12 : (0 < (t178.size : Int)) = True := eq_true (of_decide_eq_true (by first | (with_reducible assumption) | assumption))
  replace q12 := eq_true q12
  try go_wp2
  have n0_ : Aside0 (((w8.setCell ⟨gb174, 0, none⟩ (.string t176)).setCell ⟨gb174, 1, none⟩ (.int .i64 t177)).heap[gb174]? = some (.cells #[.string t176, .int .i64 t177] 110 (0, 0))) := ⟨bk_⟩
  have n1_ : Aside0 (((w8.setCell ⟨gb174, 0, none⟩ (.string t176)).setCell ⟨gb174, 1, none⟩ (.int .i64 t177)).heap[gb175]? = some (.cells #[.string (⟨#[]⟩ : ByteArray), .int .i64 0] 110 (0, 0))) := ⟨bk_⟩
  have n2_ : Aside0 (Below w.heap.size w ((w8.setCell ⟨gb174, 0, none⟩ (.string t176)).setCell ⟨gb174, 1, none⟩ (.int .i64 t177))) := ⟨bl_⟩
  (try clear BK174)
  (try clear BK175)
  (try clear HB)
  generalize ((w8.setCell ⟨gb174, 0, none⟩ (.string t176)).setCell ⟨gb174, 1, none⟩ (.int .i64 t177)) = w19 at n0_ n1_ n2_ ⊢
  have BK174 := n0_
  have BK175 := n1_
  have HB := n2_
  clear n0_ n1_ n2_
  have n0_ := Aside0.mk (kdw BK174.out)
  have n1_ := Aside0.mk (kdw BK175.out)
  have n2_ := Aside0.mk (bd1 HB.out)
  clear BK174
  clear BK175
  clear HB
  have BK174 := n0_
  have BK175 := n1_
  have HB := n2_
  clear n0_ n1_ n2_
  have p16 : 0 ≤ (0 : Int) := (by omega)
  have q16 : 0 < t178.size := (by have : (0 : Int) < (t178.size : Int) := of_decide_eq_true (by first | (with_reducible assumption) | assumption); omega)
  have hx16 : ∀ h : 0 < t178.size, ((t178[0]'h).toNat : Int) = bt t178 0 := bt_at t178 0
  clear p16
  have qi16 : (0 < (t178.size : Int)) = True := eq_true (of_decide_eq_true (by first | (with_reducible assumption) | assumption))
  replace q16 := eq_true q16
  refine start_ (n := 10) (S := fun w' => w'.cell? ⟨gb174, 0, none⟩ = some (.string t176) ∧ w'.cell? ⟨gb174, 1, none⟩ = some (.int .i64 t177)) (ds := [8]) #[false,false,false,false,false,false,false,false,false,false] (by kernel_rfl) rfl rfl ⟨(kcl BK174.out 0).trans rfl, (kcl BK174.out 1).trans rfl⟩ (fun hHeld => ?_); refine with_tabW armoireref02_TakeU.tab6 armoireref02_TakeU.bits6 (fun HT_ HW_ => ?_)
  generalize w19.drew = w20 at BK174 BK175 HB hHeld ⊢
  refine pure_ (i := 1) (N := some 23) (v := ?_) (a' := ?_) (bA 10 2) rfl rfl (any_of HT_.out (by kernel_rfl)) (fun _ _ _ h => h) (Or.inl ⟨by rfl, ?_⟩) ?_ ?_
  rotate_left; (intro w'; go_simp; with_reducible rfl); rotate_left; (simp only [Act.put, List.setIfInBounds_toArray, List.set_cons_zero, List.set_cons_succ, i64_w, i32_w]; rfl)
  refine take_ (i := 0) (N := some 22) (v := ?_) (a' := ?_) #[true,true,false,false,false,false,false,false,false,false] rfl rfl (tkw HT_.out HW_.out (by kernel_rfl)) (fun _ _ _ h => h) (Or.inl ⟨by rfl, ?_⟩) hHeld ?_ ?_
  rotate_left
  · rintro w' ⟨s0, s1⟩
    go_simp
    with_reducible rfl
  rotate_left; (simp only [Act.put, List.setIfInBounds_toArray, List.set_cons_zero, List.set_cons_succ, i64_w, i32_w]; rfl)
  refine take_ (i := 2) (N := some 24) (v := ?_) (a' := ?_) #[true,true,true,false,false,false,false,false,false,false] rfl rfl (tkw HT_.out HW_.out (by kernel_rfl)) (fun _ _ _ h => h) (Or.inl ⟨by rfl, ?_⟩) hHeld ?_ ?_
  rotate_left
  · rintro w' ⟨s0, s1⟩
    go_simp
    with_reducible rfl
  rotate_left; (simp only [Act.put, List.setIfInBounds_toArray, List.set_cons_zero, List.set_cons_succ, i64_w, i32_w]; rfl)
  refine pure_ (i := 3) (N := some 25) (v := ?_) (a' := ?_) (bA 10 15) rfl rfl (any_of HT_.out (by kernel_rfl)) (fun _ _ _ h => h) (Or.inl ⟨by rfl, ?_⟩) ?_ ?_
  rotate_left; (intro w'; go_simp; with_reducible rfl); rotate_left; (simp only [Act.put, List.setIfInBounds_toArray, List.set_cons_zero, List.set_cons_succ, i64_w, i32_w]; rfl)
  refine one_ (i := 4) (N := some 26) #[true,true,true,true,true,false,false,false,false,false] rfl rfl (one_of HT_.out (by kernel_rfl)) (by decide) (fun K hK => ?_)
  refine goes_ Try.func71 (by kernel_rfl) rfl #[.agg #[.string t176, .int .i64 t177], .int .i64 (wrap64 (bt t178 0))] (by rfl) rfl rfl (by (try simp only [List.map_toArray, List.map_cons, List.map_nil]); first | done | rfl | (simp only [List.length_drop, List.length_take]; rfl) | (simp only [Act.eval, Array.getD_eq_getD_getElem?, Option.getD_some, *]; done) | (simp only [Array.mk.injEq, List.cons.injEq, Value.int.injEq, true_and, and_true]; first | omega | (simp [IntKind.wrap, IntKind.bits, IntKind.signed]; omega))) ?_
  with_reducible refine (armoireref02_take.calls t176 t177 (wrap64 (bt t178 0)) t179 t180 t181 _ A17.out).mono ?_
  rintro e w21 ⟨rfl, hb⟩
  refine ⟨_, rfl, ?_⟩
  have n0_ := Aside0.mk (kbl (g := gb174) (o := .cells #[.string t176, .int .i64 t177] 110 (0, 0)) bk_ hb)
  have n1_ := Aside0.mk (kbl (g := gb175) (o := .cells #[.string (⟨#[]⟩ : ByteArray), .int .i64 0] 110 (0, 0)) bk_ hb)
  have n2_ := Aside0.mk (bsp bl_ hb)
  clear BK174
  clear BK175
  clear HB
  have BK174 := n0_
  have BK175 := n1_
  have HB := n2_
  clear n0_ n1_ n2_
  (try clear hb)
  (try clear hb2)
  (try clear hk)
  (try clear hi)
  refine hK.out _ _ ⟨(kcl BK174.out 0).trans rfl, (kcl BK174.out 1).trans rfl⟩ (fun hHeld => ?_)
  clear hK K
  refine norm_ (a' := ?_) ?_ ?_
  rotate_left
  · show Act.put _ (some 26) _ = _
    simp only [Act.put, List.setIfInBounds_toArray, List.set_cons_zero, List.set_cons_succ, i64_w, i32_w]
    rfl
  refine pure_ (i := 5) (N := some 21) (v := ?_) (a' := ?_) (bA 10 63) rfl rfl (any_of HT_.out (by kernel_rfl)) (fun _ _ _ h => h) (Or.inl ⟨by rfl, ?_⟩) ?_ ?_
  rotate_left; (intro w'; go_simp; with_reducible rfl); rotate_left; (simp only [Act.put, List.setIfInBounds_toArray, List.set_cons_zero, List.set_cons_succ, i64_w, i32_w]; rfl)
  refine pure_ (i := 6) (N := some 27) (v := ?_) (a' := ?_) (bA 10 127) rfl rfl (any_of HT_.out (by kernel_rfl)) (fun _ _ _ h => h) (Or.inl ⟨by rfl, ?_⟩) ?_ ?_
  rotate_left; (intro w'; go_simp; with_reducible rfl); rotate_left; (simp only [Act.put, List.setIfInBounds_toArray, List.set_cons_zero, List.set_cons_succ, i64_w, i32_w]; rfl)
  refine pure_ (i := 7) (N := some 28) (v := ?_) (a' := ?_) (bA 10 255) rfl rfl (any_of HT_.out (by kernel_rfl)) (fun _ _ _ h => h) (Or.inl ⟨by rfl, ?_⟩) ?_ ?_
  rotate_left; (intro w'; go_simp; with_reducible rfl); rotate_left; (simp only [Act.put, List.setIfInBounds_toArray, List.set_cons_zero, List.set_cons_succ, i64_w, i32_w]; rfl)
  refine last_ (i := 8) (N := none) #[true,true,true,true,true,true,true,true,true,false] rfl rfl (one_of HT_.out (by kernel_rfl)) (by decide) (fun K hK => ?_)
  have hs22 : w21.cell? ⟨gb174, 0, none⟩ = some (.string t176) := (kcl BK174.out 0).trans rfl
  have hfs22 := kfr BK174.out 0
  have hns22_1 := NB175_174.out
  have hms22_1 := NB174_175.out
  have hs23 : w21.cell? ⟨gb174, 1, none⟩ = some (.int .i64 t177) := (kcl BK174.out 1).trans rfl
  have hfs23 := kfr BK174.out 1
  have hns23_1 := NB175_174.out
  have hms23_1 := NB174_175.out
  refine skip_ (w1 := ?_) (by rfl) rfl ?_ ?_
  rotate_left
  · go_simp
    rfl
  refine hK.out _ _ ?_
  clear hK K
  refine pure_ (i := 9) (N := some 5) (v := ?_) (a' := ?_) (bA 10 1023) rfl rfl (any_of HT_.out (by kernel_rfl)) (fun _ _ _ h => h) (Or.inl ⟨by rfl, ?_⟩) ?_ ?_
  rotate_left; (intro w'; go_simp; with_reducible rfl); rotate_left; (simp only [Act.put, List.setIfInBounds_toArray, List.set_cons_zero, List.set_cons_succ, i64_w, i32_w]; rfl)
  refine done_ (done_of HT_.out (by kernel_rfl)) ?_
  go_upto_region 7 with (fail)
  go_cut [41] (fun v41 wc => ∃ (kq : Nat) (x41_17 : Bool), v41 = .bool x41_17 ∧ Aside0 (armoireref02_TakeU.j0 kq t181 x41_17 t179 t180 = some (r1, r2, r3)) ∧ Aside0 (kq ≤ k) ∧ Aside0 (wc.heap[gb174]? = some (.cells #[.string t179, .int .i64 t180] 110 (0, 0))) ∧ Aside0 (wc.heap[gb175]? = some (.cells #[.string (⟨#[]⟩ : ByteArray), .int .i64 0] 110 (0, 0))) ∧ Aside0 (Below w.heap.size w wc))
  case first =>
    have H := HC18.out
    clear HC18
    by_cases c24 : t180 = 0
    rotate_left
    · rw [if_neg c24] at H
      have c24b0 : (t180 == 0) = false := beq_eq_false_iff_ne.mpr c24
      have c24b1 : (t180 != 0) = true := bne_iff_ne.mpr c24
      (first | rw [c24b0] | (simp only [i64_w, i32_w]; rw [c24b0]) | skip)
      have H' := Aside0.mk H
      clear H
      have hnb32 := NB174_175.out
      have hnc32 := NB175_174.out
      have hcz33 := bc2 BK174.out
      go_wp2
      go_meet
      case rel => exact ⟨_, (false), (by first | rfl | (simp; done) | (simp [*]; done) | exact emp1_ _ | exact (emp1_ _).symm | exact emp2_ _ | exact (emp2_ _).symm), H', ⟨by first | omega | exact Nat.le_refl _⟩, ⟨bk_⟩, ⟨bk_⟩, ⟨bl_⟩⟩
    rw [if_pos c24] at H
    have c24b0 : (t180 == 0) = true := beq_iff_eq.mpr c24
    have c24b1 : (t180 != 0) = false := bne_eq_false_iff_eq.mpr c24
    clear c24
    (first | rw [c24b0] | (simp only [i64_w, i32_w]; rw [c24b0]) | skip)
    by_cases c25 : (t181.size : Int) > 0
    rotate_left
    · rw [if_neg c25] at H
      have c25b0 : decide (0 < (t181.size : Int)) = false := decide_eq_false c25
      have c25b1 : decide (0 < t181.size) = false := decide_eq_false (by omega)
      clear c25
      have H' := Aside0.mk H
      clear H
      have hnb30 := NB174_175.out
      have hnc30 := NB175_174.out
      have hcz31 := bc2 BK174.out
      go_wp2
      go_meet
      case rel => exact ⟨_, (false), (by first | rfl | (simp; done) | (simp [*]; done) | exact emp1_ _ | exact (emp1_ _).symm | exact emp2_ _ | exact (emp2_ _).symm), H', ⟨by first | omega | exact Nat.le_refl _⟩, ⟨bk_⟩, ⟨bk_⟩, ⟨bl_⟩⟩
    rw [if_pos c25] at H
    have c25b0 : decide (0 < (t181.size : Int)) = true := decide_eq_true c25
    have c25b1 : decide (0 < t181.size) = true := decide_eq_true (by omega)
    clear c25
    by_cases c26 : 0 < (t181.size : Int)
    rotate_left
    · rw [if_neg c26] at H
      exact absurd H (by simp)
    rw [if_pos c26] at H
    have c26b0 : decide (0 < (t181.size : Int)) = true := decide_eq_true c26
    have c26b1 : decide (0 < t181.size) = true := decide_eq_true (by omega)
    clear c26
    have H' := Aside0.mk H
    clear H
    have hnb28 := NB174_175.out
    have hnc28 := NB175_174.out
    have hcz29 := bc2 BK174.out
    have p27 : 0 ≤ (0 : Int) := (by omega)
    have q27 : 0 < t181.size := (by have : (0 : Int) < (t181.size : Int) := of_decide_eq_true (by first | (with_reducible assumption) | assumption); omega)
    have hx27 : ∀ h : 0 < t181.size, ((t181[0]'h).toNat : Int) = bt t181 0 := bt_at t181 0
    clear p27
    have qi27 : (0 < (t181.size : Int)) = True := eq_true (of_decide_eq_true (by first | (with_reducible assumption) | assumption))
    replace q27 := eq_true q27
    go_wp2
    go_meet
    case rel => exact ⟨_, (((bt t181 0) == 0)), (by first | rfl | (simp; done) | (simp [*]; done) | exact emp1_ _ | exact (emp1_ _).symm | exact emp2_ _ | exact (emp2_ _).symm), H', ⟨by first | omega | exact Nat.le_refl _⟩, ⟨bk_⟩, ⟨bk_⟩, ⟨bl_⟩⟩
  clear HC18
  try clear c1
  try clear p1
  try clear q1
  try clear hx1
  try clear qi1
  try clear c2
  try clear p2
  try clear q2
  try clear hx2
  try clear qi2
  try clear c3
  try clear c6
  try clear p6
  try clear c7
  try clear c10
  try clear c10b0
  try clear c10b1
  try clear c11
  try clear c11b0
  try clear c11b1
  try clear p12
  try clear q12
  try clear hx12
  try clear qi12
  try clear c13
  try clear c13b0
  try clear c14
  try clear p16
  try clear q16
  try clear hx16
  try clear qi16
  try clear c24
  try clear c24b0
  try clear c24b1
  try clear c25
  try clear c25b0
  try clear c25b1
  try clear c26
  try clear c26b0
  try clear c26b1
  try clear p27
  try clear q27
  try clear hx27
  try clear qi27
  try clear c28
  try clear c30
  try clear c32
  try clear hcz15
  try clear hcz29
  try clear hcz31
  try clear hcz33
  try clear hcz7
  try clear hcz9
  try clear hcz15
  try clear hcz29
  try clear hcz31
  try clear hcz33
  try clear hcz7
  try clear hcz9
  try clear p12
  try clear p16
  try clear p27
  try clear q12
  try clear q16
  try clear q27
  obtain ⟨kq, x41_17, rfl, HA, HJ17, BK174, BK175, HB⟩ := hcut
  cases kq with
  | zero => exact absurd HA.out (by simp [armoireref02_TakeU.j0])
  | succ kj17 =>
    have H := HA.out
    clear HA
    simp only [armoireref02_TakeU.j0] at H
    by_cases c34 : x41_17 = true
    · subst c34
      have H1 : (some ((⟨#[]⟩ : ByteArray), 2, 0)) = some (r1, r2, r3) := by rw [if_pos rfl] at H; exact H
      clear H
      have H := H1
      clear H1
      simp only [Option.some.injEq, Prod.mk.injEq] at H
      obtain ⟨rfl, rfl, rfl⟩ := H
      have hnb35 := NB175_174.out
      have hnc35 := NB174_175.out
      have hcz36 := bc2 BK175.out
      go_wp2
      refine bodyPost_ret (results_ct rfl _ _ gb175 110 #[.string (⟨#[]⟩ : ByteArray), .int .i64 2] (0, 0) _ rfl bk_ Try.underlying110 rfl (by kernel_rfl)) rfl ?_
      exact ⟨er_, bl_⟩
    replace c34 := Bool.eq_false_iff.mpr c34
    subst c34
    have H1 : (armoireref02_TakeU.l0 kj17 t181 0 0 t179 t180) = some (r1, r2, r3) := by rw [if_neg (show ¬ (false = true) by decide)] at H; exact H
    clear H
    have H := H1
    clear H1
    have H' := Aside0.mk H
    clear H
    go_wp2
    go_loopg [6, 7] kj17 (fun kq v6 v7 w' => ∃ (x6_2 : Int) (x7_2 : Int), v6 = .int .u64 x6_2 ∧ v7 = .int .i64 x7_2 ∧ Aside0 (armoireref02_TakeU.l0 kq t181 x6_2 x7_2 t179 t180 = some (r1, r2, r3)) ∧ Aside0 (kq ≤ kj17) ∧ Aside0 (w'.heap[gb174]? = some (.cells #[.string t179, .int .i64 t180] 110 (0, 0))) ∧ Aside0 (w'.heap[gb175]? = some (.cells #[.string (⟨#[]⟩ : ByteArray), .int .i64 0] 110 (0, 0))) ∧ Aside0 (Below w.heap.size w w'))
    case atStart => exact ⟨(0), (0), (by first | rfl | (simp; done) | (simp [*]; done) | exact emp1_ _ | exact (emp1_ _).symm | exact emp2_ _ | exact (emp2_ _).symm), (by first | rfl | (simp; done) | (simp [*]; done) | exact emp1_ _ | exact (emp1_ _).symm | exact emp2_ _ | exact (emp2_ _).symm), H', ⟨Nat.le_refl _⟩, ⟨bk_⟩, ⟨bk_⟩, ⟨bl_⟩⟩
    clear H'
    try clear c1
    try clear p1
    try clear q1
    try clear hx1
    try clear qi1
    try clear c2
    try clear p2
    try clear q2
    try clear hx2
    try clear qi2
    try clear c3
    try clear c6
    try clear p6
    try clear c7
    try clear c10
    try clear c10b0
    try clear c10b1
    try clear c11
    try clear c11b0
    try clear c11b1
    try clear p12
    try clear q12
    try clear hx12
    try clear qi12
    try clear c13
    try clear c13b0
    try clear c14
    try clear p16
    try clear q16
    try clear hx16
    try clear qi16
    try clear c24
    try clear c24b0
    try clear c24b1
    try clear c25
    try clear c25b0
    try clear c25b1
    try clear c26
    try clear c26b0
    try clear c26b1
    try clear p27
    try clear q27
    try clear hx27
    try clear qi27
    try clear c28
    try clear c30
    try clear c32
    try clear c34
    try clear c35
    try clear hcz15
    try clear hcz29
    try clear hcz31
    try clear hcz33
    try clear hcz36
    try clear hcz7
    try clear hcz9
    try clear hcz15
    try clear hcz29
    try clear hcz31
    try clear hcz33
    try clear hcz36
    try clear hcz7
    try clear hcz9
    try clear p1
    try clear p12
    try clear p16
    try clear p2
    try clear p27
    try clear p6
    try clear q1
    try clear q12
    try clear q16
    try clear q2
    try clear q27
    obtain ⟨x6_2, x7_2, rfl, rfl, HA, HK2, BK174, BK175, HB⟩ := hrel
    cases gk with
    | zero => exact absurd HA.out (by simp [armoireref02_TakeU.l0])
    | succ k2 =>
      have H := HA.out
      clear HA
      simp only [armoireref02_TakeU.l0] at H
      by_cases c37 : x7_2 < (t181.size : Int)
      · rw [if_pos c37] at H
        have c37b0 : decide (x7_2 < (t181.size : Int)) = true := decide_eq_true c37
        clear c37
        by_cases c38 : 0 ≤ x7_2
        rotate_left
        · rw [if_neg c38] at H
          exact absurd H (by simp)
        rw [if_pos c38] at H
        have c38b0 : decide (0 ≤ x7_2) = true := decide_eq_true c38
        clear c38
        have H' := Aside0.mk H
        clear H
        have p39 : 0 ≤ (x7_2 : Int) := of_decide_eq_true (by first | (with_reducible assumption) | assumption)
        have q39 : x7_2 < (t181.size : Int) := of_decide_eq_true (by first | (with_reducible assumption) | assumption)
        have hx39 := bt_at t181 x7_2
        replace p39 := eq_true p39
        replace q39 := eq_true q39
        go_wp2
        go_roundg k2
        case measure => have := HJ17.out; have := HK2.out; omega
        case rel => exact ⟨(IntKind.u64.wrap ((IntKind.u64.wrap (x6_2 * 256)) + (IntKind.u64.wrap (bt t181 x7_2)))), (wrap64 (x7_2 + 1)), (by first | rfl | (simp; done) | (simp [*]; done) | exact emp1_ _ | exact (emp1_ _).symm | exact emp2_ _ | exact (emp2_ _).symm), (by first | rfl | (simp; done) | (simp [*]; done) | exact emp1_ _ | exact (emp1_ _).symm | exact emp2_ _ | exact (emp2_ _).symm), H', ⟨by have := HJ17.out; have := HK2.out; omega⟩, ⟨bk_⟩, ⟨bk_⟩, ⟨bl_⟩⟩
      rw [if_neg c37] at H
      have c37b0 : decide (x7_2 < (t181.size : Int)) = false := decide_eq_false c37
      clear c37
      simp only [Option.some.injEq, Prod.mk.injEq] at H
      obtain ⟨rfl, rfl, rfl⟩ := H
      have hnb40 := NB174_175.out
      have hnc40 := NB175_174.out
      have hcz41 := bc2 BK174.out
      have hcz42 := bc2 BK175.out
      go_wp2
      refine bodyPost_ret (results_ct rfl _ _ gb175 110 #[.string t179, .int .i64 t180] (0, 0) _ rfl bk_ Try.underlying110 rfl (by kernel_rfl)) rfl ?_
      exact ⟨er_, bl_⟩
def armoireref02_Fail.f (a0_0 : ByteArray) (a0_1 : Int) (a1 : Int) : Option (ByteArray × Int) := if a0_1 = 0 then (if a1 = 0 then (some (a0_0, a0_1)) else (some ((⟨#[]⟩ : ByteArray), a1))) else (some (a0_0, a0_1))
set_option maxHeartbeats 2000000 in
set_option maxRecDepth 100000 in
theorem armoireref02_Fail.calls (a0_0 : ByteArray) (a0_1 : Int) (a1 : Int) (r1 : ByteArray) (r2 : Int) (w : World) (h : armoireref02_Fail.f a0_0 a0_1 a1 = some (r1, r2)) :
    Calls Try.prog 70 #[.agg #[.string a0_0, .int .i64 a0_1], .int .i64 a1] w fun e w' => e = .returned (.agg #[.string r1, .int .i64 r2]) ∧ Below w.heap.size w w' := by
  have hu110 := Try.underlying110
  have HB := Aside0.mk (Below.refl w.heap.size w)
  have H : (if a0_1 = 0 then (if a1 = 0 then (some (a0_0, a0_1)) else (some ((⟨#[]⟩ : ByteArray), a1))) else (some (a0_0, a0_1))) = some (r1, r2) := h
  clear h
  by_cases c3 : a0_1 = 0
  rotate_left
  · rw [if_neg c3] at H
    have c3b0 : (a0_1 == 0) = false := beq_eq_false_iff_ne.mpr c3
    have c3b1 : (a0_1 != 0) = true := bne_iff_ne.mpr c3
    simp only [Option.some.injEq, Prod.mk.injEq] at H
    obtain ⟨rfl, rfl⟩ := H
    go_enter Try.func70, Try.ntmps70
    go_wp2_with (first | ((with_reducible refine gds (N := 2) rfl ?_); refine bev ?hg (N := 2) ?hd (cs := #[.string a0_0, .int .i64 a0_1]) (t := 110) ?hr ?_; (case hd => rfl); (case hg => rfl); (case hr => first | (go_simp; done) | (go_simp; rfl)); intro gb182 hg w15 hbox hb; have n0_ := Aside0.mk (bsp bl_ hb); have n1_ := Aside0.mk (hbox); have n2_ := Aside0.mk ((by rw [hg]; exact bsz bl_ : w.heap.size ≤ gb182)); have n3_ := Aside0.mk ((by rw [hg]; exact bsz bl_ : w.heap.size ≤ gb182)); clear HB; have HB := n0_; have BK182 := n1_; have GW182 := n2_; have GE182 := n3_; clear n0_ n1_ n2_ n3_; clear hb hbox hg) | ((with_reducible refine gds (N := 4) rfl ?_); refine bev ?hg (N := 4) ?hd (cs := #[.string (⟨#[]⟩ : ByteArray), .int .i64 0]) (t := 110) ?hr ?_; (case hd => rfl); (case hg => rfl); (case hr => first | (go_simp; done) | (go_simp; rfl)); intro gb183 hg w16 hbox hb; have n0_ := Aside0.mk (kbl (g := gb182) (o := .cells #[.string a0_0, .int .i64 a0_1] 110 (0, 0)) bk_ hb); have n1_ := Aside0.mk (bsp bl_ hb); have n2_ := Aside0.mk (hbox); have n3_ := Aside0.mk ((by rw [hg]; exact bsz bl_ : w.heap.size ≤ gb183)); have n4_ := Aside0.mk ((by rw [hg]; exact bsz bl_ : w.heap.size ≤ gb183)); have n5_ := Aside0.mk ((by rw [hg]; exact Nat.ne_of_lt (blk_lt (g := gb182) (o := .cells #[.string a0_0, .int .i64 a0_1] 110 (0, 0)) bk_) : gb182 ≠ gb183)); have n6_ := Aside0.mk ((by rw [hg]; exact Nat.ne_of_gt (blk_lt (g := gb182) (o := .cells #[.string a0_0, .int .i64 a0_1] 110 (0, 0)) bk_) : gb183 ≠ gb182)); clear BK182; clear HB; have BK182 := n0_; have HB := n1_; have BK183 := n2_; have GW183 := n3_; have GE183 := n4_; have NB182_183 := n5_; have NB183_182 := n6_; clear n0_ n1_ n2_ n3_ n4_ n5_ n6_; clear hb hbox hg; have hnb17 := NB182_183.out; have hnc17 := NB183_182.out; have hcz18 := bc2 BK182.out; have hcz19 := bc2 BK183.out))
    refine bodyPost_ret (results_cell_row rfl _ _ gb183 110 #[.string a0_0, .int .i64 a0_1] (0, 0) _ rfl bk_ Try.underlying110 rfl (by kernel_rfl)) rfl ?_
    exact ⟨er_, bl_⟩
  rw [if_pos c3] at H
  have c3b0 : (a0_1 == 0) = true := beq_iff_eq.mpr c3
  have c3b1 : (a0_1 != 0) = false := bne_eq_false_iff_eq.mpr c3
  clear c3
  have HS4 := Aside0.mk H
  clear H
  go_enter Try.func70, Try.ntmps70
  go_upto_if 11 with (first | ((with_reducible refine gds (N := 2) rfl ?_); refine bev ?hg (N := 2) ?hd (cs := #[.string a0_0, .int .i64 a0_1]) (t := 110) ?hr ?_; (case hd => rfl); (case hg => rfl); (case hr => first | (go_simp; done) | (go_simp; rfl)); intro gb182 hg w5 hbox hb; have n0_ := Aside0.mk (bsp bl_ hb); have n1_ := Aside0.mk (hbox); have n2_ := Aside0.mk ((by rw [hg]; exact bsz bl_ : w.heap.size ≤ gb182)); have n3_ := Aside0.mk ((by rw [hg]; exact bsz bl_ : w.heap.size ≤ gb182)); clear HB; have HB := n0_; have BK182 := n1_; have GW182 := n2_; have GE182 := n3_; clear n0_ n1_ n2_ n3_; clear hb hbox hg) | ((with_reducible refine gds (N := 4) rfl ?_); refine bev ?hg (N := 4) ?hd (cs := #[.string (⟨#[]⟩ : ByteArray), .int .i64 0]) (t := 110) ?hr ?_; (case hd => rfl); (case hg => rfl); (case hr => first | (go_simp; done) | (go_simp; rfl)); intro gb183 hg w6 hbox hb; have n0_ := Aside0.mk (kbl (g := gb182) (o := .cells #[.string a0_0, .int .i64 a0_1] 110 (0, 0)) bk_ hb); have n1_ := Aside0.mk (bsp bl_ hb); have n2_ := Aside0.mk (hbox); have n3_ := Aside0.mk ((by rw [hg]; exact bsz bl_ : w.heap.size ≤ gb183)); have n4_ := Aside0.mk ((by rw [hg]; exact bsz bl_ : w.heap.size ≤ gb183)); have n5_ := Aside0.mk ((by rw [hg]; exact Nat.ne_of_lt (blk_lt (g := gb182) (o := .cells #[.string a0_0, .int .i64 a0_1] 110 (0, 0)) bk_) : gb182 ≠ gb183)); have n6_ := Aside0.mk ((by rw [hg]; exact Nat.ne_of_gt (blk_lt (g := gb182) (o := .cells #[.string a0_0, .int .i64 a0_1] 110 (0, 0)) bk_) : gb183 ≠ gb182)); clear BK182; clear HB; have BK182 := n0_; have HB := n1_; have BK183 := n2_; have GW183 := n3_; have GE183 := n4_; have NB182_183 := n5_; have NB183_182 := n6_; clear n0_ n1_ n2_ n3_ n4_ n5_ n6_; clear hb hbox hg; have hnb7 := NB182_183.out; have hnc7 := NB183_182.out; have hcz8 := bc2 BK182.out))
  (try simp only [Act.put, List.setIfInBounds_toArray, List.set_cons_zero, List.set_cons_succ])
  have H := HS4.out
  clear HS4
  by_cases c9 : a1 = 0
  rotate_left
  · rw [if_neg c9] at H
    have c9b0 : (a1 == 0) = false := beq_eq_false_iff_ne.mpr c9
    have c9b1 : (a1 != 0) = true := bne_iff_ne.mpr c9
    (first | rw [c9b0] | (simp only [i64_w, i32_w]; rw [c9b0]) | skip)
    simp only [Option.some.injEq, Prod.mk.injEq] at H
    obtain ⟨rfl, rfl⟩ := H
    have hnb13 := NB183_182.out
    have hnc13 := NB182_183.out
    have hcz14 := bc2 BK183.out
    go_wp2
    refine bodyPost_ret (results_cell_row rfl _ _ gb183 110 #[.string (⟨#[]⟩ : ByteArray), .int .i64 a1] (0, 0) _ rfl bk_ Try.underlying110 rfl (by kernel_rfl)) rfl ?_
    exact ⟨er_, bl_⟩
  rw [if_pos c9] at H
  have c9b0 : (a1 == 0) = true := beq_iff_eq.mpr c9
  have c9b1 : (a1 != 0) = false := bne_eq_false_iff_eq.mpr c9
  clear c9
  (first | rw [c9b0] | (simp only [i64_w, i32_w]; rw [c9b0]) | skip)
  simp only [Option.some.injEq, Prod.mk.injEq] at H
  obtain ⟨rfl, rfl⟩ := H
  have hnb10 := NB182_183.out
  have hnc10 := NB183_182.out
  have hcz11 := bc2 BK182.out
  have hcz12 := bc2 BK183.out
  go_wp2
  refine bodyPost_ret (results_cell_row rfl _ _ gb183 110 #[.string a0_0, .int .i64 a0_1] (0, 0) _ rfl bk_ Try.underlying110 rfl (by kernel_rfl)) rfl ?_
  exact ⟨er_, bl_⟩
def armoireref02_TakeN.f (k : Nat) (a0_0 : ByteArray) (a0_1 : Int) (a1 : Int) : Option (ByteArray × Int × Int) := (armoireref02_TakeU.f k a0_0 a0_1).bind fun bt186 => (if bt186.2.2 > (IntKind.u64.wrap (mx a1 0)) then ((armoireref02_Fail.f bt186.1 bt186.2.1 3).bind fun bt189 => (some (bt189.1, bt189.2, 0))) else (some (bt186.1, bt186.2.1, wrap64 (bt186.2.2))))
set_option maxHeartbeats 2000000 in
set_option maxRecDepth 100000 in
theorem armoireref02_TakeN.calls (k : Nat) (a0_0 : ByteArray) (a0_1 : Int) (a1 : Int) (r1 : ByteArray) (r2 : Int) (r3 : Int) (w : World) (h : armoireref02_TakeN.f k a0_0 a0_1 a1 = some (r1, r2, r3)) :
    Calls Try.prog 57 #[.agg #[.string a0_0, .int .i64 a0_1], .int .i64 a1] w fun e w' => e = .returned (.tuple #[.agg #[.string r1, .int .i64 r2], .int .i64 r3]) ∧ Below w.heap.size w w' := by
  have hu110 := Try.underlying110
  have HB := Aside0.mk (Below.refl w.heap.size w)
  have H : ((armoireref02_TakeU.f k a0_0 a0_1).bind fun bt186 => (if bt186.2.2 > (IntKind.u64.wrap (mx a1 0)) then ((armoireref02_Fail.f bt186.1 bt186.2.1 3).bind fun bt189 => (some (bt189.1, bt189.2, 0))) else (some (bt186.1, bt186.2.1, wrap64 (bt186.2.2))))) = some (r1, r2, r3) := h
  clear h
  replace H := Option.bind_eq_some_iff.mp H
  obtain ⟨⟨t186, t187, t188⟩, A30, H⟩ := H
  replace H : (if t188 > (IntKind.u64.wrap (mx a1 0)) then ((armoireref02_Fail.f t186 t187 3).bind fun bt189 => (some (bt189.1, bt189.2, 0))) else (some (t186, t187, wrap64 (t188)))) = some (r1, r2, r3) := H
  have A3 := Aside0.mk A30
  clear A30
  obtain ⟨ji4, hji4⟩ : ∃ j_ : Int, (mx a1 0) = j_ := ⟨_, rfl⟩
  replace H : (if t188 > (IntKind.u64.wrap (ji4)) then ((armoireref02_Fail.f t186 t187 3).bind fun bt189 => (some (bt189.1, bt189.2, 0))) else (some (t186, t187, wrap64 (t188)))) = some (r1, r2, r3) := by first | (rw [hji4] at H; exact H) | (simp only [hji4] at H ⊢; exact H)
  (try rw [hji4] at A3)
  (try (have hji4l : 0 ≤ ji4 := by (rw [← hji4]; unfold mx; (repeat' split) <;> omega)))
  (try (have hji4m : 0 ≤ ji4 := by omega))
  have hji4_ : (if a1 < 0 then 0 else a1) = ji4 := hji4
  have HS5 := Aside0.mk H
  clear H
  go_enter Try.func57, Try.ntmps57
  go_upto_if 16 with (first | ((with_reducible refine gds (N := 2) rfl ?_); refine bev ?hg (N := 2) ?hd (cs := #[.string a0_0, .int .i64 a0_1]) (t := 110) ?hr ?_; (case hd => rfl); (case hg => rfl); (case hr => first | (go_simp; done) | (go_simp; rfl)); intro gb184 hg w6 hbox hb; have n0_ := Aside0.mk (bsp bl_ hb); have n1_ := Aside0.mk (hbox); have n2_ := Aside0.mk ((by rw [hg]; exact bsz bl_ : w.heap.size ≤ gb184)); have n3_ := Aside0.mk ((by rw [hg]; exact bsz bl_ : w.heap.size ≤ gb184)); clear HB; have HB := n0_; have BK184 := n1_; have GW184 := n2_; have GE184 := n3_; clear n0_ n1_ n2_ n3_; clear hb hbox hg) | ((with_reducible refine gds (N := 4) rfl ?_); refine bev ?hg (N := 4) ?hd (cs := #[.string (⟨#[]⟩ : ByteArray), .int .i64 0]) (t := 110) ?hr ?_; (case hd => rfl); (case hg => rfl); (case hr => first | (go_simp; done) | (go_simp; rfl)); intro gb185 hg w7 hbox hb; have n0_ := Aside0.mk (kbl (g := gb184) (o := .cells #[.string a0_0, .int .i64 a0_1] 110 (0, 0)) bk_ hb); have n1_ := Aside0.mk (bsp bl_ hb); have n2_ := Aside0.mk (hbox); have n3_ := Aside0.mk ((by rw [hg]; exact bsz bl_ : w.heap.size ≤ gb185)); have n4_ := Aside0.mk ((by rw [hg]; exact bsz bl_ : w.heap.size ≤ gb185)); have n5_ := Aside0.mk ((by rw [hg]; exact Nat.ne_of_lt (blk_lt (g := gb184) (o := .cells #[.string a0_0, .int .i64 a0_1] 110 (0, 0)) bk_) : gb184 ≠ gb185)); have n6_ := Aside0.mk ((by rw [hg]; exact Nat.ne_of_gt (blk_lt (g := gb184) (o := .cells #[.string a0_0, .int .i64 a0_1] 110 (0, 0)) bk_) : gb185 ≠ gb184)); clear BK184; clear HB; have BK184 := n0_; have HB := n1_; have BK185 := n2_; have GW185 := n3_; have GE185 := n4_; have NB184_185 := n5_; have NB185_184 := n6_; clear n0_ n1_ n2_ n3_ n4_ n5_ n6_; clear hb hbox hg; have hnb8 := NB184_185.out; have hnc8 := NB185_184.out; have hcz9 := bc2 BK184.out) | ((with_reducible refine gcl (f := 69) rfl ?_); refine gl_ (some 9) rfl rfl Try.func69 (by kernel_rfl) rfl #[.agg #[.string a0_0, .int .i64 a0_1]] rfl ar_ ?_; (with_reducible refine (armoireref02_TakeU.calls k a0_0 a0_1 t186 t187 t188 _ A3.out).mono ?_); rintro e w10 ⟨rfl, hb⟩; refine ⟨_, rfl, ?_⟩; have n0_ := Aside0.mk (kbl (g := gb184) (o := .cells #[.string a0_0, .int .i64 a0_1] 110 (0, 0)) bk_ hb); have n1_ := Aside0.mk (kbl (g := gb185) (o := .cells #[.string (⟨#[]⟩ : ByteArray), .int .i64 0] 110 (0, 0)) bk_ hb); have n2_ := Aside0.mk (bsp bl_ hb); clear BK184; clear BK185; clear HB; have BK184 := n0_; have BK185 := n1_; have HB := n2_; clear n0_ n1_ n2_; (try clear hb); (try clear hb2); (try clear hk); (try clear hi); have hcz11 := bc2 BK184.out))
  (try simp only [Act.put, List.setIfInBounds_toArray, List.set_cons_zero, List.set_cons_succ])
  have H := HS5.out
  clear HS5
  by_cases c12 : t188 > (IntKind.u64.wrap (ji4))
  rotate_left
  · rw [if_neg c12] at H
    have c12b0 : decide ((IntKind.u64.wrap (ji4)) < t188) = false := decide_eq_false c12
    clear c12
    (first | rw [c12b0] | (simp only [i64_w, i32_w]; rw [c12b0]) | skip)
    simp only [Option.some.injEq, Prod.mk.injEq] at H
    obtain ⟨rfl, rfl, rfl⟩ := H
    have hnb18 := NB184_185.out
    have hnc18 := NB185_184.out
    have hcz19 := bc2 BK184.out
    have hcz20 := bc2 BK185.out
    go_wp2
    refine bodyPost_ret (results_ct rfl _ _ gb185 110 #[.string t186, .int .i64 t187] (0, 0) _ rfl bk_ Try.underlying110 rfl (by kernel_rfl)) rfl ?_
    exact ⟨by first | rfl | (simp [errW_none, errW_some] <;> rfl) | (simp only [← hji4]; first | rfl | (simp [errW_none, errW_some] <;> rfl)) | (simp [*, errW_none, errW_some] <;> rfl), bl_⟩
  rw [if_pos c12] at H
  have c12b0 : decide ((IntKind.u64.wrap (ji4)) < t188) = true := decide_eq_true c12
  clear c12
  (first | rw [c12b0] | (simp only [i64_w, i32_w]; rw [c12b0]) | skip)
  replace H := Option.bind_eq_some_iff.mp H
  obtain ⟨⟨t189, t190⟩, A130, H⟩ := H
  replace H : (some (t189, t190, 0)) = some (r1, r2, r3) := H
  have A13 := Aside0.mk A130
  clear A130
  simp only [Option.some.injEq, Prod.mk.injEq] at H
  obtain ⟨rfl, rfl, rfl⟩ := H
  have hnb14 := NB184_185.out
  have hnc14 := NB185_184.out
  have hcz15 := bc2 BK184.out
  go_wp2_with (first | ((with_reducible refine gcl (f := 70) rfl ?_); refine gl_ (some 18) rfl rfl Try.func70 (by kernel_rfl) rfl #[.agg #[.string t186, .int .i64 t187], .int .i64 3] rfl ar_ ?_; (with_reducible refine (armoireref02_Fail.calls t186 t187 3 t189 t190 _ A13.out).mono ?_); rintro e w16 ⟨rfl, hb⟩; refine ⟨_, rfl, ?_⟩; have n0_ := Aside0.mk (kbl (g := gb184) (o := .cells #[.string t186, .int .i64 t187] 110 (0, 0)) bk_ hb); have n1_ := Aside0.mk (kbl (g := gb185) (o := .cells #[.string (⟨#[]⟩ : ByteArray), .int .i64 0] 110 (0, 0)) bk_ hb); have n2_ := Aside0.mk (bsp bl_ hb); clear BK184; clear BK185; clear HB; have BK184 := n0_; have BK185 := n1_; have HB := n2_; clear n0_ n1_ n2_; (try clear hb); (try clear hb2); (try clear hk); (try clear hi); have hcz17 := bc2 BK185.out))
  refine bodyPost_ret (results_ct rfl _ _ gb185 110 #[.string t189, .int .i64 t190] (0, 0) _ rfl bk_ Try.underlying110 rfl (by kernel_rfl)) rfl ?_
  exact ⟨by first | rfl | (simp [errW_none, errW_some] <;> rfl) | (simp only [← hji4]; first | rfl | (simp [errW_none, errW_some] <;> rfl)) | (simp [*, errW_none, errW_some] <;> rfl), bl_⟩
def armoireref02_TakeS.f (k : Nat) (a0_0 : ByteArray) (a0_1 : Int) (a1 : Int) : Option (ByteArray × Int × ByteArray) := (armoireref02_TakeN.f k a0_0 a0_1 a1).bind fun bt193 => ((armoireref02_take.f bt193.1 bt193.2.1 bt193.2.2).bind fun bt196 => (some (bt196.1, bt196.2.1, bt196.2.2)))
set_option maxHeartbeats 2000000 in
set_option maxRecDepth 100000 in
theorem armoireref02_TakeS.calls (k : Nat) (a0_0 : ByteArray) (a0_1 : Int) (a1 : Int) (r1 : ByteArray) (r2 : Int) (r3 : ByteArray) (w : World) (h : armoireref02_TakeS.f k a0_0 a0_1 a1 = some (r1, r2, r3)) :
    Calls Try.prog 58 #[.agg #[.string a0_0, .int .i64 a0_1], .int .i64 a1] w fun e w' => e = .returned (.tuple #[.agg #[.string r1, .int .i64 r2], .string r3]) ∧ Below w.heap.size w w' := by
  have hu110 := Try.underlying110
  have HB := Aside0.mk (Below.refl w.heap.size w)
  have H : ((armoireref02_TakeN.f k a0_0 a0_1 a1).bind fun bt193 => ((armoireref02_take.f bt193.1 bt193.2.1 bt193.2.2).bind fun bt196 => (some (bt196.1, bt196.2.1, bt196.2.2)))) = some (r1, r2, r3) := h
  clear h
  replace H := Option.bind_eq_some_iff.mp H
  obtain ⟨⟨t193, t194, t195⟩, A30, H⟩ := H
  replace H : ((armoireref02_take.f t193 t194 t195).bind fun bt196 => (some (bt196.1, bt196.2.1, bt196.2.2))) = some (r1, r2, r3) := H
  have A3 := Aside0.mk A30
  clear A30
  replace H := Option.bind_eq_some_iff.mp H
  obtain ⟨⟨t196, t197, t198⟩, A40, H⟩ := H
  replace H : (some (t196, t197, t198)) = some (r1, r2, r3) := H
  have A4 := Aside0.mk A40
  clear A40
  simp only [Option.some.injEq, Prod.mk.injEq] at H
  obtain ⟨rfl, rfl, rfl⟩ := H
  go_enter Try.func58, Try.ntmps58
  go_wp2_with (first | ((with_reducible refine gds (N := 2) rfl ?_); refine bev ?hg (N := 2) ?hd (cs := #[.string a0_0, .int .i64 a0_1]) (t := 110) ?hr ?_; (case hd => rfl); (case hg => rfl); (case hr => first | (go_simp; done) | (go_simp; rfl)); intro gb191 hg w5 hbox hb; have n0_ := Aside0.mk (bsp bl_ hb); have n1_ := Aside0.mk (hbox); have n2_ := Aside0.mk ((by rw [hg]; exact bsz bl_ : w.heap.size ≤ gb191)); have n3_ := Aside0.mk ((by rw [hg]; exact bsz bl_ : w.heap.size ≤ gb191)); clear HB; have HB := n0_; have BK191 := n1_; have GW191 := n2_; have GE191 := n3_; clear n0_ n1_ n2_ n3_; clear hb hbox hg) | ((with_reducible refine gds (N := 4) rfl ?_); refine bev ?hg (N := 4) ?hd (cs := #[.string (⟨#[]⟩ : ByteArray), .int .i64 0]) (t := 110) ?hr ?_; (case hd => rfl); (case hg => rfl); (case hr => first | (go_simp; done) | (go_simp; rfl)); intro gb192 hg w6 hbox hb; have n0_ := Aside0.mk (kbl (g := gb191) (o := .cells #[.string a0_0, .int .i64 a0_1] 110 (0, 0)) bk_ hb); have n1_ := Aside0.mk (bsp bl_ hb); have n2_ := Aside0.mk (hbox); have n3_ := Aside0.mk ((by rw [hg]; exact bsz bl_ : w.heap.size ≤ gb192)); have n4_ := Aside0.mk ((by rw [hg]; exact bsz bl_ : w.heap.size ≤ gb192)); have n5_ := Aside0.mk ((by rw [hg]; exact Nat.ne_of_lt (blk_lt (g := gb191) (o := .cells #[.string a0_0, .int .i64 a0_1] 110 (0, 0)) bk_) : gb191 ≠ gb192)); have n6_ := Aside0.mk ((by rw [hg]; exact Nat.ne_of_gt (blk_lt (g := gb191) (o := .cells #[.string a0_0, .int .i64 a0_1] 110 (0, 0)) bk_) : gb192 ≠ gb191)); clear BK191; clear HB; have BK191 := n0_; have HB := n1_; have BK192 := n2_; have GW192 := n3_; have GE192 := n4_; have NB191_192 := n5_; have NB192_191 := n6_; clear n0_ n1_ n2_ n3_ n4_ n5_ n6_; clear hb hbox hg; have hnb7 := NB191_192.out; have hnc7 := NB192_191.out; have hcz8 := bc2 BK191.out) | ((with_reducible refine gcl (f := 57) rfl ?_); refine gl_ (some 10) rfl rfl Try.func57 (by kernel_rfl) rfl #[.agg #[.string a0_0, .int .i64 a0_1], .int .i64 a1] rfl ar_ ?_; (with_reducible refine (armoireref02_TakeN.calls k a0_0 a0_1 a1 t193 t194 t195 _ A3.out).mono ?_); rintro e w9 ⟨rfl, hb⟩; refine ⟨_, rfl, ?_⟩; have n0_ := Aside0.mk (kbl (g := gb191) (o := .cells #[.string a0_0, .int .i64 a0_1] 110 (0, 0)) bk_ hb); have n1_ := Aside0.mk (kbl (g := gb192) (o := .cells #[.string (⟨#[]⟩ : ByteArray), .int .i64 0] 110 (0, 0)) bk_ hb); have n2_ := Aside0.mk (bsp bl_ hb); clear BK191; clear BK192; clear HB; have BK191 := n0_; have BK192 := n1_; have HB := n2_; clear n0_ n1_ n2_; (try clear hb); (try clear hb2); (try clear hk); (try clear hi); have hcz10 := bc2 BK191.out) | ((with_reducible refine gcl (f := 71) rfl ?_); refine gl_ (some 15) rfl rfl Try.func71 (by kernel_rfl) rfl #[.agg #[.string t193, .int .i64 t194], .int .i64 t195] rfl ar_ ?_; (with_reducible refine (armoireref02_take.calls t193 t194 t195 t196 t197 t198 _ A4.out).mono ?_); rintro e w11 ⟨rfl, hb⟩; refine ⟨_, rfl, ?_⟩; have n0_ := Aside0.mk (kbl (g := gb191) (o := .cells #[.string t193, .int .i64 t194] 110 (0, 0)) bk_ hb); have n1_ := Aside0.mk (kbl (g := gb192) (o := .cells #[.string (⟨#[]⟩ : ByteArray), .int .i64 0] 110 (0, 0)) bk_ hb); have n2_ := Aside0.mk (bsp bl_ hb); clear BK191; clear BK192; clear HB; have BK191 := n0_; have BK192 := n1_; have HB := n2_; clear n0_ n1_ n2_; (try clear hb); (try clear hb2); (try clear hk); (try clear hi); have hcz12 := bc2 BK192.out))
  refine bodyPost_ret (results_ct rfl _ _ gb192 110 #[.string t196, .int .i64 t197] (0, 0) _ rfl bk_ Try.underlying110 rfl (by kernel_rfl)) rfl ?_
  exact ⟨er_, bl_⟩
def armoireref02_U.l0 : Nat → Int → ByteArray → Int → Option (ByteArray)
  | 0, _, _, _ => none
  | k + 1, x0, x3, x4 => if x4 < 8 then (if x0 > 0 then ((some (([(Int.tmod x0 256) % 256] : List Int) : List Int)).bind fun y199 => (if (strOfNums y199).size + x3.size ≤ 9223372036854775807 then (armoireref02_U.l0 k (IntKind.u64.wrap (Int.tdiv x0 256)) ((strOfNums y199) ++ x3) (wrap64 (x4 + 1))) else (none))) else ((some (([((x3.size : Int)) % 256] : List Int) : List Int)).bind fun y202 => (if (strOfNums y202).size + x3.size ≤ 9223372036854775807 then (some ((strOfNums y202) ++ x3)) else (none)))) else ((some (([((x3.size : Int)) % 256] : List Int) : List Int)).bind fun y205 => (if (strOfNums y205).size + x3.size ≤ 9223372036854775807 then (some ((strOfNums y205) ++ x3)) else (none)))
def armoireref02_U.f (k : Nat) (a0 : Int) : Option (ByteArray) := armoireref02_U.l0 k a0 (⟨#[]⟩ : ByteArray) 0
set_option maxHeartbeats 2000000 in
set_option maxRecDepth 100000 in
theorem armoireref02_U.calls (k : Nat) (a0 : Int) (r : ByteArray) (w : World) (h : armoireref02_U.f k a0 = some r) :
    Calls Try.prog 78 #[.int .u64 a0] w fun e w' => e = .returned (.string r) ∧ Below w.heap.size w w' := by
  have HB := Aside0.mk (Below.refl w.heap.size w)
  have H : (armoireref02_U.l0 k a0 (⟨#[]⟩ : ByteArray) 0) = some r := h
  clear h
  have H' := Aside0.mk H
  clear H
  go_enter Try.func78, Try.ntmps78
  go_wp2
  go_loopg [0, 3, 4] k (fun kq v0 v3 v4 w' => ∃ (x0_1 : Int) (x3_1 : ByteArray) (x4_1 : Int), v0 = .int .u64 x0_1 ∧ v3 = .string x3_1 ∧ v4 = .int .i64 x4_1 ∧ Aside0 (armoireref02_U.l0 kq x0_1 x3_1 x4_1 = some r) ∧ Aside0 (kq ≤ k) ∧ Aside0 (Below w.heap.size w w'))
  case atStart => exact ⟨(a0), ((⟨#[]⟩ : ByteArray)), (0), (by first | rfl | (simp; done) | (simp [*]; done) | exact emp1_ _ | exact (emp1_ _).symm | exact emp2_ _ | exact (emp2_ _).symm), (by first | rfl | (simp; done) | (simp [*]; done) | exact emp1_ _ | exact (emp1_ _).symm | exact emp2_ _ | exact (emp2_ _).symm), (by first | rfl | (simp; done) | (simp [*]; done) | exact emp1_ _ | exact (emp1_ _).symm | exact emp2_ _ | exact (emp2_ _).symm), H', ⟨Nat.le_refl _⟩, ⟨bl_⟩⟩
  clear H'
  obtain ⟨x0_1, x3_1, x4_1, rfl, rfl, rfl, HA, HK1, HB⟩ := hrel
  cases gk with
  | zero => exact absurd HA.out (by simp [armoireref02_U.l0])
  | succ k1 =>
    have H := HA.out
    clear HA
    simp only [armoireref02_U.l0] at H
    by_cases c2 : x4_1 < 8
    rotate_left
    · rw [if_neg c2] at H
      have c2b0 : decide (x4_1 < 8) = false := decide_eq_false c2
      clear c2
      obtain ⟨y205, hy205⟩ : ∃ y_ : List Int, y_ = (([((x3_1.size : Int)) % 256] : List Int)) := ⟨_, rfl⟩
      replace H : (if (strOfNums y205).size + x3_1.size ≤ 9223372036854775807 then (some ((strOfNums y205) ++ x3_1)) else (none)) = some r := by first | (rw [hy205]; with_reducible exact H) | (have H2_ := (Option.bind_some _ _).symm.trans H; rw [hy205]; with_reducible exact H2_) | (have H2_ := (Option.bind_some _ _).symm.trans H; with_reducible exact H2_) | with_reducible exact H | (rw [hy205]; exact H) | exact H
      have Ny205 := Aside0.mk hy205
      clear hy205
      by_cases c12 : (strOfNums y205).size + x3_1.size ≤ 9223372036854775807
      rotate_left
      · rw [if_neg c12] at H
        exact absurd H (by simp)
      rw [if_pos c12] at H
      have c12b0 := eq_true c12
      have c12b1 : decide ((strOfNums y205).size + x3_1.size ≤ 9223372036854775807) = true := decide_eq_true c12
      try have c12b2 : (9223372036854775807 < (strOfNums y205).size + x3_1.size) = False := eq_false (Nat.not_lt.2 c12)
      obtain rfl := Option.some.inj H
      go_wp2_with (first | ((with_reducible refine gds (N := 25) rfl ?_); refine Kd.R_lit (Kd.int .u8) _ 5 ?hg (N := 25) ?hd (xs := ([((x3_1.size : Int)) % 256] : List Int)) (inner := [.int .u8 (((x3_1.size : Int)) % 256)]) (ok := fun _ => True) (okp := fun _ => True) ?hr ?hp (fun _ hk => hk) trivial (Below.refl _ _) (Nat.le_refl _) (by simp) ?_; (case hd => rfl); (case hg => rfl); (case hr => first | (go_simp; done) | (go_simp; rfl)); (case hp => exact (Reps.one (show Kd.M (Kd.int .u8) _ _ _ (((x3_1.size : Int)) % 256) [.int .u8 (((x3_1.size : Int)) % 256)] from rfl) (Reps.none _ _))); intro v206 w13 ho14 hb hg_ hnew_; clear hg_ hnew_; (first | rw [← Ny205.out] at ho14 | (simp only [Int.reduceToNat] at ho14; rw [← Ny205.out] at ho14)); have n0_ := Aside0.mk (Kd.R_lower ho14 (bsz bl_)); have n1_ := Aside0.mk (bsp bl_ hb); clear HB; have HO207 := n0_; have HB := n1_; clear n0_ n1_; clear hb ho14; have hcv15 := own_string (P := Try.prog) Try.underlying79 Try.underlying5 Try.underlying9 (Kd.own_of_R HO207.out)))
      go_ret
      exact ⟨er_, bl_⟩
    rw [if_pos c2] at H
    have c2b0 : decide (x4_1 < 8) = true := decide_eq_true c2
    clear c2
    by_cases c3 : x0_1 > 0
    rotate_left
    · rw [if_neg c3] at H
      have c3b0 : decide (0 < x0_1) = false := decide_eq_false c3
      clear c3
      obtain ⟨y202, hy202⟩ : ∃ y_ : List Int, y_ = (([((x3_1.size : Int)) % 256] : List Int)) := ⟨_, rfl⟩
      replace H : (if (strOfNums y202).size + x3_1.size ≤ 9223372036854775807 then (some ((strOfNums y202) ++ x3_1)) else (none)) = some r := by first | (rw [hy202]; with_reducible exact H) | (have H2_ := (Option.bind_some _ _).symm.trans H; rw [hy202]; with_reducible exact H2_) | (have H2_ := (Option.bind_some _ _).symm.trans H; with_reducible exact H2_) | with_reducible exact H | (rw [hy202]; exact H) | exact H
      have Ny202 := Aside0.mk hy202
      clear hy202
      by_cases c8 : (strOfNums y202).size + x3_1.size ≤ 9223372036854775807
      rotate_left
      · rw [if_neg c8] at H
        exact absurd H (by simp)
      rw [if_pos c8] at H
      have c8b0 := eq_true c8
      have c8b1 : decide ((strOfNums y202).size + x3_1.size ≤ 9223372036854775807) = true := decide_eq_true c8
      try have c8b2 : (9223372036854775807 < (strOfNums y202).size + x3_1.size) = False := eq_false (Nat.not_lt.2 c8)
      obtain rfl := Option.some.inj H
      go_wp2_with (first | ((with_reducible refine gds (N := 25) rfl ?_); refine Kd.R_lit (Kd.int .u8) _ 5 ?hg (N := 25) ?hd (xs := ([((x3_1.size : Int)) % 256] : List Int)) (inner := [.int .u8 (((x3_1.size : Int)) % 256)]) (ok := fun _ => True) (okp := fun _ => True) ?hr ?hp (fun _ hk => hk) trivial (Below.refl _ _) (Nat.le_refl _) (by simp) ?_; (case hd => rfl); (case hg => rfl); (case hr => first | (go_simp; done) | (go_simp; rfl)); (case hp => exact (Reps.one (show Kd.M (Kd.int .u8) _ _ _ (((x3_1.size : Int)) % 256) [.int .u8 (((x3_1.size : Int)) % 256)] from rfl) (Reps.none _ _))); intro v203 w9 ho10 hb hg_ hnew_; clear hg_ hnew_; (first | rw [← Ny202.out] at ho10 | (simp only [Int.reduceToNat] at ho10; rw [← Ny202.out] at ho10)); have n0_ := Aside0.mk (Kd.R_lower ho10 (bsz bl_)); have n1_ := Aside0.mk (bsp bl_ hb); clear HB; have HO204 := n0_; have HB := n1_; clear n0_ n1_; clear hb ho10; have hcv11 := own_string (P := Try.prog) Try.underlying79 Try.underlying5 Try.underlying9 (Kd.own_of_R HO204.out)))
      go_ret
      exact ⟨er_, bl_⟩
    rw [if_pos c3] at H
    have c3b0 : decide (0 < x0_1) = true := decide_eq_true c3
    clear c3
    obtain ⟨y199, hy199⟩ : ∃ y_ : List Int, y_ = (([(Int.tmod x0_1 256) % 256] : List Int)) := ⟨_, rfl⟩
    replace H : (if (strOfNums y199).size + x3_1.size ≤ 9223372036854775807 then (armoireref02_U.l0 k1 (IntKind.u64.wrap (Int.tdiv x0_1 256)) ((strOfNums y199) ++ x3_1) (wrap64 (x4_1 + 1))) else (none)) = some r := by first | (rw [hy199]; with_reducible exact H) | (have H2_ := (Option.bind_some _ _).symm.trans H; rw [hy199]; with_reducible exact H2_) | (have H2_ := (Option.bind_some _ _).symm.trans H; with_reducible exact H2_) | with_reducible exact H | (rw [hy199]; exact H) | exact H
    have Ny199 := Aside0.mk hy199
    clear hy199
    by_cases c4 : (strOfNums y199).size + x3_1.size ≤ 9223372036854775807
    rotate_left
    · rw [if_neg c4] at H
      exact absurd H (by simp)
    rw [if_pos c4] at H
    have c4b0 := eq_true c4
    have c4b1 : decide ((strOfNums y199).size + x3_1.size ≤ 9223372036854775807) = true := decide_eq_true c4
    try have c4b2 : (9223372036854775807 < (strOfNums y199).size + x3_1.size) = False := eq_false (Nat.not_lt.2 c4)
    have H' := Aside0.mk H
    clear H
    go_wp2_with (first | ((with_reducible refine gds (N := 16) rfl ?_); refine Kd.R_lit (Kd.int .u8) _ 5 ?hg (N := 16) ?hd (xs := ([(Int.tmod x0_1 256) % 256] : List Int)) (inner := [.int .u8 ((Int.tmod x0_1 256) % 256)]) (ok := fun _ => True) (okp := fun _ => True) ?hr ?hp (fun _ hk => hk) trivial (Below.refl _ _) (Nat.le_refl _) (by simp) ?_; (case hd => rfl); (case hg => rfl); (case hr => first | (go_simp; done) | (go_simp; rfl)); (case hp => exact (Reps.one (show Kd.M (Kd.int .u8) _ _ _ ((Int.tmod x0_1 256) % 256) [.int .u8 ((Int.tmod x0_1 256) % 256)] from rfl) (Reps.none _ _))); intro v200 w5 ho6 hb hg_ hnew_; clear hg_ hnew_; (first | rw [← Ny199.out] at ho6 | (simp only [Int.reduceToNat] at ho6; rw [← Ny199.out] at ho6)); have n0_ := Aside0.mk (Kd.R_lower ho6 (bsz bl_)); have n1_ := Aside0.mk (bsp bl_ hb); clear HB; have HO201 := n0_; have HB := n1_; clear n0_ n1_; clear hb ho6; have hcv7 := own_string (P := Try.prog) Try.underlying79 Try.underlying5 Try.underlying9 (Kd.own_of_R HO201.out)))
    go_roundg k1
    case measure => have := HK1.out; omega
    case rel => exact ⟨(IntKind.u64.wrap (Int.tdiv x0_1 256)), ((strOfNums y199) ++ x3_1), (wrap64 (x4_1 + 1)), (by first | rfl | (simp; done) | (simp [*]; done) | exact emp1_ _ | exact (emp1_ _).symm | exact emp2_ _ | exact (emp2_ _).symm), (by first | rfl | (simp; done) | (simp [*]; done) | exact emp1_ _ | exact (emp1_ _).symm | exact emp2_ _ | exact (emp2_ _).symm), (by first | rfl | (simp; done) | (simp [*]; done) | exact emp1_ _ | exact (emp1_ _).symm | exact emp2_ _ | exact (emp2_ _).symm), H', ⟨by have := HK1.out; omega⟩, ⟨bl_⟩⟩
def armoireref02_N.f (k : Nat) (a0 : Int) : Option (ByteArray) := (armoireref02_U.f k (IntKind.u64.wrap (mx a0 0))).bind fun t208 => (some t208)
set_option maxHeartbeats 2000000 in
set_option maxRecDepth 100000 in
theorem armoireref02_N.calls (k : Nat) (a0 : Int) (r : ByteArray) (w : World) (h : armoireref02_N.f k a0 = some r) :
    Calls Try.prog 72 #[.int .i64 a0] w fun e w' => e = .returned (.string r) ∧ Below w.heap.size w w' := by
  have HB := Aside0.mk (Below.refl w.heap.size w)
  have H : ((armoireref02_U.f k (IntKind.u64.wrap (mx a0 0))).bind fun t208 => (some t208)) = some r := h
  clear h
  obtain ⟨ji2, hji2⟩ : ∃ j_ : Int, (mx a0 0) = j_ := ⟨_, rfl⟩
  replace H : ((armoireref02_U.f k (IntKind.u64.wrap (ji2))).bind fun t208 => (some t208)) = some r := by first | (rw [hji2] at H; exact H) | (simp only [hji2] at H ⊢; exact H)
  (try (have hji2l : 0 ≤ ji2 := by (rw [← hji2]; unfold mx; (repeat' split) <;> omega)))
  (try (have hji2m : 0 ≤ ji2 := by omega))
  have hji2_ : (if a0 < 0 then 0 else a0) = ji2 := hji2
  replace H := Option.bind_eq_some_iff.mp H
  obtain ⟨t208, A30, H⟩ := H
  replace H : (some t208) = some r := H
  have A3 := Aside0.mk A30
  clear A30
  obtain rfl := Option.some.inj H
  go_enter Try.func72, Try.ntmps72
  go_wp2_with (first | ((with_reducible refine gcl (f := 78) rfl ?_); refine gl_ (some 6) rfl rfl Try.func78 (by kernel_rfl) rfl #[.int .u64 (IntKind.u64.wrap (ji2))] rfl (by (try simp only [List.map_toArray, List.map_cons, List.map_nil]); first | done | (simp only [hji2]; rfl) | rfl | (simp only [List.length_drop, List.length_take]; rfl)) ?_; (with_reducible refine (armoireref02_U.calls k (IntKind.u64.wrap (ji2)) t208 _ A3.out).mono ?_); rintro e w4 ⟨rfl, hb⟩; refine ⟨_, rfl, ?_⟩; have n0_ := Aside0.mk (bsp bl_ hb); clear HB; have HB := n0_; clear n0_; (try clear hb); (try clear hb2); (try clear hk); (try clear hi)))
  go_ret
  exact ⟨by first | rfl | (simp [errW_none, errW_some] <;> rfl) | (simp only [← hji2]; first | rfl | (simp [errW_none, errW_some] <;> rfl)) | (simp [*, errW_none, errW_some] <;> rfl), bl_⟩
def armoireref02_S.f (k : Nat) (a0 : ByteArray) : Option (ByteArray) := (armoireref02_U.f k (a0.size : Int)).bind fun t209 => (if t209.size + a0.size ≤ 9223372036854775807 then (some (t209 ++ a0)) else (none))
set_option maxHeartbeats 2000000 in
set_option maxRecDepth 100000 in
theorem armoireref02_S.calls (k : Nat) (a0 : ByteArray) (r : ByteArray) (w : World) (h : armoireref02_S.f k a0 = some r) :
    Calls Try.prog 73 #[.string a0] w fun e w' => e = .returned (.string r) ∧ Below w.heap.size w w' := by
  have HB := Aside0.mk (Below.refl w.heap.size w)
  have H : ((armoireref02_U.f k (a0.size : Int)).bind fun t209 => (if t209.size + a0.size ≤ 9223372036854775807 then (some (t209 ++ a0)) else (none))) = some r := h
  clear h
  replace H := Option.bind_eq_some_iff.mp H
  obtain ⟨t209, A20, H⟩ := H
  replace H : (if t209.size + a0.size ≤ 9223372036854775807 then (some (t209 ++ a0)) else (none)) = some r := H
  have A2 := Aside0.mk A20
  clear A20
  by_cases c3 : t209.size + a0.size ≤ 9223372036854775807
  rotate_left
  · rw [if_neg c3] at H
    exact absurd H (by simp)
  rw [if_pos c3] at H
  have c3b0 := eq_true c3
  have c3b1 : decide (t209.size + a0.size ≤ 9223372036854775807) = true := decide_eq_true c3
  try have c3b2 : (9223372036854775807 < t209.size + a0.size) = False := eq_false (Nat.not_lt.2 c3)
  obtain rfl := Option.some.inj H
  go_enter Try.func73, Try.ntmps73
  go_wp2_with (first | ((with_reducible refine gcl (f := 78) rfl ?_); refine gl_ (some 6) rfl rfl Try.func78 (by kernel_rfl) rfl #[.int .u64 (a0.size : Int)] rfl ar_ ?_; (with_reducible refine (armoireref02_U.calls k (a0.size : Int) t209 _ A2.out).mono ?_); rintro e w4 ⟨rfl, hb⟩; refine ⟨_, rfl, ?_⟩; have n0_ := Aside0.mk (bsp bl_ hb); clear HB; have HB := n0_; clear n0_; (try clear hb); (try clear hb2); (try clear hk); (try clear hi)))
  go_ret
  exact ⟨er_, bl_⟩
end Go.Proofs.Ytfllpmmfjbjgoaa.PA

