import Derived.Test.YtbdoccbogndjkaaQPlMDevAwake
import Derived.Test.YtbdoccbogndjkaaQPlPFx1
import Derived.Test.YtbdoccbogndjkaaQPlPFx2
import Derived.Test.YtbdoccbogndjkaaQPlMDevRead
import Derived.WalkSpells
import Derived.Deep.RegionHeld3
namespace Go.Proofs.Ytbdoccbogndjkaa
set_option linter.unusedSimpArgs false
open Go.RowKit Go.Proofs.YtbdoccbogndjkaaW.PrintWords Go.Proofs.YtbdoccbogndjkaaW.PrintLast Go.Proofs.YtbdoccbogndjkaaW.PrintMore
theorem alloc2_new (W : World) (o1 o2 : Obj) : ((W.alloc o1).alloc o2).heap[W.heap.size + 1]? = some o2 := by have := World.alloc_heap_new (W.alloc o1) o2; rw [World.size_alloc] at this; exact this
def set5 (W : World) (b : Nat) (u0 u1 u2 u3 u4 : Value) : World := ((((W.setCell ⟨b, 0, none⟩ u0).setCell ⟨b, 1, none⟩ u1).setCell ⟨b, 2, none⟩ u2).setCell ⟨b, 3, none⟩ u3).setCell ⟨b, 4, none⟩ u4
theorem blk_set5 {W : World} {b : Nat} {t : TypeId} {a0 a1 a2 a3 a4 : Value} (h : W.heap[b]? = some (.cells #[a0, a1, a2, a3, a4] t (0, 0))) (u0 u1 u2 u3 u4 : Value) : (set5 W b u0 u1 u2 u3 u4).heap[b]? = some (.cells #[u0, u1, u2, u3, u4] t (0, 0)) := blk_set (blk_set (blk_set (blk_set (blk_set h 0 u0) 1 u1) 2 u2) 3 u3) 4 u4
theorem below_set5 {w W : World} {b : Nat} (h : Below w.heap.size w W) (hb : w.heap.size ≤ b) (u0 u1 u2 u3 u4 : Value) : Below w.heap.size w (set5 W b u0 u1 u2 u3 u4) :=
  ((((h.setCell (p := ⟨b, 0, none⟩) hb u0).setCell (p := ⟨b, 1, none⟩) hb u1).setCell (p := ⟨b, 2, none⟩) hb u2).setCell (p := ⟨b, 3, none⟩) hb u3).setCell (p := ⟨b, 4, none⟩) hb u4
theorem R_set5 {W : World} {b b0 base : Nat} {A : Option Addr} {c : Nat} {xs : List ByteArray} (h : Kd.R Kd.string 9 W base (fun k => b0 < k) (.slice A xs.length c) xs) (hb : b ≤ b0) (u0 u1 u2 u3 u4 : Value) : Kd.R Kd.string 9 (set5 W b u0 u1 u2 u3 u4) base (fun k => b0 < k) (.slice A xs.length c) xs := by
  have hf : ∀ k, b0 < k → k ≠ b := fun k hk => by omega
  exact Kd.R_far (p := ⟨b, 4, none⟩) (Kd.R_far (p := ⟨b, 3, none⟩) (Kd.R_far (p := ⟨b, 2, none⟩) (Kd.R_far (p := ⟨b, 1, none⟩) (Kd.R_far (p := ⟨b, 0, none⟩) h hf u0) hf u1) hf u2) hf u3) hf u4
def rCall (left : Int) (down : Bool) (calls : Int) : Bool × Int × Bool × Int :=
  if down = true then (false, left, true, calls) else if left = 0 then (false, left, true, calls) else if left > 0 then (true, left - 1, false, wrap64 (calls + 1)) else (true, left, false, wrap64 (calls + 1))
set_option maxHeartbeats 2000000 in
set_option maxRecDepth 100000 in
theorem refCall.calls (A1 A2 : Option Addr) (n1 k1 n2 k2 : Nat) (left : Int) (down : Bool) (calls : Int) (w : World) (hl : -9223372036854775808 ≤ left ∧ left < 9223372036854775808) :
    Calls Try.prog 33 #[.agg #[.slice A1 n1 k1, .slice A2 n2 k2, .int .i64 left, .bool down, .int .i64 calls]] w fun e w' =>
      e = .returned (.tuple #[.agg #[.slice A1 n1 k1, .slice A2 n2 k2, .int .i64 (rCall left down calls).2.1, .bool (rCall left down calls).2.2.1, .int .i64 (rCall left down calls).2.2.2], .bool (rCall left down calls).1]) ∧ Below w.heap.size w w' := by
  obtain ⟨R, hR⟩ : ∃ R, R = rCall left down calls := ⟨_, rfl⟩
  rw [← hR]
  unfold rCall at hR
  have HR := Aside0.mk hR
  have HL := Aside0.mk hl
  clear hR hl
  cases down
  · by_cases q : left = 0
    · have hr : R = (false, left, true, calls) := HR.out.trans ((if_neg (by decide)).trans (if_pos q))
      subst hr
      subst q
      go_enter Try.func33, Try.ntmps33
      go_wp2
      refine bodyPost_ret (results_ct rfl _ _ (w.heap.size + 1) 45 #[.slice A1 n1 k1, .slice A2 n2 k2, .int .i64 0, .bool true, .int .i64 calls] (0, 0) _ rfl (alloc2_new w _ _) Try.underlying45 rfl (by kernel_rfl)) rfl ?_
      exact ⟨rfl, bal (bal (Below.refl _ _) _) _⟩
    · have q1 : (left == 0) = false := beq_eq_false_iff_ne.2 q
      by_cases q2 : left > 0
      · have hr : R = (true, left - 1, false, wrap64 (calls + 1)) := HR.out.trans ((if_neg (by decide)).trans ((if_neg q).trans (if_pos q2)))
        subst hr
        have q3 : decide (0 < left) = true := decide_eq_true q2
        have q4 : wrap64 (left - 1) = left - 1 := by have := HL.out; unfold wrap64; omega
        clear q q2
        go_enter Try.func33, Try.ntmps33
        go_wp2
        refine bodyPost_ret (results_ct rfl _ _ (w.heap.size + 1) 45 #[.slice A1 n1 k1, .slice A2 n2 k2, .int .i64 (left - 1), .bool false, .int .i64 (wrap64 (calls + 1))] (0, 0) _ rfl (alloc2_new w _ _) Try.underlying45 rfl (by kernel_rfl)) rfl ?_
        exact ⟨rfl, bal (bal (Below.refl _ _) _) _⟩
      · have hr : R = (true, left, false, wrap64 (calls + 1)) := HR.out.trans ((if_neg (by decide)).trans ((if_neg q).trans (if_neg q2)))
        subst hr
        have q3 : decide (0 < left) = false := decide_eq_false q2
        clear q q2
        go_enter Try.func33, Try.ntmps33
        go_wp2
        refine bodyPost_ret (results_ct rfl _ _ (w.heap.size + 1) 45 #[.slice A1 n1 k1, .slice A2 n2 k2, .int .i64 left, .bool false, .int .i64 (wrap64 (calls + 1))] (0, 0) _ rfl (alloc2_new w _ _) Try.underlying45 rfl (by kernel_rfl)) rfl ?_
        exact ⟨rfl, bal (bal (Below.refl _ _) _) _⟩
  · have hr : R = (false, left, true, calls) := HR.out.trans (if_pos rfl)
    subst hr
    go_enter Try.func33, Try.ntmps33
    go_wp2
    refine bodyPost_ret (results_ct rfl _ _ (w.heap.size + 1) 45 #[.slice A1 n1 k1, .slice A2 n2 k2, .int .i64 left, .bool true, .int .i64 calls] (0, 0) _ rfl (alloc2_new w _ _) Try.underlying45 rfl (by kernel_rfl)) rfl ?_
    exact ⟨rfl, bal (bal (Below.refl _ _) _) _⟩
set_option maxHeartbeats 2000000 in
set_option maxRecDepth 100000 in
theorem refFlush_no (A1 A2 : Option Addr) (n1 k1 n2 k2 : Nat) (left : Int) (down : Bool) (calls l2 : Int) (d2 : Bool) (c2 : Int) (w : World) (hl : -9223372036854775808 ≤ left ∧ left < 9223372036854775808) (hc : rCall left down calls = (false, l2, d2, c2)) :
    Calls Try.prog 23 #[.agg #[.slice A1 n1 k1, .slice A2 n2 k2, .int .i64 left, .bool down, .int .i64 calls]] w fun e w' =>
      e = .returned (.tuple #[.agg #[.slice A1 n1 k1, .slice A2 n2 k2, .int .i64 l2, .bool d2, .int .i64 c2], .int .i64 16]) ∧ Below w.heap.size w w' := by
  have hC := fun W => refCall.calls A1 A2 n1 k1 n2 k2 left down calls W hl
  rw [hc] at hC
  have HC := Aside0.mk hC
  clear hC hc hl
  go_enter Try.func23, Try.ntmps23
  go_wp2_with fail
  refine (HC.out _).mono ?_
  rintro e w1 ⟨rfl, hB⟩
  have hb1 := (hB.block (w.heap.size + 1) (by simp)).trans (alloc2_new w (.cells #[.slice A1 n1 k1, .slice A2 n2 k2, .int .i64 left, .bool down, .int .i64 calls] 45) (.cells #[.slice none 0 0, .slice none 0 0, .int .i64 0, .bool false, .int .i64 0] 45))
  have hb3 := fun o => (Below.heap_alloc w1 o _ (blk_lt hb1)).trans hb1
  have HA1 := Aside0.mk (bsp (bal (bal (Below.refl _ w) (.cells #[.slice A1 n1 k1, .slice A2 n2 k2, .int .i64 left, .bool down, .int .i64 calls] 45)) (.cells #[.slice none 0 0, .slice none 0 0, .int .i64 0, .bool false, .int .i64 0] 45)) hB)
  have c0 := fun o => (kcl (hb3 o) 0).trans rfl
  have c1 := fun o => (kcl (hb3 o) 1).trans rfl
  have e2 := fun o => (kcl (hb3 o) 2).trans rfl
  have e3 := fun o => (kcl (hb3 o) 3).trans rfl
  have e4 := fun o => (kcl (hb3 o) 4).trans rfl
  have f0 := fun o => kfr (hb3 o) 0
  have f1 := fun o => kfr (hb3 o) 1
  have f2 := fun o => kfr (hb3 o) 2
  have f3 := fun o => kfr (hb3 o) 3
  have f4 := fun o => kfr (hb3 o) 4
  have HB3 := Aside0.mk hb3
  clear hB hb1 hb3
  go_wp2
  refine bodyPost_ret (results_ct rfl _ _ (w.heap.size + 1) 45 #[.slice A1 n1 k1, .slice A2 n2 k2, .int .i64 l2, .bool d2, .int .i64 c2] (0, 0) _ rfl (blk_set5 (HB3.out _) _ _ _ _ _) Try.underlying45 rfl (by kernel_rfl)) rfl ?_
  exact ⟨rfl, below_set5 (bal HA1.out _) (Nat.le_succ _) _ _ _ _ _⟩
set_option maxHeartbeats 2000000 in
set_option maxRecDepth 100000 in
theorem refFlush_ok (A1 A2 : Option Addr) (k1 k2 : Nat) (l0 : List ByteArray) (l1 : List PF.S72) (r : List ByteArray) (k : Nat) (left : Int) (down : Bool) (calls l2 : Int) (d2 : Bool) (c2 : Int) (w : World) (hl : -9223372036854775808 ≤ left ∧ left < 9223372036854775808) (hc : rCall left down calls = (true, l2, d2, c2))
    (hr0 : Kd.C Kd.string w A1 l0.length l0) (hc0 : l0.length ≤ k1) (hr1 : Kd.C PF.k72 w A2 l1.length l1) (hc1 : l1.length ≤ k2) (hlast : PF.armoireref03_last.f k l0 l1 = some r) :
    Calls Try.prog 23 #[.agg #[.slice A1 l0.length k1, .slice A2 l1.length k2, .int .i64 left, .bool down, .int .i64 calls]] w fun e w' =>
      ∃ v : Value, e = .returned (.tuple #[.agg #[v, .slice none 0 0, .int .i64 l2, .bool d2, .int .i64 c2], .int .i64 0]) ∧ Kd.R Kd.string 9 w' w.heap.size (fun _ => True) v r ∧ Below w.heap.size w w' := by
  have hC := fun W => refCall.calls A1 A2 l0.length k1 l1.length k2 left down calls W hl
  rw [hc] at hC
  have HC := Aside0.mk hC
  have HR0 := Aside0.mk hr0
  have HR1 := Aside0.mk hr1
  have HLa := Aside0.mk hlast
  clear hC hc hl hr0 hr1 hlast
  go_enter Try.func23, Try.ntmps23
  go_wp2_with fail
  refine (HC.out _).mono ?_
  rintro e w1 ⟨rfl, hB⟩
  have hb0 := (hB.block w.heap.size (by simp; omega)).trans ((Below.heap_alloc _ _ _ (by simp)).trans (World.alloc_heap_new w (.cells #[.slice A1 l0.length k1, .slice A2 l1.length k2, .int .i64 left, .bool down, .int .i64 calls] 45)))
  have hb1 := (hB.block (w.heap.size + 1) (by simp)).trans (alloc2_new w (.cells #[.slice A1 l0.length k1, .slice A2 l1.length k2, .int .i64 left, .bool down, .int .i64 calls] 45) (.cells #[.slice none 0 0, .slice none 0 0, .int .i64 0, .bool false, .int .i64 0] 45))
  have hb3 := fun o => (Below.heap_alloc w1 o _ (blk_lt hb0)).trans hb0
  have HA1 := Aside0.mk (bsp (bal (bal (Below.refl _ w) (.cells #[.slice A1 l0.length k1, .slice A2 l1.length k2, .int .i64 left, .bool down, .int .i64 calls] 45)) (.cells #[.slice none 0 0, .slice none 0 0, .int .i64 0, .bool false, .int .i64 0] 45)) hB)
  have c0 := fun o => (kcl (hb3 o) 0).trans rfl
  have c1 := fun o => (kcl (hb3 o) 1).trans rfl
  have HB1 := Aside0.mk hb1
  clear hB hb0 hb1 hb3
  go_wp2_with fail
  refine (PF.armoireref03_last.calls k A1 k1 l0 A2 k2 l1 r _ (Kd.C_below HR0.out (bal HA1.out _)) hc0 (Kd.C_below HR1.out (bal HA1.out _)) hc1 HLa.out).mono ?_
  rintro e w2 ⟨v, rfl, hR, hB⟩
  obtain ⟨A3, c3, rfl⟩ := Kd.R_slice hR
  have hRb : Kd.R Kd.string 9 w2 w.heap.size (fun k => w1.heap.size < k) (.slice A3 r.length c3) r := Kd.R_lower (Kd.R_mono (Kd.R_bound hR) (fun k hk => by have := hk.2.1; simp at this; omega)) (bal HA1.out (.cells #[.slice A1 l0.length k1, .slice A2 l1.length k2, .int .i64 l2, .bool d2, .int .i64 c2] 45)).size
  have HRv := Aside0.mk hRb
  have hlt1 : w.heap.size + 1 < w1.heap.size := blk_lt HB1.out
  have h4 := (hB.block w1.heap.size (by simp)).trans (World.alloc_heap_new w1 (.cells #[.slice A1 l0.length k1, .slice A2 l1.length k2, .int .i64 l2, .bool d2, .int .i64 c2] 45))
  have h2 := (hB.block (w.heap.size + 1) (by simp; omega)).trans ((Below.heap_alloc w1 (.cells #[.slice A1 l0.length k1, .slice A2 l1.length k2, .int .i64 l2, .bool d2, .int .i64 c2] 45) _ hlt1).trans HB1.out)
  have hz3 := fun (u u' : Value) => (Below.heap_setCell (w2.setCell ⟨w1.heap.size, 0, none⟩ u) ⟨w1.heap.size, 1, none⟩ u' (w.heap.size + 1) (Nat.ne_of_lt hlt1)).trans ((Below.heap_setCell w2 ⟨w1.heap.size, 0, none⟩ u (w.heap.size + 1) (Nat.ne_of_lt hlt1)).trans h2)
  have HA2 := Aside0.mk (bsp (bal HA1.out (.cells #[.slice A1 l0.length k1, .slice A2 l1.length k2, .int .i64 l2, .bool d2, .int .i64 c2] 45)) hB)
  have g0 := (kcl h4 0).trans rfl
  have g1 := (kcl h4 1).trans rfl
  have g2 := (kcl h4 2).trans rfl
  have g3 := (kcl h4 3).trans rfl
  have g4 := (kcl h4 4).trans rfl
  have gf0 := kfr h4 0
  have gf1 := kfr h4 1
  have e0 := fun u u' => (kcl (hz3 u u') 0).trans rfl
  have e1 := fun u u' => (kcl (hz3 u u') 1).trans rfl
  have e2 := fun u u' => (kcl (hz3 u u') 2).trans rfl
  have e3 := fun u u' => (kcl (hz3 u u') 3).trans rfl
  have e4 := fun u u' => (kcl (hz3 u u') 4).trans rfl
  have f0 := fun u u' => kfr (hz3 u u') 0
  have f1 := fun u u' => kfr (hz3 u u') 1
  have f2 := fun u u' => kfr (hz3 u u') 2
  have f3 := fun u u' => kfr (hz3 u u') 3
  have f4 := fun u u' => kfr (hz3 u u') 4
  have HB3 := Aside0.mk hz3
  have HLT := Aside0.mk hlt1
  clear hR hRb hB h4 h2 hz3 hlt1 c0 c1
  go_wp2
  refine bodyPost_ret (results_ct rfl _ _ (w.heap.size + 1) 45 #[.slice A3 r.length c3, .slice none 0 0, .int .i64 l2, .bool d2, .int .i64 c2] (0, 0) _ rfl (blk_set5 (HB3.out _ _) _ _ _ _ _) Try.underlying45 rfl (by kernel_rfl)) rfl ?_
  have hlt := HLT.out
  have hge : w.heap.size ≤ w1.heap.size := by omega
  refine ⟨_, rfl, Kd.R_mono (R_set5 (b := w.heap.size + 1) (Kd.R_far (p := ⟨w1.heap.size, 1, none⟩) (Kd.R_far (p := ⟨w1.heap.size, 0, none⟩) HRv.out (fun k hk => by simp only; omega) _) (fun k hk => by simp only; omega) _) (by omega) _ _ _ _ _) (fun _ _ => trivial), below_set5 ((HA2.out.setCell (p := ⟨w1.heap.size, 0, none⟩) hge _).setCell (p := ⟨w1.heap.size, 1, none⟩) hge _) (Nat.le_succ _) _ _ _ _ _⟩
set_option maxHeartbeats 2000000 in
set_option maxRecDepth 100000 in
theorem refPut_bad (A1 A2 : Option Addr) (k1 k2 : Nat) (l0 : List ByteArray) (l1 : List PF.S72) (left : Int) (down : Bool) (calls : Int) (a : Int) (t : ByteArray) (w : World) (hb : a < 0 ∨ (l0.length : Int) ≤ a ∨ 64 < t.size) :
    Calls Try.prog 22 #[.agg #[.slice A1 l0.length k1, .slice A2 l1.length k2, .int .i64 left, .bool down, .int .i64 calls], .int .i64 a, .string t] w fun e w' => e = .returned (.tuple #[.agg #[.slice A1 l0.length k1, .slice A2 l1.length k2, .int .i64 left, .bool down, .int .i64 calls], .int .i64 4]) ∧ Below w.heap.size w w' := by
  have fin : ∀ W, W = ((w.alloc (.cells #[.slice A1 l0.length k1, .slice A2 l1.length k2, .int .i64 left, .bool down, .int .i64 calls] 45)).alloc (.cells #[.slice A1 l0.length k1, .slice A2 l1.length k2, .int .i64 left, .bool down, .int .i64 calls] 45)) → Below w.heap.size w W := fun W h => h ▸ bal (bal (Below.refl _ _) _) _
  have q : a < 0 ∨ ((0 ≤ a ∧ (l0.length : Int) ≤ a) ∨ (0 ≤ a ∧ a < (l0.length : Int) ∧ (64 : Int) < (t.size : Int))) := by omega
  clear hb
  rcases q with q1 | ⟨q1, q2⟩ | ⟨q1, q2, q3⟩
  all_goals
    go_enter Try.func22, Try.ntmps22
    go_wp2
    refine bodyPost_ret (results_ct rfl _ _ (w.heap.size + 1) 45 #[.slice A1 l0.length k1, .slice A2 l1.length k2, .int .i64 left, .bool down, .int .i64 calls] (0, 0) _ rfl (alloc2_new w _ _) Try.underlying45 rfl (by kernel_rfl)) rfl ?_
    exact ⟨rfl, fin _ rfl⟩
set_option maxHeartbeats 2000000 in
set_option maxRecDepth 100000 in
theorem refPut_no (A1 A2 : Option Addr) (k1 k2 : Nat) (l0 : List ByteArray) (l1 : List PF.S72) (left : Int) (down : Bool) (calls : Int) (a : Int) (t : ByteArray) (e2 : Int) (d2 : Bool) (c2 : Int) (w : World) (hl : -9223372036854775808 ≤ left ∧ left < 9223372036854775808) (hc : rCall left down calls = (false, e2, d2, c2)) (h0 : 0 ≤ a) (h1 : a < (l0.length : Int)) (h2 : t.size ≤ 64) :
    Calls Try.prog 22 #[.agg #[.slice A1 l0.length k1, .slice A2 l1.length k2, .int .i64 left, .bool down, .int .i64 calls], .int .i64 a, .string t] w fun e w' => e = .returned (.tuple #[.agg #[.slice A1 l0.length k1, .slice A2 l1.length k2, .int .i64 e2, .bool d2, .int .i64 c2], .int .i64 16]) ∧ Below w.heap.size w w' := by
  have hC := fun W => refCall.calls A1 A2 l0.length k1 l1.length k2 left down calls W hl
  rw [hc] at hC
  have HC := Aside0.mk hC
  have h3 : (t.size : Int) ≤ 64 := by omega
  clear hC hc hl
  go_enter Try.func22, Try.ntmps22
  go_wp2_with fail
  refine (HC.out _).mono ?_
  rintro e w1 ⟨rfl, hB⟩
  have hb1 := (hB.block (w.heap.size + 1) (by simp)).trans (alloc2_new w (.cells #[.slice A1 l0.length k1, .slice A2 l1.length k2, .int .i64 left, .bool down, .int .i64 calls] 45) (.cells #[.slice none 0 0, .slice none 0 0, .int .i64 0, .bool false, .int .i64 0] 45))
  have hb3 := fun o => (Below.heap_alloc w1 o _ (blk_lt hb1)).trans hb1
  have HA1 := Aside0.mk (bsp (bal (bal (Below.refl _ w) (.cells #[.slice A1 l0.length k1, .slice A2 l1.length k2, .int .i64 left, .bool down, .int .i64 calls] 45)) (.cells #[.slice none 0 0, .slice none 0 0, .int .i64 0, .bool false, .int .i64 0] 45)) hB)
  have c0 := fun o => (kcl (hb3 o) 0).trans rfl
  have c1 := fun o => (kcl (hb3 o) 1).trans rfl
  have e2 := fun o => (kcl (hb3 o) 2).trans rfl
  have e3 := fun o => (kcl (hb3 o) 3).trans rfl
  have e4 := fun o => (kcl (hb3 o) 4).trans rfl
  have f0 := fun o => kfr (hb3 o) 0
  have f1 := fun o => kfr (hb3 o) 1
  have f2 := fun o => kfr (hb3 o) 2
  have f3 := fun o => kfr (hb3 o) 3
  have f4 := fun o => kfr (hb3 o) 4
  have HB3 := Aside0.mk hb3
  clear hB hb1 hb3
  go_wp2
  refine bodyPost_ret (results_ct rfl _ _ (w.heap.size + 1) 45 _ (0, 0) _ rfl (blk_set5 (HB3.out _) _ _ _ _ _) Try.underlying45 rfl (by kernel_rfl)) rfl ?_
  exact ⟨rfl, below_set5 (bal HA1.out _) (Nat.le_succ _) _ _ _ _ _⟩
end Go.Proofs.Ytbdoccbogndjkaa

namespace Go.Proofs.Ytbdoccbogndjkaa
set_option linter.unusedSimpArgs false
open Go.RowKit Go.Proofs.YtbdoccbogndjkaaW.PrintWords Go.Proofs.YtbdoccbogndjkaaW.PrintLast Go.Proofs.YtbdoccbogndjkaaW.PrintMore
theorem R_set5' {α : Type} {kd : Kd α} {e : Nat} {W : World} {b b0 base : Nat} {v : Value} {xs : List α} (h : kd.R e W base (fun k => b0 < k) v xs) (hb : b ≤ b0) (u0 u1 u2 u3 u4 : Value) : kd.R e (set5 W b u0 u1 u2 u3 u4) base (fun k => b0 < k) v xs := by
  have hf : ∀ k, b0 < k → k ≠ b := fun k hk => by omega
  exact Kd.R_far (p := ⟨b, 4, none⟩) (Kd.R_far (p := ⟨b, 3, none⟩) (Kd.R_far (p := ⟨b, 2, none⟩) (Kd.R_far (p := ⟨b, 1, none⟩) (Kd.R_far (p := ⟨b, 0, none⟩) h hf u0) hf u1) hf u2) hf u3) hf u4
set_option maxHeartbeats 4000000 in
set_option maxRecDepth 100000 in
theorem refPut_ok (A1 A2 : Option Addr) (k1 k2 : Nat) (l0 : List ByteArray) (l1 : List PF.S72) (left : Int) (down : Bool) (calls : Int) (a : Int) (t s : ByteArray) (kf : Nat) (e2 : Int) (d2 : Bool) (c2 : Int) (w : World) (hl : -9223372036854775808 ≤ left ∧ left < 9223372036854775808) (hc : rCall left down calls = (true, e2, d2, c2)) (h0 : 0 ≤ a) (h1 : a < (l0.length : Int)) (h2 : t.size ≤ 64)
    (hr1 : Kd.C PF.k72 w A2 l1.length l1) (hc1 : l1.length ≤ 1000000) (hF : PF.armoireref03_Fill.f kf t = some s) :
    Calls Try.prog 22 #[.agg #[.slice A1 l0.length k1, .slice A2 l1.length k2, .int .i64 left, .bool down, .int .i64 calls], .int .i64 a, .string t] w fun e w' =>
      ∃ v : Value, e = .returned (.tuple #[.agg #[.slice A1 l0.length k1, v, .int .i64 e2, .bool d2, .int .i64 c2], .int .i64 0]) ∧ Kd.R PF.k72 72 w' w.heap.size (fun _ => True) v (l1 ++ [⟨a, s⟩]) ∧ Below w.heap.size w w' := by
  have hC := fun W => refCall.calls A1 A2 l0.length k1 l1.length k2 left down calls W hl
  rw [hc] at hC
  have HC := Aside0.mk hC
  have h3 : (t.size : Int) ≤ 64 := by omega
  have HR1 := Aside0.mk hr1
  have HF := Aside0.mk hF
  have HL1 := Aside0.mk hc1
  clear hC hc hl hr1 hF hc1
  go_enter Try.func22, Try.ntmps22
  go_wp2_with fail
  refine (HC.out _).mono ?_
  rintro e w1 ⟨rfl, hB⟩
  have hb0 := (hB.block w.heap.size (by simp; omega)).trans ((Below.heap_alloc _ _ _ (by simp)).trans (World.alloc_heap_new w (.cells #[.slice A1 l0.length k1, .slice A2 l1.length k2, .int .i64 left, .bool down, .int .i64 calls] 45)))
  have hb1 := (hB.block (w.heap.size + 1) (by simp)).trans (alloc2_new w (.cells #[.slice A1 l0.length k1, .slice A2 l1.length k2, .int .i64 left, .bool down, .int .i64 calls] 45) (.cells #[.slice none 0 0, .slice none 0 0, .int .i64 0, .bool false, .int .i64 0] 45))
  have HA1 := Aside0.mk (bsp (bal (bal (Below.refl _ w) (.cells #[.slice A1 l0.length k1, .slice A2 l1.length k2, .int .i64 left, .bool down, .int .i64 calls] 45)) (.cells #[.slice none 0 0, .slice none 0 0, .int .i64 0, .bool false, .int .i64 0] 45)) hB)
  have hlt1 : w.heap.size + 1 < w1.heap.size := blk_lt hb1
  have HX0 := Aside0.mk ((Below.heap_alloc w1 (.cells #[.slice A1 l0.length k1, .slice A2 l1.length k2, .int .i64 e2, .bool d2, .int .i64 c2] 45) _ (blk_lt hb0)).trans hb0)
  have HX2 := Aside0.mk ((Below.heap_alloc w1 (.cells #[.slice A1 l0.length k1, .slice A2 l1.length k2, .int .i64 e2, .bool d2, .int .i64 c2] 45) _ (blk_lt hb1)).trans hb1)
  have HX4 := Aside0.mk (World.alloc_heap_new w1 (.cells #[.slice A1 l0.length k1, .slice A2 l1.length k2, .int .i64 e2, .bool d2, .int .i64 c2] 45))
  have HW1 := Aside0.mk (bal HA1.out (.cells #[.slice A1 l0.length k1, .slice A2 l1.length k2, .int .i64 e2, .bool d2, .int .i64 c2] 45))
  have HLT := Aside0.mk hlt1
  clear hB hb0 hb1 hlt1
  obtain ⟨W1, hW1⟩ : ∃ W1, W1 = w1.alloc (.cells #[.slice A1 l0.length k1, .slice A2 l1.length k2, .int .i64 e2, .bool d2, .int .i64 c2] 45) := ⟨_, rfl⟩
  have hsz : w1.heap.size < W1.heap.size := by rw [hW1]; simp
  have HSZ := Aside0.mk hsz
  clear hsz
  rw [← hW1] at HX0 HX2 HX4 HW1
  go_wp2_with (first
    | ((with_reducible refine gds (N := 33) rfl ?_); refine Kd.R_lit PF.k72 _ 72 ?hg (N := 33) ?hd (xs := ([] : List PF.S72)) (inner := []) (ok := fun _ => True) (okp := fun _ => True) ?hr ?hp (fun _ hk => hk) trivial (Below.refl _ _) (Nat.le_refl _) (by simp) ?_; (case hd => rfl); (case hg => rfl); (case hr => first | (go_simp; done) | (go_simp; rfl)); (case hp => exact (Reps.none _ _)); intro v5 w4 ho5 hb hg_ hnew_; clear hg_ hnew_; rw [← hW1] at ho5 hb; have HO5 := Aside0.mk ho5; have HB5 := Aside0.mk hb; have hbx := (hb.block w.heap.size (blk_lt HX0.out)).trans HX0.out; have b1 := (kcl hbx 1).trans rfl; clear ho5 hb hbx)
    | ((with_reducible refine gate_builtin (b := .append) (xs := #[.tmp 33, .tmp 35]) rfl ?_); at_builtin; refine Kd.R_append_rows PF.k72 (w0 := W1) W1.heap.size rfl (.tmp 33) (.tmp 35) 43 72 (.agg #[(.int .i64 0), (.string ⟨#[]⟩)]) 24 rfl Try.underlying43 PF.info72 rfl (by decide) (by omega) v5 ([] : List PF.S72) l1 _ _ _ (fun _ => True) (fun _ => False) rfl rfl ?aO ?aR (fun _ _ h => h) (fun _ h => h.elim) ?aF ?aB ?aS ?aL ?_; (case aR => exact Kd.C_below HR1.out (bsp HW1.out HB5.out)); (case aB => exact HB5.out); (case aF => exact (fun _ _ => trivial)); (case aO => exact HO5.out); (case aS => exact HB5.out.size); (case aL => have := HL1.out; simp only [List.length_nil]; omega); intro v6 w6 ho hb hg hat; have HO6 := Aside0.mk ho; have HB6 := Aside0.mk hb; clear ho hb hg hat)
    | ((with_reducible refine gate_builtin (b := .append) (xs := #[.tmp 36, .tmp 41]) rfl ?_); at_builtin; refine Kd.R_append PF.k72 (w0 := W1) W1.heap.size rfl (.tmp 36) (.tmp 41) 43 72 (.agg #[(.int .i64 0), (.string ⟨#[]⟩)]) 24 rfl Try.underlying43 PF.info72 rfl (by decide) (by omega) v6 (([] : List PF.S72) ++ l1) (⟨a, s⟩ : PF.S72) [.int .i64 a, .string s] (fun _ => True) (fun _ => False) rfl rfl ?aP (fun _ hk => hk.elim) ?aF ?aO ?aB ?aS ?aL ?_; (case aP => exact PF.k72_mkM _ _ _ (⟨a, s⟩ : PF.S72)); (case aF => exact (fun _ _ => trivial)); (case aO => exact Kd.R_drewN HO6.out _); (case aB => exact bdn HB6.out _); (case aS => exact HB6.out.size); (case aL => have := HL1.out; simp only [List.nil_append]; omega); intro v9 w9 ho hb hg hat; obtain ⟨A9, c9, rfl⟩ := Kd.R_slice ho; have HO9 := Aside0.mk ho; have HB9 := Aside0.mk hb; have h4 := (hb.block w1.heap.size HSZ.out).trans HX4.out; have g0 := (kcl h4 0).trans rfl; have g1 := (kcl h4 1).trans rfl; have g2 := (kcl h4 2).trans rfl; have g3 := (kcl h4 3).trans rfl; have g4 := (kcl h4 4).trans rfl; have gf1 := kfr h4 1; have h2' := (hb.block (w.heap.size + 1) (blk_lt HX2.out)).trans HX2.out; have hz3 := fun (u : Value) => (Below.heap_setCell w9 ⟨w1.heap.size, 1, none⟩ u (w.heap.size + 1) (Nat.ne_of_lt HLT.out)).trans h2'; have e0 := fun u => (kcl (hz3 u) 0).trans rfl; have e1 := fun u => (kcl (hz3 u) 1).trans rfl; have e2' := fun u => (kcl (hz3 u) 2).trans rfl; have e3 := fun u => (kcl (hz3 u) 3).trans rfl; have e4 := fun u => (kcl (hz3 u) 4).trans rfl; have f0 := fun u => kfr (hz3 u) 0; have f1 := fun u => kfr (hz3 u) 1; have f2 := fun u => kfr (hz3 u) 2; have f3 := fun u => kfr (hz3 u) 3; have f4 := fun u => kfr (hz3 u) 4; have HB3 := Aside0.mk hz3; clear ho hb hg hat h4 h2' hz3)
    | (go_at_call 16; refine (PF.armoireref03_Fill.calls kf t s _ HF.out).mono ?_; rintro e w7 ⟨rfl, ⟨m7, rfl⟩⟩))
  refine bodyPost_ret (results_ct rfl _ _ (w.heap.size + 1) 45 #[.slice A1 l0.length k1, .slice A9 (l1.length + 1) c9, .int .i64 e2, .bool d2, .int .i64 c2] (0, 0) _ rfl (blk_set5 (HB3.out _) _ _ _ _ _) Try.underlying45 rfl (by kernel_rfl)) rfl ?_
  have hlt := HLT.out
  have hsz := HSZ.out
  have hge : w.heap.size ≤ w1.heap.size := by omega
  have hrr := Kd.R_lower (Kd.R_mono (ok' := fun k => w1.heap.size < k) (Kd.R_bound HO9.out) (fun k hk => by have := hk.2.1; omega)) HW1.out.size
  have hll : (([] : List PF.S72) ++ l1 ++ [(⟨a, s⟩ : PF.S72)]).length = l1.length + 1 := by simp
  rw [hll, List.nil_append] at hrr
  refine ⟨_, rfl, Kd.R_mono (R_set5' (b := w.heap.size + 1) (Kd.R_far (p := ⟨w1.heap.size, 1, none⟩) hrr (fun k hk => by simp only; omega) _) (by omega) _ _ _ _ _) (fun _ _ => trivial), below_set5 ((bsp HW1.out HB9.out).setCell (p := ⟨w1.heap.size, 1, none⟩) hge _) (Nat.le_succ _) _ _ _ _ _⟩
end Go.Proofs.Ytbdoccbogndjkaa

namespace Go.Proofs.Ytbdoccbogndjkaa
set_option linter.unusedSimpArgs false
open Go.RowKit Go.Shelf Go.Proofs.YtbdoccbogndjkaaW.PrintWords Go.Proofs.YtbdoccbogndjkaaW.PrintLast Go.Proofs.YtbdoccbogndjkaaW.PrintMore
attribute [local go_sem] Oper.semAt_some
set_option maxHeartbeats 1000000 in
theorem cloneStr.calls (A0 : Option Addr) (c0 : Nat) (l0 : List ByteArray) (w : World) (hr0 : Kd.C Kd.string w A0 l0.length l0) (hl : l0.length < 1000000) :
    Calls Try.prog 35 #[.slice A0 l0.length c0] w fun e w' => ∃ v : Value, e = .returned v ∧ Kd.R Kd.string 9 w' w.heap.size (fun _ => True) v l0 ∧ Below w.heap.size w w' := by
  have hq : ∀ (W : World) (A : Option Addr) (n c : Nat), (binOp .eql 29 (.slice A n c) (.slice none 0 0)).run Try.prog W = .ok (.bool A.isNone) W := fun W A n c => Lib.run_eql_slice_nil W 29 9 A n c 0 0 Try.underlying29
  cases A0 with
  | none =>
    have hn : l0 = [] := by
      cases l0 with
      | nil => rfl
      | cons x l => obtain ⟨ad, e, -⟩ := hr0.2.2 (by simp); cases e
    subst hn
    clear hr0 hl
    go_enter Try.func35, Try.ntmps35
    go_wp2
    go_ret
    exact ⟨_, rfl, Kd.R_nil _ _ _ _ _, Below.refl _ _⟩
  | some ad =>
    have HR0 := Aside0.mk hr0
    clear hr0
    have HB := Aside0.mk (Below.refl w.heap.size w)
    have HL := Aside0.mk hl
    clear hl
    go_enter Try.func35, Try.ntmps35
    go_wp2_with (first
      | ((with_reducible refine gds (N := 5) rfl ?_); refine Kd.R_lit Kd.string _ 9 ?hg (N := 5) ?hd (xs := ([] : List ByteArray)) (inner := []) (ok := fun _ => True) (okp := fun _ => True) ?hr ?hp (fun _ hk => hk) trivial (Below.refl _ _) (Nat.le_refl _) (by simp) ?_; (case hd => rfl); (case hg => rfl); (case hr => first | (go_simp; done) | (go_simp; rfl)); (case hp => exact (Reps.none _ _)); intro v5 w4 ho5 hb hg_ hnew_; clear hg_ hnew_; have HO5 := Aside0.mk ho5; have HB5 := Aside0.mk hb; clear ho5 hb)
      | ((with_reducible refine gate_builtin (b := .append) (xs := #[.tmp 5, .tmp 6]) rfl ?_); at_builtin; refine Kd.R_append_rows Kd.string (w0 := w) w.heap.size rfl (.tmp 5) (.tmp 6) 29 9 (.string ⟨#[]⟩) 16 rfl Try.underlying29 infoStr rfl (by decide) (by omega) v5 ([] : List ByteArray) l0 _ _ _ (fun _ => True) (fun _ => False) rfl rfl ?aO ?aR (fun _ _ h => h) (fun _ h => h.elim) ?aF ?aB ?aS ?aL ?_; (case aR => exact Kd.C_below HR0.out HB5.out); (case aB => exact HB5.out); (case aF => exact (fun _ _ => trivial)); (case aO => exact HO5.out); (case aS => exact HB5.out.size); (case aL => have := HL.out; simp only [List.length_nil]; omega); intro v7 w6 ho hb hg hat; have HO7 := Aside0.mk ho; have HB7 := Aside0.mk hb; clear ho hb hg hat))
    go_ret
    exact ⟨_, rfl, HO7.out, HB7.out⟩
set_option maxHeartbeats 1000000 in
theorem cloneWr.calls (A0 : Option Addr) (c0 : Nat) (l0 : List Wr) (w : World) (hr0 : Kd.C kWr w A0 l0.length l0) (hl : l0.length < 1000000) :
    Calls Try.prog 36 #[.slice A0 l0.length c0] w fun e w' => ∃ v : Value, e = .returned v ∧ Kd.R kWr 64 w' w.heap.size (fun _ => True) v l0 ∧ Below w.heap.size w w' := by
  have hq : ∀ (W : World) (A : Option Addr) (n c : Nat), (binOp .eql 59 (.slice A n c) (.slice none 0 0)).run Try.prog W = .ok (.bool A.isNone) W := fun W A n c => Lib.run_eql_slice_nil W 59 64 A n c 0 0 Try.underlying59
  cases A0 with
  | none =>
    have hn : l0 = [] := by
      cases l0 with
      | nil => rfl
      | cons x l => obtain ⟨ad, e, -⟩ := hr0.2.2 (by simp); cases e
    subst hn
    clear hr0 hl
    go_enter Try.func36, Try.ntmps36
    go_wp2
    go_ret
    exact ⟨_, rfl, Kd.R_nil _ _ _ _ _, Below.refl _ _⟩
  | some ad =>
    have HR0 := Aside0.mk hr0
    clear hr0
    have HB := Aside0.mk (Below.refl w.heap.size w)
    have HL := Aside0.mk hl
    clear hl
    go_enter Try.func36, Try.ntmps36
    go_wp2_with (first
      | ((with_reducible refine gds (N := 5) rfl ?_); refine Kd.R_lit kWr _ 64 ?hg (N := 5) ?hd (xs := ([] : List Wr)) (inner := []) (ok := fun _ => True) (okp := fun _ => True) ?hr ?hp (fun _ hk => hk) trivial (Below.refl _ _) (Nat.le_refl _) (by simp) ?_; (case hd => rfl); (case hg => rfl); (case hr => first | (go_simp; done) | (go_simp; rfl)); (case hp => exact (Reps.none _ _)); intro v5 w4 ho5 hb hg_ hnew_; clear hg_ hnew_; have HO5 := Aside0.mk ho5; have HB5 := Aside0.mk hb; clear ho5 hb)
      | ((with_reducible refine gate_builtin (b := .append) (xs := #[.tmp 5, .tmp 6]) rfl ?_); at_builtin; refine Kd.R_append_rows kWr (w0 := w) w.heap.size rfl (.tmp 5) (.tmp 6) 59 64 (.agg #[.int .i64 0, .string ByteArray.empty]) 24 rfl Try.underlying59 infoWr rfl (by decide) (by omega) v5 ([] : List Wr) l0 _ _ _ (fun _ => True) (fun _ => False) rfl rfl ?aO ?aR (fun _ _ h => h) (fun _ h => h.elim) ?aF ?aB ?aS ?aL ?_; (case aR => exact Kd.C_below HR0.out HB5.out); (case aB => exact HB5.out); (case aF => exact (fun _ _ => trivial)); (case aO => exact HO5.out); (case aS => exact HB5.out.size); (case aL => have := HL.out; simp only [List.length_nil]; omega); intro v7 w6 ho hb hg hat; have HO7 := Aside0.mk ho; have HB7 := Aside0.mk hb; clear ho hb hg hat))
    go_ret
    exact ⟨_, rfl, HO7.out, HB7.out⟩
set_option maxHeartbeats 1000000 in
theorem device_Image.calls (g : Nat) (vs vc : Value) (d : Dv) (w0 w : World) (hI : Dev w0 w g vs vc d) (hl : d.sec.length < 1000000) :
    Calls Try.prog 37 #[.pointer (some ⟨g, 0, none⟩)] w fun e w' => ∃ v : Value, e = .returned v ∧ Kd.R Kd.string 9 w' w.heap.size (fun _ => True) v d.sec ∧ Below w.heap.size w w' := by
  obtain ⟨A, c, rfl⟩ := Kd.R_slice hI.sec
  have h0 := hI.c0
  have HI := Aside0.mk hI
  clear hI
  go_enter Try.func37, Try.ntmps37
  go_wp2_with fail
  refine (cloneStr.calls A c d.sec w (Kd.R_reads' HI.out.sec).2.2 hl).mono ?_
  rintro e w1 ⟨v, rfl, hR, hB⟩
  have HR := Aside0.mk hR
  have HB := Aside0.mk hB
  clear hR hB
  go_wp2
  go_ret
  exact ⟨_, rfl, HR.out, HB.out⟩
set_option maxHeartbeats 2000000 in
set_option maxRecDepth 100000 in
theorem device_Clone.calls (g : Nat) (d : Dv) (w0 w : World) (hI : IsDev w0 w g d) (hl : d.sec.length < 1000000) (hl2 : d.cache.length < 1000000) :
    Calls Try.prog 26 #[.pointer (some ⟨g, 0, none⟩)] w fun e w' => ∃ g' : Nat, e = .returned (.pointer (some ⟨g', 0, none⟩)) ∧ IsDev w w' g' d ∧ Below w.heap.size w w' := by
  obtain ⟨vs, vc, hI⟩ := hI
  obtain ⟨A, c, rfl⟩ := Kd.R_slice hI.sec
  obtain ⟨A2, c2, rfl⟩ := Kd.R_slice hI.cache
  have k0 := hI.drew.c0
  have k1 := hI.drew.c1
  have k2 := hI.drew.c2
  have k3 := hI.drew.c3
  have k4 := hI.drew.c4
  have HI := Aside0.mk hI.drew
  have HL1 := Aside0.mk hl
  have HL2 := Aside0.mk hl2
  clear hI hl hl2
  go_enter Try.func26, Try.ntmps26
  go_wp2
  go_region_held3 (fun w' => w'.cell? ⟨g, 0, none⟩ = some (.slice A d.sec.length c) ∧ w'.cell? ⟨g, 1, none⟩ = some (.slice A2 d.cache.length c2) ∧ w'.cell? ⟨g, 2, none⟩ = some (.int .i64 d.left) ∧ w'.cell? ⟨g, 3, none⟩ = some (.bool d.down) ∧ w'.cell? ⟨g, 4, none⟩ = some (.int .i64 d.calls)) (first | exact ⟨k0, k1, k2, k3, k4⟩ | exact ⟨pw_cell_below (bal (Below.refl _ _) _) k0, pw_cell_below (bal (Below.refl _ _) _) k1, pw_cell_below (bal (Below.refl _ _) _) k2, pw_cell_below (bal (Below.refl _ _) _) k3, pw_cell_below (bal (Below.refl _ _) _) k4⟩) (first
    | (go_simp; go_at_call 35; (with_reducible refine (cloneStr.calls A c d.sec _ (by first | exact (Kd.R_reads' HI.out.sec).2.2 | exact Kd.C_below (Kd.R_reads' HI.out.sec).2.2 HBb.out) HL1.out).mono ?_); rintro e w1 ⟨v1, rfl, hR, hB⟩; obtain ⟨A3, c3, rfl⟩ := Kd.R_slice hR; (try (have HRb2 := Aside0.mk (Kd.R_below HRb.out hB))); have HRa := Aside0.mk hR; have HBa := Aside0.mk hB; clear hR hB; have k0 := (HI.out.below (by first | exact bsp HBb.out HBa.out | exact HBa.out)).c0; have k1 := (HI.out.below (by first | exact bsp HBb.out HBa.out | exact HBa.out)).c1; have k2 := (HI.out.below (by first | exact bsp HBb.out HBa.out | exact HBa.out)).c2; have k3 := (HI.out.below (by first | exact bsp HBb.out HBa.out | exact HBa.out)).c3; have k4 := (HI.out.below (by first | exact bsp HBb.out HBa.out | exact HBa.out)).c4)
    | (go_simp; go_at_call 36; (with_reducible refine (cloneWr.calls A2 c2 d.cache _ (by first | exact (Kd.R_reads' HI.out.cache).2.2 | exact Kd.C_below (Kd.R_reads' HI.out.cache).2.2 HBa.out) HL2.out).mono ?_); rintro e w2 ⟨v2, rfl, hR, hB⟩; obtain ⟨A4, c4, rfl⟩ := Kd.R_slice hR; (try (have HRa2 := Aside0.mk (Kd.R_below HRa.out hB))); have HRb := Aside0.mk hR; have HBb := Aside0.mk hB; clear hR hB; have k0 := (HI.out.below (by first | exact bsp HBa.out HBb.out | exact HBb.out)).c0; have k1 := (HI.out.below (by first | exact bsp HBa.out HBb.out | exact HBb.out)).c1; have k2 := (HI.out.below (by first | exact bsp HBa.out HBb.out | exact HBb.out)).c2; have k3 := (HI.out.below (by first | exact bsp HBa.out HBb.out | exact HBb.out)).c3; have k4 := (HI.out.below (by first | exact bsp HBa.out HBb.out | exact HBb.out)).c4))
  have hB2 : Below w.heap.size w w2 := bsp (bsp (below_drew (Below.refl w.heap.size w)) HBa.out) HBb.out
  have HE := Aside0.mk (show IsDev w (w2.alloc (.cells #[.slice A3 d.sec.length c3, .slice A4 d.cache.length c4, .int .i64 d.left, .bool d.down, .int .i64 d.calls] 61)) w2.heap.size d from
    ⟨_, _, hB2.size, World.alloc_heap_new _ _, Kd.R_alloc (Kd.R_lower HRa2.out (Nat.le_refl _)) _, Kd.R_alloc (Kd.R_lower HRb.out HBa.out.size) _⟩)
  have HB2 := Aside0.mk hB2
  clear hB2 k0 k1 k2 k3 k4
  go_wp2
  go_ret
  exact ⟨_, rfl, HE.out, bal HB2.out _⟩
end Go.Proofs.Ytbdoccbogndjkaa

namespace Go.Proofs.Ytbdoccbogndjkaa
set_option linter.unusedSimpArgs false
open Go.RowKit Go.Proofs.YtbdoccbogndjkaaW.PrintWords Go.Proofs.YtbdoccbogndjkaaW.PrintLast Go.Proofs.YtbdoccbogndjkaaW.PrintMore
set_option maxHeartbeats 4000000 in
set_option maxRecDepth 100000 in
theorem lawIs.calls (g : Nat) (d : Dv) (A1 A2 : Option Addr) (k1 k2 : Nat) (l0 : List ByteArray) (l1 : List PF.S72) (left : Int) (kr : Nat) (w0 w : World) (hI : IsDev w0 w g d) (hs : l0 = d.sec) (hl : l1.length = d.cache.length) (hz : d.sec.length < 1000000)
    (hr0 : Kd.C Kd.string w A1 l0.length l0) (hc0 : l0.length ≤ k1) (hr1 : Kd.C PF.k72 w A2 l1.length l1) (hc1 : l1.length ≤ k2)
    (hrd : ∀ i : Nat, i < l0.length → PF.armoireref03_Read.f kr l0 l1 left d.down d.calls (i : Int) = some ((dvRead d i).1, (dvRead d i).2)) :
    Calls Try.prog 28 #[.pointer (some ⟨g, 0, none⟩), .agg #[.slice A1 l0.length k1, .slice A2 l1.length k2, .int .i64 left, .bool d.down, .int .i64 d.calls]] w fun e w' => e = .returned (.int .i64 0) ∧ Below w.heap.size w w' := by
  obtain ⟨vs, vc, hI⟩ := hI
  have hlen : (d.sec.length : Int) = (l0.length : Int) := by rw [hs]
  have hloose : (d.cache.length : Int) = (l1.length : Int) := by rw [hl]
  have HS := Aside0.mk hs
  have HR0 := Aside0.mk hr0
  have HR1 := Aside0.mk hr1
  have HRD := Aside0.mk hrd
  have HZ := Aside0.mk hz
  have hm0 : l0.length ≤ 9223372036854775807 := Kd.C_max hr0
  obtain ⟨o, ho⟩ : ∃ o : Obj, o = .cells #[.slice A1 l0.length k1, .slice A2 l1.length k2, .int .i64 left, .bool d.down, .int .i64 d.calls] 45 := ⟨_, rfl⟩
  have HI := Aside0.mk ((hI.alloc o).drew)
  have HW := Aside0.mk (below_drew (bal (Below.refl w.heap.size w) o))
  have hb : (w.alloc o).drew.heap[w.heap.size]? = some (.cells #[.slice A1 l0.length k1, .slice A2 l1.length k2, .int .i64 left, .bool d.down, .int .i64 d.calls] 45 (0, 0)) := by rw [ho]; exact World.alloc_heap_new w _
  rw [ho] at hb HI HW
  have b0 := (kcl hb 0).trans rfl
  have b1 := (kcl hb 1).trans rfl
  have b3 := (kcl hb 3).trans rfl
  have b4 := (kcl hb 4).trans rfl
  have HBx := Aside0.mk hb
  clear hI hs hl hr0 hr1 hrd hz hb ho o
  go_enter Try.func28, Try.ntmps28
  go_wp2_with fail
  go_region_held3 (fun w' => w' = (w.alloc (.cells #[.slice A1 l0.length k1, .slice A2 l1.length k2, .int .i64 left, .bool d.down, .int .i64 d.calls] 45)).drew) (rfl) (first
    | (go_simp; go_at_call 9; (with_reducible refine (device_Len.calls g vs vc d w0 _ HI.out).mono ?_); rintro e wz ⟨rfl, rfl⟩; rw [hlen])
    | (go_simp; go_at_call 17; (with_reducible refine (device_Loose.calls g vs vc d w0 _ HI.out).mono ?_); rintro e wz ⟨rfl, rfl⟩; rw [hloose])
    | (go_simp; go_at_call 19; (with_reducible refine (device_Down.calls g vs vc d w0 _ HI.out).mono ?_); rintro e wz ⟨rfl, rfl⟩)
    | (go_simp; go_at_call 20; (with_reducible refine (device_Calls.calls g vs vc d w0 _ HI.out).mono ?_); rintro e wz ⟨rfl, rfl⟩))
  clear b0 b1 b3 b4
  go_wp2_with fail
  refine (device_Image.calls g vs vc d w0 _ HI.out HZ.out).mono ?_
  rintro e w3 ⟨v, rfl, hR, hB⟩
  rw [← HS.out] at hR
  obtain ⟨A5, c5, rfl⟩ := Kd.R_slice hR
  have HC5 := Aside0.mk (Kd.R_reads' hR).2.2
  have HI3 := Aside0.mk (HI.out.below hB)
  have HW3 := Aside0.mk (bsp HW.out hB)
  have hb3 := (hB.block w.heap.size (blk_lt HBx.out)).trans HBx.out
  have b0 := (kcl hb3 0).trans rfl
  have HB3 := Aside0.mk hb3
  clear hR hB hb3
  go_wp2_with fail
  go_loopw [51] (fun v51 wr => ∃ i : Nat, v51 = .int .i64 i ∧ i ≤ l0.length ∧ Aside0 (Below w3.heap.size w3 wr)) (fun v51 _ => l0.length - (intOf v51).toNat)
  case atStart => exact ⟨0, rfl, Nat.zero_le _, ⟨Below.refl _ _⟩⟩
  case round =>
    clear b0
    obtain ⟨i, rfl, hi, HL⟩ := hrel
    by_cases q1 : i < l0.length
    · have hC0 := Kd.C_below HR0.out (bsp HW3.out HL.out)
      have hC1 := Kd.C_below HC5.out HL.out
      have hp : (0 : Int) ≤ (i : Int) := by omega
      have hq : (i : Int) < (l0.length : Int) := by omega
      have hm : i ≤ 9223372036854775806 := by omega
      obtain ⟨ad0, e0, hx0⟩ := Kd.at_string hC0 (i : Int) hp hq
      cases e0
      obtain ⟨ad1, e1, hx1⟩ := Kd.at_string hC1 (i : Int) hp hq
      cases e1
      clear hC0 hC1
      rw [Int.toNat_natCast] at hx0 hx1
      generalize rdOf ByteArray.empty l0 (i : Int) = y at hx0 hx1
      have hyy : (y.toList != y.toList) = false := by simp
      have hrr := device_Read.calls g d i w0 wr ⟨_, _, HI3.out.below HL.out⟩
      have hrf := HRD.out i q1
      generalize dvRead d (i : Int) = z at hrr hrf
      obtain ⟨x, f⟩ := z
      dsimp only at hrr hrf
      have hxx : (x.toList != x.toList) = false := by simp
      have hff : (f != f) = false := by simp
      have HRF := Aside0.mk hrf
      clear hrf
      go_wp2_with fail
      refine hrr.mono ?_
      rintro e w5 ⟨rfl, hB⟩
      have HL5 := Aside0.mk (bsp HL.out hB)
      have hb5 := (HL5.out.block w.heap.size (blk_lt HB3.out)).trans HB3.out
      have b0 := (kcl hb5 0).trans rfl
      have b1 := (kcl hb5 1).trans rfl
      have b2 := (kcl hb5 2).trans rfl
      have b3 := (kcl hb5 3).trans rfl
      have b4 := (kcl hb5 4).trans rfl
      clear hB hb5 hrr
      go_wp2_with fail
      refine (PF.armoireref03_Read.calls kr _ k1 l0 A2 k2 l1 left d.down d.calls i x f _ (Kd.C_below HR0.out (bsp HW3.out HL5.out)) hc0 (Kd.C_below HR1.out (bsp HW3.out HL5.out)) hc1 HRF.out).mono ?_
      rintro e w6 ⟨rfl, hB⟩
      have HL6 := Aside0.mk (bsp HL5.out hB)
      clear hB b0 b1 b2 b3 b4
      go_wp2
      go_roundw
      case rel => exact ⟨i + 1, by go_num, by omega, HL6⟩
      case measure => simp [intOf]; omega
    · obtain rfl : i = l0.length := by omega
      go_wp2
      go_ret
      exact ⟨rfl, bsp HW3.out HL.out⟩
end Go.Proofs.Ytbdoccbogndjkaa

namespace Go.Proofs.Ytbdoccbogndjkaa
set_option linter.unusedSimpArgs false
open Go.RowKit Go.Proofs.YtbdoccbogndjkaaW.PrintWords Go.Proofs.YtbdoccbogndjkaaW.PrintLast
theorem C_take_int {w : World} {A : Option Addr} {l : List Int} (h : Kd.C (Kd.int .i64) w A l.length l) (m : Nat) : Kd.C (Kd.int .i64) w A (l.take m).length (l.take m) := by
  refine ⟨rfl, Nat.le_trans (List.length_take_le' m l) h.2.1, fun hn => ?_⟩
  obtain ⟨ad, e, hc⟩ := h.2.2 (Nat.lt_of_lt_of_le hn (List.length_take_le' m l))
  exact ⟨ad, e, fun j p hj => hc j p (by rw [List.getElem?_take] at hj; split at hj; exact hj; cases hj)⟩
theorem few.calls (A : Option Addr) (c : Nat) (l : List Int) (w : World) (h : Kd.C (Kd.int .i64) w A l.length l) (hc : l.length ≤ c) :
    Calls Try.prog 13 #[.slice A l.length c] w fun e w' => e = .returned (.slice A (l.take 30).length c) ∧ w' = w := by
  by_cases h1 : 30 < l.length
  · obtain ⟨ad, rfl, -⟩ := h.2.2 (by omega)
    have q1 : decide ((30 : Int) < (l.length : Int)) = true := decide_eq_true (by omega)
    have q2 : (30 : Int) ≤ (c : Int) := by omega
    have e : (l.take 30).length = 30 := by rw [List.length_take]; omega
    rw [e]
    clear h h1 e
    go_enter Try.func13, Try.ntmps13
    go_wp2
    go_ret
    exact ⟨rfl, rfl⟩
  · have q1 : decide ((30 : Int) < (l.length : Int)) = false := decide_eq_false (by omega)
    rw [List.take_of_length_le (by omega)]
    clear h h1
    go_enter Try.func13, Try.ntmps13
    go_wp2
    go_ret
    exact ⟨rfl, rfl⟩
end Go.Proofs.Ytbdoccbogndjkaa

