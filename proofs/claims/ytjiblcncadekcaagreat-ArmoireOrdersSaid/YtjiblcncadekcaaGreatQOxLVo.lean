import Derived.Test.YtjiblcncadekcaaGreatQOxLBk
import Derived.Test.YtjiblcncadekcaaGreatQOxPAx0
import Derived.RangeFuncNested
import Derived.RangeFuncBound
import Derived.RangeFuncCalls
import Derived.RangeFuncLeaves
import Derived.Shelf.Abstract
import Derived.Shelf.RegionOpen
import Derived.OwnWalkIn
import Derived.TacticsInMore
import Derived.LoopNIn
import Derived.LoopIn
import Derived.Sort.CutIn
namespace Go.Proofs.YtjiblcncadekcaaGreat.PA
set_option linter.unusedSimpArgs false
set_option linter.unusedVariables false
open Go.RowKit Go.Proofs.YtjiblcncadekcaaGreatW.PrintWords Go.Proofs.YtjiblcncadekcaaGreatW.PrintLast Go.Proofs.YtjiblcncadekcaaGreatW.PrintMore Go.Proofs.YtjiblcncadekcaaGreat Go.Proofs.YtjiblcncadekcaaGreat.PL
attribute [local go_sem] Oper.semAt_some
def TB (w : World) (p b : Nat) (obj : ByteArray) (H : List Lck) : Prop := (H = [] ∧ Tb w p b #[] 0) ∨ ∃ q A c, TO w p b q obj A c H
theorem TB.below {w w' : World} {p b : Nat} {obj : ByteArray} {H : List Lck} (h : TB w p b obj H) (hB : Below w.heap.size w w') : TB w' p b obj H := by
  rcases h with ⟨h, k⟩ | ⟨q, A, c, h⟩
  · exact .inl ⟨h, kbl k.box hB, map_below k.map hB⟩
  · exact .inr ⟨q, A, c, h.below hB⟩
theorem blockers.calls (p b : Nat) (obj : ByteArray) (H : List Lck) (txn : Int) (s : Stp) (w : World) (h : TB w p b obj H) (hl : H.length < 100000) : Calls Tryz.prog 32 #[.pointer (some ⟨p, 0, none⟩), .string obj, .int .i64 txn, .agg #[.int .i64 s.op, .string s.a, .string s.b, .int .i64 s.n, .int .i64 s.code, .string s.text, .int .i64 s.rn]] w fun e w' => ∃ A2 L c2, e = .returned (.slice A2 L c2) ∧ (decide (L = 0)) = !(blkR H txn s) ∧ Below w.heap.size w w' := by
  rcases h with ⟨rfl, h⟩ | ⟨q, A, c, h⟩
  · refine (blockersNon.calls p b obj txn s w h).mono ?_
    rintro e w' ⟨rfl, hB⟩
    exact ⟨none, 0, 0, rfl, rfl, hB⟩
  · exact blockersOne.calls p b q obj A c H txn s w h hl
set_option maxHeartbeats 4000000 in
set_option maxRecDepth 100000 in
theorem pickOne.calls (p b p4 p5 p6 : Nat) (obj : ByteArray) (H : List Lck) (txn : Int) (s : Stp) (w : World) (h : TB w p b obj H) (hl : H.length < 100000)
    (h4 : w.heap[p4]? = some (.cells #[.pointer (some ⟨p, 0, none⟩)] 33 (0, 0))) (h5 : w.heap[p5]? = some (.cells #[.string obj] 9 (0, 0))) (h6 : w.heap[p6]? = some (.cells #[.int .i64 txn] 3 (0, 0))) (nb : Bool) (hnb : nb = !(blkR H txn s)) : Calls Tryz.prog 31 #[.agg #[.int .i64 s.op, .string s.a, .string s.b, .int .i64 s.n, .int .i64 s.code, .string s.text, .int .i64 s.rn], .pointer (some ⟨p4, 0, none⟩), .pointer (some ⟨p5, 0, none⟩), .pointer (some ⟨p6, 0, none⟩)] w fun e w' => e = .returned (.bool nb) ∧ Below w.heap.size w w' := by
  obtain ⟨W1, hW1⟩ : ∃ W1, W1 = w.alloc (.cells #[.int .i64 s.op, .string s.a, .string s.b, .int .i64 s.n, .int .i64 s.code, .string s.text, .int .i64 s.rn] 53) := ⟨_, rfl⟩
  obtain ⟨g, hg⟩ : ∃ g, g = w.heap.size := ⟨_, rfl⟩
  have hB1 : Below w.heap.size w W1 := by rw [hW1]; exact bal (Below.refl _ _) _
  have hg1 : W1.heap[g]? = some (.cells #[.int .i64 s.op, .string s.a, .string s.b, .int .i64 s.n, .int .i64 s.code, .string s.text, .int .i64 s.rn] 53 (0, 0)) := by rw [hW1, hg]; exact blk_new w _
  have HB1 := Z0.mk hB1
  have HNB := Z0.mk hnb
  have HT1 := Z0.mk (h.below hB1)
  have HL := Z0.mk hl
  have a4 := (kcl (kbl h4 hB1) 0).trans rfl
  have a5 := (kcl (kbl h5 hB1) 0).trans rfl
  have a6 := (kcl (kbl h6 hB1) 0).trans rfl
  have g0 := (kcl hg1 0).trans rfl
  have g1 := (kcl hg1 1).trans rfl
  have g2 := (kcl hg1 2).trans rfl
  have g3 := (kcl hg1 3).trans rfl
  have g4 := (kcl hg1 4).trans rfl
  have g5 := (kcl hg1 5).trans rfl
  have g6 := (kcl hg1 6).trans rfl
  clear hnb h hl h4 h5 h6 hB1 hg1
  go_enter Tryz.func31, Tryz.ntmps31
  go_upto_region 1 with fail
  rw [← hW1, ← hg]
  clear hW1 hg
  go_wp2_with fail
  refine (blockers.calls p b obj H txn s _ HT1.out HL.out).mono ?_
  rintro e w2 ⟨A2, L, c2, rfl, hL, hB2⟩
  have HB2 := Z0.mk (bsp HB1.out hB2)
  have HLB : Z0 ((((L : Nat) : Int) == 0) = nb) := ⟨by
    rw [HNB.out, ← hL, Bool.eq_iff_iff]
    simp⟩
  clear hL hB2 HNB
  go_wp2
  go_ret
  exact ⟨by show Ending.returned (Value.bool (((L : Nat) : Int) == 0)) = _; rw [HLB.out], HB2.out⟩
set_option maxHeartbeats 4000000 in
set_option maxRecDepth 100000 in
theorem index1.calls (p4 p5 p6 : Nat) (s : Stp) (A : Option Addr) (c : Nat) (w : World) (hs : Kd.C kStp w A 1 [s]) (nb : Bool) (hf : ∀ W, Below w.heap.size w W → Calls Tryz.prog 31 #[.agg #[.int .i64 s.op, .string s.a, .string s.b, .int .i64 s.n, .int .i64 s.code, .string s.text, .int .i64 s.rn], .pointer (some ⟨p4, 0, none⟩), .pointer (some ⟨p5, 0, none⟩), .pointer (some ⟨p6, 0, none⟩)] W fun e w' => e = .returned (.bool nb) ∧ Below W.heap.size W w') : Calls Tryz.prog 30 #[.slice A 1 c, .func (.func 31) #[] #[.pointer (some ⟨p4, 0, none⟩), .pointer (some ⟨p5, 0, none⟩), .pointer (some ⟨p6, 0, none⟩)]] w fun e w' => e = .returned (.int .i64 (if nb = true then 0 else -1)) ∧ Below w.heap.size w w' := by
  obtain ⟨ad, e1, x0, x1, x2, x3, x4, x5, x6⟩ := at_Stp hs 0 (by decide) (by decide)
  subst e1
  have hz : (ad.add ((0 : Int).toNat * 7)) = ad := by simp [Addr.add]
  rw [hz] at x0 x1 x2 x3 x4 x5 x6
  have hx : ([s] : List Stp).getD ((0 : Int).toNat) zStp = s := rfl
  rw [hx] at x0 x1 x2 x3 x4 x5 x6
  have HF := Z0.mk hf
  have HB := Z0.mk (Below.refl w.heap.size w)
  have HX := Z0.mk (And.intro x0 (And.intro x1 (And.intro x2 (And.intro x3 (And.intro x4 (And.intro x5 x6))))))
  clear hs hf hz hx x0 x1 x2 x3 x4 x5 x6
  go_enter Tryz.func30, Tryz.ntmps30
  go_wp2_with fail
  go_loopw [8] (fun v8 wr => ∃ k : Nat, v8 = .int .i64 k ∧ k ≤ 1 ∧ Z0 (k = 1 → nb = false) ∧ Z0 (Below w.heap.size w wr)) (fun v8 _ => 1 - (intOf v8).toNat)
  case atStart => exact ⟨0, rfl, by decide, ⟨by omega⟩, HB⟩
  case round =>
    clear HB
    obtain ⟨k, rfl, hk, HK, HB⟩ := hrel
    obtain rfl | rfl : k = 0 ∨ k = 1 := by omega
    · obtain ⟨x0, x1, x2, x3, x4, x5, x6⟩ := HX.out
      have y0 := pcb_ HB.out x0
      have y1 := pcb_ HB.out x1
      have y2 := pcb_ HB.out x2
      have y3 := pcb_ HB.out x3
      have y4 := pcb_ HB.out x4
      have y5 := pcb_ HB.out x5
      have y6 := pcb_ HB.out x6
      clear x0 x1 x2 x3 x4 x5 x6
      go_wp2_with fail
      refine (HF.out _ HB.out).mono ?_
      rintro e w2 ⟨rfl, hB2⟩
      have HB2 := Z0.mk (bsp HB.out hB2)
      clear hB2 HB
      cases nb
      · go_wp2
        go_roundw
        case rel => exact ⟨1, rfl, by decide, ⟨by first | exact fun _ => rfl | simp⟩, HB2⟩
        case measure => simp [intOf]
      · go_wp2
        go_ret
        exact ⟨rfl, HB2.out⟩
    · obtain rfl : nb = false := HK.out rfl
      go_wp2
      go_ret
      exact ⟨rfl, HB.out⟩
set_option maxHeartbeats 4000000 in
set_option maxRecDepth 100000 in
theorem pick.calls (p b : Nat) (obj : ByteArray) (H : List Lck) (txn : Int) (s : Stp) (A : Option Addr) (c : Nat) (w : World) (h : TB w p b obj H) (hl : H.length < 100000) (hs : Kd.C kStp w A 1 [s]) (nb : Bool) (hnb : nb = !(blkR H txn s)) : Calls Tryz.prog 11 #[.pointer (some ⟨p, 0, none⟩), .string obj, .int .i64 txn, .slice A 1 c] w fun e w' => e = .returned (.int .i64 (if nb = true then 0 else -1)) ∧ Below w.heap.size w w' := by
  obtain ⟨W1, hW1⟩ : ∃ W1, W1 = ((w.alloc (.cells #[.pointer (some ⟨p, 0, none⟩)] 33)).alloc (.cells #[.string obj] 9)).alloc (.cells #[.int .i64 txn] 3) := ⟨_, rfl⟩
  obtain ⟨g, hg⟩ : ∃ g, g = w.heap.size := ⟨_, rfl⟩
  have hB1 : Below w.heap.size w W1 := by rw [hW1]; exact bal (bal (bal (Below.refl _ _) _) _) _
  have h4 : W1.heap[g]? = some (.cells #[.pointer (some ⟨p, 0, none⟩)] 33 (0, 0)) := by rw [hW1, hg]; exact kal (kal (blk_new w _) _) _
  have h5 : W1.heap[g + 1]? = some (.cells #[.string obj] 9 (0, 0)) := by
    have h := blk_new (w.alloc (.cells #[.pointer (some ⟨p, 0, none⟩)] 33)) (.cells #[.string obj] 9)
    rw [show (w.alloc (.cells #[.pointer (some ⟨p, 0, none⟩)] 33)).heap.size = w.heap.size + 1 by simp] at h
    rw [hW1, hg]
    exact kal h _
  have h6 : W1.heap[g + 2]? = some (.cells #[.int .i64 txn] 3 (0, 0)) := by
    have h := blk_new ((w.alloc (.cells #[.pointer (some ⟨p, 0, none⟩)] 33)).alloc (.cells #[.string obj] 9)) (.cells #[.int .i64 txn] 3)
    rw [show ((w.alloc (.cells #[.pointer (some ⟨p, 0, none⟩)] 33)).alloc (.cells #[.string obj] 9)).heap.size = w.heap.size + 2 by simp] at h
    rw [hW1, hg]
    exact h
  have HB1 := Z0.mk hB1
  have HX := Z0.mk (index1.calls g (g + 1) (g + 2) s A c W1 (Kd.C_below hs hB1) nb (fun W hB => pickOne.calls p b g (g + 1) (g + 2) obj H txn s W ((h.below hB1).below hB) hl (kbl h4 hB) (kbl h5 hB) (kbl h6 hB) nb hnb))
  clear h hl hs hnb hB1 h4 h5 h6
  go_enter Tryz.func11, Tryz.ntmps11
  go_upto_region 1 with fail
  rw [← hW1, ← hg]
  clear hW1 hg
  go_wp2_with fail
  refine HX.out.mono ?_
  rintro e w2 ⟨rfl, hB2⟩
  have HB2 := Z0.mk (bsp HB1.out hB2)
  clear hB2 HX
  cases nb
  all_goals
    go_wp2
    go_ret
    exact ⟨rfl, HB2.out⟩
end Go.Proofs.YtjiblcncadekcaaGreat.PA

namespace Go.Proofs.YtjiblcncadekcaaGreat.PA
set_option linter.unusedSimpArgs false
set_option linter.unusedVariables false
open Go.RowKit Go.Proofs.YtjiblcncadekcaaGreatW.PrintWords Go.Proofs.YtjiblcncadekcaaGreatW.PrintLast Go.Proofs.YtjiblcncadekcaaGreatW.PrintMore Go.Proofs.YtjiblcncadekcaaGreat Go.Proofs.YtjiblcncadekcaaGreat.PL
attribute [local go_sem] Oper.semAt_some
def KeepC (w w1 : World) (ts : List Nat) : Prop := w.heap.size ≤ w1.heap.size ∧ ∀ (i : Nat) (cells : Array Value) (q : Nat) (fr : Nat × Nat), w.heap[i]? = some (Obj.cells cells q fr) → q ∉ ts → w1.heap[i]? = some (Obj.cells cells q fr)
theorem KeepC.of_below {a b : World} {ts : List Nat} (h : Below a.heap.size a b) : KeepC a b ts := ⟨h.size, fun i cs q fr hb _ => (h.block i (Array.getElem?_eq_some_iff.1 hb).1).trans hb⟩
theorem KeepC.trans {a b c : World} {ts : List Nat} (h : KeepC a b ts) (k : KeepC b c ts) : KeepC a c ts := ⟨Nat.le_trans h.1 k.1, fun i cs q fr hb hq => k.2 i cs q fr (h.2 i cs q fr hb hq) hq⟩
theorem KeepC.blk {w w1 : World} {ts : List Nat} {g : Nat} {cells : Array Value} {q : Nat} {fr : Nat × Nat} (hk : KeepC w w1 ts) (hb : w.heap[g]? = some (.cells cells q fr)) (hq : q ∉ ts) : w1.heap[g]? = some (.cells cells q fr) := hk.2 g cells q fr hb hq
theorem KeepC.R {α : Type} {d : Kd α} {e base : Nat} {w w1 : World} {ok : Nat → Prop} {v : Value} {xs : List α} {ts : List Nat} (hk : KeepC w w1 ts) (h : d.R e w base ok v xs) (ht : ∀ q, q ∈ e :: d.E → q ∉ ts) : d.R e w1 base ok v xs := by
  refine Kd.R_mono (Kd.R_move (Kd.R_bound h) (fun k hk2 => ?_)) (fun _ h => h.1)
  obtain ⟨_, _, _, q, hq, cells, hc⟩ := hk2
  exact (hk.2 k _ _ _ hc (ht q hq)).trans hc.symm
theorem tyL (t : Nat) (ht : 99 ≠ t) : ∀ u, u ∈ 99 :: kLck.E → u ≠ t := by
  intro u h
  rw [show (99 :: kLck.E) = [99] from by first | rfl | decide | simp [kLck]] at h
  simp only [List.mem_singleton] at h
  subst h
  exact ht
structure TOb (B : Nat) (w : World) (p b q : Nat) (obj : ByteArray) (hv : Value) (H : List Lck) : Prop where
  bp : B ≤ p
  bb : B ≤ b
  bq : B ≤ q
  ne : p ≠ b
  tb : Tb w p b (entX obj q) 1
  xq : w.heap[q]? = some (.cells #[hv, .slice none 0 0] 97 (0, 0))
  row : Kd.R kLck 99 w B (fun _ => True) hv H
def TBo (B : Nat) (w : World) (p b : Nat) (obj : ByteArray) (H : List Lck) : Prop := (B ≤ p ∧ B ≤ b ∧ p ≠ b ∧ H = [] ∧ Tb w p b #[] 0) ∨ ∃ q hv, TOb B w p b q obj hv H
theorem TOb.below {B : Nat} {w w' : World} {p b q : Nat} {obj : ByteArray} {hv : Value} {H : List Lck} (h : TOb B w p b q obj hv H) (hB : Below w.heap.size w w') : TOb B w' p b q obj hv H :=
  ⟨h.bp, h.bb, h.bq, h.ne, ⟨kbl h.tb.box hB, map_below h.tb.map hB⟩, kbl h.xq hB, Kd.R_below h.row hB⟩
theorem TBo.below {B : Nat} {w w' : World} {p b : Nat} {obj : ByteArray} {H : List Lck} (h : TBo B w p b obj H) (hB : Below w.heap.size w w') : TBo B w' p b obj H := by
  rcases h with ⟨h1, h2, h3, h4, h⟩ | ⟨q, hv, h⟩
  · exact .inl ⟨h1, h2, h3, h4, kbl h.box hB, map_below h.map hB⟩
  · exact .inr ⟨q, hv, h.below hB⟩
theorem TBo.tb {B : Nat} {w : World} {p b : Nat} {obj : ByteArray} {H : List Lck} (h : TBo B w p b obj H) : TB w p b obj H := by
  rcases h with ⟨_, _, _, h4, h⟩ | ⟨q, hv, h⟩
  · exact .inl ⟨h4, h⟩
  · obtain ⟨A, c, rfl, _, hC⟩ := Kd.R_reads h.row
    exact .inr ⟨q, A, c, h.tb, h.xq, hC⟩
theorem unqueue.calls (B p b : Nat) (obj : ByteArray) (H : List Lck) (txn : Int) (w : World) (h : TBo B w p b obj H) : Calls Tryz.prog 33 #[.pointer (some ⟨p, 0, none⟩), .string obj, .int .i64 txn] w fun e w' => e = .returned (.bool false) ∧ Below w.heap.size w w' := by
  rcases h with ⟨_, _, _, _, h⟩ | ⟨q, hv, h⟩
  · exact unqueueNon.calls p b obj txn w h
  · exact unqueueOne.calls p b q hv obj txn w h.tb h.xq
theorem getT.calls (w0 : World) (p b : Nat) (obj : ByteArray) (H : List Lck) (w : World) (h : TBo w0.heap.size w p b obj H) (hB : Below w0.heap.size w0 w) : Calls Tryz.prog 34 #[.pointer (some ⟨p, 0, none⟩), .string obj] w fun e w' => ∃ q hv, e = .returned (.pointer (some ⟨q, 0, none⟩)) ∧ TOb w0.heap.size w' p b q obj hv H ∧ Below w0.heap.size w0 w' ∧ ∀ ts, KeepC w w' ts := by
  rcases h with ⟨h1, h2, h3, rfl, h⟩ | ⟨q, hv, h⟩
  · refine (getNon.calls p b obj w0 w h hB h1 h2 h3).mono ?_
    rintro e w' ⟨q, rfl, hq, hT, hx, hB', hk⟩
    refine ⟨q, _, rfl, ⟨h1, h2, by rw [hq]; exact hB.size, h3, hT, hx, Kd.R_nil _ _ _ _ _⟩, hB', fun ts => ⟨?_, fun i cs t fr hb _ => ?_⟩⟩
    · have := klt_ hx
      omega
    · refine (hk i (fun e => ?_) (Array.getElem?_eq_some_iff.1 hb).1).trans hb
      subst e
      rw [h.map] at hb
      cases hb
  · refine (getOne.calls p b q obj w h.tb).mono ?_
    rintro e w' ⟨rfl, rfl⟩
    exact ⟨q, hv, rfl, h, hB, fun ts => KeepC.of_below (Below.refl _ _)⟩
theorem TOb.stored {B : Nat} {w w1 : World} {p b q : Nat} {obj : ByteArray} {hv v1 : Value} {H H1 : List Lck} (h : TOb B w p b q obj hv H) (hg : w.grownBy w1 hv.ownBlock) (hr : Kd.R kLck 99 w1 B (fun _ => True) v1 H1) : TOb B (w1.setCell ⟨q, 0, none⟩ v1) p b q obj v1 H1 ∧ KeepC w (w1.setCell ⟨q, 0, none⟩ v1) [97, 99] := by
  have hx := kgr_ h.xq hg (Kd.R_ne h.row h.xq (by decide))
  have hp := kgr_ h.tb.box hg (Kd.R_ne h.row h.tb.box (by decide))
  have hnb : some b ≠ hv.ownBlock := fun e => by
    obtain ⟨cs, hc⟩ := Kd.R_typed h.row b e.symm
    rw [h.tb.map] at hc
    cases hc
  have hm := (hg.block b (klt_ h.tb.map) hnb).trans h.tb.map
  have hqp : p ≠ q := fun e => by
    have := h.tb.box
    rw [e, h.xq] at this
    injection this with this
    injection this with _ e2
    exact absurd e2 (by decide)
  have hqb : b ≠ q := fun e => by
    have := h.tb.map
    rw [e, h.xq] at this
    cases this
  refine ⟨⟨h.bp, h.bb, h.bq, h.ne, ⟨blk_far hp hqp _, ?_⟩, kpt hx 0 v1 rfl, ?_⟩, ?_, ?_⟩
  · exact (Below.heap_setCell w1 ⟨q, 0, none⟩ v1 b hqb).trans hm
  · exact Kd.R_set hr hx (tyL _ (by decide)) 0 v1
  · have := hg.size
    simpa using this
  · intro i cs t fr hb ht
    simp only [List.mem_cons, List.not_mem_nil, or_false, not_or] at ht
    have h1 : i ≠ q := fun e => by
      rw [e, h.xq] at hb
      injection hb with hb
      injection hb with _ e2
      exact ht.1 e2.symm
    have h2 : some i ≠ hv.ownBlock := fun e => by
      obtain ⟨cs2, hc⟩ := Kd.R_typed h.row i e.symm
      rw [hc] at hb
      injection hb with hb
      injection hb with _ e2
      exact ht.2 e2.symm
    exact (Below.heap_setCell w1 ⟨q, 0, none⟩ v1 i h1).trans ((hg.block i (Array.getElem?_eq_some_iff.1 hb).1 h2).trans hb)
set_option maxHeartbeats 8000000 in
set_option maxRecDepth 100000 in
theorem grant.calls (w0 : World) (p b : Nat) (obj : ByteArray) (H : List Lck) (txn : Int) (s : Stp) (w : World) (h : TBo w0.heap.size w p b obj H) (hB : Below w0.heap.size w0 w) (hl : H.length < 100000) : Calls Tryz.prog 13 #[.pointer (some ⟨p, 0, none⟩), .string obj, .int .i64 txn, .agg #[.int .i64 s.op, .string s.a, .string s.b, .int .i64 s.n, .int .i64 s.code, .string s.text, .int .i64 s.rn]] w fun e w' => e = .returned (.tuple #[]) ∧ TBo w0.heap.size w' p b obj (H ++ [lckOf txn s]) ∧ Below w0.heap.size w0 w' ∧ KeepC w w' [97, 99] := by
  have hu2 := Tryz.underlying97
  obtain ⟨W1, hW1⟩ : ∃ W1, W1 = w.alloc (.cells #[.int .i64 s.op, .string s.a, .string s.b, .int .i64 s.n, .int .i64 s.code, .string s.text, .int .i64 s.rn] 53) := ⟨_, rfl⟩
  obtain ⟨g, hg⟩ : ∃ g, g = w.heap.size := ⟨_, rfl⟩
  have hB1 : Below w.heap.size w W1 := by rw [hW1]; exact bal (Below.refl _ _) _
  have HG1 := Z0.mk (show W1.heap[g]? = some (.cells #[.int .i64 s.op, .string s.a, .string s.b, .int .i64 s.n, .int .i64 s.code, .string s.text, .int .i64 s.rn] 53 (0, 0)) by rw [hW1, hg]; exact blk_new w _)
  have HT1 := Z0.mk (h.below hB1)
  have HB1 := Z0.mk (bsp hB hB1)
  have HK1 := Z0.mk (KeepC.of_below (ts := [97, 99]) hB1)
  have HL := Z0.mk hl
  clear h hB hl hB1
  go_enter Tryz.func13, Tryz.ntmps13
  go_upto_region 1 with fail
  rw [← hW1, ← hg]
  clear hW1 hg
  go_wp2_with fail
  refine (unqueue.calls _ p b obj H txn _ HT1.out).mono ?_
  rintro e w2 ⟨rfl, hB2⟩
  have HT2 := Z0.mk (HT1.out.below hB2)
  have HB2 := Z0.mk (bsp HB1.out hB2)
  have HG2 := Z0.mk (kbl HG1.out hB2)
  have HK2 := Z0.mk (HK1.out.trans (KeepC.of_below hB2))
  clear hB2 HT1 HB1 HG1 HK1
  go_wp2_with fail
  refine (getT.calls w0 p b obj H _ HT2.out HB2.out).mono ?_
  rintro e w3 ⟨q, hv, rfl, hT, hB, hk⟩
  have HT3 := Z0.mk hT
  have HB3 := Z0.mk hB
  have HG3 := Z0.mk ((hk [97, 99]).blk HG2.out (by decide))
  have HK3 := Z0.mk (HK2.out.trans (hk _))
  clear hT hB hk HT2 HB2 HG2 HK2
  obtain ⟨A, c, hvs⟩ := Kd.R_slice HT3.out.row
  subst hvs
  go_upto_region 3 with fail
  have n1_ := Z0.mk (HT3.out.below (below_drew (Below.refl _ _)))
  have n2_ := Z0.mk (below_drew HB3.out)
  have n3_ := Z0.mk (kdw HG3.out)
  have n4_ := Z0.mk (HK3.out.trans (KeepC.of_below (below_drew (Below.refl _ _))))
  clear HT3 HB3 HG3 HK3
  have HT3 := n1_
  have HB3 := n2_
  have HG3 := n3_
  have HK3 := n4_
  clear n1_ n2_ n3_ n4_
  refine start_ (n := 13) (S := fun w' => w'.cell? ⟨q, 0, none⟩ = some (.slice A H.length c) ∧ w'.cell? ⟨g, 0, none⟩ = some (.int .i64 s.op) ∧ w'.cell? ⟨g, 1, none⟩ = some (.string s.a) ∧ w'.cell? ⟨g, 2, none⟩ = some (.string s.b) ∧ w'.cell? ⟨g, 3, none⟩ = some (.int .i64 s.n) ∧ w'.cell? ⟨g, 4, none⟩ = some (.int .i64 s.code) ∧ w'.cell? ⟨g, 5, none⟩ = some (.string s.text) ∧ w'.cell? ⟨g, 6, none⟩ = some (.int .i64 s.rn)) (ds := [12]) #[false,false,false,false,false,false,false,false,false,false,false,false,false] (by kernel_rfl) rfl rfl ⟨(kcl HT3.out.xq 0).trans rfl, (kcl HG3.out 0).trans rfl, (kcl HG3.out 1).trans rfl, (kcl HG3.out 2).trans rfl, (kcl HG3.out 3).trans rfl, (kcl HG3.out 4).trans rfl, (kcl HG3.out 5).trans rfl, (kcl HG3.out 6).trans rfl⟩ (fun hHeld => ?_)
  generalize w3.drew = w4 at HT3 HB3 HG3 HK3 hHeld ⊢
  refine pu_ 0 (some 16) (bA 13 1) ?_
  refine pu_ 1 (some 17) (bA 13 3) ?_
  refine pu_ 2 (some 18) (bA 13 7) ?_
  refine pu_ 3 (some 19) (bA 13 15) ?_
  refine pu_ 5 (some 21) (bA 13 47) ?_
  refine tk_ 4 (some 20) (bA 13 63) hHeld ?_
  refine tk_ 6 (some 22) (bA 13 127) hHeld ?_
  refine pu_ 7 (some 23) (bA 13 255) ?_
  refine one_ (i := 8) (N := some 24) (bA 13 511) rfl rfl (by kernel_rfl) (by decide) (fun K hK => ?_)
  refine value_ (w1 := ?_) (v := ?_) (by rfl) rfl ?_ ?_
  rotate_left 2
  · go_simp
    constructor
    · rfl
    · rfl
  refine hK.out _ _ ⟨(kcl (kal HT3.out.xq _) 0).trans rfl, (kcl (kal HG3.out _) 0).trans rfl, (kcl (kal HG3.out _) 1).trans rfl, (kcl (kal HG3.out _) 2).trans rfl, (kcl (kal HG3.out _) 3).trans rfl, (kcl (kal HG3.out _) 4).trans rfl, (kcl (kal HG3.out _) 5).trans rfl, (kcl (kal HG3.out _) 6).trans rfl⟩ (fun hHeld => ?_)
  clear hK K
  refine nm_ (some 24) ?_
  refine one_ (i := 9) (N := some 25) (bA 13 1023) rfl rfl (by kernel_rfl) (by decide) (fun K hK => ?_)
  refine Kd.R_append_step kLck (w0 := w0) w0.heap.size (by rfl) (.tmp 20) (.tmp 24) 95 99 (.agg #[.int .i64 0, .int .i64 0, .string ⟨#[]⟩, .string ⟨#[]⟩, .int .i64 0, .int .i64 0, .string ⟨#[]⟩, .int .i64 0]) 88 rfl Tryz.underlying95 infoLck rfl (by decide) (by omega) (.slice A H.length c) H (lckOf txn s) [.int .i64 txn, .int .i64 s.op, .string s.a, .string s.b, .int .i64 s.n, .int .i64 s.code, .string s.text, .int .i64 s.rn] (fun _ => True) (fun _ => False) rfl rfl ?aP (fun _ hk => hk.elim) ?aF ?aO ?aB ?aS ?aL ?_
  (case aP => exact kLck_mkM _ _ _ (lckOf txn s))
  (case aB => exact HB3.out)
  (case aF => exact (fun _ _ => trivial))
  (case aO => exact HT3.out.row)
  (case aS => exact HB3.out.size)
  (case aL => have := HL.out; omega)
  intro v2 w5 ho hb hg hat
  have HO5 := Z0.mk ho
  have HB5 := Z0.mk hb
  have HGW := Z0.mk hg
  have HQ5 := Z0.mk (kgr_ HT3.out.xq hg (Kd.R_ne HT3.out.row HT3.out.xq (by decide)))
  have HG5 := Z0.mk (kgr_ HG3.out hg (Kd.R_ne HT3.out.row HG3.out (by decide)))
  clear ho hb hg hat
  obtain ⟨A3, c3, hv3⟩ := Kd.R_slice HO5.out
  subst hv3
  refine hK.out _ _ ⟨(kcl HQ5.out 0).trans rfl, (kcl HG5.out 0).trans rfl, (kcl HG5.out 1).trans rfl, (kcl HG5.out 2).trans rfl, (kcl HG5.out 3).trans rfl, (kcl HG5.out 4).trans rfl, (kcl HG5.out 5).trans rfl, (kcl HG5.out 6).trans rfl⟩ (fun hHeld => ?_)
  clear hK K
  refine nm_ (some 25) ?_
  refine pu_ 10 (some 26) (bA 13 2047) ?_
  refine pu_ 11 (some 27) (bA 13 4095) ?_
  refine last_ (i := 12) (N := none) (bA 13 8191) rfl rfl (by kernel_rfl) (by decide) (fun K hK => ?_)
  have hs : w5.cell? ⟨q, 0, none⟩ = some (.slice A H.length c) := (kcl HQ5.out 0).trans rfl
  have hf := kfr HQ5.out 0
  refine skip_ (w1 := ?_) (by rfl) rfl ?_ ?_
  rotate_left
  · go_simp
    rfl
  refine hK.out _ _ ?_
  clear hK K
  refine done_ (by kernel_rfl) ?_
  go_wp2
  go_end0
  have hst := HT3.out.stored HGW.out HO5.out
  have hb5 := bst HB5.out HT3.out.bq (j := 0) (v := .slice A3 (H ++ [lckOf txn s]).length c3)
  rw [List.length_append] at hst hb5
  exact ⟨rfl, .inr ⟨q, _, hst.1⟩, hb5, HK3.out.trans hst.2⟩
end Go.Proofs.YtjiblcncadekcaaGreat.PA

namespace Go.Proofs.YtjiblcncadekcaaGreat.PA
set_option linter.unusedSimpArgs false
set_option linter.unusedVariables false
open Go.RowKit Go.Shelf Go.Proofs.YtjiblcncadekcaaGreatW.PrintWords Go.Proofs.YtjiblcncadekcaaGreatW.PrintLast Go.Proofs.YtjiblcncadekcaaGreatW.PrintMore Go.Proofs.YtjiblcncadekcaaGreat Go.Proofs.YtjiblcncadekcaaGreat.PL
attribute [local go_sem] Oper.semAt_some
set_option maxRecDepth 100000 in
set_option maxHeartbeats 4000000 in
theorem of1O_in (F : Fence) (n : Nat) (hf : F.fn 53) (hro : F.round = none) (hn : 1 ≤ n) (l p q g og : Nat) (w wb : World) (A : Option Addr) (c : Nat) (es : List Ent) (obj : ByteArray) (hob : ∀ e ∈ es, e.object.toList = obj.toList)
    (hC : Kd.C kEnt w A es.length es) (hw : Below w.heap.size w wb) (hg : w.cell? ⟨g, og, none⟩ = some (.slice A es.length c)) (hp : wb.cell? ⟨p, 0, none⟩ = some (.pointer (some ⟨g, og, none⟩))) (hq : wb.cell? ⟨q, 0, none⟩ = some (.string obj))
    (J Jx : List Ent → World → Prop) (W : World) (hJA : AbidesFrom W.heap.size J)
    (hY : ∀ pre x W, J pre W → pre.length < es.length → YieldAt F (n - 1) Tryz.prog l (entE x) W fun e W' =>
      (e = .returned (.bool true) ∧ J (pre ++ [x]) W' ∧ KV w p q W W') ∨ (e = .returned (.bool false) ∧ Jx (pre ++ [x]) W'))
    (hW : Below wb.heap.size wb W) (h0 : J [] W) :
    CallsIn F n Tryz.prog 53 #[.func (.yield l) #[] #[], .pointer (some ⟨p, 0, none⟩), .pointer (some ⟨q, 0, none⟩)] W fun e W' => (∃ v, e = .returned v) ∧
      ((∃ ys, ys = es ∧ J ys W') ∨ (∃ pre, True ∧ Jx pre W')) := by
  have hm : es.length ≤ 9223372036854775807 := Kd.C_max hC
  have hlp := World.block_lt_of_cell? wb _ hp
  have hlq := World.block_lt_of_cell? wb _ hq
  have hlg := World.block_lt_of_cell? w _ hg
  have hKW : KV w p q wb W := KV.of_below hw.size hW
  have HX := Z0.mk (show ∀ W1, KV w p q wb W1 → W1.cell? ⟨p, 0, none⟩ = some (.pointer (some ⟨g, og, none⟩)) ∧ W1.cell? ⟨q, 0, none⟩ = some (.string obj) ∧ W1.cell? ⟨g, og, none⟩ = some (.slice A es.length c) ∧ Kd.C kEnt W1 A es.length es from fun W1 h => by
    have hB := hw.trans h.1
    have hc : ∀ k, (k = p ∨ k = q) → k < wb.heap.size → W1.cell? ⟨k, 0, none⟩ = wb.cell? ⟨k, 0, none⟩ := fun k hk hl => by
      simp only [World.cell?]
      rw [h.2 k hk hl]
    exact ⟨(hc p (.inl rfl) hlp).trans hp, (hc q (.inr rfl) hlq).trans hq, (hB.cell (p := ⟨g, og, none⟩) hlg).trans hg, Kd.C_below hC hB⟩)
  have HOB := Z0.mk hob
  have HJA := Z0.mk hJA
  have HKW := Z0.mk hKW
  obtain ⟨x1, x2, x3, -⟩ := HX.out W hKW
  clear hp hq hg hC hob hlp hlq hlg hKW hJA
  refine callsIn_of_wp Tryz.func53 rfl hf ?_ hro
  simp only [Tryz.ntmps53, List.size_toArray, List.length_cons, List.length_nil, Nat.reduceAdd, Nat.reduceSub, Array.replicate_succ, Array.replicate_zero, List.push_toArray, List.append_toArray, List.nil_append, List.cons_append]
  gi_wp2
  gi_loopw [11] (fun i wr => ∃ k : Nat, k ≤ es.length ∧ i = .int .i64 (k : Int) ∧ J (es.take k) wr ∧ Z0 (KV w p q wb wr) ∧ Z0 (W.heap.size ≤ wr.heap.size)) (fun i _ => es.length - (intOf i).toNat)
  case atStart => exact ⟨0, Nat.zero_le _, rfl, by rw [List.take_zero]; exact h0, HKW, ⟨Nat.le_refl _⟩⟩
  case round =>
    obtain ⟨k, hk, rfl, hJs, HN, HSZ⟩ := hrel
    clear x1 x2 x3 HKW
    by_cases c1 : k < es.length
    · have hp0 : (0 : Int) ≤ (k : Int) := by omega
      have hp1 : (k : Int) < (es.length : Int) := by omega
      obtain ⟨x1, x2, x3, hCr⟩ := HX.out wr HN.out
      obtain ⟨x, hx⟩ : ∃ x, x = es.getD k zEnt := ⟨_, rfl⟩
      have hgx : es[k] = x := by rw [hx]; simp [c1]
      have HOX := Z0.mk (show x.object.toList = obj.toList from HOB.out x (by rw [← hgx]; exact List.getElem_mem c1))
      have HTK := Z0.mk (show es.take (k + 1) = es.take k ++ [x] by rw [List.take_succ_eq_append_getElem c1, hgx])
      obtain ⟨ad, e1, y0, y1, y2, y3, y4, y5, y6, y7⟩ := at_Ent hCr (k : Int) hp0 hp1
      subst e1
      rw [Int.toNat_natCast, ← hx] at y0 y1 y2 y3 y4 y5 y6 y7
      clear hgx hx hCr
      obtain ⟨W5, hW5⟩ : ∃ W5, W5 = wr.alloc (.cells #[.string x.object, .int .i64 x.op, .string x.a, .string x.b, .int .i64 x.n, .int .i64 x.code, .string x.text, .int .i64 x.rn] 60) := ⟨_, rfl⟩
      obtain ⟨e, he⟩ : ∃ e, e = wr.heap.size := ⟨_, rfl⟩
      have hBB : Below wr.heap.size wr W5 := by rw [hW5]; exact bal (Below.refl _ _) _
      have hbx : W5.heap[e]? = some (.cells #[.string x.object, .int .i64 x.op, .string x.a, .string x.b, .int .i64 x.n, .int .i64 x.code, .string x.text, .int .i64 x.rn] 60 (0, 0)) := by rw [hW5, he]; exact blk_new wr _
      gi_upto_region 3 with fail
      rw [← hW5, ← he]
      clear hW5 he x1 x2 x3 y0 y1 y2 y3 y4 y5 y6 y7
      have hN5 := HN.out.trans (KV.of_below (Nat.le_trans hw.size (Nat.le_trans hW.size HSZ.out)) hBB)
      have hJ5 := HJA.out (es.take k) wr W5 none hJs (grown_of_below hBB none) (fun r hr => by cases hr)
      obtain ⟨fn, tmps, assign, body, hy, hR⟩ := hY _ x _ hJ5 (by rw [List.length_take]; omega)
      unfold entE at hy
      obtain ⟨x1, x2, x3, hCr⟩ := HX.out W5 hN5
      have HS5 := Z0.mk (Nat.le_trans HSZ.out hBB.size)
      have HN5 := Z0.mk hN5
      have HR := Z0.mk hR
      have hox := HOX.out
      have hox2 : (x.object.toList == obj.toList) = true := beq_iff_eq.2 hox
      have HOX2 := Z0.mk hox
      clear hR hBB hJ5 hN5 hox hCr
      have b0 := (kcl hbx 0).trans rfl
      have b1 := (kcl hbx 1).trans rfl
      have b2 := (kcl hbx 2).trans rfl
      have b3 := (kcl hbx 3).trans rfl
      have b4 := (kcl hbx 4).trans rfl
      have b5 := (kcl hbx 5).trans rfl
      have b6 := (kcl hbx 6).trans rfl
      have b7 := (kcl hbx 7).trans rfl
      gi_wp2
      refine HR.out.mono ?_
      rintro e3 W3 (⟨rfl, hJ3, hk3⟩ | ⟨rfl, hJx3⟩)
      · have HN3 := Z0.mk (HN5.out.trans hk3)
        have HS3 := Z0.mk (Nat.le_trans HS5.out hk3.1.size)
        have HJ3 := Z0.mk hJ3
        have k1 : wrap64 ((k : Int) + 1) = (k : Int) + 1 := by unfold wrap64; omega
        have K1 := Z0.mk k1
        clear hk3 hJ3 k1
        have k1 := K1.out
        clear b0 b1 b2 b3 b4 b5 b6 b7 hbx
        gi_wp2
        clear k1
        go_roundw
        case rel => exact ⟨k + 1, by omega, by go_num, by rw [HTK.out]; exact HJ3.out, HN3, HS3⟩
        case measure => simp [intOf]; omega
      · have HJx3 := Z0.mk hJx3
        clear hJx3 b0 b1 b2 b3 b4 b5 b6 b7 hbx
        gi_wp2
        refine bodyPost_ret (results_none rfl _ _ _) rfl ?_
        exact ⟨⟨_, rfl⟩, .inr ⟨_, trivial, HJx3.out⟩⟩
    · obtain rfl : k = es.length := by omega
      rw [List.take_length] at hJs
      obtain ⟨x1, x2, x3, hCr⟩ := HX.out wr HN.out
      clear hCr
      gi_wp2
      go_end0
      exact ⟨⟨_, rfl⟩, .inl ⟨_, rfl, hJs⟩⟩
theorem ofO_in (F : Fence) (n : Nat) (hf : F.fn 29) (hro : F.round = none) (g og : Nat) (obj : ByteArray) (w : World) :
    CallsIn F n Tryz.prog 29 #[.pointer (some ⟨g, og, none⟩), .string obj] w fun e w' => e = .returned (.func (.func 53) #[] #[.pointer (some ⟨w.heap.size, 0, none⟩), .pointer (some ⟨w.heap.size + 1, 0, none⟩)]) ∧ w' = (w.alloc (.cells #[.pointer (some ⟨g, og, none⟩)] 84)).alloc (.cells #[.string obj] 9) := by
  refine callsIn_of_wp Tryz.func29 rfl hf ?_ hro
  simp only [Tryz.ntmps29, List.size_toArray, List.length_cons, List.length_nil, Nat.reduceAdd, Nat.reduceSub, Array.replicate_succ, Array.replicate_zero, List.push_toArray, List.append_toArray, List.nil_append, List.cons_append]
  gi_wp2
  go_ret
  exact ⟨rfl, rfl⟩
theorem ofO_stops (F : Fence) (n : Nat) (hf : F.fn 53) (hro : F.round = none) (hn : 1 ≤ n) (p q g og : Nat) (w wb : World) (A : Option Addr) (c : Nat) (es : List Ent) (obj : ByteArray) (hob : ∀ e ∈ es, e.object.toList = obj.toList)
    (hC : Kd.C kEnt w A es.length es) (hw : Below w.heap.size w wb) (hg : w.cell? ⟨g, og, none⟩ = some (.slice A es.length c)) (hp : wb.cell? ⟨p, 0, none⟩ = some (.pointer (some ⟨g, og, none⟩))) (hq : wb.cell? ⟨q, 0, none⟩ = some (.string obj)) :
    SeqStopsK F n Tryz.prog 53 #[.pointer (some ⟨p, 0, none⟩), .pointer (some ⟨q, 0, none⟩)] entE (KV w p q) (fun ys => ys = es) (fun _ => True) es.length wb :=
  fun l J Jx W hW hJ _ hY h0 => of1O_in F n hf hro hn l p q g og w wb A c es obj hob hC hw hg hp hq J Jx W hJ hY hW h0
set_option maxRecDepth 100000 in
set_option maxHeartbeats 8000000 in
theorem listViewO.calls (g og : Nat) (obj : ByteArray) (kind n : Int) (A0 : Option Addr) (c0 : Nat) (xs : List S73) (A : Option Addr) (c : Nat) (es : List Ent) (w : World) (hob : ∀ e ∈ es, e.object.toList = obj.toList) (hC : Kd.C kEnt w A es.length es) (hg : w.cell? ⟨g, og, none⟩ = some (.slice A es.length c))
    (hr : Kd.C k73 w A0 xs.length xs) (hc0 : xs.length ≤ c0) (hl : xs.length + es.length < 1000000) :
    Calls Tryz.prog 10 #[.pointer (some ⟨g, og, none⟩), .string obj, .agg #[.int .i64 kind, .int .i64 n, .slice A0 xs.length c0]] w fun e w' => ∃ v : Value, e = .returned (.agg #[.int .i64 kind, .int .i64 (runR kind n xs (es.map stpE)).1, v]) ∧ Rd w w' v (runR kind n xs (es.map stpE)).2 ∧ Below w.heap.size w w' := by
  rw [← callsIn_wide (n := 5)]
  have hro : Fence.wide.round = none := rfl
  have hf : ∀ k, Fence.wide.fn k := fun _ => trivial
  obtain ⟨W2, hW2⟩ : ∃ W2, W2 = (w.alloc (.cells #[.int .i64 kind, .int .i64 n, .slice A0 xs.length c0] 24)).alloc (.cells #[.int .i64 0, .int .i64 0, .slice none 0 0] 24) := ⟨_, rfl⟩
  obtain ⟨q, hq⟩ : ∃ q, q = w.heap.size := ⟨_, rfl⟩
  have HS2 := Z0.mk (show WR w W2 q kind n (.slice A0 xs.length c0) xs #[.int .i64 0, .int .i64 0, .slice none 0 0] by
    have h := WT.new w #[.int .i64 kind, .int .i64 n, .slice A0 xs.length c0] #[.int .i64 0, .int .i64 0, .slice none 0 0]
    rw [← hW2, ← hq] at h
    exact ⟨h.below, h.ge, h.b1, h.b2, .inl ⟨A0, c0, rfl, hc0, hr⟩⟩)
  have HOB := Z0.mk hob
  have HC := Z0.mk hC
  have HG := Z0.mk hg
  have HL := Z0.mk hl
  clear hob hC hg hl hr hc0
  refine callsIn_of_wp_marks Tryz.func10 rfl (hf _) ?_ hro
  simp only [Tryz.ntmps10, List.size_toArray, List.length_cons, List.length_nil, Nat.reduceAdd, Nat.reduceSub, Array.replicate_succ, Array.replicate_zero, List.push_toArray, List.append_toArray, List.nil_append, List.cons_append]
  gi_upto_region 1 with fail
  rw [← hW2, ← hq]
  clear hW2 hq
  gi_wp2
  refine (ofO_in Fence.wide _ (hf _) hro g og obj W2).mono ?_
  rintro e w' ⟨rfl, rfl⟩
  gi_wp2
  obtain ⟨wb, hwb⟩ : ∃ wb, wb = (W2.alloc (.cells #[.pointer (some ⟨g, og, none⟩)] 84)).alloc (.cells #[.string obj] 9) := ⟨_, rfl⟩
  obtain ⟨p, hp⟩ : ∃ p, p = W2.heap.size := ⟨_, rfl⟩
  have hBb : Below W2.heap.size W2 wb := by rw [hwb]; exact bal (bal (Below.refl _ _) _) _
  have hSb := HS2.out.step hBb
  have hpb : wb.heap[p]? = some (.cells #[.pointer (some ⟨g, og, none⟩)] 84 (0, 0)) := by rw [hwb, hp]; exact kal (blk_new W2 _) _
  have hqb : wb.heap[p + 1]? = some (.cells #[.string obj] 9 (0, 0)) := by
    have h := blk_new (W2.alloc (.cells #[.pointer (some ⟨g, og, none⟩)] 84)) (.cells #[.string obj] 9)
    rw [show (W2.alloc (.cells #[.pointer (some ⟨g, og, none⟩)] 84)).heap.size = W2.heap.size + 1 by simp] at h
    rw [hwb, hp]
    exact h
  have hqp : q + 1 < p := by rw [hp]; exact klt_ HS2.out.b2
  have hps : p + 1 < wb.heap.size := klt_ hqb
  rw [← hwb, ← hp]
  clear hwb hp hBb HS2
  have HSB := Z0.mk hSb
  have HQP := Z0.mk hqp
  have HPS := Z0.mk hps
  have HWS := Z0.mk hSb.below.size
  refine wpIn_rangeFunc_ownH hro (by decide) (gf := 53) (lb := #[.pointer (some ⟨p, 0, none⟩), .pointer (some ⟨p + 1, 0, none⟩)]) rfl (hf _) (enters_of Tryz.func53 (by kernel_rfl) rfl)
    (ofO_stops Fence.wide (5 - 1) (hf _) hro (by decide) p (p + 1) g og w wb A c es obj HOB.out HC.out hSb.below HG.out ((kcl hpb 0).trans rfl) ((kcl hqb 0).trans rfl)) KV.trans
    (fun W l o o' hl hb hcell hwalk => ⟨belowK_b (w := wb) HWS.out W l o o' hl hb hcell hwalk, fun k hk hlt => World.putObj_heap_other (by have := HPS.out; omega)⟩) (Below.refl _ _) (fun _ => rfl)
    (fun pre W => KV w p (p + 1) wb W ∧ ∃ v, WR w W q kind (runR kind n xs (pre.map stpE)).1 v (runR kind n xs (pre.map stpE)).2 #[.int .i64 0, .int .i64 0, .slice none 0 0])
    (fun _ _ _ => False)
    (fun pre W W' row h hg hr => by
      obtain ⟨⟨hB, hk⟩, v, hS⟩ := h
      have hr2 : ∀ r, row = some r → wb.heap.size ≤ r := fun r e => (hr r e).1
      have hws := HWS.out
      have hps := HPS.out
      refine ⟨⟨pw_below_grown hB row (Nat.le_trans hws hB.size) hg (fun r e => Nat.le_trans hws (hr2 r e)), fun k hk' hlt => (hg.block k (Nat.lt_of_lt_of_le hlt hB.size) (fun e => ?_)).trans (hk k hk' hlt)⟩, v, hS.grown hg (fun r e => Nat.le_trans hws (hr2 r e)) (fun r e => (hr r e).2)⟩
      have := hr2 k e.symm
      omega)
    (fun _ _ _ _ _ h _ _ => h.elim)
    ⟨⟨Below.refl _ _, fun _ _ _ => rfl⟩, _, hSb⟩
    (fun x a' W => ∃ Bx, q + 1 < Bx ∧ W.heap[Bx]? = some (.cells #[.string x.object, .int .i64 x.op, .string x.a, .string x.b, .int .i64 x.n, .int .i64 x.code, .string x.text, .int .i64 x.rn] 60 (0, 0)) ∧ a' = { tmps := #[.pointer (some ⟨g, og, none⟩), .string obj, .agg #[.int .i64 kind, .int .i64 n, .slice A0 xs.length c0], undef, undef, .pointer (some ⟨q, 0, none⟩), .pointer (some ⟨q + 1, 0, none⟩), .pointer (some ⟨Bx, 0, none⟩), .pointer (some ⟨g, og, none⟩), .string obj, .func (.func 53) #[] #[.pointer (some ⟨p, 0, none⟩), .pointer (some ⟨p + 1, 0, none⟩)], .agg #[.string x.object, .int .i64 x.op, .string x.a, .string x.b, .int .i64 x.n, .int .i64 x.code, .string x.text, .int .i64 x.rn], undef, undef, undef, undef, undef, undef, undef, undef, undef], defers := [] })
    (fun x a' _ X Y row hs hg hr => by
      obtain ⟨Bx, e1, e2, e3⟩ := hs
      exact ⟨Bx, e1, (hg.block Bx (Array.getElem?_eq_some_iff.1 e2).1 (fun e => by obtain ⟨_, o, ho, hc⟩ := hr Bx e.symm; rw [e2] at ho; cases ho; cases hc)).trans e2, e3⟩)
    ?assign ?body ?done ?stop
  case assign =>
    rintro l pre x W K ⟨hK, v, hS⟩ hA
    unfold entE
    gi_wp2
    have hB : Below W.heap.size W (W.alloc (.cells #[.string x.object, .int .i64 x.op, .string x.a, .string x.b, .int .i64 x.n, .int .i64 x.code, .string x.text, .int .i64 x.rn] 60)) := bal (Below.refl _ _) _
    have hv := KV.of_below (p := p) (q := p + 1) hS.below.size hB
    exact hA _ _ ((KeepsOthers.alloc _ _).from _) hv ⟨hK.trans hv, v, hS.step hB⟩ ⟨W.heap.size, klt_ hS.b2, World.alloc_heap_new W _, rfl⟩
  case body =>
    rintro l pre x a' W hl ⟨r, hr⟩ ⟨hK, v, hS⟩ ⟨Bx, hBx, bX, rfl⟩ hlt
    have hlen := runR_len kind (pre.map stpE) n xs
    rw [List.length_map] at hlen
    have HL6 := Z0.mk (show (runR kind n xs (pre.map stpE)).2.length < 1000000 by have := HL.out; omega)
    have HAP := Z0.mk (show runR kind n xs ((pre ++ [x]).map stpE) = applyR kind (runR kind n xs (pre.map stpE)).1 (runR kind n xs (pre.map stpE)).2 x.op x.a x.b x.n x.code x.text by rw [List.map_append]; exact runR_append kind _ n xs (stpE x))
    generalize runR kind n xs (pre.map stpE) = y at hS HL6 HAP
    obtain ⟨nj, xj⟩ := y
    dsimp only at hS HL6 HAP
    obtain ⟨Aj, cj, hvj, hcj, hCj⟩ := hS.row.here hS.below
    subst hvj
    have HS := Z0.mk hS
    have HK := Z0.mk hK
    have HCj := Z0.mk hCj
    have Hcj := Z0.mk hcj
    have HBX := Z0.mk bX
    have a0 := (kcl HS.out.b1 0).trans rfl
    have a1 := (kcl HS.out.b1 1).trans rfl
    have a2 := (kcl HS.out.b1 2).trans rfl
    have b0 := (kcl HBX.out 0).trans rfl
    have b1 := (kcl HBX.out 1).trans rfl
    have b2 := (kcl HBX.out 2).trans rfl
    have b3 := (kcl HBX.out 3).trans rfl
    have b4 := (kcl HBX.out 4).trans rfl
    have b5 := (kcl HBX.out 5).trans rfl
    have b6 := (kcl HBX.out 6).trans rfl
    have b7 := (kcl HBX.out 7).trans rfl
    clear hS hK hCj hcj bX hlen hr hl hpb hqb hqp hps hSb
    gi_wp2
    refine (CallsIn.inRound l (callsIn_wide.2 (adtApply.calls kind nj Aj cj xj x.op x.a x.b x.n x.code x.text x.rn _ HCj.out Hcj.out HL6.out))).mono ?_
    rintro e w6 ⟨v6, rfl, hO6, hB6⟩
    have HS6 := Z0.mk (HS.out.step hB6)
    have HST := Z0.mk (HS.out.store (n' := (applyR kind nj xj x.op x.a x.b x.n x.code x.text).1) hB6 hO6)
    have HAP2 := Z0.mk HAP.out.symm
    have HB6 := Z0.mk hB6
    generalize applyR kind nj xj x.op x.a x.b x.n x.code x.text = y at hO6 HST HAP2 HAP ⊢
    obtain ⟨n6, xs6⟩ := y
    dsimp only at hO6 HST HAP2 HAP ⊢
    obtain ⟨A6, m6, c6, hv6⟩ : ∃ A6 m6 c6, v6 = .slice A6 m6 c6 := by
      rcases hO6 with ⟨h, -⟩ | h
      · exact ⟨_, _, _, h⟩
      · obtain ⟨A3, c3, h⟩ := Kd.R_slice h
        exact ⟨_, _, _, h⟩
    subst hv6
    clear hO6 hB6 a0 a1 a2 b0 b1 b2 b3 b4 b5 b6 b7
    have a0 := (kcl HS6.out.b1 0).trans rfl
    have a1 := (kcl HS6.out.b1 1).trans rfl
    have a2 := (kcl HS6.out.b1 2).trans rfl
    have f0 := kfr HS6.out.b1 0
    have f1 := kfr HS6.out.b1 1
    have f2 := kfr HS6.out.b1 2
    gi_wp2
    have hB6 := HB6.out
    have hqp := HQP.out
    have hne : p ≠ q := by omega
    have hne2 : p + 1 ≠ q := by omega
    have hq0 := HS.out.ge
    have hkv : KV w p (p + 1) W (((w6.setCell ⟨q, 0, none⟩ (.int .i64 kind)).setCell ⟨q, 1, none⟩ (.int .i64 n6)).setCell ⟨q, 2, none⟩ (.slice A6 m6 c6)) := by
      have hb : Below w.heap.size W w6 := hB6.mono HS.out.below.size
      refine ⟨((hb.setCell (p := ⟨q, 0, none⟩) hq0 _).setCell (p := ⟨q, 1, none⟩) hq0 _).setCell (p := ⟨q, 2, none⟩) hq0 _, fun k hk hlt => ?_⟩
      have hkq : k ≠ q := by rcases hk with rfl | rfl <;> omega
      exact (set3_other w6 q _ _ _ k hkq).trans (hB6.block k hlt)
    refine ⟨?_, hkv, HK.out.trans hkv, .slice A6 m6 c6, ?_⟩
    · refine ⟨by have h9 := hkv.1.size; exact h9, fun k o hk ho hc => ?_⟩
      have hlt := (Array.getElem?_eq_some_iff.1 ho).1
      have hkq : k ≠ q := by
        rintro rfl
        rw [HS.out.b1] at ho
        cases ho
        cases hc
      exact (set3_other w6 q _ _ _ k hkq).trans ((hB6.block k hlt).trans ho)
    · rw [HAP.out]
      exact HST.out
  case done =>
    rintro D ys W hD rfl ⟨hK, v, hS⟩ hDk
    obtain ⟨Aj, cj, hvj, hcj, hCj⟩ := hS.row.here hS.below
    subst hvj
    have HS := Z0.mk hS
    have HD := Z0.mk hD
    have a0 := (kcl HS.out.b1 0).trans rfl
    have a1 := (kcl HS.out.b1 1).trans rfl
    have a2 := (kcl HS.out.b1 2).trans rfl
    have z0 := (kcl HS.out.b2 0).trans rfl
    have z1 := (kcl HS.out.b2 1).trans rfl
    have z2 := (kcl HS.out.b2 2).trans rfl
    have g0 := kfr HS.out.b2 0
    have g1 := kfr HS.out.b2 1
    have g2 := kfr HS.out.b2 2
    have HDK := Z0.mk hDk
    clear hS hcj hCj hK hpb hqb hqp hps hSb hDk hD
    obtain ⟨y, hy⟩ : ∃ y, y = runR kind n xs (List.map stpE ys) := ⟨_, rfl⟩
    rw [← hy] at HS a0 a1 a2
    have HY := Z0.mk hy
    clear hy
    obtain ⟨nj, xj⟩ := y
    dsimp only at HS a0 a1 a2
    gi_wp2
    obtain ⟨hd1, hd2, hd3⟩ := HS.out.done
    have hq0 := HS.out.ge
    have hK1 : (((W.setCell ⟨q + 1, 0, none⟩ (.int .i64 kind)).setCell ⟨q + 1, 1, none⟩ (.int .i64 nj)).setCell ⟨q + 1, 2, none⟩ (.slice Aj xj.length cj)).heap[D]? = some (.deferred (some [])) :=
      (KeepsOthers.setCell _ _ _).same D _ ((KeepsOthers.setCell _ _ _).same D _ ((KeepsOthers.setCell _ _ _).same D _ HDK.out rfl) rfl) rfl
    generalize ((W.setCell ⟨q + 1, 0, none⟩ (.int .i64 kind)).setCell ⟨q + 1, 1, none⟩ (.int .i64 nj)).setCell ⟨q + 1, 2, none⟩ (.slice Aj xj.length cj) = Wz at hd1 hd2 hd3 hK1 ⊢
    have hDw : w.heap.size ≤ D := Nat.le_trans HWS.out HD.out
    have hgz := grownBy_putObj' Wz D (.deferred none)
    have hDq : q + 1 ≠ D := by have := HD.out; have := HPS.out; have := HQP.out; omega
    refine ⟨by simp, .inl ⟨_, _, rfl, run_takeDeferred hK1, ?_⟩⟩
    refine ⟨_, results_cell_row rfl _ _ (q + 1) 24 #[.int .i64 kind, .int .i64 nj, .slice Aj xj.length cj] (0, 0) _ rfl ((World.putObj_heap_other hDq).trans hd1) Tryz.underlying24 rfl (by kernel_rfl), ?_⟩
    rw [← HY.out]
    exact ⟨_, rfl, hd2.grown hgz (fun r e => by cases e; exact ⟨_, hK1, rfl⟩), pw_below_grown hd3 (some D) hd3.size hgz (fun r e => by cases e; exact hDw)⟩
  case stop => exact fun _ _ _ _ _ _ h _ => h.elim
end Go.Proofs.YtjiblcncadekcaaGreat.PA

