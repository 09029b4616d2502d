import Derived.Test.YtodikgjanhihhaaProg
import Derived.Test.YtodikgjanhihhaaSUxWMore
import Derived.Test.YtodikgjanhihhaaSUxMBytes
namespace Go.Proofs.Ytodikgjanhihhaa
open Go.RowKit Go.Proofs.YtodikgjanhihhaaW.PrintWords Go.Proofs.YtodikgjanhihhaaW.PrintLast
def KeepT (w w1 : World) (ts : List Nat) : Prop := w.heap.size ≤ w1.heap.size ∧ ∀ i, i < w.heap.size → (∀ cells q fr, w.heap[i]? = some (.cells cells q fr) → q ∉ ts) → w1.heap[i]? = w.heap[i]?
theorem KeepT.refl (w : World) (ts : List Nat) : KeepT w w ts := ⟨Nat.le_refl _, fun _ _ _ => rfl⟩
theorem KeepT.trans {a b c : World} {ts : List Nat} (h : KeepT a b ts) (k : KeepT b c ts) : KeepT a c ts :=
  ⟨Nat.le_trans h.1 k.1, fun i hi ht => (k.2 i (Nat.lt_of_lt_of_le hi h.1) (fun cells q fr hb => ht cells q fr ((h.2 i hi ht).symm.trans hb))).trans (h.2 i hi ht)⟩
theorem KeepT.of_below {a b : World} {ts : List Nat} (h : Below a.heap.size a b) : KeepT a b ts := ⟨h.size, fun i hi _ => h.block i hi⟩
theorem eta {a b : World} {ts : List Nat} (h : KeepT a b ts) (o : Obj) : KeepT a (b.alloc o) ts := h.trans (KeepT.of_below (bal (Below.refl _ _) o))
theorem KeepT.set {a b : World} {ts : List Nat} (h : KeepT a b ts) {g : Nat} {cells : Array Value} {q : Nat} {fr : Nat × Nat} (hb : b.heap[g]? = some (.cells cells q fr)) (hq : q ∈ ts) (i : Nat) (u : Value) : KeepT a (b.setCell ⟨g, i, none⟩ u) ts := by
  refine ⟨by simpa using h.1, fun j hj ht => ?_⟩
  by_cases e : j = g
  · subst e
    exact absurd hq (ht cells q fr ((h.2 j hj ht).symm.trans hb))
  · exact (Below.heap_setCell b ⟨g, i, none⟩ u j e).trans (h.2 j hj ht)
theorem KeepT.grown {a b c : World} {ts : List Nat} (h : KeepT a b ts) {row : Option Nat} (hg : b.grownBy c row) (hr : ∀ k, row = some k → ∃ cells q fr, b.heap[k]? = some (.cells cells q fr) ∧ q ∈ ts) : KeepT a c ts := by
  refine ⟨Nat.le_trans h.1 hg.size, fun j hj ht => ?_⟩
  by_cases e : some j = row
  · obtain ⟨cells, q, fr, hb, hq⟩ := hr j e.symm
    exact absurd hq (ht cells q fr ((h.2 j hj ht).symm.trans hb))
  · exact (hg.block j (Nat.lt_of_lt_of_le hj h.1) e).trans (h.2 j hj ht)
theorem KeepT.R {α : Type} {d : Kd α} {e base : Nat} {w w1 : World} {ok : Nat → Prop} {v : Value} {xs : List α} {ts : List Nat} (h : d.R e w base ok v xs) (hk : KeepT w w1 ts) (ht : ∀ q, q ∈ e :: d.E → q ∉ ts) : d.R e w1 base ok v xs :=
  Kd.R_mono (Kd.R_move (Kd.R_bound h) (fun k hk2 => by
    obtain ⟨_, _, hlt, q, hq, cells, hc⟩ := hk2
    exact hk.2 k hlt (fun cells' q' fr hb => by
      rw [hc] at hb
      injection hb with hb
      injection hb with _ e2 _
      rw [← e2]; exact ht q hq))) (fun k h => h.1)
theorem KeepT.blk {w w1 : World} {ts : List Nat} {g : Nat} {cells : Array Value} {q : Nat} {fr : Nat × Nat} (hb : w.heap[g]? = some (.cells cells q fr)) (hk : KeepT w w1 ts) (hq : q ∉ ts) : w1.heap[g]? = some (.cells cells q fr) :=
  (hk.2 g (blk_lt hb) (fun cells' q' fr' hb' => by
    rw [hb] at hb'
    injection hb' with hb'
    injection hb' with _ e2 _
    rw [← e2]; exact hq)).trans hb
theorem KeepT.size {w w1 : World} {ts : List Nat} (hk : KeepT w w1 ts) : w.heap.size ≤ w1.heap.size := hk.1
theorem KeepT.oblk {w w1 : World} {ts : List Nat} {g : Nat} {o : Obj} (hb : w.heap[g]? = some o) (hk : KeepT w w1 ts) (hq : ∀ cells q fr, o = .cells cells q fr → q ∉ ts) : w1.heap[g]? = some o :=
  (hk.2 g (blk_lt hb) (fun _ _ _ hb' => hq _ _ _ (Option.some.inj (hb.symm.trans hb')))).trans hb
def OutT (w : World) (g : Nat) (t : TypeId) : Prop := ∃ cs, w.heap[g]? = some (.cells cs t (0, 0))
theorem OutT.mk {w : World} {g : Nat} {t : TypeId} {cs : Array Value} (h : w.heap[g]? = some (.cells cs t (0, 0))) : OutT w g t := ⟨cs, h⟩
theorem OutT.set {w : World} {g : Nat} {t : TypeId} (h : OutT w g t) (k i : Nat) (u : Value) : OutT (w.setCell ⟨k, i, none⟩ u) g t := by
  obtain ⟨cs, h⟩ := h
  by_cases e : g = k
  · subst e; exact ⟨_, blk_set h i u⟩
  · exact ⟨cs, blk_far h e u⟩
theorem C_one {k : IntKind} {W : World} {g : Nat} {n : Int} {e : Nat} {fr : Nat × Nat} (hb : W.heap[g]? = some (.cells #[.int k n] e fr)) : Kd.C (Kd.int k) W (some ⟨g, 0, none⟩) 1 [n] := by
  refine ⟨rfl, by omega, fun _ => ⟨⟨g, 0, none⟩, rfl, fun j p hj => ?_⟩⟩
  cases j with
  | zero =>
    simp only [List.getElem?_cons_zero, Option.some.injEq] at hj
    subst hj
    refine ⟨[.int k n], rfl, rfl, fun i u hu => ?_⟩
    cases i with
    | zero =>
      simp only [List.getElem?_cons_zero, Option.some.injEq] at hu
      subst hu
      simp [World.cell?, hb, Addr.add]
    | succ i => simp at hu
  | succ j => simp at hj
section
variable {P : Program} {ops : Array Oper} {o : Oper} {a : Act} {Q : Exit → Act → World → Prop} {Kc : Act → World → Prop}
theorem byte_step {E : Prop} {w0 w1 : World} (W : World) (hgd : o.guard = none) (s x : Operand) (t e : TypeId) (ho : o.op = .call { callee := .builtin .append, args := #[s, x], argTypes := #[t, t] })
    (ht : P.underlying t = some (.slice e)) (hinfo : (P.info? e).map (fun i => (i.zero, i.size, i.bytes)) = some (some (.int .u8 0), 1, 1))
    (v : Value) (xs : List Int) (p : Int) (hw1 : w1 = W.alloc (.cells #[.int .u8 p] e)) (g : Nat) (hs : a.eval s = v) (hx : a.eval x = .slice (some ⟨W.heap.size, 0, none⟩) 1 1) (hg : g < W.heap.size)
    (HO : Kd.R (Kd.int .u8) e W w0.heap.size (fun k => k ≠ g) v xs) (HB : Below w0.heap.size w0 W) (hl : xs.length + 1 ≤ 140737488355328)
    (h : ∀ v1 w1, Kd.R (Kd.int .u8) e w1 w0.heap.size (fun k => k ≠ g) v1 (xs ++ [p]) → Below w0.heap.size w0 w1 → W.grownBy w1 v.ownBlock → Kc (a.put o.dst v1) w1) :
    if Region.wanted o (yielded ops a.tmps) = true then Oper.wp P o a w1 Kc Q else E := by
  subst hw1
  have hw : Region.wanted o (yielded ops a.tmps) = true := by simp [Region.wanted, hgd]
  have h1 := Kd.R_append_step (P := P) (Q := Q) (Kc := Kc) (Kd.int .u8) (w0 := w0) (W := W) w0.heap.size hw s x t e (.int .u8 0) 1 ho ht hinfo rfl (by decide) (by omega) v xs p [.int .u8 p] (fun k => k ≠ g) (fun _ => False) hs hx rfl (fun _ hk => hk.elim) (fun k hk e => by omega) HO HB HB.size (by omega)
    (fun v1 w1 a1 a2 a3 _ => h v1 w1 a1 a2 a3)
  rw [if_pos hw] at h1 ⊢
  exact h1
end
def IsS62 (w0 W : World) (g : Nat) (s : ByteArray) : Prop :=
  w0.heap.size ≤ g ∧ ∃ v, W.heap[g]? = some (.cells #[v] 62 (0, 0)) ∧ Kd.R (Kd.int .u8) 5 W w0.heap.size (fun k => k ≠ g) v (bytesOf s)
section
variable {w0 W : World} {g : Nat} {s : ByteArray}
theorem IsS62.ge (h : IsS62 w0 W g s) : w0.heap.size ≤ g := h.1
theorem IsS62.lt (h : IsS62 w0 W g s) : g < W.heap.size := by obtain ⟨_, v, hb, _⟩ := h; exact blk_lt hb
theorem IsS62.below {W1 : World} (h : IsS62 w0 W g s) (hb : Below W.heap.size W W1) : IsS62 w0 W1 g s := by
  obtain ⟨hg, v, h1, h2⟩ := h
  exact ⟨hg, v, kbl h1 hb, Kd.R_below h2 hb⟩
theorem IsS62.alloc (h : IsS62 w0 W g s) (o : Obj) : IsS62 w0 (W.alloc o) g s := h.below (bal (Below.refl _ _) o)
theorem IsS62.drewN (h : IsS62 w0 W g s) (m : Nat) : IsS62 w0 (W.drewN m) g s := h
theorem IsS62.drew (h : IsS62 w0 W g s) : IsS62 w0 W.drew g s := h
theorem IsS62.at_ {w' : World} {m : Nat} (hq : W.drewN m = w') (h : IsS62 w0 W g s) : IsS62 w0 w' g s := by subst hq; exact h
theorem IsS62.grown {W1 : World} {row : Option Nat} (h : IsS62 w0 W g s) (hw : W.grownBy W1 row) (hr : ∀ k, row = some k → ∃ cells q fr, W.heap[k]? = some (.cells cells q fr) ∧ q ≠ 62 ∧ q ≠ 5) : IsS62 w0 W1 g s := by
  obtain ⟨hg, v, h1, h2⟩ := h
  refine ⟨hg, v, blk_grown h1 hw (fun e => ?_), Kd.R_mono (Kd.R_grown (Kd.R_bound h2) hw (fun k hk e => ?_)) (fun k hk => hk.1)⟩
  · obtain ⟨cells, q, fr, hb, hq, _⟩ := hr g e.symm
    rw [h1] at hb
    injection hb with hb
    injection hb with _ e2 _
    exact hq e2.symm
  · obtain ⟨_, _, _, q2, hq2, cells2, hc2⟩ := hk
    obtain ⟨cells, q, fr, hb, _, hq⟩ := hr k e.symm
    rw [hc2] at hb
    injection hb with hb
    injection hb with _ e2 _
    have : q2 = 5 := by
      rcases List.mem_cons.1 hq2 with h | h
      · exact h
      · exact absurd (show q2 ∈ ([] : List Nat) from h) (by simp)
    exact hq (e2.symm.trans this)
theorem IsS62.apart {α : Type} {d : Kd α} {e : Nat} {base : Nat} {ok : Nat → Prop} {v : Value} {xs : List α} (h : IsS62 w0 W g s) (ho : d.R e W base ok v xs) (ht : ∀ q, q ∈ e :: d.E → q ≠ 62) : d.R e W base (fun k => ok k ∧ k ≠ g) v xs := by
  obtain ⟨_, _, hb, _⟩ := h
  exact Kd.R_types ho hb ht
theorem IsS62.ne_blk {a : Nat} {cs : Array Value} {t : TypeId} {fr : Nat × Nat} (h : IsS62 w0 W g s) (hb2 : W.heap[a]? = some (.cells cs t fr)) (ht : t ≠ 62) : g ≠ a := by
  obtain ⟨_, _, hb, _⟩ := h
  rintro rfl
  rw [hb] at hb2
  injection hb2 with hb2
  injection hb2 with _ ht2
  exact ht ht2.symm
theorem IsS62.box {W1 : World} (hb : W1.heap[g]? = some (.cells #[.slice none 0 0] 62 (0, 0))) (hg : w0.heap.size ≤ g) : IsS62 w0 W1 g (⟨#[]⟩ : ByteArray) := ⟨hg, _, hb, Kd.R_nil _ _ _ _ _⟩
theorem IsS62.stored {v v1 : Value} {s' : ByteArray} (hg : w0.heap.size ≤ g) (hb : W.heap[g]? = some (.cells #[v] 62 (0, 0))) (ho : Kd.R (Kd.int .u8) 5 W w0.heap.size (fun k => k ≠ g) v1 (bytesOf s')) : IsS62 w0 (W.setCell ⟨g, 0, none⟩ v1) g s' :=
  ⟨hg, v1, by simpa using blk_set hb 0 v1, Kd.R_far ho (fun _ hk => hk) v1⟩
theorem IsS62.farT {p : Addr} {t2 : TypeId} (h : IsS62 w0 W g s) (hb2 : OutT W p.block t2) (h1 : t2 ≠ 62) (h2 : t2 ≠ 5) (u : Value) : IsS62 w0 (W.setCell p u) g s := by
  obtain ⟨cs, hb2⟩ := hb2
  have hne := h.ne_blk hb2 h1
  obtain ⟨hg, v, h3, h4⟩ := h
  refine ⟨hg, v, blk_far h3 hne u, Kd.R_mono (Kd.R_far (Kd.R_types h4 hb2 (fun q hq => ?_)) (fun _ hk => hk.2) u) (fun _ h => h.1)⟩
  rcases List.mem_cons.1 hq with h | h
  · rw [h]; exact fun e => h2 e.symm
  · exact absurd (show q ∈ ([] : List Nat) from h) (by simp)
end
end Go.Proofs.Ytodikgjanhihhaa

