import Derived.Test.YtjiblcncadekcaaGreatQOxWWords
import Derived.Test.YtjiblcncadekcaaGreatQOxWMore
import Derived.Laws.CopyOwn
import Derived.Laws.OwnMore
import Derived.Lib.Overlaps
import Derived.Lib.AppendZeros
import Derived.Lib.ConvBytes
import Derived.Laws.BytesArg
import Derived.Laws.BitsLemmas
import Derived.Below
import Derived.WalkKit
import Derived.Test.YtjiblcncadekcaaGreatProg
import Derived.RegionTactic
import Derived.ChangeAlike
import Derived.OwnWalk
import Derived.Deep.DeepMust
import Derived.Deep.RegionLaw
import Derived.Deep.LoopGhost
namespace Go.Proofs.YtjiblcncadekcaaGreat
open Go.RowKit Go.Proofs.YtjiblcncadekcaaGreatW.PrintWords Go.Proofs.YtjiblcncadekcaaGreatW.PrintLast Go.Proofs.YtjiblcncadekcaaGreatW.PrintMore
theorem run_copy_rowN {P : Program} (w : World) (dT sT ty e : TypeId) (i : TypeInfo) (g o dLen dCap : Nat) (a : Addr) (sLen sCap : Nat) (cur : Array Value) (cs : List Value)
    (hu : P.underlying dT = some (.slice e)) (hi : P.info? e = some i) (hg : w.heap[g]? = some (.cells cur e (0, 0))) (hn : cs.length = Nat.min sLen dLen * i.size)
    (hsrc : ∀ j v, cs[j]? = some v → w.cell? (a.add j) = some v) (hfit : o + cs.length ≤ cur.size) (h1 : ∀ v ∈ cs, v.oneCell' = true) :
    (Builtin.copy_ #[dT, sT] ty #[.slice (some ⟨g, o, none⟩) dLen dCap, .slice (some a) sLen sCap]).run P w =
      .ok (goInt (Nat.min sLen dLen)) (w.setRow g (cur.toList.take o ++ cs ++ cur.toList.drop (o + cs.length)).toArray) := by
  have hl := run_loadCells_list (P := P) w a cs hsrc
  have hst := run_storeCells_at P g o e cs 0 cur w hg (by simpa using hfit) h1
  simp [Builtin.copy_, run_underlying hu, Builtin.lenOf, Builtin.firstCells, sizeOf, typeInfo, hi, ← hn, hl, hst]
theorem run_append_zeros_grow {P : Program} (w : World) (t tn ty e : TypeId) (i : TypeInfo) (z : Value) (k kn : IntKind) (ht : P.underlying t = some (.slice e)) (htn : P.underlying tn = some (.int kn)) (hi : P.info? e = some i) (hz : i.zero = some z)
    (b : Addr) (sLen sCap : Nat) (olds : List Value) (hlo : olds.length = sLen * i.size) (holds : ∀ j v, olds[j]? = some v → w.cell? (b.add j) = some v)
    (n : Nat) (h0 : 0 < n) (hs : 0 < i.size) (hg : sCap < sLen + n) (h63 : ((sLen + n : Nat) : Int) ≤ 9223372036854775807) (h48 : n * i.bytes ≤ 281474976710656) (hfit : Builtin.nextslicecap (sLen + n) sCap * i.bytes ≤ 281474976710656) :
    (Builtin.append_ #[t, tn] ty #[.slice (some b) sLen sCap, .int k n]).run P w =
      .ok (.slice (some ⟨w.heap.size, 0, none⟩) (sLen + n) (grownCap w (sLen + n) sCap e))
        (w.drew.alloc (.cells (olds.toArray ++ Builtin.zeroCells z.cells n ++ Builtin.zeroCells z.cells (grownCap w (sLen + n) sCap e - (sLen + n))) e)) := by
  have hn : n ≠ 0 := by omega
  have hw : IntKind.i64.wrap (n : Int) = n := by rw [IntKind.wrap_i64]; omega
  have h48' : ¬ (281474976710656 < Builtin.nextslicecap (sLen + n) sCap * i.bytes) := by omega
  have h48i : ¬ (281474976710656 < (n : Int) * (i.bytes : Int)) := by
    rw [← Int.natCast_mul]
    omega
  have hneg : ¬ ((n : Int) < 0) := by omega
  have hns : ¬ (n * i.size = 0) := Nat.mul_ne_zero hn (by omega)
  have hroom : ¬ (sLen + n ≤ sCap) := by omega
  have h63' : ¬ (9223372036854775807 < ((sLen : Int) + (n : Int))) := by omega
  have hfo := run_firstCells_some (P := P) w.drew i.size sLen b sLen sCap olds hlo (by simpa using holds)
  simp [Builtin.append_, run_underlying ht, run_underlying htn, sizeOf, typeInfo, zeroValue, hi, hz, asInt, asIntOf, hw, hneg, hns, h63', h48', h48i, Question.forced, hroom, hfo, newRow, grownCap]
def encL {α : Type} (enc : α → List Value) (xs : List α) : List Value := xs.flatMap enc
section
variable {α : Type} {enc : α → List Value} {sz : Nat}
theorem encL_append (xs ys : List α) : encL enc (xs ++ ys) = encL enc xs ++ encL enc ys := List.flatMap_append
theorem encL_length (he : ∀ x, (enc x).length = sz) (xs : List α) : (encL enc xs).length = xs.length * sz := by
  induction xs with
  | nil => simp [encL]
  | cons x xs ih => simp only [encL, List.flatMap_cons, List.length_append, List.length_cons] at ih ⊢; rw [ih, he, Nat.succ_mul, Nat.add_comm]
theorem encL_take (he : ∀ x, (enc x).length = sz) (xs : List α) : ∀ i, (encL enc xs).take (i * sz) = encL enc (xs.take i) := by
  induction xs with
  | nil => intro i; simp [encL]
  | cons x xs ih =>
    intro i
    cases i with
    | zero => simp [encL]
    | succ i =>
      have := ih i
      simp only [encL, List.flatMap_cons, List.take_succ_cons] at this ⊢
      rw [Nat.succ_mul, Nat.add_comm, ← he x, List.take_length_add_append, he x, this]
theorem encL_drop (he : ∀ x, (enc x).length = sz) (xs : List α) : ∀ i, (encL enc xs).drop (i * sz) = encL enc (xs.drop i) := by
  induction xs with
  | nil => intro i; simp [encL]
  | cons x xs ih =>
    intro i
    cases i with
    | zero => simp [encL]
    | succ i =>
      have := ih i
      simp only [encL, List.flatMap_cons, List.drop_succ_cons] at this ⊢
      rw [Nat.succ_mul, Nat.add_comm, ← he x, List.drop_length_add_append, he x, this]
theorem encL_one (h1 : ∀ x, ∀ u ∈ enc x, u.oneCell' = true) (xs : List α) : ∀ u ∈ encL enc xs, u.oneCell' = true := by
  intro u hu
  obtain ⟨x, _, hx⟩ := List.mem_flatMap.1 hu
  exact h1 x u hx
theorem reps_enc {R : α → List Value → Prop} (he : ∀ x, (enc x).length = sz) (hR : ∀ x cs, R x cs ↔ cs = enc x) (xs : List α) : ∀ cs, Reps R sz xs cs ↔ cs = encL enc xs := by
  induction xs with
  | nil =>
    intro cs
    constructor
    · intro h; have := h.1; simp at this; simp [this, encL]
    · rintro rfl; exact Reps.none _ _
  | cons x xs ih =>
    intro cs
    constructor
    · intro h
      have h0 := h.2 0 x rfl
      rw [Nat.zero_mul, List.drop_zero, hR] at h0
      have ht : Reps R sz xs (cs.drop sz) := ⟨by rw [List.length_drop, h.1, List.length_cons, Nat.succ_mul]; omega, fun j p hj => by
        have := h.2 (j + 1) p hj
        rw [List.drop_drop, show sz + j * sz = (j + 1) * sz by rw [Nat.succ_mul]; omega]
        exact this⟩
      have := (ih _).1 ht
      rw [← List.take_append_drop sz cs, h0, this]
      simp [encL]
    · rintro rfl
      refine ⟨encL_length he _, fun j p hj => ?_⟩
      rw [encL_drop he, hR]
      have hd : (x :: xs).drop j = p :: (x :: xs).drop (j + 1) := by
        obtain ⟨hlt, e⟩ := List.getElem?_eq_some_iff.1 hj
        rw [List.drop_eq_getElem_cons hlt, e]
      rw [hd]
      simp only [encL, List.flatMap_cons]
      rw [← he p, List.take_left]
end
theorem rowC_iff {α : Type} {d : Kd α} {enc : α → List Value} (he : ∀ x, (enc x).length = d.sz) (hM : ∀ w base ok x cs, d.M w base ok x cs ↔ cs = enc x) {e : Nat} {w : World} {base : Nat} {v : Value} {xs : List α} :
    d.R e w base (fun _ => True) v xs ↔ w.ownsRow base e d.sz v xs.length (encL enc xs) := by
  constructor
  · rintro ⟨_, inner, ho, hr⟩
    rw [(reps_enc he (fun x cs => hM _ _ _ x cs) xs inner).1 hr] at ho
    exact ho
  · intro h
    exact ⟨fun _ _ => trivial, _, h, (reps_enc he (fun x cs => hM _ _ _ x cs) xs _).2 rfl⟩
theorem own_write {w : World} {base e sz g n cap : Nat} {cur : Array Value} {cs : List Value} (hb : base ≤ g) (hg : w.heap[g]? = some (.cells cur e (0, 0))) (hn : n ≤ cap) (hc : cap ≤ maxLen) (hs : cur.size = cap * sz) (o : Nat) (vs : List Value) (hf : o + vs.length ≤ cur.size)
    (ht : (cur.toList.take o ++ vs ++ cur.toList.drop (o + vs.length)).take (n * sz) = cs) (hl : cs.length = n * sz) :
    (w.setRow g (cur.toList.take o ++ vs ++ cur.toList.drop (o + vs.length)).toArray).ownsRow base e sz (.slice (some ⟨g, 0, none⟩) n cap) n cs := by
  refine ⟨hl, .inr ⟨g, cap, _, rfl, hb, setRow_heap w g cur _ e _ hg, hn, hc, ?_, by rw [List.toList_toArray]; exact ht⟩⟩
  simp only [List.size_toArray, List.length_append, List.length_take, List.length_drop, Array.length_toList]
  omega
theorem grown_setRow (w : World) (g : Nat) (cs : Array Value) : w.grownBy (w.setRow g cs) (some g) := ⟨rfl, rfl, rfl, by simp, fun k _ hk => setRow_other w g k _ (fun e => hk (by simp [e]))⟩
theorem wp_copy_runN {P : Program} (w : World) {o : Oper} {a : Act} {K : Act → World → Prop} {Q : Exit → Act → World → Prop} (d s : Operand) (t t' : TypeId)
    (ho : o.op = .call { callee := .builtin .copy, args := #[d, s], argTypes := #[t, t'] }) (v u : Value) (hd : a.eval d = v) (hs : a.eval s = u) {v' : Value} {w' : World}
    (hr : (Builtin.copy_ #[t, t'] o.type #[v, u]).run P w = .ok v' w') (h : K (a.put o.dst v') w') : o.wp P a w K Q := by
  unfold Oper.wp execOp
  simp only [ho, resolve, invoke, builtin, Sem.run_bind, Sem.run_pure, Result.andThen_ok, List.map_toArray, List.map_cons, List.map_nil, hd, hs, hr]
  exact h
theorem step_copy_runN {P : Program} {ops : Array Oper} {o : Oper} {a : Act} {w : World} {K : Act → World → Prop} {Q : Exit → Act → World → Prop} {E : Prop}
    (hg : o.guard = none) (d x : Operand) (dT sT : TypeId) (hop : o.op = Op.call { callee := Callee.builtin Builtin.copy, args := #[d, x], argTypes := #[dT, sT] })
    (v u : Value) (hd : a.eval d = v) (hx : a.eval x = u) {v' : Value} {w' : World} (hr : (Builtin.copy_ #[dT, sT] o.type #[v, u]).run P w = .ok v' w') (hK : K (a.put o.dst v') w') :
    if Region.wanted o (yielded ops a.tmps) = true then Oper.wp P o a w K Q else E := by
  have hw : Region.wanted o (yielded ops a.tmps) = true := by simp [Region.wanted, hg]
  rw [if_pos hw]
  exact wp_copy_runN w d x dT sT hop v u hd hx hr hK
theorem ins_cells (L E X : List Value) (a n s : Nat) (hE : L.take n = E) (ha : a ≤ n) (hX : X.length = s) (hL : n + s ≤ L.length) :
    ((L.take (a + s) ++ E.drop a ++ L.drop (a + s + (n - a))).take a ++ X ++ (L.take (a + s) ++ E.drop a ++ L.drop (a + s + (n - a))).drop (a + X.length)).take (n + s) = E.take a ++ X ++ E.drop a := by
  have hEl : E.length = n := by rw [← hE, List.length_take]; omega
  have h1 : (L.take (a + s) ++ E.drop a ++ L.drop (a + s + (n - a))).take a = E.take a := by
    rw [List.append_assoc, List.take_append_of_le_length (by rw [List.length_take]; omega), List.take_take, show min a (a + s) = a by omega, ← hE, List.take_take, show min a n = a by omega]
  have h2 : (L.take (a + s) ++ E.drop a ++ L.drop (a + s + (n - a))).drop (a + s) = E.drop a ++ L.drop (a + s + (n - a)) := by
    rw [List.append_assoc, List.drop_append_of_le_length (by rw [List.length_take]; omega), List.drop_of_length_le (by rw [List.length_take]; omega), List.nil_append]
  rw [hX, h1, h2, ← List.append_assoc, List.take_append_of_le_length (by simp only [List.length_append, List.length_take, List.length_drop]; omega), List.take_of_length_le (by simp only [List.length_append, List.length_take, List.length_drop]; omega)]
theorem grow_cells (L E X : List Value) (a n s : Nat) (hE : E.length = n) (ha : a ≤ n) (hL0 : L.take a = E.take a) (hX : X.length = s) (hL : n + s ≤ L.length) :
    ((L.take a ++ X ++ L.drop (a + s)).take (a + s) ++ E.drop a ++ (L.take a ++ X ++ L.drop (a + s)).drop (a + s + (E.drop a).length)).take (n + s) = E.take a ++ X ++ E.drop a := by
  have h1 : (L.take a ++ X ++ L.drop (a + s)).take (a + s) = E.take a ++ X := by
    rw [List.take_append_of_le_length (by simp only [List.length_append, List.length_take]; omega), List.take_of_length_le (by simp only [List.length_append, List.length_take]; omega), hL0]
  rw [h1, List.take_append_of_le_length (by simp only [List.length_append, List.length_take, List.length_drop]; omega), List.take_of_length_le (by simp only [List.length_append, List.length_take, List.length_drop]; omega)]
theorem run_clear_rowN {P : Program} (w : World) (t e ty : TypeId) (z : Value) (ht : P.underlying t = some (.slice e)) (hv : ∀ w, (zeroValue e).run P w = .ok z w) (g o n c : Nat) (cur : Array Value) (hg : w.heap[g]? = some (.cells cur e (0, 0))) (hn : 0 < n)
    (hfit : o + (Builtin.zeroCells z.cells n).toList.length ≤ cur.size) (h1 : ∀ v ∈ (Builtin.zeroCells z.cells n).toList, v.oneCell' = true) :
    (Builtin.clear_ #[t] ty #[.slice (some ⟨g, o, none⟩) n c]).run P w = .ok (.tuple #[]) (w.setRow g (cur.toList.take o ++ (Builtin.zeroCells z.cells n).toList ++ cur.toList.drop (o + (Builtin.zeroCells z.cells n).toList.length)).toArray) := by
  have hst := run_storeCells_at P g o e (Builtin.zeroCells z.cells n).toList 0 cur w hg (by simpa using hfit) h1
  simp only [Nat.add_zero] at hst
  obtain ⟨m, rfl⟩ : ∃ m, n = m + 1 := ⟨n - 1, by omega⟩
  simp only [Builtin.clear_, Sem.run_bind, run_underlying ht, Result.andThen_ok, List.getElem?_toArray, List.getElem?_cons_zero, hv, hst, Sem.run_pure]
theorem step_append_runN {P : Program} {ops : Array Oper} {o : Oper} {a : Act} {w : World} {K : Act → World → Prop} {Q : Exit → Act → World → Prop} {E : Prop}
    (hg : o.guard = none) (s x : Operand) (t tn : TypeId) (hop : o.op = .call { callee := .builtin .append, args := #[s, x], argTypes := #[t, tn] }) (vs vx : Value) (hs : a.eval s = vs) (hx : a.eval x = vx)
    (v' : Value) (w' : World) (hr : (Builtin.append_ #[t, tn] o.type #[vs, vx]).run P w = .ok v' w') (hK : K (a.put o.dst v') w') :
    if Region.wanted o (yielded ops a.tmps) = true then Oper.wp P o a w K Q else E := by
  have hw : Region.wanted o (yielded ops a.tmps) = true := by simp [Region.wanted, hg]
  rw [if_pos hw]
  exact Lib.wp_append_run w s x t tn hop vs vx hs hx v' w' hr hK
theorem del_cells (L E Z : List Value) (a n s : Nat) (hE : L.take (n + s) = E) (ha : a ≤ n) (hZ : Z.length = s) (hL : n + s ≤ L.length) :
    ((L.take a ++ E.drop (a + s) ++ L.drop (a + (E.drop (a + s)).length)).take n ++ Z ++ (L.take a ++ E.drop (a + s) ++ L.drop (a + (E.drop (a + s)).length)).drop (n + Z.length)).take n = E.take a ++ E.drop (a + s) := by
  have hEl : E.length = n + s := by rw [← hE, List.length_take]; omega
  have h1 : (L.take a ++ E.drop (a + s) ++ L.drop (a + (E.drop (a + s)).length)).take n = E.take a ++ E.drop (a + s) := by
    rw [List.take_append_of_le_length (by simp only [List.length_append, List.length_take, List.length_drop]; omega), List.take_of_length_le (by simp only [List.length_append, List.length_take, List.length_drop]; omega), ← hE, List.take_take, show min a (n + s) = a by omega]
  rw [h1, List.append_assoc, List.take_append_of_le_length (by simp only [List.length_append, List.length_take, List.length_drop]; omega), List.take_of_length_le (by simp only [List.length_append, List.length_take, List.length_drop]; omega)]
theorem grown_drew (w : World) (r : Option Nat) : w.grownBy w.drew r := ⟨rfl, rfl, rfl, Nat.le_refl _, fun _ _ _ => rfl⟩
theorem grown_two {w w1 w2 : World} {r : Option Nat} (h : w.grownBy w1 r) (k : w1.grownBy w2 r) : w.grownBy w2 r :=
  ⟨k.os.trans h.os, k.tape.trans h.tape, k.output.trans h.output, Nat.le_trans h.size k.size, fun x hx hr => (k.block x (Nat.lt_of_lt_of_le hx h.size) hr).trans (h.block x hx hr)⟩
theorem grown_new {w w1 : World} {r : Option Nat} (h : w.grownBy w1 r) {g : Nat} (hg : w.heap.size ≤ g) (cs : Array Value) : w.grownBy (w1.setRow g cs) r :=
  ⟨h.os, h.tape, h.output, by rw [size_setRow]; exact h.size, fun x hx hr => (setRow_other w1 g x _ (by omega)).trans (h.block x hx hr)⟩
end Go.Proofs.YtjiblcncadekcaaGreat

namespace Go.Proofs.YtjiblcncadekcaaGreat
open Go.RowKit Go.Proofs.YtjiblcncadekcaaGreatW.PrintWords
def ByteRow (w : World) (e g : Nat) (l : List UInt8) : Prop :=
  ∃ pad m, w.heap[g]? = some (.cells ((l.map fun b => Value.int .u8 b.toNat) ++ pad).toArray e m) ∧ l.length ≤ m.1
theorem ByteRow.cell {w : World} {e g : Nat} {l : List UInt8} (h : ByteRow w e g l) (i : Nat) (hi : i < l.length) : w.cell? ⟨g, i, none⟩ = some (.int .u8 (l.getD i 0).toNat) := by
  obtain ⟨pad, m, hb, hm⟩ := h
  simp [World.cell?, hb, List.getElem?_append, hi]
theorem ByteRow.frozen {w : World} {e g : Nat} {l : List UInt8} (h : ByteRow w e g l) (i : Nat) (hi : i < l.length) : w.frozen? ⟨g, i, none⟩ = false := by
  obtain ⟨pad, m, hb, hm⟩ := h
  simp [World.frozen?, hb]
  omega
theorem ByteRow.set {w : World} {e g : Nat} {l : List UInt8} (h : ByteRow w e g l) (i : Nat) (hi : i < l.length) (b : UInt8) : ByteRow (w.setCell ⟨g, i, none⟩ (.int .u8 b.toNat)) e g (l.set i b) := by
  obtain ⟨pad, m, hb, hm⟩ := h
  refine ⟨pad, m, ?_, by simpa using hm⟩
  simp [World.setCell, Array.getElem?_modify, hb, hi, List.map_set]
theorem ByteRow.drew {w : World} {e g : Nat} {l : List UInt8} (h : ByteRow w e g l) (n : Nat) : ByteRow (w.drewN n) e g l := h
theorem ByteRow.lt {w : World} {e g : Nat} {l : List UInt8} (h : ByteRow w e g l) : g < w.heap.size := by
  obtain ⟨pad, m, hb, hm⟩ := h
  exact klt_ hb
end Go.Proofs.YtjiblcncadekcaaGreat

namespace Go.Proofs.YtjiblcncadekcaaGreat
open Go.RowKit Go.Proofs.YtjiblcncadekcaaGreatW.PrintWords Go.Proofs.YtjiblcncadekcaaGreatW.PrintLast
def KeepT (w w1 : World) (ts : List Nat) : Prop := w.heap.size ≤ w1.heap.size ∧ ∀ i, i < w.heap.size → (∀ cells q fr, w.heap[i]? = some (.cells cells q fr) → q ∉ ts) → w1.heap[i]? = w.heap[i]?
theorem KeepT.refl (w : World) (ts : List Nat) : KeepT w w ts := ⟨Nat.le_refl _, fun _ _ _ => rfl⟩
theorem KeepT.trans {a b c : World} {ts : List Nat} (h : KeepT a b ts) (k : KeepT b c ts) : KeepT a c ts :=
  ⟨Nat.le_trans h.1 k.1, fun i hi ht => (k.2 i (Nat.lt_of_lt_of_le hi h.1) (fun cells q fr hb => ht cells q fr ((h.2 i hi ht).symm.trans hb))).trans (h.2 i hi ht)⟩
theorem KeepT.of_below {a b : World} {ts : List Nat} (h : Below a.heap.size a b) : KeepT a b ts := ⟨h.size, fun i hi _ => h.block i hi⟩
theorem eta {a b : World} {ts : List Nat} (h : KeepT a b ts) (o : Obj) : KeepT a (b.alloc o) ts := h.trans (KeepT.of_below (bal (Below.refl _ _) o))
theorem KeepT.set {a b : World} {ts : List Nat} (h : KeepT a b ts) {g : Nat} {cells : Array Value} {q : Nat} {fr : Nat × Nat} (hb : b.heap[g]? = some (.cells cells q fr)) (hq : q ∈ ts) (i : Nat) (u : Value) : KeepT a (b.setCell ⟨g, i, none⟩ u) ts := by
  refine ⟨by simpa using h.1, fun j hj ht => ?_⟩
  by_cases e : j = g
  · subst e
    exact absurd hq (ht cells q fr ((h.2 j hj ht).symm.trans hb))
  · exact (Below.heap_setCell b ⟨g, i, none⟩ u j e).trans (h.2 j hj ht)
theorem KeepT.grown {a b c : World} {ts : List Nat} (h : KeepT a b ts) {row : Option Nat} (hg : b.grownBy c row) (hr : ∀ k, row = some k → ∃ cells q fr, b.heap[k]? = some (.cells cells q fr) ∧ q ∈ ts) : KeepT a c ts := by
  refine ⟨Nat.le_trans h.1 hg.size, fun j hj ht => ?_⟩
  by_cases e : some j = row
  · obtain ⟨cells, q, fr, hb, hq⟩ := hr j e.symm
    exact absurd hq (ht cells q fr ((h.2 j hj ht).symm.trans hb))
  · exact (hg.block j (Nat.lt_of_lt_of_le hj h.1) e).trans (h.2 j hj ht)
theorem KeepT.R {α : Type} {d : Kd α} {e base : Nat} {w w1 : World} {ok : Nat → Prop} {v : Value} {xs : List α} {ts : List Nat} (h : d.R e w base ok v xs) (hk : KeepT w w1 ts) (ht : ∀ q, q ∈ e :: d.E → q ∉ ts) : d.R e w1 base ok v xs :=
  Kd.R_mono (Kd.R_move (Kd.R_bound h) (fun k hk2 => by
    obtain ⟨_, _, hlt, q, hq, cells, hc⟩ := hk2
    exact hk.2 k hlt (fun cells' q' fr hb => by
      rw [hc] at hb
      injection hb with hb
      injection hb with _ e2 _
      rw [← e2]; exact ht q hq))) (fun k h => h.1)
theorem KeepT.blk {w w1 : World} {ts : List Nat} {g : Nat} {cells : Array Value} {q : Nat} {fr : Nat × Nat} (hb : w.heap[g]? = some (.cells cells q fr)) (hk : KeepT w w1 ts) (hq : q ∉ ts) : w1.heap[g]? = some (.cells cells q fr) :=
  (hk.2 g (klt_ hb) (fun cells' q' fr' hb' => by
    rw [hb] at hb'
    injection hb' with hb'
    injection hb' with _ e2 _
    rw [← e2]; exact hq)).trans hb
theorem KeepT.size {w w1 : World} {ts : List Nat} (hk : KeepT w w1 ts) : w.heap.size ≤ w1.heap.size := hk.1
theorem KeepT.oblk {w w1 : World} {ts : List Nat} {g : Nat} {o : Obj} (hb : w.heap[g]? = some o) (hk : KeepT w w1 ts) (hq : ∀ cells q fr, o = .cells cells q fr → q ∉ ts) : w1.heap[g]? = some o :=
  (hk.2 g (klt_ hb) (fun _ _ _ hb' => hq _ _ _ (Option.some.inj (hb.symm.trans hb')))).trans hb
def OutT (w : World) (g : Nat) (t : TypeId) : Prop := ∃ cs, w.heap[g]? = some (.cells cs t (0, 0))
theorem OutT.mk {w : World} {g : Nat} {t : TypeId} {cs : Array Value} (h : w.heap[g]? = some (.cells cs t (0, 0))) : OutT w g t := ⟨cs, h⟩
theorem OutT.set {w : World} {g : Nat} {t : TypeId} (h : OutT w g t) (k i : Nat) (u : Value) : OutT (w.setCell ⟨k, i, none⟩ u) g t := by
  obtain ⟨cs, h⟩ := h
  by_cases e : g = k
  · subst e; exact ⟨_, blk_set h i u⟩
  · exact ⟨cs, blk_far h e u⟩
theorem C_one {k : IntKind} {W : World} {g : Nat} {n : Int} {e : Nat} {fr : Nat × Nat} (hb : W.heap[g]? = some (.cells #[.int k n] e fr)) : Kd.C (Kd.int k) W (some ⟨g, 0, none⟩) 1 [n] := by
  refine ⟨rfl, by omega, fun _ => ⟨⟨g, 0, none⟩, rfl, fun j p hj => ?_⟩⟩
  cases j with
  | zero =>
    simp only [List.getElem?_cons_zero, Option.some.injEq] at hj
    subst hj
    refine ⟨[.int k n], rfl, rfl, fun i u hu => ?_⟩
    cases i with
    | zero =>
      simp only [List.getElem?_cons_zero, Option.some.injEq] at hu
      subst hu
      simp [World.cell?, hb, Addr.add]
    | succ i => simp at hu
  | succ j => simp at hj
section
variable {P : Program} {ops : Array Oper} {o : Oper} {a : Act} {Q : Exit → Act → World → Prop} {Kc : Act → World → Prop}
theorem byte_step {E : Prop} {w0 w1 : World} (W : World) (hgd : o.guard = none) (s x : Operand) (t e : TypeId) (ho : o.op = .call { callee := .builtin .append, args := #[s, x], argTypes := #[t, t] })
    (ht : P.underlying t = some (.slice e)) (hinfo : (P.info? e).map (fun i => (i.zero, i.size, i.bytes)) = some (some (.int .u8 0), 1, 1))
    (v : Value) (xs : List Int) (p : Int) (hw1 : w1 = W.alloc (.cells #[.int .u8 p] e)) (g : Nat) (hs : a.eval s = v) (hx : a.eval x = .slice (some ⟨W.heap.size, 0, none⟩) 1 1) (hg : g < W.heap.size)
    (HO : Kd.R (Kd.int .u8) e W w0.heap.size (fun k => k ≠ g) v xs) (HB : Below w0.heap.size w0 W) (hl : xs.length + 1 ≤ 140737488355328)
    (h : ∀ v1 w1, Kd.R (Kd.int .u8) e w1 w0.heap.size (fun k => k ≠ g) v1 (xs ++ [p]) → Below w0.heap.size w0 w1 → W.grownBy w1 v.ownBlock → Kc (a.put o.dst v1) w1) :
    if Region.wanted o (yielded ops a.tmps) = true then Oper.wp P o a w1 Kc Q else E := by
  subst hw1
  have hw : Region.wanted o (yielded ops a.tmps) = true := by simp [Region.wanted, hgd]
  have h1 := Kd.R_append_step (P := P) (Q := Q) (Kc := Kc) (Kd.int .u8) (w0 := w0) (W := W) w0.heap.size hw s x t e (.int .u8 0) 1 ho ht hinfo rfl (by decide) (by omega) v xs p [.int .u8 p] (fun k => k ≠ g) (fun _ => False) hs hx rfl (fun _ hk => hk.elim) (fun k hk e => by omega) HO HB HB.size (by omega)
    (fun v1 w1 a1 a2 a3 _ => h v1 w1 a1 a2 a3)
  rw [if_pos hw] at h1 ⊢
  exact h1
end
def IsS112 (w0 W : World) (g : Nat) (s : ByteArray) : Prop :=
  w0.heap.size ≤ g ∧ ∃ v, W.heap[g]? = some (.cells #[v] 112 (0, 0)) ∧ Kd.R (Kd.int .u8) 5 W w0.heap.size (fun k => k ≠ g) v (bytesOf s)
section
variable {w0 W : World} {g : Nat} {s : ByteArray}
theorem IsS112.ge (h : IsS112 w0 W g s) : w0.heap.size ≤ g := h.1
theorem IsS112.lt (h : IsS112 w0 W g s) : g < W.heap.size := by obtain ⟨_, v, hb, _⟩ := h; exact klt_ hb
theorem IsS112.below {W1 : World} (h : IsS112 w0 W g s) (hb : Below W.heap.size W W1) : IsS112 w0 W1 g s := by
  obtain ⟨hg, v, h1, h2⟩ := h
  exact ⟨hg, v, kbl h1 hb, Kd.R_below h2 hb⟩
theorem IsS112.alloc (h : IsS112 w0 W g s) (o : Obj) : IsS112 w0 (W.alloc o) g s := h.below (bal (Below.refl _ _) o)
theorem IsS112.drewN (h : IsS112 w0 W g s) (m : Nat) : IsS112 w0 (W.drewN m) g s := h
theorem IsS112.drew (h : IsS112 w0 W g s) : IsS112 w0 W.drew g s := h
theorem IsS112.at_ {w' : World} {m : Nat} (hq : W.drewN m = w') (h : IsS112 w0 W g s) : IsS112 w0 w' g s := by subst hq; exact h
theorem IsS112.grown {W1 : World} {row : Option Nat} (h : IsS112 w0 W g s) (hw : W.grownBy W1 row) (hr : ∀ k, row = some k → ∃ cells q fr, W.heap[k]? = some (.cells cells q fr) ∧ q ≠ 112 ∧ q ≠ 5) : IsS112 w0 W1 g s := by
  obtain ⟨hg, v, h1, h2⟩ := h
  refine ⟨hg, v, kgr_ h1 hw (fun e => ?_), Kd.R_mono (Kd.R_grown (Kd.R_bound h2) hw (fun k hk e => ?_)) (fun k hk => hk.1)⟩
  · obtain ⟨cells, q, fr, hb, hq, _⟩ := hr g e.symm
    rw [h1] at hb
    injection hb with hb
    injection hb with _ e2 _
    exact hq e2.symm
  · obtain ⟨_, _, _, q2, hq2, cells2, hc2⟩ := hk
    obtain ⟨cells, q, fr, hb, _, hq⟩ := hr k e.symm
    rw [hc2] at hb
    injection hb with hb
    injection hb with _ e2 _
    have : q2 = 5 := by
      rcases List.mem_cons.1 hq2 with h | h
      · exact h
      · exact absurd (show q2 ∈ ([] : List Nat) from h) (by simp)
    exact hq (e2.symm.trans this)
theorem IsS112.apart {α : Type} {d : Kd α} {e : Nat} {base : Nat} {ok : Nat → Prop} {v : Value} {xs : List α} (h : IsS112 w0 W g s) (ho : d.R e W base ok v xs) (ht : ∀ q, q ∈ e :: d.E → q ≠ 112) : d.R e W base (fun k => ok k ∧ k ≠ g) v xs := by
  obtain ⟨_, _, hb, _⟩ := h
  exact Kd.R_types ho hb ht
theorem IsS112.ne_blk {a : Nat} {cs : Array Value} {t : TypeId} {fr : Nat × Nat} (h : IsS112 w0 W g s) (hb2 : W.heap[a]? = some (.cells cs t fr)) (ht : t ≠ 112) : g ≠ a := by
  obtain ⟨_, _, hb, _⟩ := h
  rintro rfl
  rw [hb] at hb2
  injection hb2 with hb2
  injection hb2 with _ ht2
  exact ht ht2.symm
theorem IsS112.box {W1 : World} (hb : W1.heap[g]? = some (.cells #[.slice none 0 0] 112 (0, 0))) (hg : w0.heap.size ≤ g) : IsS112 w0 W1 g (⟨#[]⟩ : ByteArray) := ⟨hg, _, hb, Kd.R_nil _ _ _ _ _⟩
theorem IsS112.stored {v v1 : Value} {s' : ByteArray} (hg : w0.heap.size ≤ g) (hb : W.heap[g]? = some (.cells #[v] 112 (0, 0))) (ho : Kd.R (Kd.int .u8) 5 W w0.heap.size (fun k => k ≠ g) v1 (bytesOf s')) : IsS112 w0 (W.setCell ⟨g, 0, none⟩ v1) g s' :=
  ⟨hg, v1, by simpa using blk_set hb 0 v1, Kd.R_far ho (fun _ hk => hk) v1⟩
theorem IsS112.farT {p : Addr} {t2 : TypeId} (h : IsS112 w0 W g s) (hb2 : OutT W p.block t2) (h1 : t2 ≠ 112) (h2 : t2 ≠ 5) (u : Value) : IsS112 w0 (W.setCell p u) g s := by
  obtain ⟨cs, hb2⟩ := hb2
  have hne := h.ne_blk hb2 h1
  obtain ⟨hg, v, h3, h4⟩ := h
  refine ⟨hg, v, blk_far h3 hne u, Kd.R_mono (Kd.R_far (Kd.R_types h4 hb2 (fun q hq => ?_)) (fun _ hk => hk.2) u) (fun _ h => h.1)⟩
  rcases List.mem_cons.1 hq with h | h
  · rw [h]; exact fun e => h2 e.symm
  · exact absurd (show q ∈ ([] : List Nat) from h) (by simp)
end
end Go.Proofs.YtjiblcncadekcaaGreat

namespace Go.Proofs.YtjiblcncadekcaaGreat
open Go.RowKit Go.Proofs.YtjiblcncadekcaaGreatW.PrintWords Go.Proofs.YtjiblcncadekcaaGreatW.PrintLast
def nlen (n : Nat) : Nat := if n = 0 then 0 else nlen (n / 256) + 1
termination_by n
decreasing_by omega
def dig (n m : Nat) : UInt8 := UInt8.ofNat (n / 256 ^ m % 256)
def digs (n : Nat) : Nat → List UInt8
  | 0 => []
  | m + 1 => dig n m :: digs n m
def numB (n : Nat) : List UInt8 := UInt8.ofNat (nlen n) :: digs n (nlen n)
theorem nlen_zero : nlen 0 = 0 := by rw [nlen]; simp
theorem nlen_pos (n : Nat) (h : n ≠ 0) : nlen n = nlen (n / 256) + 1 := by rw [nlen, if_neg h]
theorem nlen_le (k : Nat) : ∀ n, n < 256 ^ k → nlen n ≤ k := by
  induction k with
  | zero => intro n h; obtain rfl : n = 0 := by simpa using h
            rw [nlen_zero]; omega
  | succ k ih =>
    intro n h
    by_cases hn : n = 0
    · rw [hn, nlen_zero]; omega
    · rw [nlen_pos n hn]
      have := ih (n / 256) (by rw [Nat.pow_succ] at h; omega)
      omega
theorem digs_length (n m : Nat) : (digs n m).length = m := by
  induction m with
  | zero => rfl
  | succ m ih => rw [digs, List.length_cons, ih]
theorem numB_length (n : Nat) (h : n < 18446744073709551616) : (numB n).length ≤ 9 := by
  rw [numB, List.length_cons, digs_length]
  have := nlen_le 8 n (by simpa using h)
  omega
theorem put_size (s : ByteArray) (l : List UInt8) : (⟨(s.data.toList ++ l).toArray⟩ : ByteArray).size = s.size + l.length := by
  show (s.data.toList ++ l).toArray.size = _
  rw [List.size_toArray, List.length_append, Array.length_toList]
  rfl
theorem wrap_u64_in (m : Nat) (h : m < 18446744073709551616) : IntKind.u64.wrap (m : Int) = m := by
  simp [IntKind.wrap, IntKind.bits, IntKind.signed]
  omega
def codec_Out_U.f (s : ByteArray) (l : List Int) : Option ByteArray :=
  if s.size + 9 * l.length ≤ 140737488351232 ∧ ∀ n ∈ l, 0 ≤ n ∧ n < 18446744073709551616 then some ⟨(s.data.toList ++ (l.map fun n => numB n.toNat).flatten).toArray⟩ else none
theorem infoU8 : (Tryz.prog.info? 5).map (fun i => (i.zero, i.size, i.bytes)) = some (some (.int .u8 0), 1, 1) := by kernel_rfl
set_option maxHeartbeats 1000000 in
theorem codec_Out_U.calls (g : Nat) (s0_0 : ByteArray) (A1 : Option Addr) (c1 : Nat) (l1 : List Int) (r1 : ByteArray) (w0 w : World) (hI : IsS112 w0 w g s0_0) (hB : Below w0.heap.size w0 w)
    (_hr1 : Kd.C (Kd.int .u64) w A1 l1.length l1) (_hc1 : l1.length ≤ c1) (hf1 : ∀ W_, KeepT w W_ [112, 5] → Kd.C (Kd.int .u64) W_ A1 l1.length l1) (h : codec_Out_U.f s0_0 l1 = some r1) :
    Calls Tryz.prog 66 #[.pointer (some ⟨g, 0, none⟩), .slice A1 l1.length c1] w fun e w' => e = .returned (.pointer (some ⟨g, 0, none⟩)) ∧ IsS112 w0 w' g r1 ∧ Below w0.heap.size w0 w' ∧ KeepT w w' [112, 5] := by
  unfold codec_Out_U.f at h
  by_cases c : s0_0.size + 9 * l1.length ≤ 140737488351232 ∧ ∀ n ∈ l1, 0 ≤ n ∧ n < 18446744073709551616
  rotate_left
  · rw [if_neg c] at h; cases h
  rw [if_pos c] at h
  obtain ⟨hsz, hw1⟩ := c
  obtain rfl := Option.some.inj h
  clear h
  have HW := Z0.mk hw1
  clear hw1
  have HI := Z0.mk hI
  have HB := Z0.mk hB
  have HF := Z0.mk hf1
  clear hI hB hf1 _hr1
  go_enter Tryz.func66, Tryz.ntmps66
  go_wp2
  have HI0 : Z0 (IsS112 w0 w g ⟨(s0_0.data.toList ++ ((l1.take 0).map fun n => numB n.toNat).flatten).toArray⟩) := by simpa using HI
  have HK0 := Z0.mk (KeepT.refl w [112, 5])
  go_loopw [12] (fun v12 wr => ∃ (i : Nat) (s : ByteArray), v12 = .int .i64 i ∧ i ≤ l1.length ∧ Z0 (s.size ≤ s0_0.size + 9 * i) ∧ Z0 (s = ⟨(s0_0.data.toList ++ ((l1.take i).map fun n => numB n.toNat).flatten).toArray⟩) ∧ Z0 (IsS112 w0 wr g s) ∧ Z0 (Below w0.heap.size w0 wr) ∧ Z0 (KeepT w wr [112, 5])) (fun v12 _ => l1.length - (intOf v12).toNat)
  case atStart => exact ⟨0, s0_0, rfl, Nat.zero_le _, ⟨by omega⟩, ⟨by simp⟩, HI, HB, HK0⟩
  case round =>
    obtain ⟨i, s, rfl, hi, HS, HE, HI1, HB1, HK1⟩ := hrel
    clear HI0 HK0
    by_cases c1 : i < l1.length
    · have hC := HF.out wr HK1.out
      have hp : (0 : Int) ≤ (i : Int) := by omega
      have hq : (i : Int) < (l1.length : Int) := by omega
      obtain ⟨ad, e1, hx⟩ := Kd.at_int hC (i : Int) hp hq
      cases e1
      obtain ⟨n, hn, hnl⟩ : ∃ n : Nat, rd l1 (i : Int) = (n : Int) ∧ n < 18446744073709551616 := by
        have hm := HW.out (l1[i]) (List.getElem_mem c1)
        have he : rd l1 (i : Int) = l1[i] := by simp [rd, List.getD_eq_getElem?_getD, c1]
        rw [he]
        exact ⟨(l1[i]).toNat, by omega, by omega⟩
      rw [hn, Int.toNat_natCast] at hx
      have HN := Z0.mk hn
      have hl8 : nlen n ≤ 8 := nlen_le 8 n (by simpa using hnl)
      have HL := Z0.mk hnl
      clear hn hnl hp hq hC
      go_wp2
      go_loop [7, 8] (fun v7 v8 => ∃ j x : Nat, v7 = .int .i64 j ∧ v8 = .int .u64 x ∧ Z0 (j + nlen x = nlen n) ∧ Z0 (x ≤ n)) (fun _ v8 => nlen (intOf v8).toNat)
      case atStart => exact ⟨0, n, rfl, rfl, ⟨by omega⟩, ⟨Nat.le_refl _⟩⟩
      case round =>
        obtain ⟨j, x, rfl, rfl, HJ, HX⟩ := hrel
        by_cases c2 : 0 < x
        · have hj := HJ.out
          have hxl := nlen_pos x (by omega)
          have hj8 : j ≤ 8 := by omega
          clear hj hxl
          go_wp2
          go_round
          case rel => exact ⟨j + 1, x / 256, by go_num, by go_num, ⟨by have := HJ.out; have := nlen_pos x (by omega); omega⟩, ⟨by have := HX.out; omega⟩⟩
          case measure => have := nlen_pos x (by omega); simp [intOf]; rw [show ((x : Int) / 256).toNat = x / 256 by omega]; omega
        · obtain rfl : x = 0 := by omega
          have hj : j = nlen n := by have := HJ.out; rw [nlen_zero] at this; omega
          subst hj
          clear HJ HX c2
          obtain ⟨hgg, v, hbk, hR⟩ := HI1.out
          have HG := Z0.mk hgg
          have HBK := Z0.mk hbk
          have HR := Z0.mk hR
          have hcell : wr.cell? ⟨g, 0, none⟩ = some v := (kcl hbk 0).trans rfl
          clear hgg hbk hR
          go_wp2_with (at_builtin; refine Kd.R_append (Kd.int .u8) (w0 := w0) w0.heap.size rfl (.tmp 27) (.tmp 30) 110 5 (.int .u8 0) 1 rfl Tryz.underlying110 infoU8 rfl (by decide) (by omega) v (bytesOf s) ((nlen n : Nat) : Int) [.int .u8 ((nlen n : Nat) : Int)] (fun k => k ≠ g) (fun _ => False) rfl rfl ?aP (fun _ hk => hk.elim) ?aF ?aO ?aB ?aS ?aL ?_; (case aP => exact rfl); (case aB => exact HB1.out); (case aF => exact (fun k hk e => by have := klt_ HBK.out; omega)); (case aO => exact HR.out); (case aS => exact HB1.out.size); (case aL => have h9 := HS.out; rw [bytesOf_length]; omega); intro v1 w1 ho hb hg1 hat; have hb2 := kgr_ HBK.out hg1 (Kd.R_ne HR.out HBK.out (by decide)); have hcell2 : w1.cell? ⟨g, 0, none⟩ = some v := (kcl hb2 0).trans rfl; have hfr2 := kfr hb2 0; have HK2 := Z0.mk (KeepT.grown HK1.out hg1 (fun k hk => by obtain ⟨cs, hcs⟩ := Kd.R_typed HR.out k hk; exact ⟨cs, 5, _, hcs, by decide⟩)); obtain ⟨A2, k2, e2⟩ := Kd.R_slice ho; subst e2; have HO := Z0.mk ho; have HB2 := Z0.mk hb; have HBK2 := Z0.mk hb2; clear ho hb hg1 hat hb2)
          obtain ⟨W2, hW2⟩ : ∃ W2, W2 = w1.setCell ⟨g, 0, none⟩ (.slice A2 ((bytesOf s).length + 1) k2) := ⟨_, rfl⟩
          have HI2 : Z0 (IsS112 w0 W2 g ⟨(s.data.toList ++ [UInt8.ofNat (nlen n)]).toArray⟩) := ⟨by
            rw [hW2]
            refine IsS112.stored HG.out HBK2.out ?_
            have h9 := HO.out
            rw [List.length_append] at h9
            have e9 : bytesOf ⟨(s.data.toList ++ [UInt8.ofNat (nlen n)]).toArray⟩ = bytesOf s ++ [((nlen n : Nat) : Int)] := by
              simp [bytesOf]; omega
            rw [e9]
            exact h9⟩
          have HB3 : Z0 (Below w0.heap.size w0 W2) := ⟨by rw [hW2]; exact HB2.out.setCell HG.out _⟩
          have HK3 : Z0 (KeepT w W2 [112, 5]) := ⟨by rw [hW2]; exact HK2.out.set HBK2.out (by decide) _ _⟩
          rw [← hW2]
          clear hW2 HO HB2 HBK2 HK2 hcell hcell2 hfr2 HBK HR HG
          obtain ⟨wo, rfl⟩ : ∃ wo : World, wo = wr := ⟨_, rfl⟩
          go_loopw [9] (fun v9 wq => ∃ (m : Nat) (s2 : ByteArray), v9 = .int .i64 ((m : Int) - 1) ∧ m ≤ nlen n ∧ Z0 (s2.data.toList ++ digs n m = s.data.toList ++ numB n) ∧ Z0 (s2.size + m = s.size + 1 + nlen n) ∧ Z0 (IsS112 w0 wq g s2) ∧ Z0 (Below w0.heap.size w0 wq) ∧ Z0 (KeepT w wq [112, 5])) (fun v9 _ => (intOf v9 + 1).toNat)
          case atStart => exact ⟨nlen n, ⟨(s.data.toList ++ [UInt8.ofNat (nlen n)]).toArray⟩, rfl, Nat.le_refl _, ⟨by rw [numB]; exact List.append_assoc _ _ _⟩, ⟨by show (s.data.toList ++ [UInt8.ofNat (nlen n)]).toArray.size + nlen n = _; rw [List.size_toArray, List.length_append, Array.length_toList]; rfl⟩, HI2, HB3, HK3⟩
          case round =>
            clear HI2 HB3 HK3
            obtain ⟨m, s2, rfl, hm, HD, HZ, HI4, HB4, HK4⟩ := hrel
            cases m with
            | zero =>
              rw [show ((0 : Nat) : Int) - 1 = -1 from rfl]
              go_wp2
              go_roundw
              case rel => exact ⟨i + 1, s2, by go_num, by omega, ⟨by have h9 := HZ.out; have h8 := HS.out; omega⟩, ⟨by
                have h9 := HD.out
                have hE := HE.out
                rw [digs, List.append_nil] at h9
                have hn2 : (l1[i]).toNat = n := by have h7 := HN.out; have he : rd l1 (i : Int) = l1[i] := (by simp [rd, List.getD_eq_getElem?_getD, c1]); rw [he] at h7; omega
                have hl : s2.data.toList = s0_0.data.toList ++ ((l1.take (i + 1)).map fun n => numB n.toNat).flatten := by
                  rw [h9, hE, List.take_succ_eq_append_getElem c1, List.map_append, List.flatten_append, List.map_cons, List.map_nil, List.flatten_cons, List.flatten_nil, hn2, List.append_nil, ← List.append_assoc]
                rw [← hl]⟩, HI4, HB4, HK4⟩
              case measure => simp [intOf]; omega
            | succ m =>
              rw [show ((m + 1 : Nat) : Int) - 1 = (m : Int) by omega]
              go_wp2
              obtain ⟨hgg, v4, hbk, hR⟩ := HI4.out
              have HG := Z0.mk hgg
              have HBK := Z0.mk hbk
              have HR := Z0.mk hR
              have hcell : wr.cell? ⟨g, 0, none⟩ = some v4 := (kcl hbk 0).trans rfl
              obtain ⟨q, hq⟩ : ∃ q, q = n / 256 ^ m := ⟨_, rfl⟩
              have hsf : Op.shift BinOp.shr IntKind.u64 (n : Int) IntKind.i64 (IntKind.i64.wrap (8 * (m : Int))) = pure (.int .u64 ((q : Nat) : Int)) := by
                rw [IntKind.wrap_i64, show (8 * (m : Int) + 9223372036854775808) % 18446744073709551616 - 9223372036854775808 = 8 * (m : Int) by omega, shift_shr _ _ _ _ (by omega) (by simp [IntKind.bits]; omega), hq]
                congr 2
                rw [show (8 * (m : Int)).toNat = 8 * m by omega, show (256 : Nat) = 2 ^ 8 from rfl, ← Nat.pow_mul]
                simp
              have HQ := Z0.mk hq
              clear hgg hbk hR hq
              have hd : (dig n m).toNat = q % 256 := by rw [HQ.out, dig, UInt8.toNat_ofNat']; omega
              have hlt := klt_ HBK.out
              have hlen : (bytesOf s2).length + 1 ≤ 140737488355328 := by have h9 := HZ.out; have h8 := HS.out; rw [bytesOf_length]; omega
              have T1 := fun (ops : Array Oper) (o : Oper) (a : Act) (Q : Exit → Act → World → Prop) (Kc : Act → World → Prop) (E : Prop) (hgd : o.guard = none) (ho : o.op = .call { callee := .builtin .append, args := #[(.tmp 44), (.tmp 50)], argTypes := #[110, 110] }) => byte_step (P := Tryz.prog) (ops := ops) (o := o) (a := a) (Q := Q) (Kc := Kc) (E := E) (w0 := w0) (w1 := (wr.alloc (.cells #[.int .u8 ((q : Int) % 256)] 5)).drew) wr.drew hgd (.tmp 44) (.tmp 50) 110 5 ho Tryz.underlying110 infoU8 v4 (bytesOf s2) ((q : Int) % 256) rfl g
              have T2 := fun ops o a Q Kc E hgd ho hs hx h => T1 ops o a Q Kc E hgd ho hs hx hlt HR.out HB4.out.drew hlen h
              have HT2 := Z0.mk T2
              have HBKd : Z0 (wr.drew.heap[g]? = some (.cells #[v4] 112 (0, 0))) := ⟨HBK.out⟩
              have HRd : Z0 (Kd.R (Kd.int .u8) 5 wr.drew w0.heap.size (fun k => k ≠ g) v4 (bytesOf s2)) := ⟨HR.out⟩
              have HKd : Z0 (KeepT w wr.drew [112, 5]) := ⟨HK4.out⟩
              clear T1 T2
              go_region_law (refine HT2.out _ _ _ _ _ _ rfl rfl (by simp [Act.eval]) (by simp [Act.eval]) ?_; intro v1 w1 ho hb hg1; have hb2 := kgr_ HBKd.out hg1 (Kd.R_ne HRd.out HBKd.out (by decide)); have hcell2 : w1.cell? ⟨g, 0, none⟩ = some v4 := (kcl hb2 0).trans rfl; have hfr2 := kfr hb2 0; have HK5 := Z0.mk (KeepT.grown HKd.out hg1 (fun k hk => by obtain ⟨cs, hcs⟩ := Kd.R_typed HRd.out k hk; exact ⟨cs, 5, _, hcs, by decide⟩)); obtain ⟨A2, k2, e2⟩ := Kd.R_slice ho; subst e2; have HO := Z0.mk ho; have HB5 := Z0.mk hb; have HBK2 := Z0.mk hb2; clear ho hb hg1 hb2)
              all_goals
                obtain ⟨W5, hW5⟩ : ∃ W5, W5 = w1.setCell ⟨g, 0, none⟩ (.slice A2 ((bytesOf s2).length + 1) k2) := ⟨_, rfl⟩
                have HI5 : Z0 (IsS112 w0 W5 g ⟨(s2.data.toList ++ [dig n m]).toArray⟩) := ⟨by
                  rw [hW5]
                  refine IsS112.stored HG.out HBK2.out ?_
                  have h9 := HO.out
                  rw [List.length_append] at h9
                  have e9 : bytesOf ⟨(s2.data.toList ++ [dig n m]).toArray⟩ = bytesOf s2 ++ [(q : Int) % 256] := by
                    have : ((dig n m).toNat : Int) = (q : Int) % 256 := by rw [hd]; omega
                    simp [bytesOf, this]
                  rw [e9]
                  exact h9⟩
                have HB6 : Z0 (Below w0.heap.size w0 W5) := ⟨by rw [hW5]; exact HB5.out.setCell HG.out _⟩
                have HK6 : Z0 (KeepT w W5 [112, 5]) := ⟨by rw [hW5]; exact HK5.out.set HBK2.out (by decide) _ _⟩
                rw [← hW5]
                clear hW5 HO HB5 HBK2 HK5 hcell hcell2 hfr2 HBK HR HG hd hlt hlen HT2 HBKd HRd HKd hsf
                go_wp2
                go_roundw
                case rel => exact ⟨m, ⟨(s2.data.toList ++ [dig n m]).toArray⟩, by go_num, by omega, ⟨by have h9 := HD.out; rw [digs] at h9; show (s2.data.toList ++ [dig n m]) ++ digs n m = _; rw [← h9]; simp⟩, ⟨by have h9 := HZ.out; show (s2.data.toList ++ [dig n m]).toArray.size + m = _; rw [List.size_toArray, List.length_append, Array.length_toList]; show s2.size + 1 + m = _; omega⟩, HI5, HB6, HK6⟩
                case measure => simp [intOf] <;> omega
    · obtain rfl : i = l1.length := by omega
      have hE := HE.out
      rw [List.take_length] at hE
      subst hE
      go_wp2
      go_ret
      exact ⟨rfl, HI1.out, HB1.out, HK1.out⟩
end Go.Proofs.YtjiblcncadekcaaGreat

