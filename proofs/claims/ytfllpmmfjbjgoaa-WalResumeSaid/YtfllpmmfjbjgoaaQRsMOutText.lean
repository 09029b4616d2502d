import Derived.Test.YtfllpmmfjbjgoaaProg
import Derived.Test.YtfllpmmfjbjgoaaQRsWMore
import Derived.Test.YtfllpmmfjbjgoaaQRsMCrcMath
import Derived.RegionTactic
import Derived.ChangeAlike
import Derived.OwnWalk
import Derived.Deep.DeepMust
import Derived.Deep.RegionLaw
import Derived.Deep.LoopGhost
namespace Go.Proofs.Ytfllpmmfjbjgoaa
open Go.RowKit Go.Proofs.YtfllpmmfjbjgoaaW.PrintWords Go.Proofs.YtfllpmmfjbjgoaaW.PrintLast
def KeepT (w w1 : World) (ts : List Nat) : Prop := w.heap.size ≤ w1.heap.size ∧ ∀ i, i < w.heap.size → (∀ cells q fr, w.heap[i]? = some (.cells cells q fr) → q ∉ ts) → w1.heap[i]? = w.heap[i]?
theorem KeepT.refl (w : World) (ts : List Nat) : KeepT w w ts := ⟨Nat.le_refl _, fun _ _ _ => rfl⟩
theorem KeepT.trans {a b c : World} {ts : List Nat} (h : KeepT a b ts) (k : KeepT b c ts) : KeepT a c ts :=
  ⟨Nat.le_trans h.1 k.1, fun i hi ht => (k.2 i (Nat.lt_of_lt_of_le hi h.1) (fun cells q fr hb => ht cells q fr ((h.2 i hi ht).symm.trans hb))).trans (h.2 i hi ht)⟩
theorem KeepT.of_below {a b : World} {ts : List Nat} (h : Below a.heap.size a b) : KeepT a b ts := ⟨h.size, fun i hi _ => h.block i hi⟩
theorem eta {a b : World} {ts : List Nat} (h : KeepT a b ts) (o : Obj) : KeepT a (b.alloc o) ts := h.trans (KeepT.of_below (bal (Below.refl _ _) o))
theorem KeepT.set {a b : World} {ts : List Nat} (h : KeepT a b ts) {g : Nat} {cells : Array Value} {q : Nat} {fr : Nat × Nat} (hb : b.heap[g]? = some (.cells cells q fr)) (hq : q ∈ ts) (i : Nat) (u : Value) : KeepT a (b.setCell ⟨g, i, none⟩ u) ts := by
  refine ⟨by simpa using h.1, fun j hj ht => ?_⟩
  by_cases e : j = g
  · subst e
    exact absurd hq (ht cells q fr ((h.2 j hj ht).symm.trans hb))
  · exact (Below.heap_setCell b ⟨g, i, none⟩ u j e).trans (h.2 j hj ht)
theorem KeepT.grown {a b c : World} {ts : List Nat} (h : KeepT a b ts) {row : Option Nat} (hg : b.grownBy c row) (hr : ∀ k, row = some k → ∃ cells q fr, b.heap[k]? = some (.cells cells q fr) ∧ q ∈ ts) : KeepT a c ts := by
  refine ⟨Nat.le_trans h.1 hg.size, fun j hj ht => ?_⟩
  by_cases e : some j = row
  · obtain ⟨cells, q, fr, hb, hq⟩ := hr j e.symm
    exact absurd hq (ht cells q fr ((h.2 j hj ht).symm.trans hb))
  · exact (hg.block j (Nat.lt_of_lt_of_le hj h.1) e).trans (h.2 j hj ht)
theorem KeepT.R {α : Type} {d : Kd α} {e base : Nat} {w w1 : World} {ok : Nat → Prop} {v : Value} {xs : List α} {ts : List Nat} (h : d.R e w base ok v xs) (hk : KeepT w w1 ts) (ht : ∀ q, q ∈ e :: d.E → q ∉ ts) : d.R e w1 base ok v xs :=
  Kd.R_mono (Kd.R_move (Kd.R_bound h) (fun k hk2 => by
    obtain ⟨_, _, hlt, q, hq, cells, hc⟩ := hk2
    exact hk.2 k hlt (fun cells' q' fr hb => by
      rw [hc] at hb
      injection hb with hb
      injection hb with _ e2 _
      rw [← e2]; exact ht q hq))) (fun k h => h.1)
theorem KeepT.blk {w w1 : World} {ts : List Nat} {g : Nat} {cells : Array Value} {q : Nat} {fr : Nat × Nat} (hb : w.heap[g]? = some (.cells cells q fr)) (hk : KeepT w w1 ts) (hq : q ∉ ts) : w1.heap[g]? = some (.cells cells q fr) :=
  (hk.2 g (blk_lt hb) (fun cells' q' fr' hb' => by
    rw [hb] at hb'
    injection hb' with hb'
    injection hb' with _ e2 _
    rw [← e2]; exact hq)).trans hb
theorem KeepT.size {w w1 : World} {ts : List Nat} (hk : KeepT w w1 ts) : w.heap.size ≤ w1.heap.size := hk.1
theorem KeepT.oblk {w w1 : World} {ts : List Nat} {g : Nat} {o : Obj} (hb : w.heap[g]? = some o) (hk : KeepT w w1 ts) (hq : ∀ cells q fr, o = .cells cells q fr → q ∉ ts) : w1.heap[g]? = some o :=
  (hk.2 g (blk_lt hb) (fun _ _ _ hb' => hq _ _ _ (Option.some.inj (hb.symm.trans hb')))).trans hb
def OutT (w : World) (g : Nat) (t : TypeId) : Prop := ∃ cs, w.heap[g]? = some (.cells cs t (0, 0))
theorem OutT.mk {w : World} {g : Nat} {t : TypeId} {cs : Array Value} (h : w.heap[g]? = some (.cells cs t (0, 0))) : OutT w g t := ⟨cs, h⟩
theorem OutT.set {w : World} {g : Nat} {t : TypeId} (h : OutT w g t) (k i : Nat) (u : Value) : OutT (w.setCell ⟨k, i, none⟩ u) g t := by
  obtain ⟨cs, h⟩ := h
  by_cases e : g = k
  · subst e; exact ⟨_, blk_set h i u⟩
  · exact ⟨cs, blk_far h e u⟩
theorem C_one {k : IntKind} {W : World} {g : Nat} {n : Int} {e : Nat} {fr : Nat × Nat} (hb : W.heap[g]? = some (.cells #[.int k n] e fr)) : Kd.C (Kd.int k) W (some ⟨g, 0, none⟩) 1 [n] := by
  refine ⟨rfl, by omega, fun _ => ⟨⟨g, 0, none⟩, rfl, fun j p hj => ?_⟩⟩
  cases j with
  | zero =>
    simp only [List.getElem?_cons_zero, Option.some.injEq] at hj
    subst hj
    refine ⟨[.int k n], rfl, rfl, fun i u hu => ?_⟩
    cases i with
    | zero =>
      simp only [List.getElem?_cons_zero, Option.some.injEq] at hu
      subst hu
      simp [World.cell?, hb, Addr.add]
    | succ i => simp at hu
  | succ j => simp at hj
section
variable {P : Program} {ops : Array Oper} {o : Oper} {a : Act} {Q : Exit → Act → World → Prop} {Kc : Act → World → Prop}
theorem byte_step {E : Prop} {w0 w1 : World} (W : World) (hgd : o.guard = none) (s x : Operand) (t e : TypeId) (ho : o.op = .call { callee := .builtin .append, args := #[s, x], argTypes := #[t, t] })
    (ht : P.underlying t = some (.slice e)) (hinfo : (P.info? e).map (fun i => (i.zero, i.size, i.bytes)) = some (some (.int .u8 0), 1, 1))
    (v : Value) (xs : List Int) (p : Int) (hw1 : w1 = W.alloc (.cells #[.int .u8 p] e)) (g : Nat) (hs : a.eval s = v) (hx : a.eval x = .slice (some ⟨W.heap.size, 0, none⟩) 1 1) (hg : g < W.heap.size)
    (HO : Kd.R (Kd.int .u8) e W w0.heap.size (fun k => k ≠ g) v xs) (HB : Below w0.heap.size w0 W) (hl : xs.length + 1 ≤ 140737488355328)
    (h : ∀ v1 w1, Kd.R (Kd.int .u8) e w1 w0.heap.size (fun k => k ≠ g) v1 (xs ++ [p]) → Below w0.heap.size w0 w1 → W.grownBy w1 v.ownBlock → Kc (a.put o.dst v1) w1) :
    if Region.wanted o (yielded ops a.tmps) = true then Oper.wp P o a w1 Kc Q else E := by
  subst hw1
  have hw : Region.wanted o (yielded ops a.tmps) = true := by simp [Region.wanted, hgd]
  have h1 := Kd.R_append_step (P := P) (Q := Q) (Kc := Kc) (Kd.int .u8) (w0 := w0) (W := W) w0.heap.size hw s x t e (.int .u8 0) 1 ho ht hinfo rfl (by decide) (by omega) v xs p [.int .u8 p] (fun k => k ≠ g) (fun _ => False) hs hx rfl (fun _ hk => hk.elim) (fun k hk e => by omega) HO HB HB.size (by omega)
    (fun v1 w1 a1 a2 a3 _ => h v1 w1 a1 a2 a3)
  rw [if_pos hw] at h1 ⊢
  exact h1
end
def IsS98 (w0 W : World) (g : Nat) (s : ByteArray) : Prop :=
  w0.heap.size ≤ g ∧ ∃ v, W.heap[g]? = some (.cells #[v] 98 (0, 0)) ∧ Kd.R (Kd.int .u8) 5 W w0.heap.size (fun k => k ≠ g) v (bytesOf s)
section
variable {w0 W : World} {g : Nat} {s : ByteArray}
theorem IsS98.ge (h : IsS98 w0 W g s) : w0.heap.size ≤ g := h.1
theorem IsS98.lt (h : IsS98 w0 W g s) : g < W.heap.size := by obtain ⟨_, v, hb, _⟩ := h; exact blk_lt hb
theorem IsS98.below {W1 : World} (h : IsS98 w0 W g s) (hb : Below W.heap.size W W1) : IsS98 w0 W1 g s := by
  obtain ⟨hg, v, h1, h2⟩ := h
  exact ⟨hg, v, kbl h1 hb, Kd.R_below h2 hb⟩
theorem IsS98.alloc (h : IsS98 w0 W g s) (o : Obj) : IsS98 w0 (W.alloc o) g s := h.below (bal (Below.refl _ _) o)
theorem IsS98.drewN (h : IsS98 w0 W g s) (m : Nat) : IsS98 w0 (W.drewN m) g s := h
theorem IsS98.drew (h : IsS98 w0 W g s) : IsS98 w0 W.drew g s := h
theorem IsS98.at_ {w' : World} {m : Nat} (hq : W.drewN m = w') (h : IsS98 w0 W g s) : IsS98 w0 w' g s := by subst hq; exact h
theorem IsS98.grown {W1 : World} {row : Option Nat} (h : IsS98 w0 W g s) (hw : W.grownBy W1 row) (hr : ∀ k, row = some k → ∃ cells q fr, W.heap[k]? = some (.cells cells q fr) ∧ q ≠ 98 ∧ q ≠ 5) : IsS98 w0 W1 g s := by
  obtain ⟨hg, v, h1, h2⟩ := h
  refine ⟨hg, v, blk_grown h1 hw (fun e => ?_), Kd.R_mono (Kd.R_grown (Kd.R_bound h2) hw (fun k hk e => ?_)) (fun k hk => hk.1)⟩
  · obtain ⟨cells, q, fr, hb, hq, _⟩ := hr g e.symm
    rw [h1] at hb
    injection hb with hb
    injection hb with _ e2 _
    exact hq e2.symm
  · obtain ⟨_, _, _, q2, hq2, cells2, hc2⟩ := hk
    obtain ⟨cells, q, fr, hb, _, hq⟩ := hr k e.symm
    rw [hc2] at hb
    injection hb with hb
    injection hb with _ e2 _
    have : q2 = 5 := by
      rcases List.mem_cons.1 hq2 with h | h
      · exact h
      · exact absurd (show q2 ∈ ([] : List Nat) from h) (by simp)
    exact hq (e2.symm.trans this)
theorem IsS98.apart {α : Type} {d : Kd α} {e : Nat} {base : Nat} {ok : Nat → Prop} {v : Value} {xs : List α} (h : IsS98 w0 W g s) (ho : d.R e W base ok v xs) (ht : ∀ q, q ∈ e :: d.E → q ≠ 98) : d.R e W base (fun k => ok k ∧ k ≠ g) v xs := by
  obtain ⟨_, _, hb, _⟩ := h
  exact Kd.R_types ho hb ht
theorem IsS98.ne_blk {a : Nat} {cs : Array Value} {t : TypeId} {fr : Nat × Nat} (h : IsS98 w0 W g s) (hb2 : W.heap[a]? = some (.cells cs t fr)) (ht : t ≠ 98) : g ≠ a := by
  obtain ⟨_, _, hb, _⟩ := h
  rintro rfl
  rw [hb] at hb2
  injection hb2 with hb2
  injection hb2 with _ ht2
  exact ht ht2.symm
theorem IsS98.box {W1 : World} (hb : W1.heap[g]? = some (.cells #[.slice none 0 0] 98 (0, 0))) (hg : w0.heap.size ≤ g) : IsS98 w0 W1 g (⟨#[]⟩ : ByteArray) := ⟨hg, _, hb, Kd.R_nil _ _ _ _ _⟩
theorem IsS98.stored {v v1 : Value} {s' : ByteArray} (hg : w0.heap.size ≤ g) (hb : W.heap[g]? = some (.cells #[v] 98 (0, 0))) (ho : Kd.R (Kd.int .u8) 5 W w0.heap.size (fun k => k ≠ g) v1 (bytesOf s')) : IsS98 w0 (W.setCell ⟨g, 0, none⟩ v1) g s' :=
  ⟨hg, v1, by simpa using blk_set hb 0 v1, Kd.R_far ho (fun _ hk => hk) v1⟩
theorem IsS98.farT {p : Addr} {t2 : TypeId} (h : IsS98 w0 W g s) (hb2 : OutT W p.block t2) (h1 : t2 ≠ 98) (h2 : t2 ≠ 5) (u : Value) : IsS98 w0 (W.setCell p u) g s := by
  obtain ⟨cs, hb2⟩ := hb2
  have hne := h.ne_blk hb2 h1
  obtain ⟨hg, v, h3, h4⟩ := h
  refine ⟨hg, v, blk_far h3 hne u, Kd.R_mono (Kd.R_far (Kd.R_types h4 hb2 (fun q hq => ?_)) (fun _ hk => hk.2) u) (fun _ h => h.1)⟩
  rcases List.mem_cons.1 hq with h | h
  · rw [h]; exact fun e => h2 e.symm
  · exact absurd (show q ∈ ([] : List Nat) from h) (by simp)
end
end Go.Proofs.Ytfllpmmfjbjgoaa

namespace Go.Proofs.Ytfllpmmfjbjgoaa
open Go.RowKit Go.Proofs.YtfllpmmfjbjgoaaW.PrintWords Go.Proofs.YtfllpmmfjbjgoaaW.PrintLast
def nlen (n : Nat) : Nat := if n = 0 then 0 else nlen (n / 256) + 1
termination_by n
decreasing_by omega
def dig (n m : Nat) : UInt8 := UInt8.ofNat (n / 256 ^ m % 256)
def digs (n : Nat) : Nat → List UInt8
  | 0 => []
  | m + 1 => dig n m :: digs n m
def numB (n : Nat) : List UInt8 := UInt8.ofNat (nlen n) :: digs n (nlen n)
theorem nlen_zero : nlen 0 = 0 := by rw [nlen]; simp
theorem nlen_pos (n : Nat) (h : n ≠ 0) : nlen n = nlen (n / 256) + 1 := by rw [nlen, if_neg h]
theorem nlen_le (k : Nat) : ∀ n, n < 256 ^ k → nlen n ≤ k := by
  induction k with
  | zero => intro n h; obtain rfl : n = 0 := by simpa using h
            rw [nlen_zero]; omega
  | succ k ih =>
    intro n h
    by_cases hn : n = 0
    · rw [hn, nlen_zero]; omega
    · rw [nlen_pos n hn]
      have := ih (n / 256) (by rw [Nat.pow_succ] at h; omega)
      omega
theorem digs_length (n m : Nat) : (digs n m).length = m := by
  induction m with
  | zero => rfl
  | succ m ih => rw [digs, List.length_cons, ih]
theorem numB_length (n : Nat) (h : n < 18446744073709551616) : (numB n).length ≤ 9 := by
  rw [numB, List.length_cons, digs_length]
  have := nlen_le 8 n (by simpa using h)
  omega
theorem put_size (s : ByteArray) (l : List UInt8) : (⟨(s.data.toList ++ l).toArray⟩ : ByteArray).size = s.size + l.length := by
  show (s.data.toList ++ l).toArray.size = _
  rw [List.size_toArray, List.length_append, Array.length_toList]
  rfl
theorem wrap_u64_in (m : Nat) (h : m < 18446744073709551616) : IntKind.u64.wrap (m : Int) = m := by
  simp [IntKind.wrap, IntKind.bits, IntKind.signed]
  omega
def codec_Out_U.f (s : ByteArray) (l : List Int) : Option ByteArray :=
  if s.size + 9 * l.length ≤ 140737488351232 ∧ ∀ n ∈ l, 0 ≤ n ∧ n < 18446744073709551616 then some ⟨(s.data.toList ++ (l.map fun n => numB n.toNat).flatten).toArray⟩ else none
theorem infoU8 : (Try.prog.info? 5).map (fun i => (i.zero, i.size, i.bytes)) = some (some (.int .u8 0), 1, 1) := by kernel_rfl
set_option maxHeartbeats 1000000 in
theorem codec_Out_U.calls (g : Nat) (s0_0 : ByteArray) (A1 : Option Addr) (c1 : Nat) (l1 : List Int) (r1 : ByteArray) (w0 w : World) (hI : IsS98 w0 w g s0_0) (hB : Below w0.heap.size w0 w)
    (_hr1 : Kd.C (Kd.int .u64) w A1 l1.length l1) (_hc1 : l1.length ≤ c1) (hf1 : ∀ W_, KeepT w W_ [98, 5] → Kd.C (Kd.int .u64) W_ A1 l1.length l1) (h : codec_Out_U.f s0_0 l1 = some r1) :
    Calls Try.prog 65 #[.pointer (some ⟨g, 0, none⟩), .slice A1 l1.length c1] w fun e w' => e = .returned (.pointer (some ⟨g, 0, none⟩)) ∧ IsS98 w0 w' g r1 ∧ Below w0.heap.size w0 w' ∧ KeepT w w' [98, 5] := by
  unfold codec_Out_U.f at h
  by_cases c : s0_0.size + 9 * l1.length ≤ 140737488351232 ∧ ∀ n ∈ l1, 0 ≤ n ∧ n < 18446744073709551616
  rotate_left
  · rw [if_neg c] at h; cases h
  rw [if_pos c] at h
  obtain ⟨hsz, hw1⟩ := c
  obtain rfl := Option.some.inj h
  clear h
  have HW := Aside0.mk hw1
  clear hw1
  have HI := Aside0.mk hI
  have HB := Aside0.mk hB
  have HF := Aside0.mk hf1
  clear hI hB hf1 _hr1
  go_enter Try.func65, Try.ntmps65
  go_wp2
  have HI0 : Aside0 (IsS98 w0 w g ⟨(s0_0.data.toList ++ ((l1.take 0).map fun n => numB n.toNat).flatten).toArray⟩) := by simpa using HI
  have HK0 := Aside0.mk (KeepT.refl w [98, 5])
  go_loopw [12] (fun v12 wr => ∃ (i : Nat) (s : ByteArray), v12 = .int .i64 i ∧ i ≤ l1.length ∧ Aside0 (s.size ≤ s0_0.size + 9 * i) ∧ Aside0 (s = ⟨(s0_0.data.toList ++ ((l1.take i).map fun n => numB n.toNat).flatten).toArray⟩) ∧ Aside0 (IsS98 w0 wr g s) ∧ Aside0 (Below w0.heap.size w0 wr) ∧ Aside0 (KeepT w wr [98, 5])) (fun v12 _ => l1.length - (intOf v12).toNat)
  case atStart => exact ⟨0, s0_0, rfl, Nat.zero_le _, ⟨by omega⟩, ⟨by simp⟩, HI, HB, HK0⟩
  case round =>
    obtain ⟨i, s, rfl, hi, HS, HE, HI1, HB1, HK1⟩ := hrel
    clear HI0 HK0
    by_cases c1 : i < l1.length
    · have hC := HF.out wr HK1.out
      have hp : (0 : Int) ≤ (i : Int) := by omega
      have hq : (i : Int) < (l1.length : Int) := by omega
      obtain ⟨ad, e1, hx⟩ := Kd.at_int hC (i : Int) hp hq
      cases e1
      obtain ⟨n, hn, hnl⟩ : ∃ n : Nat, rd l1 (i : Int) = (n : Int) ∧ n < 18446744073709551616 := by
        have hm := HW.out (l1[i]) (List.getElem_mem c1)
        have he : rd l1 (i : Int) = l1[i] := by simp [rd, List.getD_eq_getElem?_getD, c1]
        rw [he]
        exact ⟨(l1[i]).toNat, by omega, by omega⟩
      rw [hn, Int.toNat_natCast] at hx
      have HN := Aside0.mk hn
      have hl8 : nlen n ≤ 8 := nlen_le 8 n (by simpa using hnl)
      have HL := Aside0.mk hnl
      clear hn hnl hp hq hC
      go_wp2
      go_loop [7, 8] (fun v7 v8 => ∃ j x : Nat, v7 = .int .i64 j ∧ v8 = .int .u64 x ∧ Aside0 (j + nlen x = nlen n) ∧ Aside0 (x ≤ n)) (fun _ v8 => nlen (intOf v8).toNat)
      case atStart => exact ⟨0, n, rfl, rfl, ⟨by omega⟩, ⟨Nat.le_refl _⟩⟩
      case round =>
        obtain ⟨j, x, rfl, rfl, HJ, HX⟩ := hrel
        by_cases c2 : 0 < x
        · have hj := HJ.out
          have hxl := nlen_pos x (by omega)
          have hj8 : j ≤ 8 := by omega
          clear hj hxl
          go_wp2
          go_round
          case rel => exact ⟨j + 1, x / 256, by go_num, by go_num, ⟨by have := HJ.out; have := nlen_pos x (by omega); omega⟩, ⟨by have := HX.out; omega⟩⟩
          case measure => have := nlen_pos x (by omega); simp [intOf]; rw [show ((x : Int) / 256).toNat = x / 256 by omega]; omega
        · obtain rfl : x = 0 := by omega
          have hj : j = nlen n := by have := HJ.out; rw [nlen_zero] at this; omega
          subst hj
          clear HJ HX c2
          obtain ⟨hgg, v, hbk, hR⟩ := HI1.out
          have HG := Aside0.mk hgg
          have HBK := Aside0.mk hbk
          have HR := Aside0.mk hR
          have hcell : wr.cell? ⟨g, 0, none⟩ = some v := (kcl hbk 0).trans rfl
          clear hgg hbk hR
          go_wp2_with (at_builtin; refine Kd.R_append (Kd.int .u8) (w0 := w0) w0.heap.size rfl (.tmp 27) (.tmp 30) 79 5 (.int .u8 0) 1 rfl Try.underlying79 infoU8 rfl (by decide) (by omega) v (bytesOf s) ((nlen n : Nat) : Int) [.int .u8 ((nlen n : Nat) : Int)] (fun k => k ≠ g) (fun _ => False) rfl rfl ?aP (fun _ hk => hk.elim) ?aF ?aO ?aB ?aS ?aL ?_; (case aP => exact rfl); (case aB => exact HB1.out); (case aF => exact (fun k hk e => by have := blk_lt HBK.out; omega)); (case aO => exact HR.out); (case aS => exact HB1.out.size); (case aL => have h9 := HS.out; rw [bytesOf_length]; omega); intro v1 w1 ho hb hg1 hat; have hb2 := blk_grown HBK.out hg1 (Kd.R_ne HR.out HBK.out (by decide)); have hcell2 : w1.cell? ⟨g, 0, none⟩ = some v := (kcl hb2 0).trans rfl; have hfr2 := kfr hb2 0; have HK2 := Aside0.mk (KeepT.grown HK1.out hg1 (fun k hk => by obtain ⟨cs, hcs⟩ := Kd.R_typed HR.out k hk; exact ⟨cs, 5, _, hcs, by decide⟩)); obtain ⟨A2, k2, e2⟩ := Kd.R_slice ho; subst e2; have HO := Aside0.mk ho; have HB2 := Aside0.mk hb; have HBK2 := Aside0.mk hb2; clear ho hb hg1 hat hb2)
          obtain ⟨W2, hW2⟩ : ∃ W2, W2 = w1.setCell ⟨g, 0, none⟩ (.slice A2 ((bytesOf s).length + 1) k2) := ⟨_, rfl⟩
          have HI2 : Aside0 (IsS98 w0 W2 g ⟨(s.data.toList ++ [UInt8.ofNat (nlen n)]).toArray⟩) := ⟨by
            rw [hW2]
            refine IsS98.stored HG.out HBK2.out ?_
            have h9 := HO.out
            rw [List.length_append] at h9
            have e9 : bytesOf ⟨(s.data.toList ++ [UInt8.ofNat (nlen n)]).toArray⟩ = bytesOf s ++ [((nlen n : Nat) : Int)] := by
              simp [bytesOf]; omega
            rw [e9]
            exact h9⟩
          have HB3 : Aside0 (Below w0.heap.size w0 W2) := ⟨by rw [hW2]; exact HB2.out.setCell HG.out _⟩
          have HK3 : Aside0 (KeepT w W2 [98, 5]) := ⟨by rw [hW2]; exact HK2.out.set HBK2.out (by decide) _ _⟩
          rw [← hW2]
          clear hW2 HO HB2 HBK2 HK2 hcell hcell2 hfr2 HBK HR HG
          obtain ⟨wo, rfl⟩ : ∃ wo : World, wo = wr := ⟨_, rfl⟩
          go_loopw [9] (fun v9 wq => ∃ (m : Nat) (s2 : ByteArray), v9 = .int .i64 ((m : Int) - 1) ∧ m ≤ nlen n ∧ Aside0 (s2.data.toList ++ digs n m = s.data.toList ++ numB n) ∧ Aside0 (s2.size + m = s.size + 1 + nlen n) ∧ Aside0 (IsS98 w0 wq g s2) ∧ Aside0 (Below w0.heap.size w0 wq) ∧ Aside0 (KeepT w wq [98, 5])) (fun v9 _ => (intOf v9 + 1).toNat)
          case atStart => exact ⟨nlen n, ⟨(s.data.toList ++ [UInt8.ofNat (nlen n)]).toArray⟩, rfl, Nat.le_refl _, ⟨by rw [numB]; exact List.append_assoc _ _ _⟩, ⟨by show (s.data.toList ++ [UInt8.ofNat (nlen n)]).toArray.size + nlen n = _; rw [List.size_toArray, List.length_append, Array.length_toList]; rfl⟩, HI2, HB3, HK3⟩
          case round =>
            clear HI2 HB3 HK3
            obtain ⟨m, s2, rfl, hm, HD, HZ, HI4, HB4, HK4⟩ := hrel
            cases m with
            | zero =>
              rw [show ((0 : Nat) : Int) - 1 = -1 from rfl]
              go_wp2
              go_roundw
              case rel => exact ⟨i + 1, s2, by go_num, by omega, ⟨by have h9 := HZ.out; have h8 := HS.out; omega⟩, ⟨by
                have h9 := HD.out
                have hE := HE.out
                rw [digs, List.append_nil] at h9
                have hn2 : (l1[i]).toNat = n := by have h7 := HN.out; have he : rd l1 (i : Int) = l1[i] := (by simp [rd, List.getD_eq_getElem?_getD, c1]); rw [he] at h7; omega
                have hl : s2.data.toList = s0_0.data.toList ++ ((l1.take (i + 1)).map fun n => numB n.toNat).flatten := by
                  rw [h9, hE, List.take_succ_eq_append_getElem c1, List.map_append, List.flatten_append, List.map_cons, List.map_nil, List.flatten_cons, List.flatten_nil, hn2, List.append_nil, ← List.append_assoc]
                rw [← hl]⟩, HI4, HB4, HK4⟩
              case measure => simp [intOf]; omega
            | succ m =>
              rw [show ((m + 1 : Nat) : Int) - 1 = (m : Int) by omega]
              go_wp2
              obtain ⟨hgg, v4, hbk, hR⟩ := HI4.out
              have HG := Aside0.mk hgg
              have HBK := Aside0.mk hbk
              have HR := Aside0.mk hR
              have hcell : wr.cell? ⟨g, 0, none⟩ = some v4 := (kcl hbk 0).trans rfl
              obtain ⟨q, hq⟩ : ∃ q, q = n / 256 ^ m := ⟨_, rfl⟩
              have hsf : Op.shift BinOp.shr IntKind.u64 (n : Int) IntKind.i64 (IntKind.i64.wrap (8 * (m : Int))) = pure (.int .u64 ((q : Nat) : Int)) := by
                rw [IntKind.wrap_i64, show (8 * (m : Int) + 9223372036854775808) % 18446744073709551616 - 9223372036854775808 = 8 * (m : Int) by omega, shift_shr _ _ _ _ (by omega) (by simp [IntKind.bits]; omega), hq]
                congr 2
                rw [show (8 * (m : Int)).toNat = 8 * m by omega, show (256 : Nat) = 2 ^ 8 from rfl, ← Nat.pow_mul]
                simp
              have HQ := Aside0.mk hq
              clear hgg hbk hR hq
              have hd : (dig n m).toNat = q % 256 := by rw [HQ.out, dig, UInt8.toNat_ofNat']; omega
              have hlt := blk_lt HBK.out
              have hlen : (bytesOf s2).length + 1 ≤ 140737488355328 := by have h9 := HZ.out; have h8 := HS.out; rw [bytesOf_length]; omega
              have T1 := fun (ops : Array Oper) (o : Oper) (a : Act) (Q : Exit → Act → World → Prop) (Kc : Act → World → Prop) (E : Prop) (hgd : o.guard = none) (ho : o.op = .call { callee := .builtin .append, args := #[(.tmp 44), (.tmp 50)], argTypes := #[79, 79] }) => byte_step (P := Try.prog) (ops := ops) (o := o) (a := a) (Q := Q) (Kc := Kc) (E := E) (w0 := w0) (w1 := (wr.alloc (.cells #[.int .u8 ((q : Int) % 256)] 5)).drew) wr.drew hgd (.tmp 44) (.tmp 50) 79 5 ho Try.underlying79 infoU8 v4 (bytesOf s2) ((q : Int) % 256) rfl g
              have T2 := fun ops o a Q Kc E hgd ho hs hx h => T1 ops o a Q Kc E hgd ho hs hx hlt HR.out HB4.out.drew hlen h
              have HT2 := Aside0.mk T2
              have HBKd : Aside0 (wr.drew.heap[g]? = some (.cells #[v4] 98 (0, 0))) := ⟨HBK.out⟩
              have HRd : Aside0 (Kd.R (Kd.int .u8) 5 wr.drew w0.heap.size (fun k => k ≠ g) v4 (bytesOf s2)) := ⟨HR.out⟩
              have HKd : Aside0 (KeepT w wr.drew [98, 5]) := ⟨HK4.out⟩
              clear T1 T2
              go_region_law (refine HT2.out _ _ _ _ _ _ rfl rfl (by simp [Act.eval]) (by simp [Act.eval]) ?_; intro v1 w1 ho hb hg1; have hb2 := blk_grown HBKd.out hg1 (Kd.R_ne HRd.out HBKd.out (by decide)); have hcell2 : w1.cell? ⟨g, 0, none⟩ = some v4 := (kcl hb2 0).trans rfl; have hfr2 := kfr hb2 0; have HK5 := Aside0.mk (KeepT.grown HKd.out hg1 (fun k hk => by obtain ⟨cs, hcs⟩ := Kd.R_typed HRd.out k hk; exact ⟨cs, 5, _, hcs, by decide⟩)); obtain ⟨A2, k2, e2⟩ := Kd.R_slice ho; subst e2; have HO := Aside0.mk ho; have HB5 := Aside0.mk hb; have HBK2 := Aside0.mk hb2; clear ho hb hg1 hb2)
              all_goals
                obtain ⟨W5, hW5⟩ : ∃ W5, W5 = w1.setCell ⟨g, 0, none⟩ (.slice A2 ((bytesOf s2).length + 1) k2) := ⟨_, rfl⟩
                have HI5 : Aside0 (IsS98 w0 W5 g ⟨(s2.data.toList ++ [dig n m]).toArray⟩) := ⟨by
                  rw [hW5]
                  refine IsS98.stored HG.out HBK2.out ?_
                  have h9 := HO.out
                  rw [List.length_append] at h9
                  have e9 : bytesOf ⟨(s2.data.toList ++ [dig n m]).toArray⟩ = bytesOf s2 ++ [(q : Int) % 256] := by
                    have : ((dig n m).toNat : Int) = (q : Int) % 256 := by rw [hd]; omega
                    simp [bytesOf, this]
                  rw [e9]
                  exact h9⟩
                have HB6 : Aside0 (Below w0.heap.size w0 W5) := ⟨by rw [hW5]; exact HB5.out.setCell HG.out _⟩
                have HK6 : Aside0 (KeepT w W5 [98, 5]) := ⟨by rw [hW5]; exact HK5.out.set HBK2.out (by decide) _ _⟩
                rw [← hW5]
                clear hW5 HO HB5 HBK2 HK5 hcell hcell2 hfr2 HBK HR HG hd hlt hlen HT2 HBKd HRd HKd hsf
                go_wp2
                go_roundw
                case rel => exact ⟨m, ⟨(s2.data.toList ++ [dig n m]).toArray⟩, by go_num, by omega, ⟨by have h9 := HD.out; rw [digs] at h9; show (s2.data.toList ++ [dig n m]) ++ digs n m = _; rw [← h9]; simp⟩, ⟨by have h9 := HZ.out; show (s2.data.toList ++ [dig n m]).toArray.size + m = _; rw [List.size_toArray, List.length_append, Array.length_toList]; show s2.size + 1 + m = _; omega⟩, HI5, HB6, HK6⟩
                case measure => simp [intOf] <;> omega
    · obtain rfl : i = l1.length := by omega
      have hE := HE.out
      rw [List.take_length] at hE
      subst hE
      go_wp2
      go_ret
      exact ⟨rfl, HI1.out, HB1.out, HK1.out⟩
end Go.Proofs.Ytfllpmmfjbjgoaa

namespace Go.Proofs.Ytfllpmmfjbjgoaa
open Go.RowKit Go.Proofs.YtfllpmmfjbjgoaaW.PrintWords Go.Proofs.YtfllpmmfjbjgoaaW.PrintLast Go.Proofs.YtfllpmmfjbjgoaaW.PrintMore
attribute [local go_sem] max2_int min2_int max_two min_two
def codec_Out_N.f (s : ByteArray) (l : List Int) : Option ByteArray :=
  if s.size + 9 * l.length ≤ 140737488351232 ∧ ∀ n ∈ l, n < 9223372036854775808 then some ⟨(s.data.toList ++ (l.map fun n => numB n.toNat).flatten).toArray⟩ else none
set_option maxHeartbeats 1000000 in
theorem codec_Out_N.calls (g : Nat) (s0_0 : ByteArray) (A1 : Option Addr) (c1 : Nat) (l1 : List Int) (r1 : ByteArray) (w0 w : World) (hI : IsS98 w0 w g s0_0) (hB : Below w0.heap.size w0 w)
    (_hr1 : Kd.C (Kd.int .i64) w A1 l1.length l1) (_hc1 : l1.length ≤ c1) (hf1 : ∀ W_, KeepT w W_ [98, 5] → Kd.C (Kd.int .i64) W_ A1 l1.length l1) (h : codec_Out_N.f s0_0 l1 = some r1) :
    Calls Try.prog 49 #[.pointer (some ⟨g, 0, none⟩), .slice A1 l1.length c1] w fun e w' => e = .returned (.pointer (some ⟨g, 0, none⟩)) ∧ IsS98 w0 w' g r1 ∧ Below w0.heap.size w0 w' ∧ KeepT w w' [98, 5] := by
  unfold codec_Out_N.f at h
  by_cases c : s0_0.size + 9 * l1.length ≤ 140737488351232 ∧ ∀ n ∈ l1, n < 9223372036854775808
  rotate_left
  · rw [if_neg c] at h; cases h
  rw [if_pos c] at h
  obtain ⟨hsz, hw1⟩ := c
  obtain rfl := Option.some.inj h
  clear h
  have HW := Aside0.mk hw1
  clear hw1
  have HI := Aside0.mk hI
  have HB := Aside0.mk hB
  have HF := Aside0.mk hf1
  clear hI hB hf1 _hr1
  go_enter Try.func49, Try.ntmps49
  go_wp2
  have HK0 := Aside0.mk (KeepT.refl w [98, 5])
  go_loopw [9] (fun v9 wr => ∃ (i : Nat) (s : ByteArray), v9 = .int .i64 i ∧ i ≤ l1.length ∧ Aside0 (s.size ≤ s0_0.size + 9 * i) ∧ Aside0 (s = ⟨(s0_0.data.toList ++ ((l1.take i).map fun n => numB n.toNat).flatten).toArray⟩) ∧ Aside0 (IsS98 w0 wr g s) ∧ Aside0 (Below w0.heap.size w0 wr) ∧ Aside0 (KeepT w wr [98, 5])) (fun v9 _ => l1.length - (intOf v9).toNat)
  case atStart => exact ⟨0, s0_0, rfl, Nat.zero_le _, ⟨by omega⟩, ⟨by simp⟩, HI, HB, HK0⟩
  case round =>
    obtain ⟨i, s, rfl, hi, HS, HE, HI1, HB1, HK1⟩ := hrel
    clear HK0
    by_cases c1 : i < l1.length
    · have hC := HF.out wr HK1.out
      have hp : (0 : Int) ≤ (i : Int) := by omega
      have hq : (i : Int) < (l1.length : Int) := by omega
      obtain ⟨ad, e1, hx⟩ := Kd.at_int hC (i : Int) hp hq
      cases e1
      have he : rd l1 (i : Int) = l1[i] := by simp [rd, List.getD_eq_getElem?_getD, c1]
      have hz := HW.out (l1[i]) (List.getElem_mem c1)
      rw [he, Int.toNat_natCast] at hx
      obtain ⟨m, hm⟩ : ∃ m : Nat, m = (l1[i]).toNat := ⟨_, rfl⟩
      have HM := Aside0.mk hm
      have hms : m < 9223372036854775808 := by omega
      have hm2 := hm
      obtain ⟨z, hz0⟩ : ∃ z, z = l1[i] := ⟨_, rfl⟩
      rw [← hz0] at hx hz hm2
      have HZ0 := Aside0.mk hz0
      clear hm hz0
      have HMS := Aside0.mk hms
      have HZ := Aside0.mk hz
      clear he hz hp hq hC hms
      have hfit : codec_Out_U.f s [(m : Int)] = some ⟨(s.data.toList ++ numB m).toArray⟩ := by
        unfold codec_Out_U.f
        have h9 := HS.out
        have h8 := HMS.out
        rw [if_pos ⟨by simp only [List.length_cons, List.length_nil]; omega, by intro n hn; rw [List.mem_singleton.1 hn]; omega⟩]
        simp
      have HFIT := Aside0.mk hfit
      clear hfit
      by_cases c2 : 0 < z
      · obtain rfl : z = (m : Int) := by omega
        clear hm2
        have hwr := wrap_u64_in m (by have := HMS.out; omega)
        have HWR := Aside0.mk hwr
        clear hwr
        go_wp2_with fail
        rw [HWR.out]
        have hnb : (wr.alloc (.cells #[.int .u64 (m : Int)] 121)).heap[wr.heap.size]? = some (.cells #[.int .u64 (m : Int)] 121 (0, 0)) := heap_alloc_new wr _
        refine (codec_Out_U.calls g s (some ⟨wr.heap.size, 0, none⟩) 1 [(m : Int)] _ w0 _ (HI1.out.alloc _) (bal HB1.out _) (C_one hnb) (by simp) (fun W_ hk => C_one (KeepT.blk hnb hk (by decide))) HFIT.out).mono ?_
        rintro e w1 ⟨rfl, hi2, hb2, hk2⟩
        have HI2 := Aside0.mk hi2
        have HB2 := Aside0.mk hb2
        have HK2 := Aside0.mk ((eta HK1.out _).trans hk2)
        clear hi2 hb2 hk2 hnb
        go_wp2
        go_roundw
        case rel => exact ⟨i + 1, _, by go_num, by omega, ⟨by rw [put_size]; have := numB_length m (by have := HMS.out; omega); have := HS.out; omega⟩, ⟨by
          rw [List.take_succ_eq_append_getElem c1, List.map_append, List.flatten_append, List.map_cons, List.map_nil, List.flatten_cons, List.flatten_nil, ← HM.out, List.append_nil, ← List.append_assoc]
          have hE := HE.out
          rw [hE]⟩, HI2, HB2, HK2⟩
        case measure => simp [intOf]; omega
      · obtain rfl : m = 0 := by omega
        by_cases c3 : z < 0
        · clear hm2 c2
          go_wp2_with fail
          have hnb : (wr.alloc (.cells #[.int .u64 (0 : Int)] 121)).heap[wr.heap.size]? = some (.cells #[.int .u64 (0 : Int)] 121 (0, 0)) := heap_alloc_new wr _
          refine (codec_Out_U.calls g s (some ⟨wr.heap.size, 0, none⟩) 1 [(0 : Int)] _ w0 _ (HI1.out.alloc _) (bal HB1.out _) (C_one hnb) (by simp) (fun W_ hk => C_one (KeepT.blk hnb hk (by decide))) HFIT.out).mono ?_
          rintro e w1 ⟨rfl, hi2, hb2, hk2⟩
          have HI2 := Aside0.mk hi2
          have HB2 := Aside0.mk hb2
          have HK2 := Aside0.mk ((eta HK1.out _).trans hk2)
          clear hi2 hb2 hk2 hnb
          go_wp2
          go_roundw
          case rel => exact ⟨i + 1, _, by go_num, by omega, ⟨by rw [put_size]; have := numB_length 0 (by decide); have := HS.out; omega⟩, ⟨by
            rw [List.take_succ_eq_append_getElem c1, List.map_append, List.flatten_append, List.map_cons, List.map_nil, List.flatten_cons, List.flatten_nil, ← HM.out, List.append_nil, ← List.append_assoc]
            have hE := HE.out
            rw [hE]⟩, HI2, HB2, HK2⟩
          case measure => simp [intOf]; omega
        · obtain rfl : z = 0 := by omega
          clear hm2 c2 c3
          go_wp2_with fail
          have hnb : (wr.alloc (.cells #[.int .u64 (0 : Int)] 121)).heap[wr.heap.size]? = some (.cells #[.int .u64 (0 : Int)] 121 (0, 0)) := heap_alloc_new wr _
          refine (codec_Out_U.calls g s (some ⟨wr.heap.size, 0, none⟩) 1 [(0 : Int)] _ w0 _ (HI1.out.alloc _) (bal HB1.out _) (C_one hnb) (by simp) (fun W_ hk => C_one (KeepT.blk hnb hk (by decide))) HFIT.out).mono ?_
          rintro e w1 ⟨rfl, hi2, hb2, hk2⟩
          have HI2 := Aside0.mk hi2
          have HB2 := Aside0.mk hb2
          have HK2 := Aside0.mk ((eta HK1.out _).trans hk2)
          clear hi2 hb2 hk2 hnb
          go_wp2
          go_roundw
          case rel => exact ⟨i + 1, _, by go_num, by omega, ⟨by rw [put_size]; have := numB_length 0 (by decide); have := HS.out; omega⟩, ⟨by
            rw [List.take_succ_eq_append_getElem c1, List.map_append, List.flatten_append, List.map_cons, List.map_nil, List.flatten_cons, List.flatten_nil, ← HM.out, List.append_nil, ← List.append_assoc]
            have hE := HE.out
            rw [hE]⟩, HI2, HB2, HK2⟩
          case measure => simp [intOf]; omega
    · obtain rfl : i = l1.length := by omega
      have hE := HE.out
      rw [List.take_length] at hE
      subst hE
      go_wp2
      go_ret
      exact ⟨rfl, HI1.out, HB1.out, HK1.out⟩
end Go.Proofs.Ytfllpmmfjbjgoaa

namespace Go.Proofs.Ytfllpmmfjbjgoaa
open Go.RowKit Go.Proofs.YtfllpmmfjbjgoaaW.PrintWords Go.Proofs.YtfllpmmfjbjgoaaW.PrintLast Go.Proofs.YtfllpmmfjbjgoaaW.PrintMore
def strB (s : ByteArray) : List UInt8 := numB s.size ++ s.data.toList
def codec_Out_S.f (s : ByteArray) (l : List ByteArray) : Option ByteArray :=
  if s.size + (l.map fun t => t.size + 9).sum ≤ 140737488351232 then some ⟨(s.data.toList ++ (l.map strB).flatten).toArray⟩ else none
theorem sum_take (f : ByteArray → Nat) (l : List ByteArray) (i : Nat) (h : i < l.length) : ((l.take (i + 1)).map f).sum = ((l.take i).map f).sum + f l[i] := by
  rw [List.take_succ_eq_append_getElem h, List.map_append, List.sum_append]
  simp
theorem sum_take_le (f : ByteArray → Nat) (l : List ByteArray) : ∀ i, ((l.take i).map f).sum ≤ (l.map f).sum := by
  intro i
  have : l = l.take i ++ l.drop i := (List.take_append_drop i l).symm
  conv => rhs; rw [this]
  rw [List.map_append, List.sum_append]
  omega
theorem len_le_sum (l : List ByteArray) : l.length ≤ (l.map fun t => t.size + 9).sum := by
  induction l with
  | nil => simp
  | cons t l ih => simp only [List.length_cons, List.map_cons, List.sum_cons]; omega
set_option maxHeartbeats 1000000 in
theorem codec_Out_S.calls (g : Nat) (s0_0 : ByteArray) (A1 : Option Addr) (c1 : Nat) (l1 : List ByteArray) (r1 : ByteArray) (w0 w : World) (hI : IsS98 w0 w g s0_0) (hB : Below w0.heap.size w0 w)
    (_hr1 : Kd.C Kd.string w A1 l1.length l1) (_hc1 : l1.length ≤ c1) (hf1 : ∀ W_, KeepT w W_ [98, 5] → Kd.C Kd.string W_ A1 l1.length l1) (h : codec_Out_S.f s0_0 l1 = some r1) :
    Calls Try.prog 50 #[.pointer (some ⟨g, 0, none⟩), .slice A1 l1.length c1] w fun e w' => e = .returned (.pointer (some ⟨g, 0, none⟩)) ∧ IsS98 w0 w' g r1 ∧ Below w0.heap.size w0 w' ∧ KeepT w w' [98, 5] := by
  unfold codec_Out_S.f at h
  by_cases c : s0_0.size + (l1.map fun t => t.size + 9).sum ≤ 140737488351232
  rotate_left
  · rw [if_neg c] at h; cases h
  rw [if_pos c] at h
  obtain rfl := Option.some.inj h
  clear h
  have HC0 := Aside0.mk c
  have HI := Aside0.mk hI
  have HB := Aside0.mk hB
  have HF := Aside0.mk hf1
  have hll : l1.length ≤ 140737488351232 := Nat.le_trans (len_le_sum l1) (by omega)
  clear hI hB hf1 _hr1 c
  go_enter Try.func50, Try.ntmps50
  go_wp2
  have HK0 := Aside0.mk (KeepT.refl w [98, 5])
  go_loopw [9] (fun v9 wr => ∃ (i : Nat) (s : ByteArray), v9 = .int .i64 i ∧ i ≤ l1.length ∧ Aside0 (s.size ≤ s0_0.size + ((l1.take i).map fun t => t.size + 9).sum) ∧ Aside0 (s = ⟨(s0_0.data.toList ++ ((l1.take i).map strB).flatten).toArray⟩) ∧ Aside0 (IsS98 w0 wr g s) ∧ Aside0 (Below w0.heap.size w0 wr) ∧ Aside0 (KeepT w wr [98, 5])) (fun v9 _ => l1.length - (intOf v9).toNat)
  case atStart => exact ⟨0, s0_0, rfl, Nat.zero_le _, ⟨by simp⟩, ⟨by simp⟩, HI, HB, HK0⟩
  case round =>
    obtain ⟨i, s, rfl, hi, HS, HE, HI1, HB1, HK1⟩ := hrel
    clear HK0
    by_cases c1 : i < l1.length
    · have hC := HF.out wr HK1.out
      have hp : (0 : Int) ≤ (i : Int) := by omega
      have hq : (i : Int) < (l1.length : Int) := by omega
      obtain ⟨ad, e1, hx⟩ := Kd.at_string hC (i : Int) hp hq
      cases e1
      have he : rdOf ByteArray.empty l1 (i : Int) = l1[i] := by simp [rdOf, List.getD_eq_getElem?_getD, c1]
      rw [he, Int.toNat_natCast] at hx
      obtain ⟨t, ht⟩ : ∃ t, t = l1[i] := ⟨_, rfl⟩
      rw [← ht] at hx
      have hs1 := sum_take (fun t => t.size + 9) l1 i c1
      have hs2 := sum_take_le (fun t => t.size + 9) l1 (i + 1)
      rw [← ht] at hs1
      have HT := Aside0.mk ht
      have hts : s.size + t.size + 9 ≤ 140737488351232 := by have := HC0.out; have := HS.out; omega
      have HS1 := Aside0.mk hs1
      have HTS := Aside0.mk hts
      have hz : (t.size : Int) ≤ 140737488351232 := by omega
      clear hs1 hs2 hts ht he hp hq hC
      have hfit : codec_Out_N.f s [(t.size : Int)] = some ⟨(s.data.toList ++ numB t.size).toArray⟩ := by
        unfold codec_Out_N.f
        have h9 := HTS.out
        rw [if_pos ⟨by simp only [List.length_cons, List.length_nil]; omega, by intro n hn; rw [List.mem_singleton.1 hn]; omega⟩]
        simp
      have HFIT := Aside0.mk hfit
      clear hfit
      go_wp2_with fail
      have hnb : (wr.alloc (.cells #[.int .i64 (t.size : Int)] 3)).heap[wr.heap.size]? = some (.cells #[.int .i64 (t.size : Int)] 3 (0, 0)) := heap_alloc_new wr _
      refine (codec_Out_N.calls g s (some ⟨wr.heap.size, 0, none⟩) 1 [(t.size : Int)] _ w0 _ (HI1.out.alloc _) (bal HB1.out _) (C_one hnb) (by simp) (fun W_ hk => C_one (KeepT.blk hnb hk (by decide))) HFIT.out).mono ?_
      rintro e w1 ⟨rfl, hi2, hb2, hk2⟩
      have HB2 := Aside0.mk hb2
      have HK2 := Aside0.mk ((eta HK1.out _).trans hk2)
      obtain ⟨hgg, v, hbk, hR⟩ := hi2
      have HG := Aside0.mk hgg
      have HBK := Aside0.mk hbk
      have HR := Aside0.mk hR
      have hcell : w1.cell? ⟨g, 0, none⟩ = some v := (kcl hbk 0).trans rfl
      clear hb2 hk2 hnb hgg hbk hR
      have hl9 : (bytesOf ⟨(s.data.toList ++ numB t.size).toArray⟩).length + t.size ≤ 140737488355328 := by
        have h9 := HTS.out
        have h8 := numB_length t.size (by omega)
        rw [bytesOf_length, put_size]; omega
      go_wp2_with (at_builtin; refine print_append_str (w0 := w0) w0.heap.size rfl (.tmp 22) _ 79 9 5 rfl Try.underlying79 Try.underlying9 infoU8 v (bytesOf ⟨(s.data.toList ++ numB t.size).toArray⟩) t rfl rfl (Kd.own_of_R HR.out) HB2.out HB2.out.size hl9 ?_; intro v1 w2 hown hb hg1; have hb2 := blk_grown HBK.out hg1 (Kd.R_ne HR.out HBK.out (by decide)); have hcell2 : w2.cell? ⟨g, 0, none⟩ = some v := (kcl hb2 0).trans rfl; have hfr2 := kfr hb2 0; have HK5 := Aside0.mk (KeepT.grown HK2.out hg1 (fun k hk => by obtain ⟨cs, hcs⟩ := Kd.R_typed HR.out k hk; exact ⟨cs, 5, _, hcs, by decide⟩)); have ho : Kd.R (Kd.int .u8) 5 w2 w0.heap.size (fun k => k ≠ g) v1 (bytesOf ⟨(s.data.toList ++ numB t.size).toArray⟩ ++ bytesOf t) := Kd.R_of_own hown (fun k hk e => by subst e; obtain ⟨cs, hcs⟩ := own_typed hown k hk; rw [hb2] at hcs; injection hcs with hcs; injection hcs with _ e2 _; exact absurd e2 (by decide)); obtain ⟨A2, k2, e2⟩ := Kd.R_slice ho; subst e2; have HO := Aside0.mk ho; have HB5 := Aside0.mk hb; have HBK2 := Aside0.mk hb2; clear ho hb hg1 hb2 hown)
      have HI5 : Aside0 (IsS98 w0 (w2.setCell ⟨g, 0, none⟩ (.slice A2 ((bytesOf ⟨(s.data.toList ++ numB t.size).toArray⟩ ++ bytesOf t).length) k2)) g ⟨(s.data.toList ++ strB t).toArray⟩) := ⟨by
        refine IsS98.stored HG.out HBK2.out ?_
        have e9 : bytesOf ⟨(s.data.toList ++ strB t).toArray⟩ = bytesOf ⟨(s.data.toList ++ numB t.size).toArray⟩ ++ bytesOf t := by simp [bytesOf, strB]
        rw [e9]
        exact HO.out⟩
      go_roundw
      case rel => exact ⟨i + 1, ⟨(s.data.toList ++ strB t).toArray⟩, by go_num, by omega, ⟨by rw [put_size]; have h4 : (strB t).length = (numB t.size).length + t.size := (by rw [strB, List.length_append, data_length]); have h8 := numB_length t.size (by omega); have h7 := HS.out; have h6 : ((l1.take (i + 1)).map fun t => t.size + 9).sum = ((l1.take i).map fun t => t.size + 9).sum + (t.size + 9) := HS1.out; rw [h6]; omega⟩, ⟨by
        rw [List.take_succ_eq_append_getElem c1, List.map_append, List.flatten_append, List.map_cons, List.map_nil, List.flatten_cons, List.flatten_nil, ← HT.out, List.append_nil, ← List.append_assoc]
        have hE := HE.out
        rw [hE]⟩, ⟨by have h := HI5.out; simp only [List.length_append] at h; simpa using h⟩, ⟨HB5.out.setCell HG.out _⟩, ⟨HK5.out.set HBK2.out (by decide) _ _⟩⟩
      case measure => simp [intOf]; omega
    · obtain rfl : i = l1.length := by omega
      have hE := HE.out
      rw [List.take_length] at hE
      subst hE
      go_wp2
      go_ret
      exact ⟨rfl, HI1.out, HB1.out, HK1.out⟩
end Go.Proofs.Ytfllpmmfjbjgoaa

namespace Go.Proofs.Ytfllpmmfjbjgoaa
open Go.RowKit Go.Proofs.YtfllpmmfjbjgoaaW.PrintWords Go.Proofs.YtfllpmmfjbjgoaaW.PrintLast Go.Proofs.YtfllpmmfjbjgoaaW.PrintMore
def codec_Out_Text.f (s : ByteArray) : Option (ByteArray × ByteArray) := some (s, s)
theorem strOf_bytesOf (s : ByteArray) : strOfNums (bytesOf s) = s := by
  have : (strOfNums (bytesOf s)).data.toList = s.data.toList := by
    rw [strOfNums_data, bytesOf, List.map_map]
    have : ((fun n : Int => UInt8.ofNat n.toNat) ∘ fun b : UInt8 => (b.toNat : Int)) = id := by
      funext b; simp
    rw [this, List.map_id]
  exact ByteArray.ext (Array.ext' this)
set_option maxHeartbeats 1000000 in
theorem codec_Out_Text.calls (g : Nat) (s0_0 : ByteArray) (r1 r2 : ByteArray) (w0 w : World) (hI : IsS98 w0 w g s0_0) (hB : Below w0.heap.size w0 w) (h : codec_Out_Text.f s0_0 = some (r1, r2)) :
    Calls Try.prog 51 #[.pointer (some ⟨g, 0, none⟩)] w fun e w' => e = .returned (.string r1) ∧ IsS98 w0 w' g r2 ∧ Below w0.heap.size w0 w' ∧ KeepT w w' [98, 5] := by
  have e : s0_0 = r1 ∧ s0_0 = r2 := by simpa [codec_Out_Text.f] using h
  obtain ⟨rfl, rfl⟩ := e
  clear h
  have HI := Aside0.mk hI
  have HB := Aside0.mk hB
  obtain ⟨hgg, v, hbk, hR⟩ := hI
  have hcell : w.cell? ⟨g, 0, none⟩ = some v := (kcl hbk 0).trans rfl
  have hcv := own_string (P := Try.prog) Try.underlying79 Try.underlying5 Try.underlying9 (Kd.own_of_R hR)
  rw [strOf_bytesOf] at hcv
  clear hB hgg hbk hR
  go_enter Try.func51, Try.ntmps51
  go_wp2
  go_ret
  exact ⟨rfl, HI.out, HB.out, KeepT.refl _ _⟩
end Go.Proofs.Ytfllpmmfjbjgoaa

