import Derived.Test.YtfllpmmfjbjgoaaQRsGPre
import Derived.Test.YtfllpmmfjbjgoaaQRsPAx0
import Derived.Test.YtfllpmmfjbjgoaaQRsPAx6
import Derived.Test.YtfllpmmfjbjgoaaQRsMCrcMath
namespace Go.Proofs.Ytfllpmmfjbjgoaa.PA
set_option linter.unusedSimpArgs false
open Go.RowKit Go.Proofs.YtfllpmmfjbjgoaaW.PrintWords Go.Proofs.YtfllpmmfjbjgoaaW.PrintLast Go.Proofs.YtfllpmmfjbjgoaaW.PrintMore Go.Proofs.Ytfllpmmfjbjgoaa Go.Proofs.Ytfllpmmfjbjgoaa.PL
theorem scan_ge (V : Int → Option (Int × ByteArray)) : ∀ (n : Nat) (at_ f : Int) (t : ByteArray), 0 ≤ f → f < at_ → ((scan V n at_ f t).1 = [] ∧ (scan V n at_ f t).2 = if f > 0 then f else at_) ∨ at_ < (scan V n at_ f t).2 := by
  intro n
  induction n with
  | zero => intro at_ f t _ _; exact .inl ⟨rfl, rfl⟩
  | succ n ih =>
    intro at_ f t h0 h1
    cases hv : V at_ with
    | none => rw [scan_none hv]; exact .inl ⟨rfl, rfl⟩
    | some x =>
      obtain ⟨m, s⟩ := x
      by_cases q : m % 2 = 1 ↔ f = 0
      · by_cases q2 : 2 ≤ m
        · rw [scan_end hv q q2]
          rcases ih (at_ + 1) 0 ⟨#[]⟩ (Int.le_refl 0) (by omega) with ⟨_, e⟩ | e
          · rw [if_neg (by decide)] at e; exact .inr (by show at_ < (scan V n (at_ + 1) 0 ⟨#[]⟩).2; omega)
          · exact .inr (by show at_ < (scan V n (at_ + 1) 0 ⟨#[]⟩).2; omega)
        · rw [scan_on hv q q2]
          by_cases e0 : f = 0
          · rw [if_pos e0]
            rcases ih (at_ + 1) at_ (t ++ s) (by omega) (by omega) with ⟨a, e⟩ | e
            · rw [if_pos (by omega)] at e; rw [if_neg (by omega)]; exact .inl ⟨a, e⟩
            · exact .inr (by omega)
          · rw [if_neg e0]
            rcases ih (at_ + 1) f (t ++ s) h0 (by omega) with ⟨a, e⟩ | e
            · rw [if_pos (by omega)] at e; rw [if_pos (by omega)]; exact .inl ⟨a, e⟩
            · exact .inr (by omega)
      · rw [scan_odd hv q]; exact .inl ⟨rfl, rfl⟩
theorem scan_stop (V : Int → Option (Int × ByteArray)) (z : Int) (hz : V z = none) (h0z : 0 ≤ z) : ∀ (n : Nat) (at_ f : Int) (t : ByteArray), at_ ≤ z → f ≤ z → (scan V n at_ f t).2 ≤ z := by
  intro n
  induction n with
  | zero => intro at_ f t h0 h1; show (if f > 0 then f else at_) ≤ z; split <;> omega
  | succ n ih =>
    intro at_ f t h0 h1
    cases hv : V at_ with
    | none => rw [scan_none hv]; show (if f > 0 then f else at_) ≤ z; split <;> omega
    | some x =>
      obtain ⟨m, s⟩ := x
      have hne : at_ ≠ z := fun e => by rw [e, hz] at hv; cases hv
      by_cases q : m % 2 = 1 ↔ f = 0
      · by_cases q2 : 2 ≤ m
        · rw [scan_end hv q q2]; exact ih (at_ + 1) 0 ⟨#[]⟩ (by omega) h0z
        · rw [scan_on hv q q2]; exact ih (at_ + 1) _ _ (by omega) (by split <;> omega)
      · rw [scan_odd hv q]; show (if f > 0 then f else at_) ≤ z; split <;> omega
theorem scan_less (V W : Int → Option (Int × ByteArray)) : ∀ (n : Nat) (at_ f : Int) (t : ByteArray), 0 ≤ f → f < at_ → (∀ s, at_ ≤ s → s < (scan V n at_ f t).2 → W s = V s) → (∀ s, at_ ≤ s → s < at_ + n → W s = V s ∨ W s = none) → scan W n at_ f t = scan V n at_ f t := by
  intro n
  induction n with
  | zero => intro at_ f t _ _ _ _; rfl
  | succ n ih =>
    intro at_ f t h0 h1 h2 h3
    have hge := scan_ge V (n + 1) at_ f t h0 h1
    by_cases hw : W at_ = V at_
    · cases hv : V at_ with
      | none => rw [scan_none hv, scan_none (hw.trans hv)]
      | some x =>
        obtain ⟨m, s⟩ := x
        by_cases q : m % 2 = 1 ↔ f = 0
        · by_cases q2 : 2 ≤ m
          · rw [scan_end hv q q2] at h2 ⊢
            rw [scan_end (hw.trans hv) q q2, ih (at_ + 1) 0 ⟨#[]⟩ (Int.le_refl 0) (by omega) (fun s a b => h2 s (by omega) b) (fun s a b => h3 s (by omega) (by omega))]
          · rw [scan_on hv q q2] at h2 ⊢
            rw [scan_on (hw.trans hv) q q2]
            exact ih (at_ + 1) _ _ (by split <;> omega) (by split <;> omega) (fun s a b => h2 s (by omega) b) (fun s a b => h3 s (by omega) (by omega))
        · rw [scan_odd hv q, scan_odd (hw.trans hv) q]
    · have hn : W at_ = none := (h3 at_ (Int.le_refl _) (by omega)).resolve_left hw
      rw [scan_none hn]
      rcases hge with ⟨a, e⟩ | e
      · exact Prod.ext a.symm e.symm
      · exact absurd (h2 at_ (Int.le_refl _) e) hw
def wipe (fr ln : Int) : Nat → Int → Dv → Int × Dv
  | 0, _, d => (0, d)
  | m + 1, at_, d => if (dvWrite d (fr + at_ % ln) ⟨#[]⟩).1 = 0 then wipe fr ln m (at_ + 1) (dvWrite d (fr + at_ % ln) ⟨#[]⟩).2 else dvWrite d (fr + at_ % ln) ⟨#[]⟩
def rsm (fr ln head : Int) (d : Dv) : Int × Dv :=
  if (wipe fr ln (head + ln - (scan (secAt d fr ln) ln.toNat head 0 ⟨#[]⟩).2).toNat (scan (secAt d fr ln) ln.toNat head 0 ⟨#[]⟩).2 d).1 = 0 then dvFlush (wipe fr ln (head + ln - (scan (secAt d fr ln) ln.toNat head 0 ⟨#[]⟩).2).toNat (scan (secAt d fr ln) ln.toNat head 0 ⟨#[]⟩).2 d).2
  else wipe fr ln (head + ln - (scan (secAt d fr ln) ln.toNat head 0 ⟨#[]⟩).2).toNat (scan (secAt d fr ln) ln.toNat head 0 ⟨#[]⟩).2 d
theorem pad_nil : pad ⟨#[]⟩ = Z64 := by decide +kernel
theorem wipe_DI (fr ln : Int) {N : Nat} : ∀ (m q : Nat) (at_ : Int) (d : Dv), DI N q d → DI N (q + m) (wipe fr ln m at_ d).2 := by
  intro m
  induction m with
  | zero => intro q at_ d h; exact h
  | succ m ih =>
    intro q at_ d h
    rw [wipe]
    have h1 := h.write (fr + at_ % ln) ⟨#[]⟩
    split
    · have := ih (q + 1) (at_ + 1) _ h1
      rw [show q + (m + 1) = q + 1 + m by omega]; exact this
    · exact h1.later (by omega)
theorem wipe_poss {P : Int → ByteArray → Prop} (fr ln : Int) : ∀ (m : Nat) (at_ : Int) (d : Dv), Poss P d → (∀ s, at_ ≤ s → s < at_ + m → P (fr + s % ln) Z64) → Poss P (wipe fr ln m at_ d).2 := by
  intro m
  induction m with
  | zero => intro at_ d h _; exact h
  | succ m ih =>
    intro at_ d h hp
    rw [wipe]
    have h1 := h.write (fr + at_ % ln) ⟨#[]⟩ (by rw [pad_nil]; exact hp at_ (Int.le_refl _) (by omega))
    split
    · exact ih (at_ + 1) _ h1 (fun s a b => hp s (by omega) (by omega))
    · exact h1
theorem wipe_up (fr ln : Int) (hl : 1 ≤ ln) (hf : 0 ≤ fr) : ∀ (m : Nat) (at_ : Int) (d : Dv), UpN d → fr + ln ≤ d.sec.length → (wipe fr ln m at_ d).1 = 0 ∧ UpN (wipe fr ln m at_ d).2 ∧ (wipe fr ln m at_ d).2.sec = d.sec ∧ (∀ a, readB d a = Z64 → readB (wipe fr ln m at_ d).2 a = Z64) ∧
    (∀ s, at_ ≤ s → s < at_ + m → readB (wipe fr ln m at_ d).2 (fr + s % ln) = Z64) := by
  intro m
  induction m with
  | zero => intro at_ d h _; exact ⟨rfl, h, rfl, fun _ h => h, fun s a b => by omega⟩
  | succ m ih =>
    intro at_ d h hs
    have h1 := Int.emod_nonneg at_ (show ln ≠ 0 by omega)
    have h2 := Int.emod_lt_of_pos at_ (show (0 : Int) < ln by omega)
    obtain ⟨w1, w2, w3, w4⟩ := h.write (fr + at_ % ln) ⟨#[]⟩ (by omega) (by omega) (by decide)
    have hr : ∀ a, readB (dvWrite d (fr + at_ % ln) ⟨#[]⟩).2 a = if fr + at_ % ln = a then Z64 else readB d a := fun a => by
      rw [readB_more d _ _ w3 w4, pad_nil]
      by_cases e : fr + at_ % ln = a
      · subst e; simp
      · rw [if_neg e]; simp [e]
    obtain ⟨i1, i2, i3, i4, i5⟩ := ih (at_ + 1) _ w2 (by rw [w3]; exact hs)
    rw [wipe, if_pos w1]
    refine ⟨i1, i2, i3.trans w3, fun a ha => i4 a ((hr a).trans ?_), fun s a b => ?_⟩
    · split
      · rfl
      · exact ha
    · by_cases e : s = at_
      · subst e; exact i4 _ ((hr _).trans (if_pos rfl))
      · exact i5 s (by omega) (by omega)
def QP (fr ln m0 : Int) (V : Int → Option (Int × ByteArray)) (us : List ByteArray) (a : Int) (c : ByteArray) : Prop := ∀ s, m0 ≤ s → s < m0 + ln → a = fr + s % ln → (s < m0 + costs us → gd c s = lay m0 us s) ∧ (m0 + costs us ≤ s → gd c s = V s ∨ gd c s = none)
structure QV (fr ln m0 : Int) (V : Int → Option (Int × ByteArray)) (us : List ByteArray) : Prop where
  scan : Go.Proofs.Ytfllpmmfjbjgoaa.PA.scan V ln.toNat m0 0 ⟨#[]⟩ = (recs m0 us, m0 + costs us)
  lay : ∀ s, m0 ≤ s → s < m0 + costs us → V s = Go.Proofs.Ytfllpmmfjbjgoaa.PA.lay m0 us s
  le : (costs us : Int) ≤ ln
theorem lay_take (ts : List ByteArray) (j : Nat) (m0 s : Int) (h0 : m0 ≤ s) (h1 : s < m0 + costs (ts.take j)) : lay m0 ts s = lay m0 (ts.take j) s := by
  have h := lay_append (ts.take j) (ts.drop j) m0 s h0
  rw [List.take_append_drop, if_pos h1] at h
  exact h
theorem qv_of {d : Dv} {fr ln m0 : Int} {ts : List ByteArray} (hp : Poss (PP fr ln m0 (m0 + ln) ts) d) (hd : d.down = false) (hc : d.cache = []) (hl : 1 ≤ ln) (hf : 0 ≤ fr) (hs : fr + ln ≤ d.sec.length) (hm : 1 ≤ m0) (hcs : (costs ts : Int) ≤ ln) :
    ∃ us, QV fr ln m0 (secAt d fr ln) us ∧ Poss (QP fr ln m0 (secAt d fr ln) us) d ∧ us.length ≤ ts.length := by
  obtain ⟨j, h1, h2, -⟩ := pre_scan hp hd hl hf hs hm hcs
  have hct : costs (ts.take j) ≤ costs ts := by
    have h := costs_append (ts.take j) (ts.drop j)
    rw [List.take_append_drop] at h
    omega
  have hlay : ∀ s, m0 ≤ s → s < m0 + costs (ts.take j) → secAt d fr ln s = lay m0 (ts.take j) s := fun s a b => by
    obtain ⟨c, e, h⟩ := poss_secAt (s := s) hp hd hl hf hs
    have hst := scan_stop (secAt d fr ln) s
    rcases h s a (by omega) rfl with h3 | ⟨_, h3⟩
    · have := hst (e.trans h3) (by omega) ln.toNat m0 0 ⟨#[]⟩ a (by omega)
      rw [h2] at this
      dsimp only at this
      omega
    · rw [e, h3, lay_take ts j m0 s a b]
  refine ⟨ts.take j, ⟨h2, hlay, by omega⟩, ⟨fun i x hx s a b e => ?_, fun x hx => by rw [hc] at hx; cases hx⟩, List.length_take_le' j ts⟩
  have hi : i < d.sec.length := (List.getElem?_eq_some_iff.1 hx).1
  have hsg : secAt d fr ln s = gd x s := by
    rw [secAt_gd hd (by omega) (by omega), ← e]
    congr 1
    unfold readB
    rw [hc, Int.toNat_natCast, List.getD_eq_getElem?_getD, hx]
    rfl
  exact ⟨fun b2 => by rw [← hsg]; exact hlay s a b2, fun _ => .inl hsg.symm⟩
theorem qp_scan {d : Dv} {fr ln m0 : Int} {V : Int → Option (Int × ByteArray)} {us : List ByteArray} (hv : QV fr ln m0 V us) (hp : Poss (QP fr ln m0 V us) d) (hd : d.down = false) (hl : 1 ≤ ln) (hf : 0 ≤ fr) (hs : fr + ln ≤ d.sec.length) (hm : 1 ≤ m0) :
    scan (secAt d fr ln) ln.toNat m0 0 ⟨#[]⟩ = (recs m0 us, m0 + costs us) := by
  rw [← hv.scan]
  refine scan_less V _ ln.toNat m0 0 ⟨#[]⟩ (Int.le_refl 0) (by omega) (fun s a b => ?_) (fun s a b => ?_)
  · rw [hv.scan] at b
    dsimp only at b
    obtain ⟨c, e, h⟩ := poss_secAt (s := s) hp hd hl hf hs
    rw [e, (h s a (by have := hv.le; omega) rfl).1 b, hv.lay s a b]
  · obtain ⟨c, e, h⟩ := poss_secAt (s := s) hp hd hl hf hs
    rw [e]
    by_cases q : s < m0 + costs us
    · exact .inl (by rw [(h s a (by omega) rfl).1 q, hv.lay s a q])
    · exact (h s a (by omega) rfl).2 (by omega)
theorem qp_z {fr ln m0 : Int} {V : Int → Option (Int × ByteArray)} {us : List ByteArray} (s : Int) (h0 : m0 + costs us ≤ s) (h1 : s < m0 + ln) : QP fr ln m0 V us (fr + s % ln) Z64 := fun s2 a b e => by
  have : s = s2 := emod_inj2 (ln := ln) (by omega) (by omega) (by omega)
  subst this
  exact ⟨fun h => by omega, fun _ => .inr (gd_z64 s)⟩
theorem rsm_poss {d : Dv} {fr ln m0 : Int} {V : Int → Option (Int × ByteArray)} {us : List ByteArray} {k : Nat} (hv : QV fr ln m0 V us) (hp : Poss (QP fr ln m0 V us) d) (hd : d.down = false) (hi : DI 24 k d) (hl : 1 ≤ ln) (hf : 0 ≤ fr) (hs : fr + ln ≤ 24) (hm : 1 ≤ m0) :
    Poss (QP fr ln m0 V us) (rsm fr ln m0 d).2 ∧ DI 24 (k + ln.toNat) (rsm fr ln m0 d).2 := by
  have hsc := qp_scan hv hp hd hl hf (by rw [hi.sec]; exact hs) hm
  have hle := hv.le
  unfold rsm
  rw [hsc]
  dsimp only
  have h1 := wipe_poss fr ln (m0 + ln - (m0 + costs us)).toNat (m0 + costs us) d hp (fun s a b => qp_z s a (by omega))
  have h2 := (wipe_DI fr ln (m0 + ln - (m0 + costs us)).toNat k (m0 + costs us) d hi).later (k' := k + ln.toNat) (by omega)
  split
  · exact ⟨h1.flush h2.ok, h2.flush⟩
  · exact ⟨h1, h2⟩
theorem rsm_up {d : Dv} {fr ln m0 : Int} {V : Int → Option (Int × ByteArray)} {us : List ByteArray} {k : Nat} (hv : QV fr ln m0 V us) (hp : Poss (QP fr ln m0 V us) d) (hd : UpN d) (hi : DI 24 k d) (hl : 1 ≤ ln) (hf : 0 ≤ fr) (hs : fr + ln ≤ 24) (hm : 1 ≤ m0) :
    (rsm fr ln m0 d).1 = 0 ∧ UpN (rsm fr ln m0 d).2 ∧ (rsm fr ln m0 d).2.cache = [] ∧ Poss (PP fr ln m0 (m0 + ln) us) (rsm fr ln m0 d).2 ∧ Poss (FP fr ln m0 (m0 + costs us) (lay m0 us)) (rsm fr ln m0 d).2 := by
  have hsc := qp_scan hv hp hd.down hl hf (by rw [hi.sec]; exact hs) hm
  have hle := hv.le
  unfold rsm
  rw [hsc]
  dsimp only
  have h1 := wipe_poss fr ln (m0 + ln - (m0 + costs us)).toNat (m0 + costs us) d hp (fun s a b => qp_z s a (by omega))
  have h2 := wipe_DI fr ln (m0 + ln - (m0 + costs us)).toNat k (m0 + costs us) d hi
  obtain ⟨u1, u2, u3, -, u5⟩ := wipe_up fr ln hl hf (m0 + ln - (m0 + costs us)).toNat (m0 + costs us) d hd (by rw [hi.sec]; exact hs)
  rw [if_pos u1]
  generalize (wipe fr ln (m0 + ln - (m0 + costs us)).toNat (m0 + costs us) d).2 = d2 at h1 h2 u2 u3 u5 ⊢
  obtain ⟨f1, f2, f3, -⟩ := u2.flush
  have hK : ∀ s, m0 ≤ s → s < m0 + ln → gd (readB d2 (fr + s % ln)) s = if s < m0 + costs us then lay m0 us s else none := fun s a b => by
    by_cases q : s < m0 + costs us
    · rw [if_pos q]
      have e1 := Int.emod_nonneg s (show ln ≠ 0 by omega)
      have e2 := Int.emod_lt_of_pos s (show (0 : Int) < ln by omega)
      exact (h1.read (a := fr + s % ln) (by omega) (by rw [h2.sec]; omega) s a b rfl).1 q
    · rw [if_neg q, u5 s (by omega) (by omega)]; exact gd_z64 s
  have hF := flush_FP (K := fun s => if s < m0 + costs us then lay m0 us s else none) h2.ok u2 hK
  refine ⟨f1, f2, f3, hF.imp (fun a c h s x y z => ?_), hF.imp (fun a c h s x y z => ?_)⟩
  · have := h s x y z
    dsimp only at this
    by_cases q : s < m0 + costs us
    · rw [if_pos q] at this; exact .inr ⟨q, this⟩
    · rw [if_neg q] at this; exact .inl this
  · have := h s x (by omega) z
    dsimp only at this
    rw [if_pos y] at this; exact this
end Go.Proofs.Ytfllpmmfjbjgoaa.PA

namespace Go.Proofs.Ytfllpmmfjbjgoaa.PA
set_option linter.unusedSimpArgs false
open Go.RowKit Go.Proofs.YtfllpmmfjbjgoaaW.PrintWords Go.Proofs.YtfllpmmfjbjgoaaW.PrintLast Go.Proofs.YtfllpmmfjbjgoaaW.PrintMore Go.Proofs.Ytfllpmmfjbjgoaa Go.Proofs.Ytfllpmmfjbjgoaa.PL
theorem row_dev {α : Type} {k : Kd α} {e base g : Nat} {W W1 : World} {v : Value} {xs : List α} (h : k.R e W base (fun x => ¬ Foot W g x) v xs) (hK : DevKeep W W1 g) : k.R e W1 base (fun x => ¬ Foot W1 g x) v xs := by
  have h1 := Kd.R_bound h
  have h2 := Kd.R_step h1 (w1 := W1) (fun x hx hlt => hK.kept.2 x hlt hx.1)
  exact Kd.R_mono h2 (fun x hx hf => (hK.foot x hf).elim hx.1 (fun h3 => by have := hx.2.2.1; omega))
structure RS (w0 w W : World) (g : Nat) (fr ln : Int) (d : Dv) (v : Value) (outs : List S59) : Prop where
  dev : IsDev w0 W g d
  below : Below w0.heap.size w0 W
  keep : DevKeep w W g
  apart : ¬ Foot W g w.heap.size
  area : W.heap[w.heap.size]? = some (.cells #[.int .i64 fr, .int .i64 ln] 28 (0, 0))
  row : Kd.R k59 59 W w.heap.size (fun x => ¬ Foot W g x) v outs
theorem RS.call {w0 w W W1 : World} {g : Nat} {fr ln : Int} {d d1 : Dv} {v : Value} {outs : List S59} (h : RS w0 w W g fr ln d v outs) (hI : IsDev w0 W1 g d1) (hB : Below w0.heap.size w0 W1) (hK : DevKeep W W1 g) : RS w0 w W1 g fr ln d1 v outs :=
  ⟨hI, hB, h.keep.trans hK, fun hf => (hK.foot _ hf).elim h.apart (fun h2 => by have := blk_lt h.area; omega), (hK.kept.2 _ (blk_lt h.area) h.apart).trans h.area, row_dev h.row hK⟩
theorem RS.step {w0 w W W1 : World} {g : Nat} {fr ln : Int} {d : Dv} {v : Value} {outs : List S59} (h : RS w0 w W g fr ln d v outs) (hB : Below W.heap.size W W1) : RS w0 w W1 g fr ln d v outs := by
  obtain ⟨vs, vc, hD⟩ := h.dev
  exact h.call ⟨vs, vc, hD.below hB⟩ (bsp h.below hB) (DevKeep.of_below hD.lt hB)
def ResPost (w0 w w' : World) (g : Nat) (fr ln head : Int) (d : Dv) (e : Ending) : Prop :=
  ((rsm fr ln head d).1 = 0 ∧ ∃ (b : Nat) (v : Value), e = .returned (.tuple #[.pointer (some ⟨b, 0, none⟩), v, .int .i64 0]) ∧ LogSt w0 w' g b ⟨(rsm fr ln head d).2, fr, ln, head, (scan (secAt d fr ln) ln.toNat head 0 ⟨#[]⟩).2⟩ ∧
    Kd.R k59 59 w' w.heap.size (fun x => ¬ Foot w' g x ∧ x ≠ b) v (scan (secAt d fr ln) ln.toNat head 0 ⟨#[]⟩).1 ∧ w.heap.size ≤ b ∧ DevKeep w w' g) ∨
  (¬ (rsm fr ln head d).1 = 0 ∧ e = .returned (.tuple #[.pointer none, .slice none 0 0, .int .i64 (rsm fr ln head d).1]) ∧ IsDev w0 w' g (rsm fr ln head d).2 ∧ Below w0.heap.size w0 w' ∧ DevKeep w w' g)
set_option maxHeartbeats 2000000 in
theorem wal_Resume_bad (w : World) (p : Value) (fr ln head : Int) (hb : head < 1) :
    Calls Try.prog 35 #[p, .agg #[.int .i64 fr, .int .i64 ln], .int .i64 head] w fun e w' => e = .returned (.tuple #[.pointer none, .slice none 0 0, .int .i64 18]) ∧ Below w.heap.size w w' := by
  have HB := Aside0.mk (bal (Below.refl w.heap.size w) (.cells #[.int .i64 fr, .int .i64 ln] 28))
  have p1 : decide (head < 1) = true := decide_eq_true hb
  go_enter Try.func35, Try.ntmps35
  go_wp2
  go_ret3
  exact ⟨rfl, HB.out⟩
theorem scan_to (V : Int → Option (Int × ByteArray)) : ∀ (n : Nat) (at_ f : Int) (t : ByteArray), 0 ≤ f → f < at_ → (scan V n at_ f t).2 ≤ at_ + n := by
  intro n
  induction n with
  | zero => intro at_ f t h0 h1; show (if f > 0 then f else at_) ≤ at_ + ((0 : Nat) : Int); split <;> omega
  | succ n ih =>
    intro at_ f t h0 h1
    cases hv : V at_ with
    | none => rw [scan_none hv]; show (if f > 0 then f else at_) ≤ _; split <;> omega
    | some x =>
      obtain ⟨m, s⟩ := x
      by_cases q : m % 2 = 1 ↔ f = 0
      · by_cases q2 : 2 ≤ m
        · rw [scan_end hv q q2]; have := ih (at_ + 1) 0 ⟨#[]⟩ (Int.le_refl 0) (by omega); show (scan V n (at_ + 1) 0 ⟨#[]⟩).2 ≤ _; omega
        · rw [scan_on hv q q2]; have := ih (at_ + 1) (if f = 0 then at_ else f) (t ++ s) (by split <;> omega) (by split <;> omega); omega
      · rw [scan_odd hv q]; show (if f > 0 then f else at_) ≤ _; split <;> omega
theorem scan_from (V : Int → Option (Int × ByteArray)) (n : Nat) (at_ : Int) (t : ByteArray) (h : 1 ≤ at_) : at_ ≤ (scan V n at_ 0 t).2 := by
  rcases scan_ge V n at_ 0 t (Int.le_refl 0) (by omega) with ⟨_, e⟩ | e
  · rw [e, if_neg (by decide)]; exact Int.le_refl _
  · omega
set_option maxHeartbeats 16000000 in
set_option maxRecDepth 100000 in
theorem wal_Resume.calls (g : Nat) (d : Dv) (fr head : Int) (L : Nat) (w0 w : World) (k : Nat) (hI : IsDev w0 w g d) (hB0 : Below w0.heap.size w0 w) (hd : d.down = false) (hn : DI 24 k d) (hk : k ≤ 900000) (hA : chkA fr L (24 : Nat) = 0) (hf : 1 ≤ head ∧ head ≤ 2000000) :
    Calls Try.prog 35 #[.pointer (some ⟨g, 0, none⟩), .agg #[.int .i64 fr, .int .i64 (L : Int)], .int .i64 head] w fun e w' => ResPost w0 w w' g fr L head d e := by
  have hln : 2 ≤ (L : Int) ∧ (L : Int) ≤ 24 ∧ 0 ≤ fr ∧ fr + L ≤ 24 := by
    unfold chkA at hA
    by_cases q : (L : Int) < 2 ∨ fr < 0 ∨ (L : Int) > (24 : Nat) ∨ fr > (24 : Nat) - (L : Int)
    · rw [if_pos q] at hA; exact absurd hA (by decide)
    · omega
  have hBa := bal (Below.refl w.heap.size w) (.cells #[.int .i64 fr, .int .i64 L] 28)
  have hsc := wal_Scan.calls g d fr L head w0 _ 24 k (hI.below hBa) hd hn hA (by decide) hf
  rw [Int.toNat_natCast] at hsc
  have hto := scan_to (secAt d fr L) L head 0 ⟨#[]⟩ (Int.le_refl 0) (by omega)
  have hfm := scan_from (secAt d fr L) L head ⟨#[]⟩ hf.1
  obtain ⟨R, hR⟩ : ∃ R, R = scan (secAt d fr L) L head 0 ⟨#[]⟩ := ⟨_, rfl⟩
  obtain ⟨P, hP⟩ : ∃ P, P = ResPost w0 w := ⟨_, rfl⟩
  have HP := Aside0.mk hP
  rw [← hP]
  rw [← hR] at hsc hto hfm
  obtain ⟨R1, E⟩ := R
  dsimp only at hsc hto hfm
  obtain ⟨M, hM⟩ : ∃ M : Nat, E + M = head + L := ⟨(head + L - E).toNat, by omega⟩
  obtain ⟨X, hX⟩ : ∃ X, X = wipe fr L M E d := ⟨_, rfl⟩
  have hrs : rsm fr L head d = if X.1 = 0 then dvFlush X.2 else X := by
    unfold rsm
    rw [Int.toNat_natCast, ← hR]
    dsimp only
    rw [show (head + (L : Int) - E).toNat = M by omega, ← hX]
  have HRS := Aside0.mk hrs
  have HRR := Aside0.mk (show scan (secAt d fr L) (L : Int).toNat head 0 ⟨#[]⟩ = (R1, E) by rw [Int.toNat_natCast, ← hR])
  have HX := Aside0.mk hX
  have HM := Aside0.mk hM
  have HE := Aside0.mk (show head ≤ E ∧ E ≤ head + L from ⟨hfm, hto⟩)
  have HF := Aside0.mk hf
  have HL := Aside0.mk hln
  have HN := Aside0.mk hn
  have HKK := Aside0.mk hk
  have HSC := Aside0.mk hsc
  have hx := World.alloc_heap_new w (.cells #[.int .i64 fr, .int .i64 L] 28)
  have b0 := (kcl hx 0).trans rfl
  have b1 := (kcl hx 1).trans rfl
  have HS0 := Aside0.mk (show RS w0 w (w.alloc (.cells #[.int .i64 fr, .int .i64 L] 28)) g fr L d (.slice none 0 0) [] by
    obtain ⟨vs, vc, hD⟩ := hI
    refine ⟨⟨vs, vc, hD.below hBa⟩, bsp hB0 hBa, DevKeep.of_below hD.lt hBa, fun hf => ?_, hx, Kd.R_nil _ _ _ _ _⟩
    have := (hD.foot_lt ((foot_same (hBa.block g hD.lt) _).1 hf)).1
    omega)
  have p1 : decide (head < 1) = false := decide_eq_false (by omega)
  have p2 : decide (1099511627776 < head) = false := decide_eq_false (by omega)
  clear hBa hsc hto hfm hR hP hX hrs hM hf hln hn hk hx hI hB0 hd hA
  obtain ⟨W1, hW1⟩ : ∃ W1, W1 = w.alloc (.cells #[.int .i64 fr, .int .i64 L] 28) := ⟨_, rfl⟩
  rw [← hW1] at HSC HS0 b0 b1
  go_enter Try.func35, Try.ntmps35
  go_wp2_with fail
  rw [← hW1]
  clear hW1
  refine HSC.out.mono ?_
  rintro e w2 ⟨v, rfl, hRw, hB⟩
  have HS2 := Aside0.mk (show RS w0 w w2 g fr L d v R1 by
    have h := HS0.out.step hB
    obtain ⟨vs, vc, hD⟩ := HS0.out.dev
    refine ⟨h.dev, h.below, h.keep, h.apart, h.area, Kd.R_lower (Kd.R_mono (Kd.R_bound hRw) (fun x hx hf => ?_)) HS0.out.keep.kept.1⟩
    have := (hD.foot_lt ((foot_same (hB.block g hD.lt) x).1 hf)).1
    have := hx.2.1
    omega)
  clear hB hRw b0 b1 p1 p2 HSC HS0
  go_wp2_with fail
  go_loopw [12] (fun v12 wr => ∃ (j : Nat) (dj : Dv), v12 = .int .i64 (E + j) ∧ j ≤ M ∧ Aside0 (wipe fr L (M - j) (E + j) dj = X) ∧ Aside0 (DI 24 (k + j) dj) ∧ Aside0 (RS w0 w wr g fr L dj v R1)) (fun v12 _ => M - (intOf v12 - E).toNat)
  case atStart => exact ⟨0, d, by simp, Nat.zero_le _, ⟨by rw [HX.out]; simp⟩, HN, HS2⟩
  case round =>
    clear HS2
    obtain ⟨j, dj, rfl, hj, HW, HDj, HS⟩ := hrel
    have a0 := (kcl HS.out.area 0).trans rfl
    have a1 := (kcl HS.out.area 1).trans rfl
    have e1 := wrapI (head + (L : Int)) (by have := HF.out; have := HL.out; omega)
    have hMo := HM.out
    by_cases q : j < M
    rotate_left
    · obtain rfl : j = M := by omega
      have hw := HW.out
      rw [Nat.sub_self, wipe] at hw
      have HR0 := Aside0.mk (show rsm fr L head d = dvFlush dj by rw [HRS.out, ← hw]; exact if_pos rfl)
      clear hw
      have hfl := device_Flush.calls g dj w0 wr HS.out.dev HS.out.below HDj.out.left HDj.out.ok
      go_wp2_with fail
      refine hfl.mono ?_
      rintro e w3 ⟨rfl, hI, hB, hK⟩
      have HS3 := Aside0.mk (HS.out.call hI hB hK)
      rw [← HR0.out] at HS3 ⊢
      clear hI hB hK a0 a1 hfl
      have a0 := (kcl HS3.out.area 0).trans rfl
      have a1 := (kcl HS3.out.area 1).trans rfl
      by_cases q0 : (rsm fr L head d).1 = 0
      · have Q0 := Aside0.mk q0
        rw [q0]
        clear q0
        go_wp2
        go_ret3
        rw [HP.out]
        have hBl := bal (Below.refl w3.heap.size w3) (.cells #[.pointer (some ⟨g, 0, none⟩), .int .i64 fr, .int .i64 L, .int .i64 head, .int .i64 E] 84)
        have HS4 := HS3.out.step hBl
        obtain ⟨vs, vc, hD⟩ := HS3.out.dev
        have hap : ¬ Foot (w3.alloc (.cells #[.pointer (some ⟨g, 0, none⟩), .int .i64 fr, .int .i64 L, .int .i64 head, .int .i64 E] 84)) g w3.heap.size := fun hf => by
          have := (hD.foot_lt ((foot_same (hBl.block g hD.lt) _).1 hf)).1
          omega
        refine .inl ⟨Q0.out, w3.heap.size, v, rfl, ?_, ?_, HS3.out.keep.kept.1, HS4.keep⟩
        · rw [HRR.out]
          exact ⟨HS4.dev, HS4.below, HS3.out.below.size, hap, World.alloc_heap_new w3 _⟩
        · rw [HRR.out]
          have hr := Kd.R_bound HS3.out.row
          exact Kd.R_mono (Kd.R_alloc hr _) (fun x hx => ⟨fun hf => hx.1 ((foot_same (hBl.block g hD.lt) x).1 hf), fun e => by have := hx.2.2.1; omega⟩)
      · have q1 : ((rsm fr L head d).1 != 0) = true := bne_iff_ne.2 q0
        have Q0 := Aside0.mk q0
        clear q0
        go_wp2
        go_ret3
        rw [HP.out]
        exact .inr ⟨Q0.out, rfl, HS3.out.dev, HS3.out.below, HS3.out.keep⟩
    obtain ⟨nn, hm⟩ : ∃ nn, M - j = nn + 1 := ⟨M - j - 1, by omega⟩
    have hm2 : M - (j + 1) = nn := by omega
    have hw := HW.out
    rw [hm, wipe] at hw
    have HM2 := Aside0.mk hm2
    obtain ⟨p, hp⟩ : ∃ p, p = fr + (E + j) % L := ⟨_, rfl⟩
    have hLb := HL.out
    have hEb := HE.out
    have hFb := HF.out
    have hpb : 0 ≤ p ∧ p < 24 := by
      have h1 := Int.emod_nonneg (E + j) (show (L : Int) ≠ 0 by omega)
      have h2 := Int.emod_lt_of_pos (E + j) (show (0 : Int) < L by omega)
      omega
    have hat : wal_Area_at.f fr L (E + j) = some p := by
      unfold wal_Area_at.f
      rw [if_neg (by omega), Int.tmod_eq_emod_of_nonneg (by omega), wrapI _ (by omega), hp]
    rw [← hp] at hw
    have HAT := Aside0.mk hat
    have hkk := HKK.out
    have HWR := Aside0.mk (fun W h1 h2 => device_Write.calls g dj p ⟨#[]⟩ w0 W h1 h2 HDj.out.left (by have := HDj.out.cache; omega) (by decide))
    have HD2 := Aside0.mk (HDj.out.write p ⟨#[]⟩)
    have HW2 := Aside0.mk hw
    have q1 : (E + (j : Int) < head + (L : Int)) := by omega
    clear hm hm2 hw hp hat hkk hpb hLb hEb hFb hMo
    go_wp2_with fail
    refine (wal_Area_at.calls fr L (E + j) p _ HAT.out).mono ?_
    rintro e w4 ⟨rfl, hB⟩
    have HS4 := Aside0.mk (HS.out.step hB)
    clear hB a0 a1 e1
    go_wp2_with fail
    refine (HWR.out w4 HS4.out.dev HS4.out.below).mono ?_
    rintro e w5 ⟨rfl, hI, hB, hK⟩
    have HS5 := Aside0.mk (HS4.out.call hI hB hK)
    clear hI hB hK
    generalize dvWrite dj p ⟨#[]⟩ = Y at HS5 HD2 HW2 ⊢
    obtain ⟨ye, d5⟩ := Y
    dsimp only at HS5 HD2 HW2 ⊢
    by_cases q0 : ye = 0
    · subst q0
      have HW3 := Aside0.mk (HW2.out.symm.trans (if_pos rfl)).symm
      have E2 := Aside0.mk (wrapI (E + (j : Int) + 1) (by have := HE.out; have := HF.out; have := HL.out; have := HM.out; omega))
      have e2 := E2.out
      go_wp2
      go_roundw
      case rel => exact ⟨j + 1, d5, by go_num, by omega, ⟨by rw [HM2.out, show E + ((j + 1 : Nat) : Int) = E + (j : Int) + 1 by omega]; exact HW3.out⟩, HD2, HS5⟩
      case measure => simp [intOf]; omega
    · have q2 : (ye != 0) = true := bne_iff_ne.2 q0
      have HX0 := Aside0.mk (show rsm fr L head d = (ye, d5) by
        have h := HW2.out
        rw [if_neg q0] at h
        rw [HRS.out, ← h]; exact if_neg q0)
      have Q0 := Aside0.mk q0
      clear q0
      go_wp2
      go_ret3
      rw [HP.out]
      refine .inr ?_
      rw [HX0.out]
      exact ⟨Q0.out, rfl, HS5.out.dev, HS5.out.below, HS5.out.keep⟩
end Go.Proofs.Ytfllpmmfjbjgoaa.PA

namespace Go.Proofs.Ytfllpmmfjbjgoaa.PA
set_option linter.unusedSimpArgs false
open Go.RowKit Go.Proofs.YtfllpmmfjbjgoaaW.PrintWords Go.Proofs.YtfllpmmfjbjgoaaW.PrintLast Go.Proofs.YtfllpmmfjbjgoaaW.PrintMore Go.Proofs.Ytfllpmmfjbjgoaa Go.Proofs.Ytfllpmmfjbjgoaa.PL
structure GI (N k : Nat) (l : Lg) (m0 : Int) (ts : List ByteArray) : Prop where
  ok : LgOk l
  up : UpN l.dev
  di : DI N k l.dev
  nx : l.nx = m0 + costs ts
  area : l.fr + l.ln ≤ N
  top : l.hd + l.ln ≤ 1000000
  m0 : 1 ≤ m0 ∧ l.hd ≤ m0
theorem GI.app {N k : Nat} {l : Lg} {m0 : Int} {ts : List ByteArray} (h : GI N k l m0 ts) (t : ByteArray) :
    (∃ d', lgApp l t = (⟨l.nx, l.nx + costN t.size - 1, t⟩, 0, ⟨d', l.fr, l.ln, l.hd, l.nx + costN t.size⟩) ∧ AppUp l.dev d' l.fr l.ln l.nx t ∧ GI N (k + 1000) ⟨d', l.fr, l.ln, l.hd, l.nx + costN t.size⟩ m0 (ts ++ [t]) ∧ l.nx + costN t.size ≤ l.hd + l.ln) ∨ lgApp l t = (noRec, 13, l) := by
  have h1 := h.ok.ln
  have h2 := h.ok.fr
  have h3 := h.ok.hd
  have h4 := h.ok.nx
  have h5 := h.top
  by_cases q : (costN t.size : Int) ≤ l.ln - (l.nx - l.hd)
  · obtain ⟨d', e, ha, hd⟩ := lgApp_up l t N k h.ok h.up h.di h.area h.top q
    refine .inl ⟨d', e, ha, ⟨⟨h1, h2, ⟨h3.1, ?_⟩, ⟨?_, ?_⟩⟩, ha.up, hd.later (by omega), ?_, h.area, h.top, h.m0⟩, by omega⟩
    · show l.hd ≤ l.nx + costN t.size; omega
    · show l.nx + costN t.size ≤ l.hd + l.ln; omega
    · show l.nx + costN t.size ≤ 1000000; omega
    · show l.nx + costN t.size = m0 + costs (ts ++ [t]); rw [costs_snoc, h.nx]; omega
  · exact .inr (lgApp_full l t q)
structure TS (w0 W : World) (g b : Nat) (l : Lg) (v : Value) (ts : List ByteArray) : Prop where
  log : LogSt w0 W g b l
  row : Kd.R Kd.string 9 W w0.heap.size (fun x => ¬ Foot W g x ∧ x ≠ b) v ts
theorem TS.step {w0 W W1 : World} {g b : Nat} {l : Lg} {v : Value} {ts : List ByteArray} (h : TS w0 W g b l v ts) (hB : Below W.heap.size W W1) : TS w0 W1 g b l v ts := ⟨h.log.step hB, row_log h.row (LogKeep.of_below h.log hB)⟩
theorem TS.call {w0 W W1 : World} {g b : Nat} {l l2 : Lg} {v : Value} {ts : List ByteArray} (h : TS w0 W g b l v ts) (hL : LogSt w0 W1 g b l2) (hK : LogKeep W W1 g b) : TS w0 W1 g b l2 v ts := ⟨hL, row_log h.row hK⟩
end Go.Proofs.Ytfllpmmfjbjgoaa.PA

