import Derived.Test.YtfllpmmfjbjgoaaQPlGPre
import Derived.Test.YtfllpmmfjbjgoaaQPlPAx0
import Derived.Test.YtfllpmmfjbjgoaaQPlPAx3
import Derived.Test.YtfllpmmfjbjgoaaQPlPAx6
namespace Go.Proofs.Ytfllpmmfjbjgoaa.PA
set_option linter.unusedSimpArgs false
open Go.RowKit Go.Proofs.YtfllpmmfjbjgoaaW.PrintWords Go.Proofs.YtfllpmmfjbjgoaaW.PrintLast Go.Proofs.YtfllpmmfjbjgoaaW.PrintMore Go.Proofs.Ytfllpmmfjbjgoaa Go.Proofs.Ytfllpmmfjbjgoaa.PL
theorem lay_some (ts : List ByteArray) : ∀ (m0 s : Int), m0 ≤ s → s < m0 + costs ts → ∃ x, lay m0 ts s = some x := by
  induction ts with
  | nil => intro m0 s h0 h1; simp [costs] at h1; omega
  | cons t ts ih =>
    intro m0 s h0 h1
    simp only [costs] at h1
    simp only [lay]
    by_cases q : s < m0 + costN t.size
    · rw [if_pos q]; exact ⟨_, rfl⟩
    · rw [if_neg q]; exact ih _ _ (by omega) (by omega)
def WR (fr ln n0 : Int) (ts : List ByteArray) (d : Dv) : Prop := ∀ s, n0 + costs ts - ln ≤ s → s < n0 + costs ts → (n0 ≤ s → gd (readB d (fr + s % ln)) s = lay n0 ts s) ∧ (s < n0 → ∀ s2, gd (readB d (fr + s % ln)) s2 = none)
theorem WR.new (fr ln n0 : Int) (n : Nat) (hl : 1 ≤ ln) (hf : 0 ≤ fr) (hs : fr + ln ≤ n) : WR fr ln n0 [] (dvNew n) := by
  intro s h0 h1
  simp only [costs] at h1
  refine ⟨fun h => by omega, fun _ s2 => ?_⟩
  have e1 := Int.emod_nonneg s (show ln ≠ 0 by omega)
  have e2 := Int.emod_lt_of_pos s (show (0 : Int) < ln by omega)
  have hz : readB (dvNew n) (fr + s % ln) = Z64 := by
    unfold readB dvNew
    simp only [List.reverse_nil, List.find?_nil]
    rw [List.getD_eq_getElem?_getD, List.getElem?_replicate, if_pos (by omega)]
    rfl
  rw [hz]; exact gd_z64 s2
theorem WR.app {d d' : Dv} {fr ln n0 nx : Int} {ts : List ByteArray} {t : ByteArray} (h : AppUp d d' fr ln nx t) (hw : WR fr ln n0 ts d) (hn : nx = n0 + costs ts) (hm : 1 ≤ n0) (hz : nx + costN t.size ≤ 1000000) (hc : (costN t.size : Int) ≤ ln) : WR fr ln n0 (ts ++ [t]) d' := by
  intro s h0 h1
  rw [costs_snoc] at h0 h1
  by_cases q : s < nx
  · have e : readB d' (fr + s % ln) = readB d (fr + s % ln) := h.else _ (fun j hj e => by have := emod_inj (a := nx + j) (b := s) (ln := ln) (by omega) (by omega) (by omega); omega)
    obtain ⟨a, b⟩ := hw s (by omega) (by omega)
    rw [e]
    exact ⟨fun h2 => by rw [lay_snoc _ _ _ _ h2 (by omega)]; exact a h2, b⟩
  · obtain ⟨j, hj⟩ : ∃ j : Nat, s = nx + j := ⟨(s - nx).toNat, by omega⟩
    subst hj
    have hf := sec_fit nx t j (costN t.size) (by omega)
    refine ⟨fun _ => ?_, fun h2 => by omega⟩
    rw [h.read hc j (by omega), gd_tx _ _ _ hf (by omega) (mark_le _ _).2, if_pos rfl, hn, lay_last n0 ts t j (by omega)]
theorem WR.flush {d : Dv} {fr ln n0 : Int} {ts : List ByteArray} (hw : WR fr ln n0 ts d) (hk : DvOk d) (hu : UpN d) (hl : 1 ≤ ln) (hf : 0 ≤ fr) (hs : fr + ln ≤ d.sec.length) : WR fr ln n0 ts (dvFlush d).2 := by
  intro s h0 h1
  have e1 := Int.emod_nonneg s (show ln ≠ 0 by omega)
  have e2 := Int.emod_lt_of_pos s (show (0 : Int) < ln by omega)
  rw [readB_flush d hk (fr + s % ln) (by omega) (by omega) hu.flush.1]
  exact hw s h0 h1
theorem recs_from (ts : List ByteArray) : ∀ (n0 : Int), ∀ r ∈ recs n0 ts, n0 ≤ r.f0 := by
  induction ts with
  | nil => intro n0 r h; cases h
  | cons t ts ih =>
    intro n0 r h
    rcases List.mem_cons.1 h with rfl | h
    · exact Int.le_refl _
    · have := ih _ r h; omega
theorem recs_filter (h : Int) (ts : List ByteArray) : ∀ n0 : Int, ∃ j, j ≤ ts.length ∧ (recs n0 ts).filter (fun r => decide (h ≤ r.f0)) = recs (n0 + costs (ts.take j)) (ts.drop j) ∧ (h ≤ n0 + costs ts → h ≤ n0 + costs (ts.take j)) := by
  induction ts with
  | nil => intro n0; exact ⟨0, Nat.le_refl _, rfl, fun h => h⟩
  | cons t ts ih =>
    intro n0
    by_cases q : h ≤ n0
    · refine ⟨0, Nat.zero_le _, ?_, fun _ => by simp [costs]; exact q⟩
      rw [List.filter_eq_self.2 (fun r hr => decide_eq_true (Int.le_trans q (recs_from (t :: ts) n0 r hr)))]
      simp [costs]
    · obtain ⟨j, h1, h2, h3⟩ := ih (n0 + costN t.size)
      refine ⟨j + 1, by simpa using h1, ?_, fun hh => ?_⟩
      · simp only [recs, List.take_succ_cons, List.drop_succ_cons, costs]
        rw [List.filter_cons_of_neg (by simp; omega), h2]
        congr 1; omega
      · simp only [costs, List.take_succ_cons] at hh ⊢
        have := h3 (by omega); omega
theorem plays_scan {d : Dv} {fr ln n0 hd : Int} {ts : List ByteArray} {j : Nat} (hw : WR fr ln n0 ts d) (hdn : d.down = false) (hl : 1 ≤ ln) (hf : 0 ≤ fr) (hs : fr + ln ≤ d.sec.length) (hm : 1 ≤ n0) (hn : n0 + costs ts ≤ hd + ln) (h1 : hd ≤ n0 + costs (ts.take j)) :
    scan (secAt d fr ln) ln.toNat (n0 + costs (ts.take j)) 0 ⟨#[]⟩ = (recs (n0 + costs (ts.take j)) (ts.drop j), n0 + costs ts) := by
  have hc : costs ts = costs (ts.take j) + costs (ts.drop j) := by rw [← costs_append, List.take_append_drop]
  have hsec : ∀ s, secAt d fr ln s = gd (readB d (fr + s % ln)) s := fun s => by
    have e1 := Int.emod_nonneg s (show ln ≠ 0 by omega)
    have e2 := Int.emod_lt_of_pos s (show (0 : Int) < ln by omega)
    exact secAt_gd hdn (by omega) (by omega)
  have hlay : ∀ s, n0 + costs (ts.take j) ≤ s → s < n0 + costs (ts.take j) + costs (ts.drop j) → secAt d fr ln s = lay (n0 + costs (ts.take j)) (ts.drop j) s := fun s a b => by
    rw [hsec, (hw s (by omega) (by omega)).1 (by omega)]
    have h := lay_append (ts.take j) (ts.drop j) n0 s (by omega)
    rw [List.take_append_drop, if_neg (by omega)] at h
    exact h
  obtain ⟨i, i1, i2, i3⟩ := scan_log (secAt d fr ln) (ts.drop j) (n0 + costs (ts.take j)) ln.toNat (by omega) (by omega) (fun s a b => .inl (hlay s a b)) (fun hlt => by
    rw [hsec]
    have e0 : (n0 + costs (ts.take j) + (costs (ts.drop j) : Int)) % ln = (n0 + costs ts - ln) % ln := by
      rw [show n0 + (costs ts : Int) - ln = (n0 + costs (ts.take j) + (costs (ts.drop j) : Int)) - ln by omega, Int.sub_emod_right]
    rw [e0]
    obtain ⟨a, b⟩ := hw (n0 + costs ts - ln) (by omega) (by omega)
    by_cases q : n0 ≤ n0 + costs ts - ln
    · obtain ⟨x, hx⟩ := lay_some ts n0 (n0 + costs ts - ln) q (by omega)
      exact gd_other ((a q).trans hx) (by omega)
    · exact b (by omega) _)
  have hi : (ts.drop j).length ≤ i := i3 (ts.drop j).length (Nat.le_refl _) (fun s a b => hlay s a (by rw [List.take_length] at b; exact b))
  rw [i2, List.take_of_length_le hi]
  exact Prod.ext rfl (by show n0 + (costs (ts.take j) : Int) + (costs (ts.drop j) : Int) = n0 + (costs ts : Int); omega)
structure PW (n0 fr ln : Int) (i : Nat) (l : Lg) (ts : List ByteArray) : Prop where
  ok : LgOk l
  up : UpN l.dev
  di : DI 24 (1000 * i) l.dev
  nx : l.nx = n0 + costs ts
  ar : l.fr = fr ∧ l.ln = ln ∧ fr + ln ≤ 24
  n0b : 1 ≤ n0 ∧ n0 ≤ 70000
  hd : n0 ≤ l.hd
  cs : costs ts ≤ 10 * i
  len : ts.length ≤ i
  wr : WR fr ln n0 ts l.dev
theorem PW.later {n0 fr ln : Int} {i : Nat} {l : Lg} {ts : List ByteArray} (h : PW n0 fr ln i l ts) : PW n0 fr ln (i + 1) l ts :=
  { h with di := h.di.later (by omega), cs := by have := h.cs; omega, len := by have := h.len; omega }
theorem PW.app {n0 fr ln : Int} {i : Nat} {l : Lg} {ts : List ByteArray} (h : PW n0 fr ln i l ts) (hi : i ≤ 100) (t : ByteArray) (ht : t.size ≤ 300) :
    ((costN t.size : Int) ≤ ln - (l.nx - l.hd) ∧ ∃ l' : Lg, lgApp l t = (⟨l.nx, l.nx + costN t.size - 1, t⟩, 0, l') ∧ PW n0 fr ln (i + 1) l' (ts ++ [t]) ∧ l'.hd = l.hd ∧ l'.nx = l.nx + costN t.size) ∨ (¬ (costN t.size : Int) ≤ ln - (l.nx - l.hd) ∧ lgApp l t = (noRec, 13, l)) := by
  obtain ⟨rfl, rfl, h3⟩ := h.ar
  have o1 := h.ok.ln
  have o2 := h.ok.fr
  have o3 := h.ok.hd
  have o4 := h.ok.nx
  have n1 := h.n0b
  have n2 := h.nx
  have n3 := h.cs
  have n4 := h.hd
  by_cases q : (costN t.size : Int) ≤ l.ln - (l.nx - l.hd)
  · have hct : costN t.size ≤ 10 := by unfold costN; omega
    obtain ⟨d', e, ha, hd⟩ := lgApp_up l t 24 (1000 * i) h.ok h.up h.di h3 (by omega) q
    refine .inl ⟨q, _, e, ⟨⟨o1, o2, ⟨o3.1, ?_⟩, ⟨?_, ?_⟩⟩, ha.up, hd.later (by omega), ?_, ⟨rfl, rfl, h3⟩, n1, n4, ?_, ?_, ?_⟩, rfl, rfl⟩
    · show l.hd ≤ l.nx + costN t.size; omega
    · show l.nx + costN t.size ≤ l.hd + l.ln; omega
    · show l.nx + costN t.size ≤ 1000000; omega
    · show l.nx + costN t.size = n0 + costs (ts ++ [t]); rw [costs_snoc]; omega
    · rw [costs_snoc]; omega
    · have := h.len; simp; omega
    · exact WR.app ha h.wr n2 n1.1 (by omega) (by omega)
  · exact .inr ⟨q, lgApp_full l t q⟩
theorem PW.force {n0 fr ln : Int} {i : Nat} {l : Lg} {ts : List ByteArray} (h : PW n0 fr ln i l ts) : (dvFlush l.dev).1 = 0 ∧ (dvFlush l.dev).2.cache = [] ∧ PW n0 fr ln (i + 1) { l with dev := (dvFlush l.dev).2 } ts := by
  obtain ⟨f1, f2, f3, -⟩ := h.up.flush
  obtain ⟨e1, e2, e3⟩ := h.ar
  have o1 := h.ok.ln
  have o2 := h.ok.fr
  exact ⟨f1, f3, { ok := ⟨h.ok.ln, h.ok.fr, h.ok.hd, h.ok.nx⟩, up := f2, di := h.di.flush.later (by omega), nx := h.nx, ar := h.ar, n0b := h.n0b, hd := h.hd, cs := by have := h.cs; omega, len := by have := h.len; omega, wr := h.wr.flush h.di.ok h.up (by omega) (by omega) (by rw [h.di.sec]; omega) }⟩
theorem PW.trim {n0 fr ln : Int} {i : Nat} {l : Lg} {ts : List ByteArray} (h : PW n0 fr ln i l ts) (z : Int) (h1 : l.hd ≤ z) (h2 : z ≤ l.nx) : PW n0 fr ln (i + 1) { l with hd := z } ts := by
  have o3 := h.ok.hd
  have o4 := h.ok.nx
  have n4 := h.hd
  exact { ok := ⟨h.ok.ln, h.ok.fr, ⟨by show 1 ≤ z; omega, h2⟩, ⟨by show l.nx ≤ z + l.ln; omega, o4.2⟩⟩, up := h.up, di := h.di.later (by omega), nx := h.nx, ar := h.ar, n0b := h.n0b, hd := by show n0 ≤ z; omega, cs := by have := h.cs; omega, len := by have := h.len; omega, wr := h.wr }
end Go.Proofs.Ytfllpmmfjbjgoaa.PA

namespace Go.Proofs.Ytfllpmmfjbjgoaa.PA
set_option linter.unusedSimpArgs false
open Go.RowKit Go.Proofs.YtfllpmmfjbjgoaaW.PrintWords Go.Proofs.YtfllpmmfjbjgoaaW.PrintLast Go.Proofs.YtfllpmmfjbjgoaaW.PrintMore Go.Proofs.Ytfllpmmfjbjgoaa Go.Proofs.Ytfllpmmfjbjgoaa.PL
def toR (x : S59) : S62 := ⟨x.f0, x.f1, x.f2⟩
theorem told_l0 (l : List S59) (hl : l.length ≤ 1000000) : ∀ (m j k : Nat), j + m = l.length → m < k → armoirelaw05_told.l0 k l (l.map toR) ((l.map toR).length : Int) (j : Int) = some true := by
  intro m
  induction m with
  | zero =>
    intro j k h1 h2
    obtain ⟨k, rfl⟩ : ∃ q, k = q + 1 := ⟨k - 1, by omega⟩
    rw [armoirelaw05_told.l0, if_neg (by rw [List.length_map]; omega)]
  | succ m ih =>
    intro j k h1 h2
    obtain ⟨k, rfl⟩ : ∃ q, k = q + 1 := ⟨k - 1, by omega⟩
    have hj : j < l.length := by omega
    have r1 : rd_T59 l (j : Int) = l[j] := by unfold rd_T59; rw [Int.toNat_natCast, List.getD_eq_getElem?_getD, List.getElem?_eq_getElem hj]; rfl
    have r2 : rd_T62 (l.map toR) (j : Int) = toR l[j] := by unfold rd_T62; rw [Int.toNat_natCast, List.getD_eq_getElem?_getD, List.getElem?_map, List.getElem?_eq_getElem hj]; rfl
    rw [armoirelaw05_told.l0, if_pos (by rw [List.length_map]; omega), if_pos (by omega), if_pos (by omega), if_pos (by rw [List.length_map]; omega), r1, r2, wrapI _ (by omega), if_neg (by simp [toR]), show (j : Int) + 1 = ((j + 1 : Nat) : Int) by omega]
    exact ih (j + 1) k (by omega) (by omega)
theorem told_f (l : List S59) (hl : l.length ≤ 1000000) : armoirelaw05_told.f (l.length + 1) l (l.map toR) = some true := by
  unfold armoirelaw05_told.f
  rw [if_pos (by rw [List.length_map])]
  exact told_l0 l hl l.length 0 (l.length + 1) (by omega) (by omega)
structure SX (w W : World) (fr ln : Int) (v : Value) (outs : List S89) : Prop where
  below : Below w.heap.size w W
  area : W.heap[w.heap.size]? = some (.cells #[.int .i64 fr, .int .i64 ln] 28 (0, 0))
  row : Kd.R k89 89 W (w.heap.size + 1) (fun _ => True) v outs
theorem SX.step {w W W1 : World} {fr ln : Int} {v : Value} {outs : List S89} (h : SX w W fr ln v outs) (hB : Below W.heap.size W W1) : SX w W1 fr ln v outs :=
  ⟨bsp h.below hB, (hB.block _ (blk_lt h.area)).trans h.area, Kd.R_below h.row hB⟩
theorem SX.grown {w W W1 : World} {fr ln : Int} {v v1 : Value} {outs o2 : List S89} (h : SX w W fr ln v outs) (hb : Below (w.heap.size + 1) W W1) (hr : Kd.R k89 89 W1 (w.heap.size + 1) (fun _ => True) v1 o2) : SX w W1 fr ln v1 o2 :=
  ⟨h.below.trans (hb.mono (by omega)), (hb.block _ (by omega)).trans h.area, hr⟩
theorem SX.put {w W : World} {fr ln : Int} {v : Value} {outs : List S89} (h : SX w W fr ln v outs) {q : Nat} (hq : w.heap.size < q) (hv : ∀ k, v.ownBlock = some k → k ≠ q) (i : Nat) (u : Value) : SX w (W.setCell ⟨q, i, none⟩ u) fr ln v outs :=
  ⟨h.below.setCell (p := ⟨q, i, none⟩) (Nat.le_of_lt hq) u, (Below.heap_setCell W ⟨q, i, none⟩ u _ (Nat.ne_of_lt hq)).trans h.area,
    Kd.R_mono (Kd.R_far (p := ⟨q, i, none⟩) (ok := fun k => v.ownBlock = some k) (R_row (fun h => h) h.row) (fun k hk => hv k hk) u) (fun _ _ => trivial)⟩
end Go.Proofs.Ytfllpmmfjbjgoaa.PA

namespace Go.Proofs.Ytfllpmmfjbjgoaa.PA
set_option linter.unusedSimpArgs false
open Go.RowKit Go.Proofs.YtfllpmmfjbjgoaaW.PrintWords Go.Proofs.YtfllpmmfjbjgoaaW.PrintLast Go.Proofs.YtfllpmmfjbjgoaaW.PrintMore Go.Proofs.Ytfllpmmfjbjgoaa Go.Proofs.Ytfllpmmfjbjgoaa.PL
theorem ref_cost_l0 (n : Nat) (hn : n ≤ 1000000) : ∀ (d j k : Nat), j + d = costN n → 1 ≤ j → d < k → armoireref05_Cost.l0 k (n : Int) (j : Int) = some (costN n : Int) := by
  have hc := cost_pos n
  intro d
  induction d with
  | zero =>
    intro j k h1 h2 h3
    obtain ⟨k, rfl⟩ : ∃ q, k = q + 1 := ⟨k - 1, by omega⟩
    have hj : j = costN n := by omega
    rw [armoireref05_Cost.l0, wrapI _ (by omega), if_neg (by omega), hj]
  | succ d ih =>
    intro j k h1 h2 h3
    obtain ⟨k, rfl⟩ : ∃ q, k = q + 1 := ⟨k - 1, by omega⟩
    have hlt : 44 * j < n := by unfold costN at h1; omega
    rw [armoireref05_Cost.l0, wrapI (44 * (j : Int)) (by omega), if_pos (by omega), wrapI _ (by omega), show (j : Int) + 1 = ((j + 1 : Nat) : Int) by omega]
    exact ih (j + 1) k (by omega) (by omega) (by omega)
theorem ref_cost (n : Nat) (hn : n ≤ 1000000) : armoireref05_Cost.f (costN n + 1) (n : Int) = some (costN n : Int) := by
  have hc := cost_pos n
  exact ref_cost_l0 n hn (costN n - 1) 1 (costN n + 1) (by omega) (by omega) (by omega)
end Go.Proofs.Ytfllpmmfjbjgoaa.PA

