import Derived.Test.YtfllpmmfjbjgoaaQByGPre
import Derived.Test.YtfllpmmfjbjgoaaQByMCrcMath
import Derived.Test.YtfllpmmfjbjgoaaQByPAx6
namespace Go.Proofs.Ytfllpmmfjbjgoaa.PA
set_option linter.unusedSimpArgs false
open Go.RowKit Go.Proofs.YtfllpmmfjbjgoaaW.PrintWords Go.Proofs.YtfllpmmfjbjgoaaW.PrintLast Go.Proofs.YtfllpmmfjbjgoaaW.PrintMore Go.Proofs.Ytfllpmmfjbjgoaa Go.Proofs.Ytfllpmmfjbjgoaa.PL
structure GI (N k : Nat) (l : Lg) (m0 : Int) (ts : List ByteArray) : Prop where
  ok : LgOk l
  up : UpN l.dev
  di : DI N k l.dev
  nx : l.nx = m0 + costs ts
  area : l.fr + l.ln ≤ N
  top : l.hd + l.ln ≤ 1000000
  m0 : 1 ≤ m0 ∧ l.hd ≤ m0
theorem GI.app {N k : Nat} {l : Lg} {m0 : Int} {ts : List ByteArray} (h : GI N k l m0 ts) (t : ByteArray) :
    (∃ d', lgApp l t = (⟨l.nx, l.nx + costN t.size - 1, t⟩, 0, ⟨d', l.fr, l.ln, l.hd, l.nx + costN t.size⟩) ∧ AppUp l.dev d' l.fr l.ln l.nx t ∧ GI N (k + 1000) ⟨d', l.fr, l.ln, l.hd, l.nx + costN t.size⟩ m0 (ts ++ [t]) ∧ l.nx + costN t.size ≤ l.hd + l.ln) ∨ lgApp l t = (noRec, 13, l) := by
  have h1 := h.ok.ln
  have h2 := h.ok.fr
  have h3 := h.ok.hd
  have h4 := h.ok.nx
  have h5 := h.top
  by_cases q : (costN t.size : Int) ≤ l.ln - (l.nx - l.hd)
  · obtain ⟨d', e, ha, hd⟩ := lgApp_up l t N k h.ok h.up h.di h.area h.top q
    refine .inl ⟨d', e, ha, ⟨⟨h1, h2, ⟨h3.1, ?_⟩, ⟨?_, ?_⟩⟩, ha.up, hd.later (by omega), ?_, h.area, h.top, h.m0⟩, by omega⟩
    · show l.hd ≤ l.nx + costN t.size; omega
    · show l.nx + costN t.size ≤ l.hd + l.ln; omega
    · show l.nx + costN t.size ≤ 1000000; omega
    · show l.nx + costN t.size = m0 + costs (ts ++ [t]); rw [costs_snoc, h.nx]; omega
  · exact .inr (lgApp_full l t q)
structure TS (w0 W : World) (g b : Nat) (l : Lg) (v : Value) (ts : List ByteArray) : Prop where
  log : LogSt w0 W g b l
  row : Kd.R Kd.string 9 W w0.heap.size (fun x => ¬ Foot W g x ∧ x ≠ b) v ts
theorem TS.step {w0 W W1 : World} {g b : Nat} {l : Lg} {v : Value} {ts : List ByteArray} (h : TS w0 W g b l v ts) (hB : Below W.heap.size W W1) : TS w0 W1 g b l v ts := ⟨h.log.step hB, row_log h.row (LogKeep.of_below h.log hB)⟩
theorem TS.call {w0 W W1 : World} {g b : Nat} {l l2 : Lg} {v : Value} {ts : List ByteArray} (h : TS w0 W g b l v ts) (hL : LogSt w0 W1 g b l2) (hK : LogKeep W W1 g b) : TS w0 W1 g b l2 v ts := ⟨hL, row_log h.row hK⟩
structure P1 (n0 : Int) (i : Nat) (l : Lg) (ts : List ByteArray) : Prop where
  gi : GI 24 (1000 * i) l n0 ts
  at_ : l.hd = n0 ∧ l.fr = 2 ∧ l.ln = 20
  pp : Poss (PP 2 20 n0 (n0 + 20) ts) l.dev
  rr : RR 2 20 n0 ts l.dev
  len : ts.length ≤ i
theorem P1.app {n0 : Int} {i : Nat} {l : Lg} {ts : List ByteArray} (h : P1 n0 i l ts) (t : ByteArray) :
    (∃ l' : Lg, lgApp l t = (⟨l.nx, l.nx + costN t.size - 1, t⟩, 0, l') ∧ P1 n0 (i + 1) l' (ts ++ [t])) ∨ lgApp l t = (noRec, 13, l) := by
  obtain ⟨a1, a2, a3⟩ := h.at_
  rcases h.gi.app t with ⟨d', e, ha, hg, hz⟩ | e
  · have ht := h.gi.top
    have hm := h.gi.m0
    rw [a1, a3] at hz
    rw [a2, a3] at ha
    refine .inl ⟨_, e, ⟨by rw [show 1000 * (i + 1) = 1000 * i + 1000 by omega]; exact hg, ⟨a1, a2, a3⟩, app_PP ha h.pp h.gi.nx hm.1 (by omega), app_RR ha h.rr h.gi.nx hm.1 (by omega) (by omega), by have := h.len; simp; omega⟩⟩
  · exact .inr e
theorem P1.later {n0 : Int} {i : Nat} {l : Lg} {ts : List ByteArray} (h : P1 n0 i l ts) : P1 n0 (i + 1) l ts :=
  ⟨{ h.gi with di := h.gi.di.later (by omega) }, h.at_, h.pp, h.rr, by have := h.len; omega⟩
structure P2 (n0 : Int) (i : Nat) (l : Lg) (t1 ts : List ByteArray) : Prop where
  gi : GI 24 (1000 * i) l n0 ts
  at_ : l.hd = n0 ∧ l.fr = 2 ∧ l.ln = 20
  pp : Poss (PP 2 20 n0 (n0 + 20) ts) l.dev
  fp : Poss (FP 2 20 n0 (n0 + costs t1) (lay n0 t1)) l.dev
  pre : ∃ us, ts = t1 ++ us
  len : ts.length ≤ i
theorem P2.app {n0 : Int} {i : Nat} {l : Lg} {t1 ts : List ByteArray} (h : P2 n0 i l t1 ts) (t : ByteArray) :
    (∃ l' : Lg, lgApp l t = (⟨l.nx, l.nx + costN t.size - 1, t⟩, 0, l') ∧ P2 n0 (i + 1) l' t1 (ts ++ [t])) ∨ lgApp l t = (noRec, 13, l) := by
  obtain ⟨a1, a2, a3⟩ := h.at_
  obtain ⟨us, hus⟩ := h.pre
  rcases h.gi.app t with ⟨d', e, ha, hg, hz⟩ | e
  · have ht := h.gi.top
    have hm := h.gi.m0
    have hn := h.gi.nx
    have hc : costs ts = costs t1 + costs us := by rw [hus, costs_append]
    rw [a1, a3] at hz
    rw [a2, a3] at ha
    refine .inl ⟨_, e, ⟨by rw [show 1000 * (i + 1) = 1000 * i + 1000 by omega]; exact hg, ⟨a1, a2, a3⟩, app_PP ha h.pp h.gi.nx hm.1 (by omega), app_FP ha h.fp (by omega) (by omega), ⟨us ++ [t], by rw [hus, List.append_assoc]⟩, by have := h.len; simp; omega⟩⟩
  · exact .inr e
theorem P2.later {n0 : Int} {i : Nat} {l : Lg} {t1 ts : List ByteArray} (h : P2 n0 i l t1 ts) : P2 n0 (i + 1) l t1 ts :=
  ⟨{ h.gi with di := h.gi.di.later (by omega) }, h.at_, h.pp, h.fp, h.pre, by have := h.len; omega⟩
theorem P2.scan {n0 : Int} {i : Nat} {l : Lg} {t1 ts : List ByteArray} (h : P2 n0 i l t1 ts) (K : List Int) :
    ∃ j, t1.length ≤ j ∧ j ≤ ts.length ∧ Go.Proofs.Ytfllpmmfjbjgoaa.PA.scan (secAt (dvCrash l.dev K) 2 20) 20 n0 0 ⟨#[]⟩ = (recs n0 (ts.take j), n0 + costs (ts.take j)) := by
  obtain ⟨a1, a2, a3⟩ := h.at_
  obtain ⟨us, hus⟩ := h.pre
  have hm := h.gi.m0
  have hn := h.gi.nx
  have hx := h.gi.ok.nx
  have hok := h.gi.di.ok
  have hlen := (h.gi.di.crash K).sec
  have hc : costs ts = costs t1 + costs us := by rw [hus, costs_append]
  obtain ⟨j, j1, j2, j3⟩ := pre_scan (h.pp.crash hok K) rfl (by decide) (by decide) (by rw [hlen]; decide) hm.1 (by omega)
  refine ⟨j, j3 t1.length (by rw [hus]; simp) ?_, j1, j2⟩
  have ht : ts.take t1.length = t1 := by rw [hus]; simp
  rw [ht]
  refine (h.fp.crash hok K).imp (fun a c hc s x y z => ?_)
  rw [hc s x y z, hus, lay_append _ _ _ _ x, if_pos y]
end Go.Proofs.Ytfllpmmfjbjgoaa.PA

namespace Go.Proofs.Ytfllpmmfjbjgoaa.PA
set_option linter.unusedSimpArgs false
open Go.RowKit Go.Proofs.YtfllpmmfjbjgoaaW.PrintWords Go.Proofs.YtfllpmmfjbjgoaaW.PrintLast Go.Proofs.YtfllpmmfjbjgoaaW.PrintMore Go.Proofs.Ytfllpmmfjbjgoaa Go.Proofs.Ytfllpmmfjbjgoaa.PL
def QQ (B : Int) (_ : Int) (c : ByteArray) : Prop := ∀ s, B ≤ s → gd c s = none
theorem QQ.up {B B' a : Int} {c : ByteArray} (h : QQ B a c) (hb : B ≤ B') : QQ B' a c := fun s hs => h s (by omega)
structure OI (i : Nat) (l : Lg) : Prop where
  ok : LgOk l
  up : UpN l.dev
  di : DI 24 (1000 * i) l.dev
  at_ : l.fr = 0 ∧ l.ln = 12
  nx : l.nx ≤ 5 + 12 * i
  qq : Poss (QQ (l.hd + 12)) l.dev
theorem OI.new : OI 0 ⟨dvNew 24, 0, 12, 5, 5⟩ :=
  ⟨lgok_mk _ 0 12 5 5 (by decide) (by decide) (by decide) (by decide), upn_new 24, DI.new 24, ⟨rfl, rfl⟩, by show (5 : Int) ≤ 5 + 12 * ((0 : Nat) : Int); decide, poss_new 24 (fun _ s _ => gd_z64 s)⟩
theorem OI.later {i : Nat} {l : Lg} (h : OI i l) : OI (i + 1) l := ⟨h.ok, h.up, h.di.later (by omega), h.at_, by have := h.nx; omega, h.qq⟩
theorem OI.app {i : Nat} {l : Lg} (h : OI i l) (t : ByteArray) (hi : i ≤ 9) : OI (i + 1) (lgApp l t).2.2 := by
  obtain ⟨a2, a3⟩ := h.at_
  have h1 := h.ok.ln
  have h2 := h.ok.fr
  have h3 := h.ok.hd
  have h4 := h.ok.nx
  have hn := h.nx
  by_cases q : (costN t.size : Int) ≤ l.ln - (l.nx - l.hd)
  · obtain ⟨d', e, ha, hd⟩ := lgApp_up l t 24 (1000 * i) h.ok h.up h.di (by rw [a2, a3]; decide) (by omega) q
    rw [e]
    refine ⟨⟨h1, h2, ⟨h3.1, ?_⟩, ⟨?_, ?_⟩⟩, ha.up, hd.later (by omega), ⟨a2, a3⟩, ?_, ?_⟩
    · show l.hd ≤ l.nx + costN t.size; omega
    · show l.nx + costN t.size ≤ l.hd + l.ln; omega
    · show l.nx + costN t.size ≤ 1000000; omega
    · show l.nx + costN t.size ≤ 5 + 12 * ((i + 1 : Nat) : Int); omega
    · show Poss (QQ (l.hd + 12)) d'
      refine ha.poss h.qq (fun j hj s hs => ?_)
      have hf := sec_fit l.nx t j (costN t.size) (by omega)
      rw [gd_tx _ _ _ hf (by omega) (mark_le _ _).2, if_neg (by omega)]
  · rw [lgApp_full l t q]; exact h.later
theorem OI.trim {i : Nat} {l : Lg} (h : OI i l) : OI i { l with hd := l.nx } := by
  have h1 := h.ok.ln
  have h3 := h.ok.hd
  have h4 := h.ok.nx
  refine ⟨⟨h1, h.ok.fr, ⟨?_, Int.le_refl _⟩, ⟨?_, h4.2⟩⟩, h.up, h.di, h.at_, h.nx, ?_⟩
  · show 1 ≤ l.nx; omega
  · show l.nx ≤ l.nx + l.ln; omega
  · exact h.qq.imp (fun a c hc => hc.up (by show l.hd + 12 ≤ l.nx + 12; omega))
theorem scan_ge (v : Int → Option (Int × ByteArray)) : ∀ (n : Nat) (at_ f : Int) (t : ByteArray) (lo : Int), 0 ≤ at_ → lo ≤ at_ → 0 ≤ f → (f > 0 → lo ≤ f) → lo ≤ (scan v n at_ f t).2 ∧ (scan v n at_ f t).2 ≤ max f (at_ + n) := by
  intro n
  induction n with
  | zero =>
    intro at_ f t lo h9 h1 h0 h2
    simp only [scan]
    split <;> constructor <;> omega
  | succ n ih =>
    intro at_ f t lo h9 h1 h0 h2
    have hend : lo ≤ (if f > 0 then f else at_) ∧ (if f > 0 then f else at_) ≤ max f (at_ + ((n + 1 : Nat) : Int)) := by
      split
      · rename_i q; exact ⟨h2 q, by omega⟩
      · exact ⟨h1, by omega⟩
    cases hv : v at_ with
    | none => rw [scan_none hv]; exact hend
    | some x =>
      obtain ⟨m, s⟩ := x
      by_cases q : m % 2 = 1 ↔ f = 0
      · by_cases q2 : 2 ≤ m
        · rw [scan_end hv q q2]
          have := ih (at_ + 1) 0 ⟨#[]⟩ lo (by omega) (by omega) (by omega) (by omega)
          exact ⟨this.1, by have := this.2; show (scan v n (at_ + 1) 0 ⟨#[]⟩).2 ≤ _; omega⟩
        · rw [scan_on hv q q2]
          by_cases qf : f = 0
          · rw [if_pos qf]
            have := ih (at_ + 1) at_ (t ++ s) lo (by omega) (by omega) h9 (fun _ => h1)
            exact ⟨this.1, by have := this.2; omega⟩
          · rw [if_neg qf]
            have := ih (at_ + 1) f (t ++ s) lo (by omega) (by omega) h0 h2
            exact ⟨this.1, by have := this.2; omega⟩
      · rw [scan_odd hv q]; exact hend
structure P3 (n0 : Int) (i : Nat) (l : Lg) (ts : List ByteArray) : Prop where
  gi : GI 24 (1000 * i) l n0 ts
  at_ : l.hd = n0 ∧ l.fr = 0 ∧ l.ln = 12
  pp : Poss (PP 0 12 n0 (n0 + 12) ts) l.dev
  len : ts.length ≤ i
theorem P3.app {n0 : Int} {i : Nat} {l : Lg} {ts : List ByteArray} (h : P3 n0 i l ts) (t : ByteArray) :
    (∃ l' : Lg, lgApp l t = (⟨l.nx, l.nx + costN t.size - 1, t⟩, 0, l') ∧ P3 n0 (i + 1) l' (ts ++ [t])) ∨ lgApp l t = (noRec, 13, l) := by
  obtain ⟨a1, a2, a3⟩ := h.at_
  rcases h.gi.app t with ⟨d', e, ha, hg, hz⟩ | e
  · have ht := h.gi.top
    have hm := h.gi.m0
    rw [a1, a3] at hz
    rw [a2, a3] at ha
    refine .inl ⟨_, e, ⟨by rw [show 1000 * (i + 1) = 1000 * i + 1000 by omega]; exact hg, ⟨a1, a2, a3⟩, app_PP ha h.pp h.gi.nx hm.1 (by omega), by have := h.len; simp; omega⟩⟩
  · exact .inr e
theorem P3.later {n0 : Int} {i : Nat} {l : Lg} {ts : List ByteArray} (h : P3 n0 i l ts) : P3 n0 (i + 1) l ts :=
  ⟨{ h.gi with di := h.gi.di.later (by omega) }, h.at_, h.pp, by have := h.len; omega⟩
theorem OI.end_ {i : Nat} {l : Lg} (h : OI i l) (hi : i ≤ 9) (K : List Int) : l.hd ≤ (scan (secAt (dvCrash l.dev K) 0 12) 12 l.hd 0 ⟨#[]⟩).2 ∧ (scan (secAt (dvCrash l.dev K) 0 12) 12 l.hd 0 ⟨#[]⟩).2 ≤ 200 := by
  have h3 := h.ok.hd
  have hn := h.nx
  have := scan_ge (secAt (dvCrash l.dev K) 0 12) 12 l.hd 0 ⟨#[]⟩ l.hd (by omega) (Int.le_refl _) (by omega) (by omega)
  exact ⟨this.1, by have := this.2; omega⟩
theorem OI.beyond {i : Nat} {l : Lg} (h : OI i l) (K : List Int) (fm : Int) (h0 : l.hd + 12 ≤ fm) (h1 : fm ≤ 300) : P3 fm 0 ⟨dvCrash l.dev K, 0, 12, fm, fm⟩ [] := by
  have h3 := h.ok.hd
  have hq := h.qq.crash h.di.ok K
  refine ⟨⟨lgok_mk _ 0 12 fm fm (by decide) (by decide) (by omega) (by omega), upn_crash _ _, h.di.crash K, by simp [costs], (by show (0 : Int) + 12 ≤ ((24 : Nat) : Int); decide), (by show fm + 12 ≤ 1000000; omega), ⟨by omega, Int.le_refl _⟩⟩, ⟨rfl, rfl, rfl⟩, hq.imp (fun a c hc s x _ _ => .inl (hc s (by omega))), Nat.le_refl _⟩
theorem P3.scan {n0 : Int} {i : Nat} {l : Lg} {ts : List ByteArray} (h : P3 n0 i l ts) (K : List Int) :
    ∃ j, j ≤ ts.length ∧ Go.Proofs.Ytfllpmmfjbjgoaa.PA.scan (secAt (dvCrash l.dev K) 0 12) 12 n0 0 ⟨#[]⟩ = (recs n0 (ts.take j), n0 + costs (ts.take j)) := by
  obtain ⟨a1, a2, a3⟩ := h.at_
  have hm := h.gi.m0
  have hn := h.gi.nx
  have hx := h.gi.ok.nx
  have hlen := (h.gi.di.crash K).sec
  obtain ⟨j, j1, j2, -⟩ := pre_scan (h.pp.crash h.gi.di.ok K) rfl (by decide) (by decide) (by rw [hlen]; decide) hm.1 (by omega)
  exact ⟨j, j1, j2⟩
theorem P3.first {n0 : Int} {l : Lg} (h : P3 n0 0 l []) (hd : l.dev.down = false) : Go.Proofs.Ytfllpmmfjbjgoaa.PA.scan (secAt l.dev 0 12) 12 n0 0 ⟨#[]⟩ = ([], n0) := by
  have hm := h.gi.m0
  have hlen := h.gi.di.sec
  obtain ⟨j, j1, j2, -⟩ := pre_scan h.pp hd (by decide) (by decide) (by rw [hlen]; decide) hm.1 (by simp [costs])
  simp only [List.take_nil, recs, costs, Int.natCast_zero, Int.add_zero] at j2
  exact j2
set_option maxHeartbeats 32000000 in
set_option maxRecDepth 100000 in
theorem WalBeyond.walk (w : World) (A1 : Option Addr) (c1 : Nat) (l1 : List ByteArray) (hr1 : Kd.C Kd.string w A1 l1.length l1) (_ : l1.length ≤ c1) (A2 : Option Addr) (c2 : Nat) (l2 : List ByteArray) (hr2 : Kd.C Kd.string w A2 l2.length l2) (_ : l2.length ≤ c2) (A3 : Option Addr) (c3 : Nat) (l3 : List Int) (hr3 : Kd.C (Kd.int .i64) w A3 l3.length l3) (hc3 : l3.length ≤ c3) (A4 : Option Addr) (c4 : Nat) (l4 : List Int) (hr4 : Kd.C (Kd.int .i64) w A4 l4.length l4) (hc4 : l4.length ≤ c4) :
    Calls Try.prog 7 #[.slice A1 l1.length c1, .slice A2 l2.length c2, .slice A3 l3.length c3, .slice A4 l4.length c4] w fun e w' => e = .returned (.bool true) ∧ Below w.heap.size w w' := by
  have hm1 : l1.length ≤ 9223372036854775807 := Kd.C_max hr1
  have hm2 : l2.length ≤ 9223372036854775807 := Kd.C_max hr2
  have hm3 : l3.length ≤ 9223372036854775807 := Kd.C_max hr3
  have hm4 : l4.length ≤ 9223372036854775807 := Kd.C_max hr4
  have HR1 := Aside0.mk hr1
  have HR2 := Aside0.mk hr2
  have HR3 := Aside0.mk hr3
  have HR4 := Aside0.mk hr4
  have HC3 := Aside0.mk hc3
  have HC4 := Aside0.mk hc4
  have HO := Aside0.mk (show openE 0 12 5 24 = 0 by decide)
  clear hr1 hr2 hr3 hr4 hc3 hc4
  go_enter Try.func7, Try.ntmps7
  go_wp2_with fail
  refine (law_awake.calls _).mono ?_
  rintro e w0 ⟨rfl, hB⟩
  have HB1 := Aside0.mk (bal hB (.cells #[.int .i64 0, .int .i64 12] 28))
  have HX := Aside0.mk (World.alloc_heap_new w0 (.cells #[.int .i64 0, .int .i64 12] 28))
  have hx := HX.out
  have b0 := (kcl hx 0).trans rfl
  have b1 := (kcl hx 1).trans rfl
  obtain ⟨w1, hw1⟩ : ∃ w1, w1 = w0.alloc (.cells #[.int .i64 0, .int .i64 12] 28) := ⟨_, rfl⟩
  rw [← hw1] at HX HB1 b0 b1
  clear hB hx
  go_wp2_with fail
  rw [← hw1]
  clear hw1
  refine (law_begin.calls 0 12 5 w1 HO.out).mono ?_
  rintro e w3 ⟨g, b0_, rfl, hL⟩
  have HL3 := Aside0.mk hL
  have HOI := Aside0.mk OI.new
  clear hL b0 b1
  go_upto_block 0 with fail
  go_cut [] (fun wc => ∃ (i : Nat) (l : Lg), i ≤ 9 ∧ Aside0 (OI i l) ∧ Aside0 (LogSt w1 wc g b0_ l))
  case first =>
    go_wp2_with fail
    go_loopw [13] (fun v13 wr => ∃ (i : Nat) (l : Lg), v13 = .int .i64 i ∧ (i ≤ l1.length ∧ i ≤ 9) ∧ Aside0 (OI i l) ∧ Aside0 (LogSt w1 wr g b0_ l)) (fun v13 _ => 9 - (intOf v13).toNat)
    case atStart => exact ⟨0, _, rfl, ⟨Nat.zero_le _, Nat.zero_le _⟩, HOI, HL3⟩
    case round =>
      clear HOI HL3
      obtain ⟨i, l, rfl, ⟨hi, hi2⟩, HP, HT⟩ := hrel
      by_cases q1 : i < l1.length ∧ i < 9
      rotate_left
      · have q2 : (l1.length : Int) ≤ (i : Int) ∨ ((i : Int) < (l1.length : Int) ∧ (9 : Int) ≤ (i : Int)) := by omega
        clear q1
        rcases q2 with q3 | ⟨q3, q4⟩
        all_goals
          go_wp2
          go_meet
          exact ⟨i, l, by omega, HP, HT⟩
      obtain ⟨q1, q2⟩ := q1
      have hC0 := Kd.C_below HR1.out (bsp HB1.out HT.out.below)
      have hp : (0 : Int) ≤ (i : Int) := by omega
      have hq : (i : Int) < (l1.length : Int) := by omega
      have hm : i ≤ 9223372036854775806 := by omega
      obtain ⟨ad0, e0, hx0⟩ := Kd.at_string hC0 (i : Int) hp hq
      cases e0
      clear hC0
      rw [Int.toNat_natCast] at hx0
      generalize rdOf ByteArray.empty l1 (i : Int) = y at hx0
      obtain ⟨s1, hs1⟩ : ∃ s1, s1 = y.extract 0 (min 120 y.size) := ⟨_, rfl⟩
      have HS1 := Aside0.mk (show armoirelaw01_Cut.f y ((120 : Nat) : Int) = some s1 by rw [hs1]; exact cut_f y 120)
      have HZ1 := Aside0.mk (show s1.size ≤ 120 by rw [hs1]; exact cut_size y 120)
      clear hs1
      go_wp2_with fail
      refine (armoirelaw01_Cut.calls y 120 s1 _ HS1.out).mono ?_
      rintro e w5 ⟨rfl, hB⟩
      have HT4 := Aside0.mk (HT.out.step hB.below)
      clear hB hx0
      go_wp2_with fail
      refine (wal_Append.calls g b0_ 24 (1000 * i) l s1 w1 w5 HT4.out HP.out.ok HP.out.di (by omega) (by have := HZ1.out; omega)).mono ?_
      rintro e w6 ⟨rfl, hL, hK⟩
      have HP5 := Aside0.mk (HP.out.app s1 (by omega))
      have HT5 := Aside0.mk hL
      clear hL hK HT4
      generalize lgApp l s1 = X at HP5 HT5 ⊢
      obtain ⟨xr, xe, l5⟩ := X
      dsimp only at HP5 HT5 ⊢
      obtain ⟨par, hpar⟩ : ∃ par : Int, par = (i : Int) % 2 := ⟨_, rfl⟩
      have m2 := i64_and2k 1 1 (by decide) (by decide) (i : Int)
      rw [show (((2 ^ 1 : Nat) : Nat) : Int) = 2 from rfl, ← hpar] at m2
      have hp2 : par = 0 ∨ par = 1 := by omega
      clear hpar
      rcases hp2 with rfl | rfl
      · go_wp2
        go_roundw
        case rel => exact ⟨i + 1, l5, by go_num, ⟨by omega, by omega⟩, HP5, HT5⟩
        case measure => simp [intOf]; omega
      · go_wp2_with fail
        refine (wal_Next.calls g b0_ l5 w1 _ HT5.out).mono ?_
        rintro e w7 ⟨rfl, rfl⟩
        go_wp2_with fail
        refine (wal_Trim_ok g b0_ l5 l5.nx w1 _ HT5.out HP5.out.ok.hd.2 (Int.le_refl _)).mono ?_
        rintro e w8 ⟨rfl, hL, hK⟩
        have HT8 := Aside0.mk hL
        have HP8 := Aside0.mk HP5.out.trim
        clear hL hK
        go_wp2
        go_roundw
        case rel => exact ⟨i + 1, { l5 with hd := l5.nx }, by go_num, ⟨by omega, by omega⟩, HP8, HT8⟩
        case measure => simp [intOf]; omega
  case rest =>
    obtain ⟨i0, lo, hi0, HP, HT⟩ := hcut
    obtain ⟨K3, hK⟩ : ∃ K3, K3 = l3.take 30 := ⟨_, rfl⟩
    have HK3 := Aside0.mk hK
    have hCK := C_take_scalar (Kd.C_below HR3.out HB1.out) 30
    rw [← hK] at hCK
    have hKlK3 : K3.length ≤ 9223372036854775807 := Kd.C_max hCK
    have HCK3 := Aside0.mk hCK
    clear hK hCK
    go_upto_if 71 with fail
    go_cut [2] (fun vk wc2 => vk = .slice A3 K3.length c3 ∧ wc = wc2)
    case first =>
      by_cases q : 30 < l3.length
      · have hA : A3.isSome = true := by obtain ⟨ad, e, -⟩ := HR3.out.2.2 (by omega); rw [e]; rfl
        obtain ⟨adK3, rfl⟩ := Option.isSome_iff_exists.1 hA
        have q1 : decide ((30 : Int) < (l3.length : Int)) = true := decide_eq_true (by omega)
        have q2 : (30 : Int) ≤ (c3 : Int) := by have := HC3.out; omega
        have e30 := Aside0.mk (show K3.length = 30 by rw [HK3.out, List.length_take]; omega)
        clear q hA
        rw [q1]
        go_wp2
        go_meet
        exact ⟨by rw [e30.out], rfl⟩
      · have q1 : decide ((30 : Int) < (l3.length : Int)) = false := decide_eq_false (by omega)
        have e30 := Aside0.mk (show K3 = l3 by rw [HK3.out]; exact List.take_of_length_le (by omega))
        clear q
        rw [q1]
        go_wp2
        go_meet
        exact ⟨by rw [e30.out], rfl⟩
    case rest =>
      obtain ⟨rfl, rfl⟩ := hcut
      obtain ⟨K4, hK⟩ : ∃ K4, K4 = l4.take 30 := ⟨_, rfl⟩
      have HK4 := Aside0.mk hK
      have hCK := C_take_scalar (Kd.C_below HR4.out HB1.out) 30
      rw [← hK] at hCK
      have hKlK4 : K4.length ≤ 9223372036854775807 := Kd.C_max hCK
      have HCK4 := Aside0.mk hCK
      clear hK hCK
      go_upto_if 76 with fail
      go_cut [3] (fun vk wc2 => vk = .slice A4 K4.length c4 ∧ wc = wc2)
      case first =>
        by_cases q : 30 < l4.length
        · have hA : A4.isSome = true := by obtain ⟨ad, e, -⟩ := HR4.out.2.2 (by omega); rw [e]; rfl
          obtain ⟨adK4, rfl⟩ := Option.isSome_iff_exists.1 hA
          have q1 : decide ((30 : Int) < (l4.length : Int)) = true := decide_eq_true (by omega)
          have q2 : (30 : Int) ≤ (c4 : Int) := by have := HC4.out; omega
          have e30 := Aside0.mk (show K4.length = 30 by rw [HK4.out, List.length_take]; omega)
          clear q hA
          rw [q1]
          go_wp2
          go_meet
          exact ⟨by rw [e30.out], rfl⟩
        · have q1 : decide ((30 : Int) < (l4.length : Int)) = false := decide_eq_false (by omega)
          have e30 := Aside0.mk (show K4 = l4 by rw [HK4.out]; exact List.take_of_length_le (by omega))
          clear q
          rw [q1]
          go_wp2
          go_meet
          exact ⟨by rw [e30.out], rfl⟩
      case rest =>
        obtain ⟨rfl, rfl⟩ := hcut
        have hbe := HP.out.end_ hi0 K3
        have hh3 := HP.out.ok.hd
        obtain ⟨dc, hdc⟩ : ∃ dc, dc = dvCrash lo.dev K3 := ⟨_, rfl⟩
        have hbey := fun fm => HP.out.beyond K3 fm
        have hdd : dc.down = false := by rw [hdc]; rfl
        have hdi : DI 24 0 dc := by rw [hdc]; exact HP.out.di.crash K3
        rw [← hdc] at hbe hbey
        have HDD := Aside0.mk hdd
        have HDI := Aside0.mk hdi
        have HBEY := Aside0.mk hbey
        have hcr := log_Crash g b0_ lo A3 c3 K3 w1 wc HT.out HP.out.di.ok (HT.out.keeps HCK3.out)
        rw [← hdc] at hcr
        have HCR := Aside0.mk hcr
        obtain ⟨R5, hR5⟩ : ∃ R5, R5 = scan (secAt dc 0 12) 12 lo.hd 0 ⟨#[]⟩ := ⟨_, rfl⟩
        rw [← hR5] at hbe
        have HR5 := Aside0.mk hR5
        have HBE := Aside0.mk hbe
        have HH3 := Aside0.mk hh3
        clear hbey hdd hdi hcr hdc hR5 hbe hh3
        go_wp2_with fail
        refine (wal_Head.calls g b0_ lo w1 _ HT.out).mono ?_
        rintro e w6 ⟨rfl, rfl⟩
        go_wp2_with fail
        refine HCR.out.mono ?_
        rintro e w7 ⟨rfl, hL, -⟩
        have HT7 := Aside0.mk hL
        have hx7 := (hL.below.block w0.heap.size (blk_lt HX.out)).trans HX.out
        have b0 := (kcl hx7 0).trans rfl
        have b1 := (kcl hx7 1).trans rfl
        clear hL hx7
        go_wp2_with fail
        have hsc := wal_Scan.calls g dc 0 12 lo.hd w1 w7 24 0 HT7.out.dev HDD.out HDI.out (by decide) (by decide) (by have := HBE.out; have := HH3.out; omega)
        rw [show (12 : Int).toNat = 12 from rfl, ← HR5.out] at hsc
        refine hsc.mono ?_
        rintro e w8 ⟨v, rfl, hR, hB⟩
        obtain ⟨A8, c8, rfl⟩ := Kd.R_slice hR
        obtain ⟨rl, en⟩ := R5
        dsimp only at HBE ⊢
        have HT8 := Aside0.mk (HT7.out.step hB)
        clear hR hB hsc b0 b1
        obtain ⟨fm, hfm⟩ : ∃ fm : Int, fm = en + 12 := ⟨_, rfl⟩
        have HFM := Aside0.mk (show lo.hd + 12 ≤ fm ∧ fm ≤ 300 ∧ 1 ≤ fm by have := HBE.out; have := HH3.out; omega)
        have HBF := Aside0.mk (show wal_Beyond.f 0 12 en = some fm by unfold wal_Beyond.f; rw [wrapI _ (by have := HBE.out; have := HH3.out; omega), hfm])
        have E5 := Aside0.mk (show wrap64 (en + 12) = fm by rw [wrapI _ (by have := HBE.out; have := HH3.out; omega), hfm])
        have HP3 := Aside0.mk (HBEY.out fm HFM.out.1 HFM.out.2.1)
        have HOP := Aside0.mk (show openE 0 12 fm (dc.sec.length : Int) = 0 by
          unfold openE
          rw [HDI.out.sec, if_pos (show chkA 0 12 ((24 : Nat) : Int) = 0 by decide), if_neg (by have := HFM.out; omega)])
        clear hfm
        have hx8 : w8.drew.heap[w0.heap.size]? = _ := (HT8.out.below.block w0.heap.size (blk_lt HX.out)).trans HX.out
        have HX8 := Aside0.mk hx8
        have b0 := (kcl hx8 0).trans rfl
        have b1 := (kcl hx8 1).trans rfl
        have HT8d := Aside0.mk (HT8.out.step (below_drew (Below.refl _ w8)))
        clear hx8
        go_upto_region 20 with fail
        go_cut [18, 19] (fun v18 v19 wc => ∃ b : Nat, v18 = .pointer (some ⟨b, 0, none⟩) ∧ v19 = .int .i64 0 ∧ Aside0 (LogSt w1 wc g b ⟨dc, 0, 12, fm, fm⟩))
        case first =>
          go_region_held3 (fun w' => w'.cell? ⟨w0.heap.size, 0, none⟩ = some (.int .i64 0) ∧ w'.cell? ⟨w0.heap.size, 1, none⟩ = some (.int .i64 12)) (first | exact ⟨b0, b1⟩) (first
            | (go_simp; go_at_call 34; (with_reducible refine (wal_Beyond.calls _ _ _ _ _ HBF.out).mono ?_); rintro e w9 ⟨rfl, hB⟩; have HT9 := Aside0.mk (HT8d.out.step hB); have hx9 := (hB.block w0.heap.size (blk_lt HX8.out)).trans HX8.out; have b0 := (kcl hx9 0).trans rfl; have b1 := (kcl hx9 1).trans rfl; have HX9 := Aside0.mk hx9; clear hB hx9)
            | (go_simp; go_at_call 12; (with_reducible refine (wal_Open_ok g dc 0 12 fm w1 _ HT9.out.dev HT9.out.below (by rw [HDI.out.sec]; decide) HOP.out).mono ?_); rintro e w10 ⟨b, rfl, hL, hB⟩; have HL10 := Aside0.mk hL; have hx10 := (hB.block w0.heap.size (blk_lt HX9.out)).trans HX9.out; have b0 := (kcl hx10 0).trans rfl; have b1 := (kcl hx10 1).trans rfl; clear hL hB hx10))
          go_wp2
          go_meet
          exact ⟨b, rfl, rfl, HL10⟩
        case rest =>
          obtain ⟨b, rfl, rfl, HL⟩ := hcut
          clear b0 b1
          have e5 := E5.out
          go_wp2_with fail
          refine (wal_Next.calls g b _ w1 _ HL.out).mono ?_
          rintro e w11 ⟨rfl, rfl⟩
          go_wp2_with fail
          refine (wal_Next.calls g b _ w1 _ HL.out).mono ?_
          rintro e w11 ⟨rfl, rfl⟩
          clear e5
          have hx11 := (HL.out.below.block w0.heap.size (blk_lt HX.out)).trans HX.out
          have b0 := (kcl hx11 0).trans rfl
          have b1 := (kcl hx11 1).trans rfl
          clear hx11
          go_wp2_with fail
          have hsc := wal_Scan.calls g dc 0 12 fm w1 _ 24 0 HL.out.dev HDD.out HDI.out (by decide) (by decide) (by have := HFM.out; omega)
          have hsf : scan (secAt dc 0 12) 12 fm 0 ⟨#[]⟩ = ([], fm) := HP3.out.first HDD.out
          rw [show (12 : Int).toNat = 12 from rfl, hsf] at hsc
          refine hsc.mono ?_
          rintro e w12 ⟨v, rfl, hR, hB⟩
          obtain ⟨A12, c12, rfl⟩ := Kd.R_slice hR
          have HT12 := Aside0.mk (show TS w1 w12 g b ⟨dc, 0, 12, fm, fm⟩ (.slice none 0 0) [] from ⟨HL.out.step hB, Kd.R_nil _ _ _ _ _⟩)
          clear hR hB hsc b0 b1 hsf
          go_upto_block 2 with fail
          go_cut [24] (fun v24 wc => ∃ (i : Nat) (l : Lg) (ts : List ByteArray), i ≤ 4 ∧ Aside0 (P3 fm i l ts) ∧ Aside0 (TS w1 wc g b l v24 ts))
          case first =>
            go_wp2_with fail
            go_loopw [25, 24] (fun v25 v24 wr => ∃ (i : Nat) (l : Lg) (ts : List ByteArray), v25 = .int .i64 i ∧ (i ≤ l2.length ∧ i ≤ 4) ∧ Aside0 (P3 fm i l ts) ∧ Aside0 (TS w1 wr g b l v24 ts)) (fun v25 _ _ => 4 - (intOf v25).toNat)
            case atStart => exact ⟨0, _, _, rfl, ⟨Nat.zero_le _, Nat.zero_le _⟩, HP3, HT12⟩
            case round =>
              clear HP3 HT12
              obtain ⟨i, l, ts, rfl, ⟨hi, hi2⟩, HP, HT⟩ := hrel
              by_cases q1 : i < l2.length ∧ i < 4
              rotate_left
              · have q2 : (l2.length : Int) ≤ (i : Int) ∨ ((i : Int) < (l2.length : Int) ∧ (4 : Int) ≤ (i : Int)) := by omega
                clear q1
                rcases q2 with q3 | ⟨q3, q4⟩
                all_goals
                  go_wp2
                  go_meet
                  exact ⟨i, l, ts, by omega, HP, HT⟩
              obtain ⟨q1, q2⟩ := q1
              have hC0 := Kd.C_below HR2.out (bsp HB1.out HT.out.log.below)
              have hp : (0 : Int) ≤ (i : Int) := by omega
              have hq : (i : Int) < (l2.length : Int) := by omega
              have hm : i ≤ 9223372036854775806 := by omega
              obtain ⟨ad0, e0, hx0⟩ := Kd.at_string hC0 (i : Int) hp hq
              cases e0
              clear hC0
              rw [Int.toNat_natCast] at hx0
              generalize rdOf ByteArray.empty l2 (i : Int) = y at hx0
              obtain ⟨s1, hs1⟩ : ∃ s1, s1 = y.extract 0 (min 80 y.size) := ⟨_, rfl⟩
              have HS1 := Aside0.mk (show armoirelaw01_Cut.f y ((80 : Nat) : Int) = some s1 by rw [hs1]; exact cut_f y 80)
              have HZ1 := Aside0.mk (show s1.size ≤ 80 by rw [hs1]; exact cut_size y 80)
              clear hs1
              go_wp2_with fail
              refine (armoirelaw01_Cut.calls y 80 s1 _ HS1.out).mono ?_
              rintro e w5 ⟨rfl, hB⟩
              have HT4 := Aside0.mk (HT.out.step (by first | exact hB | exact hB.below))
              clear hB hx0
              go_wp2_with fail
              have hap := wal_Append.calls g b 24 (1000 * i) l s1 w1 w5 HT4.out.log HP.out.gi.ok HP.out.gi.di (by omega) (by have := HZ1.out; omega)
              rcases HP.out.app s1 with ⟨l', e, hp2⟩ | e
              · have HP2 := Aside0.mk hp2
                rw [e] at hap
                clear e hp2
                refine hap.mono ?_
                rintro e w6 ⟨rfl, hL, hK⟩
                have hT5 := (HT4.out.call hL hK).step (bal (Below.refl _ _) (.cells #[.int .i64 l.nx, .int .i64 (l.nx + costN s1.size - 1), .string s1] 59))
                obtain ⟨W5, hW5⟩ : ∃ W5, W5 = w6.alloc (.cells #[.int .i64 l.nx, .int .i64 (l.nx + costN s1.size - 1), .string s1] 59) := ⟨_, rfl⟩
                rw [← hW5] at hT5
                have HT5 := Aside0.mk hT5
                have HF5 := Aside0.mk (show ∀ x, W5.heap.size ≤ x → ¬ Foot W5 g x ∧ x ≠ b from fun x hx => by
                  obtain ⟨vs, vc, hD⟩ := HT5.out.log.dev
                  exact ⟨fun hf => by have := (hD.foot_lt hf).1; omega, fun e => by have := HT5.out.log.lt; omega⟩)
                clear hL hK hap hT5 HT4
                subst hW5
                go_wp2_with (first
                  | ((with_reducible refine gate_builtin (b := .append) (xs := #[.tmp 159, .tmp 161]) rfl ?_); at_builtin; refine Kd.R_append Kd.string (w0 := w1) w1.heap.size rfl (.tmp 159) (.tmp 161) 69 9 (.string ByteArray.empty) 16 rfl Try.underlying69 infoStr rfl (by decide) (by omega) _ ts s1 [.string s1] (fun x => ¬ Foot (w6.alloc (.cells #[.int .i64 l.nx, .int .i64 (l.nx + costN s1.size - 1), .string s1] 59)) g x ∧ x ≠ b) (fun _ => False) rfl (by first | rfl | (simp [Act.eval]; done)) ?aP (fun _ hk => hk.elim) ?aF ?aO ?aB ?aS ?aL ?_; (case aP => rfl); (case aF => exact (fun x hx => HF5.out x hx)); (case aO => exact HT5.out.row); (case aB => exact HT5.out.log.below); (case aS => exact HT5.out.log.below.size); (case aL => have := HP.out.len; omega); intro v1 w9 ho hb hg hat; have HT9 := Aside0.mk (row_push HT5.out.log HT5.out.row hg ho hb); clear ho hb hg hat))
                go_roundw
                case rel => exact ⟨i + 1, l', ts ++ [s1], by go_num, ⟨by omega, by omega⟩, ⟨HP2.out⟩, ⟨⟨HT9.out.1, HT9.out.2⟩⟩⟩
                case measure => simp [intOf]; omega
              · rw [e] at hap
                clear e
                refine hap.mono ?_
                rintro e w6 ⟨rfl, hL, hK⟩
                have HT5 := Aside0.mk ((HT4.out.call hL hK).step (bal (Below.refl _ _) (.cells #[.int .i64 0, .int .i64 0, .string ⟨#[]⟩] 59)))
                clear hL hK hap HT4
                go_wp2
                go_roundw
                case rel => exact ⟨i + 1, l, ts, by go_num, ⟨by omega, by omega⟩, ⟨HP.out.later⟩, HT5⟩
                case measure => simp [intOf]; omega
          case rest =>
            obtain ⟨i1, l, ts, hi1, HP2, HT2⟩ := hcut
            obtain ⟨j, j2, hs⟩ := HP2.out.scan K4
            have HSC := Aside0.mk hs
            clear hs
            go_wp2_with fail
            refine (log_Crash g b l A4 c4 K4 w1 wc HT2.out.log HP2.out.gi.di.ok (HT2.out.log.keeps HCK4.out)).mono ?_
            rintro e w17 ⟨rfl, hL, hK⟩
            have HT17 := Aside0.mk (HT2.out.call hL hK)
            have hx7 := (HT17.out.log.below.block w0.heap.size (blk_lt HX.out)).trans HX.out
            have b0 := (kcl hx7 0).trans rfl
            have b1 := (kcl hx7 1).trans rfl
            clear hL hK hx7
            go_wp2_with fail
            have hsc := wal_Scan.calls g (dvCrash l.dev K4) 0 12 fm w1 w17 24 0 HT17.out.log.dev rfl (HP2.out.gi.di.crash K4) (by decide) (by decide) (by have := HFM.out; omega)
            rw [show (12 : Int).toNat = 12 from rfl, HSC.out] at hsc
            refine hsc.mono ?_
            rintro e w18 ⟨v, rfl, hR, hB⟩
            have hlen : (recs fm (ts.take j)).length = j := by rw [recs_length, List.length_take]; omega
            obtain ⟨A18, c18, rfl⟩ := Kd.R_slice hR
            have HG := Aside0.mk (Kd.R_reads' hR).2.2
            rw [hlen] at HG ⊢
            have hT8 := HT17.out.step hB
            obtain ⟨A19, c19, rfl⟩ := Kd.R_slice hT8.row
            have HTX := Aside0.mk (Kd.R_reads' hT8.row).2.2
            have HB8 := Aside0.mk (bsp HB1.out hT8.log.below)
            have hj9 : j ≤ 9223372036854775807 := Kd.C_max HG.out
            have ht9 : ts.length ≤ 9223372036854775807 := Kd.C_max HTX.out
            have q2 : decide (ts.length < j) = false := decide_eq_false (by omega)
            have q4 : ¬ (ts.length < j) := by omega
            clear hR hB hsc b0 b1 hT8 hlen
            go_wp2_with fail
            go_loopw [185] (fun v185 wr => ∃ i : Nat, v185 = .int .i64 i ∧ i ≤ j ∧ Aside0 (Below w18.heap.size w18 wr)) (fun v185 _ => j - (intOf v185).toNat)
            case atStart => exact ⟨0, rfl, Nat.zero_le _, ⟨Below.refl _ _⟩⟩
            case round =>
              clear q2 q4
              obtain ⟨i, rfl, hi, HL⟩ := hrel
              by_cases q : i < j
              · have hi9 : (i : Int) < (j : Int) := by omega
                have hi0 : (0 : Int) ≤ (i : Int) := by omega
                have hit : (i : Int) < (ts.length : Int) := by omega
                have hi8 : i ≤ 9223372036854775806 := by omega
                obtain ⟨adg, cs, e0, -, hkk, hcc0⟩ := Kd.C_get (Kd.C_below HG.out HL.out) noRec (i : Int) hi0 hi9
                cases e0
                rw [Int.toNat_natCast] at hkk hcc0
                have hcc : ∀ jj u, cs[jj]? = some u → wr.cell? (adg.add (i * 3 + jj)) = some u := hcc0
                have hrec := recs_get (ts.take j) fm i (by rw [List.length_take]; omega)
                rw [List.take_take, List.take_take, show min i j = i by omega, show min (i + 1) j = i + 1 by omega, show (ts.take j).getD i ⟨#[]⟩ = ts.getD i ⟨#[]⟩ by rw [List.getD_eq_getElem?_getD, List.getD_eq_getElem?_getD, List.getElem?_take, if_pos q]] at hrec
                rw [hrec] at hkk
                obtain ⟨adt, e1, hx1⟩ := Kd.at_string (Kd.C_below HTX.out HL.out) (i : Int) hi0 hit
                cases e1
                rw [Int.toNat_natCast] at hx1
                have hrd : rdOf ByteArray.empty ts (i : Int) = ts.getD i ⟨#[]⟩ := by simp [rdOf]; rfl
                rw [hrd] at hx1
                generalize ts.getD i ⟨#[]⟩ = x at hx1 hkk
                generalize fm + (costs (ts.take i) : Int) = f0 at hkk
                generalize fm + (costs (ts.take (i + 1)) : Int) - 1 = f1 at hkk
                obtain rfl : cs = [.int .i64 f0, .int .i64 f1, .string x] := k59_open hkk
                have g0 : wr.cell? (adg.add (i * 3)) = some (.int .i64 f0) := hcc 0 _ rfl
                have g1 : wr.cell? ⟨(adg.add (i * 3)).block, (adg.add (i * 3)).off + 1, none⟩ = some (.int .i64 f1) := by rw [← add_field _ _ 1 (by omega)]; exact hcc 1 _ rfl
                have g2 : wr.cell? ⟨(adg.add (i * 3)).block, (adg.add (i * 3)).off + 2, none⟩ = some (.string x) := by rw [← add_field _ _ 2 (by omega)]; exact hcc 2 _ rfl
                have HXX := Aside0.mk (And.intro hx1 (show (x.toList != x.toList) = false by simp))
                clear hkk hcc hcc0 hrec hrd hx1
                go_upto_region 42 with fail
                have hbx := World.alloc_heap_new wr (.cells #[.int .i64 f0, .int .i64 f1, .string x] 59)
                have HL1 := Aside0.mk (bal HL.out (.cells #[.int .i64 f0, .int .i64 f1, .string x] 59))
                have hx2 := pw_cell_below (bal (Below.refl wr.heap.size wr) (.cells #[.int .i64 f0, .int .i64 f1, .string x] 59)) HXX.out.1
                obtain ⟨W2, hW2⟩ : ∃ W2, W2 = wr.alloc (.cells #[.int .i64 f0, .int .i64 f1, .string x] 59) := ⟨_, rfl⟩
                rw [← hW2] at HL1 hbx hx2
                rw [← hW2]
                have r2 := (kcl hbx 2).trans rfl
                have hxx := HXX.out.2
                clear hbx hW2
                go_quiet (fail)
                have HLq := Aside0.mk (bdn HL1.out nq)
                go_wp2
                go_roundw
                case rel => exact ⟨i + 1, by go_num, by omega, HLq⟩
                case measure => simp [intOf]; omega
              · obtain rfl : i = j := by omega
                go_wp2
                go_ret
                exact ⟨rfl, bsp HB8.out HL.out⟩
end Go.Proofs.Ytfllpmmfjbjgoaa.PA

