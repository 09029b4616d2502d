import Derived.Test.YtfllpmmfjbjgoaaQPfGPre
import Derived.Test.YtfllpmmfjbjgoaaQPfMCrcMath
import Derived.Test.YtfllpmmfjbjgoaaQPfPAx6
import Derived.ChangeSlices
import Derived.ProofKit
import Derived.DataReads
import Derived.Test.YtfllpmmfjbjgoaaQPfWWords
namespace Go.Proofs.Ytfllpmmfjbjgoaa.PA
set_option linter.unusedSimpArgs false
open Go.RowKit Go.Proofs.YtfllpmmfjbjgoaaW.PrintWords Go.Proofs.YtfllpmmfjbjgoaaW.PrintLast Go.Proofs.YtfllpmmfjbjgoaaW.PrintMore Go.Proofs.Ytfllpmmfjbjgoaa Go.Proofs.Ytfllpmmfjbjgoaa.PL
theorem costs_take_le (ts : List ByteArray) (i : Nat) : costs (ts.take i) ≤ costs ts := by
  have h := costs_append (ts.take i) (ts.drop i)
  rw [List.take_append_drop] at h
  omega
structure GI (N k : Nat) (l : Lg) (m0 : Int) (ts : List ByteArray) : Prop where
  ok : LgOk l
  up : UpN l.dev
  di : DI N k l.dev
  nx : l.nx = m0 + costs ts
  area : l.fr + l.ln ≤ N
  top : l.hd + l.ln ≤ 1000000
  m0 : 1 ≤ m0 ∧ l.hd ≤ m0
theorem GI.app {N k : Nat} {l : Lg} {m0 : Int} {ts : List ByteArray} (h : GI N k l m0 ts) (t : ByteArray) :
    (∃ d', lgApp l t = (⟨l.nx, l.nx + costN t.size - 1, t⟩, 0, ⟨d', l.fr, l.ln, l.hd, l.nx + costN t.size⟩) ∧ AppUp l.dev d' l.fr l.ln l.nx t ∧ GI N (k + 1000) ⟨d', l.fr, l.ln, l.hd, l.nx + costN t.size⟩ m0 (ts ++ [t]) ∧ l.nx + costN t.size ≤ l.hd + l.ln) ∨ lgApp l t = (noRec, 13, l) := by
  have h1 := h.ok.ln
  have h2 := h.ok.fr
  have h3 := h.ok.hd
  have h4 := h.ok.nx
  have h5 := h.top
  by_cases q : (costN t.size : Int) ≤ l.ln - (l.nx - l.hd)
  · obtain ⟨d', e, ha, hd⟩ := lgApp_up l t N k h.ok h.up h.di h.area h.top q
    refine .inl ⟨d', e, ha, ⟨⟨h1, h2, ⟨h3.1, ?_⟩, ⟨?_, ?_⟩⟩, ha.up, hd.later (by omega), ?_, h.area, h.top, h.m0⟩, by omega⟩
    · show l.hd ≤ l.nx + costN t.size; omega
    · show l.nx + costN t.size ≤ l.hd + l.ln; omega
    · show l.nx + costN t.size ≤ 1000000; omega
    · show l.nx + costN t.size = m0 + costs (ts ++ [t]); rw [costs_snoc, h.nx]; omega
  · exact .inr (lgApp_full l t q)
structure TS (w0 W : World) (g b : Nat) (l : Lg) (v : Value) (ts : List ByteArray) : Prop where
  log : LogSt w0 W g b l
  row : Kd.R Kd.string 9 W w0.heap.size (fun x => ¬ Foot W g x ∧ x ≠ b) v ts
theorem TS.step {w0 W W1 : World} {g b : Nat} {l : Lg} {v : Value} {ts : List ByteArray} (h : TS w0 W g b l v ts) (hB : Below W.heap.size W W1) : TS w0 W1 g b l v ts := ⟨h.log.step hB, row_log h.row (LogKeep.of_below h.log hB)⟩
theorem TS.call {w0 W W1 : World} {g b : Nat} {l l2 : Lg} {v : Value} {ts : List ByteArray} (h : TS w0 W g b l v ts) (hL : LogSt w0 W1 g b l2) (hK : LogKeep W W1 g b) : TS w0 W1 g b l2 v ts := ⟨hL, row_log h.row hK⟩
structure P1 (n0 : Int) (i : Nat) (l : Lg) (ts : List ByteArray) : Prop where
  gi : GI 24 (1000 * i) l n0 ts
  at_ : l.hd = n0 ∧ l.fr = 2 ∧ l.ln = 20
  pp : Poss (PP 2 20 n0 (n0 + 20) ts) l.dev
  rr : RR 2 20 n0 ts l.dev
  len : ts.length ≤ i
theorem P1.app {n0 : Int} {i : Nat} {l : Lg} {ts : List ByteArray} (h : P1 n0 i l ts) (t : ByteArray) :
    (∃ l' : Lg, lgApp l t = (⟨l.nx, l.nx + costN t.size - 1, t⟩, 0, l') ∧ P1 n0 (i + 1) l' (ts ++ [t])) ∨ lgApp l t = (noRec, 13, l) := by
  obtain ⟨a1, a2, a3⟩ := h.at_
  rcases h.gi.app t with ⟨d', e, ha, hg, hz⟩ | e
  · have ht := h.gi.top
    have hm := h.gi.m0
    rw [a1, a3] at hz
    rw [a2, a3] at ha
    refine .inl ⟨_, e, ⟨by rw [show 1000 * (i + 1) = 1000 * i + 1000 by omega]; exact hg, ⟨a1, a2, a3⟩, app_PP ha h.pp h.gi.nx hm.1 (by omega), app_RR ha h.rr h.gi.nx hm.1 (by omega) (by omega), by have := h.len; simp; omega⟩⟩
  · exact .inr e
theorem P1.later {n0 : Int} {i : Nat} {l : Lg} {ts : List ByteArray} (h : P1 n0 i l ts) : P1 n0 (i + 1) l ts :=
  ⟨{ h.gi with di := h.gi.di.later (by omega) }, h.at_, h.pp, h.rr, by have := h.len; omega⟩
structure P2 (n0 : Int) (i : Nat) (l : Lg) (t1 ts : List ByteArray) : Prop where
  gi : GI 24 (1000 * i) l n0 ts
  at_ : l.hd = n0 ∧ l.fr = 2 ∧ l.ln = 20
  pp : Poss (PP 2 20 n0 (n0 + 20) ts) l.dev
  fp : Poss (FP 2 20 n0 (n0 + costs t1) (lay n0 t1)) l.dev
  pre : ∃ us, ts = t1 ++ us
  len : ts.length ≤ i
theorem P1.force {n0 : Int} {i : Nat} {l : Lg} {ts : List ByteArray} (h : P1 n0 i l ts) : (dvFlush l.dev).1 = 0 ∧ P2 n0 i { l with dev := (dvFlush l.dev).2 } ts ts := by
  obtain ⟨f1, f2, f3, f4⟩ := h.gi.up.flush
  exact ⟨f1, ⟨⟨⟨h.gi.ok.ln, h.gi.ok.fr, h.gi.ok.hd, h.gi.ok.nx⟩, f2, h.gi.di.flush, h.gi.nx, h.gi.area, h.gi.top, h.gi.m0⟩, h.at_, h.pp.flush h.gi.di.ok, flush_FP h.gi.di.ok h.gi.up (fun s a b => h.rr s a b), ⟨[], by simp⟩, h.len⟩⟩
theorem P2.app {n0 : Int} {i : Nat} {l : Lg} {t1 ts : List ByteArray} (h : P2 n0 i l t1 ts) (t : ByteArray) :
    (∃ l' : Lg, lgApp l t = (⟨l.nx, l.nx + costN t.size - 1, t⟩, 0, l') ∧ P2 n0 (i + 1) l' t1 (ts ++ [t])) ∨ lgApp l t = (noRec, 13, l) := by
  obtain ⟨a1, a2, a3⟩ := h.at_
  obtain ⟨us, hus⟩ := h.pre
  rcases h.gi.app t with ⟨d', e, ha, hg, hz⟩ | e
  · have ht := h.gi.top
    have hm := h.gi.m0
    have hn := h.gi.nx
    have hc : costs ts = costs t1 + costs us := by rw [hus, costs_append]
    rw [a1, a3] at hz
    rw [a2, a3] at ha
    refine .inl ⟨_, e, ⟨by rw [show 1000 * (i + 1) = 1000 * i + 1000 by omega]; exact hg, ⟨a1, a2, a3⟩, app_PP ha h.pp h.gi.nx hm.1 (by omega), app_FP ha h.fp (by omega) (by omega), ⟨us ++ [t], by rw [hus, List.append_assoc]⟩, by have := h.len; simp; omega⟩⟩
  · exact .inr e
theorem P2.later {n0 : Int} {i : Nat} {l : Lg} {t1 ts : List ByteArray} (h : P2 n0 i l t1 ts) : P2 n0 (i + 1) l t1 ts :=
  ⟨{ h.gi with di := h.gi.di.later (by omega) }, h.at_, h.pp, h.fp, h.pre, by have := h.len; omega⟩
theorem P2.upto {n0 : Int} {i i' : Nat} {l : Lg} {t1 ts : List ByteArray} (h : P2 n0 i l t1 ts) (hi : i ≤ i') : P2 n0 i' l t1 ts :=
  ⟨{ h.gi with di := h.gi.di.later (by omega) }, h.at_, h.pp, h.fp, h.pre, by have := h.len; omega⟩
theorem P2.scan {n0 : Int} {i : Nat} {l : Lg} {t1 ts : List ByteArray} (h : P2 n0 i l t1 ts) (K : List Int) :
    ∃ j, t1.length ≤ j ∧ j ≤ ts.length ∧ Go.Proofs.Ytfllpmmfjbjgoaa.PA.scan (secAt (dvCrash l.dev K) 2 20) 20 n0 0 ⟨#[]⟩ = (recs n0 (ts.take j), n0 + costs (ts.take j)) := by
  obtain ⟨a1, a2, a3⟩ := h.at_
  obtain ⟨us, hus⟩ := h.pre
  have hm := h.gi.m0
  have hn := h.gi.nx
  have hx := h.gi.ok.nx
  have hok := h.gi.di.ok
  have hlen := (h.gi.di.crash K).sec
  have hc : costs ts = costs t1 + costs us := by rw [hus, costs_append]
  obtain ⟨j, j1, j2, j3⟩ := pre_scan (h.pp.crash hok K) rfl (by decide) (by decide) (by rw [hlen]; decide) hm.1 (by omega)
  refine ⟨j, j3 t1.length (by rw [hus]; simp) ?_, j1, j2⟩
  have ht : ts.take t1.length = t1 := by rw [hus]; simp
  rw [ht]
  refine (h.fp.crash hok K).imp (fun a c hc s x y z => ?_)
  rw [hc s x y z, hus, lay_append _ _ _ _ x, if_pos y]
set_option maxHeartbeats 16000000 in
set_option maxRecDepth 100000 in
theorem WalPrefix.walk (w : World) (a0 : Int) (_ : (Lit.int .i64 a0).wf = true) (A1 : Option Addr) (c1 : Nat) (l1 : List ByteArray) (hr1 : Kd.C Kd.string w A1 l1.length l1) (_ : l1.length ≤ c1) (A2 : Option Addr) (c2 : Nat) (l2 : List ByteArray) (hr2 : Kd.C Kd.string w A2 l2.length l2) (_ : l2.length ≤ c2) (A3 : Option Addr) (c3 : Nat) (l3 : List Int) (hr3 : Kd.C (Kd.int .i64) w A3 l3.length l3) (hc3 : l3.length ≤ c3) :
    Calls Try.prog 8 #[.int .i64 a0, .slice A1 l1.length c1, .slice A2 l2.length c2, .slice A3 l3.length c3] w fun e w' => e = .returned (.bool true) ∧ Below w.heap.size w w' := by
  have m1 := i64_and65535 a0
  obtain ⟨q0, hq0⟩ : ∃ q0 : Nat, a0 % 65536 = q0 := ⟨(a0 % 65536).toNat, by omega⟩
  obtain ⟨nn, hnx⟩ : ∃ nn : Nat, nn = q0 + 1 := ⟨_, rfl⟩
  rw [hq0] at m1
  have HQ := Aside0.mk (show 1 ≤ (nn : Int) ∧ (nn : Int) ≤ 70000 by omega)
  have E1 := Aside0.mk (show wrap64 (1 + (q0 : Int)) = (nn : Int) by rw [wrapI _ ⟨by omega, by omega⟩]; omega)
  have hm1 : l1.length ≤ 9223372036854775807 := Kd.C_max hr1
  have hm2 : l2.length ≤ 9223372036854775807 := Kd.C_max hr2
  have hm3 : l3.length ≤ 9223372036854775807 := Kd.C_max hr3
  have HR1 := Aside0.mk hr1
  have HR2 := Aside0.mk hr2
  have HR3 := Aside0.mk hr3
  have HC3 := Aside0.mk hc3
  have HO := Aside0.mk (show openE 2 20 (nn : Int) 24 = 0 by
    unfold openE
    rw [if_pos (show chkA 2 20 24 = 0 by decide), if_neg (by have := HQ.out; omega)])
  clear hq0 hnx hr1 hr2 hr3 hc3
  go_enter Try.func8, Try.ntmps8
  go_wp2_with fail
  refine (law_awake.calls _).mono ?_
  rintro e w0 ⟨rfl, hB⟩
  have HB1 := Aside0.mk (bal hB (.cells #[.int .i64 2, .int .i64 20] 28))
  have HX := Aside0.mk (World.alloc_heap_new w0 (.cells #[.int .i64 2, .int .i64 20] 28))
  have hx := HX.out
  have b0 := (kcl hx 0).trans rfl
  have b1 := (kcl hx 1).trans rfl
  obtain ⟨w1, hw1⟩ : ∃ w1, w1 = w0.alloc (.cells #[.int .i64 2, .int .i64 20] 28) := ⟨_, rfl⟩
  rw [← hw1] at HX HB1 b0 b1
  clear hB hx
  have e1 := E1.out
  go_wp2_with fail
  rw [← hw1]
  clear e1 hw1
  refine (law_begin.calls 2 20 nn w1 HO.out).mono ?_
  rintro e w3 ⟨g, b, rfl, hL⟩
  have HL3 := Aside0.mk hL
  clear hL b0 b1
  go_wp2_with fail
  refine (wal_Next.calls g b _ _ _ HL3.out).mono ?_
  rintro e w4 ⟨rfl, rfl⟩
  have hp1 : P1 (nn : Int) 0 ⟨dvNew 24, 2, 20, nn, nn⟩ [] := ⟨⟨lgok_mk _ 2 20 nn nn (by decide) (by decide) (by have := HQ.out; omega) (by have := HQ.out; omega), upn_new 24, DI.new 24, by simp [costs], (by show (2 : Int) + 20 ≤ ((24 : Nat) : Int); decide), by have := HQ.out; show (nn : Int) + 20 ≤ 1000000; omega, by have := HQ.out; exact ⟨by omega, Int.le_refl _⟩⟩, ⟨rfl, rfl, rfl⟩, PP.new _ _ _ _ _, RR.nil _ _ _ _, Nat.le_refl _⟩
  have HP1 := Aside0.mk hp1
  have HT3 := Aside0.mk (show TS w1 w4 g b ⟨dvNew 24, 2, 20, nn, nn⟩ (.slice none 0 0) [] from ⟨HL3.out, Kd.R_nil _ _ _ _ _⟩)
  clear hp1 HL3
  go_upto_block 0 with fail
  go_cut [14] (fun v14 wc => ∃ (i : Nat) (l : Lg) (ts : List ByteArray), i ≤ 5 ∧ Aside0 (P1 (nn : Int) i l ts) ∧ Aside0 (TS w1 wc g b l v14 ts))
  case first =>
    go_wp2_with fail
    go_loopw [15, 14] (fun v15 v14 wr => ∃ (i : Nat) (l : Lg) (ts : List ByteArray), v15 = .int .i64 i ∧ (i ≤ l1.length ∧ i ≤ 5) ∧ Aside0 (P1 (nn : Int) i l ts) ∧ Aside0 (TS w1 wr g b l v14 ts)) (fun v15 _ _ => 5 - (intOf v15).toNat)
    case atStart => exact ⟨0, _, _, rfl, ⟨Nat.zero_le _, Nat.zero_le _⟩, HP1, HT3⟩
    case round =>
      clear HP1 HT3
      obtain ⟨i, l, ts, rfl, ⟨hi, hi2⟩, HP, HT⟩ := hrel
      by_cases q1 : i < l1.length ∧ i < 5
      rotate_left
      · have q2 : (l1.length : Int) ≤ (i : Int) ∨ ((i : Int) < (l1.length : Int) ∧ (5 : Int) ≤ (i : Int)) := by omega
        clear q1
        rcases q2 with q3 | ⟨q3, q4⟩
        all_goals
          go_wp2
          go_meet
          exact ⟨i, l, ts, by omega, HP, HT⟩
      obtain ⟨q1, q2⟩ := q1
      have hC0 := Kd.C_below HR1.out (bsp HB1.out HT.out.log.below)
      have hp : (0 : Int) ≤ (i : Int) := by omega
      have hq : (i : Int) < (l1.length : Int) := by omega
      have hm : i ≤ 9223372036854775806 := by omega
      obtain ⟨ad0, e0, hx0⟩ := Kd.at_string hC0 (i : Int) hp hq
      cases e0
      clear hC0
      rw [Int.toNat_natCast] at hx0
      generalize rdOf ByteArray.empty l1 (i : Int) = y at hx0
      obtain ⟨s1, hs1⟩ : ∃ s1, s1 = y.extract 0 (min 100 y.size) := ⟨_, rfl⟩
      have HS1 := Aside0.mk (show armoirelaw01_Cut.f y ((100 : Nat) : Int) = some s1 by rw [hs1]; exact cut_f y 100)
      have HZ1 := Aside0.mk (show s1.size ≤ 100 by rw [hs1]; exact cut_size y 100)
      clear hs1
      go_wp2_with fail
      refine (armoirelaw01_Cut.calls y 100 s1 _ HS1.out).mono ?_
      rintro e w5 ⟨rfl, hB⟩
      have HT4 := Aside0.mk (HT.out.step (by first | exact hB | exact hB.below))
      clear hB hx0
      go_wp2_with fail
      have hap := wal_Append.calls g b 24 (1000 * i) l s1 w1 w5 HT4.out.log HP.out.gi.ok HP.out.gi.di (by omega) (by have := HZ1.out; omega)
      rcases HP.out.app s1 with ⟨l', e, hp2⟩ | e
      · have HP2 := Aside0.mk hp2
        rw [e] at hap
        clear e hp2
        refine hap.mono ?_
        rintro e w6 ⟨rfl, hL, hK⟩
        have hT5 := (HT4.out.call hL hK).step (bal (Below.refl _ _) (.cells #[.int .i64 l.nx, .int .i64 (l.nx + costN s1.size - 1), .string s1] 59))
        obtain ⟨W5, hW5⟩ : ∃ W5, W5 = w6.alloc (.cells #[.int .i64 l.nx, .int .i64 (l.nx + costN s1.size - 1), .string s1] 59) := ⟨_, rfl⟩
        rw [← hW5] at hT5
        have HT5 := Aside0.mk hT5
        have HF5 := Aside0.mk (show ∀ x, W5.heap.size ≤ x → ¬ Foot W5 g x ∧ x ≠ b from fun x hx => by
          obtain ⟨vs, vc, hD⟩ := HT5.out.log.dev
          exact ⟨fun hf => by have := (hD.foot_lt hf).1; omega, fun e => by have := HT5.out.log.lt; omega⟩)
        clear hL hK hap hT5 HT4
        subst hW5
        go_wp2_with (first
          | ((with_reducible refine gate_builtin (b := .append) (xs := #[.tmp 69, .tmp 71]) rfl ?_); at_builtin; refine Kd.R_append Kd.string (w0 := w1) w1.heap.size rfl (.tmp 69) (.tmp 71) 69 9 (.string ByteArray.empty) 16 rfl Try.underlying69 infoStr rfl (by decide) (by omega) _ ts s1 [.string s1] (fun x => ¬ Foot (w6.alloc (.cells #[.int .i64 l.nx, .int .i64 (l.nx + costN s1.size - 1), .string s1] 59)) g x ∧ x ≠ b) (fun _ => False) rfl (by first | rfl | (simp [Act.eval]; done)) ?aP (fun _ hk => hk.elim) ?aF ?aO ?aB ?aS ?aL ?_; (case aP => rfl); (case aF => exact (fun x hx => HF5.out x hx)); (case aO => exact HT5.out.row); (case aB => exact HT5.out.log.below); (case aS => exact HT5.out.log.below.size); (case aL => have := HP.out.len; omega); intro v1 w9 ho hb hg hat; have HT9 := Aside0.mk (row_push HT5.out.log HT5.out.row hg ho hb); clear ho hb hg hat))
        go_roundw
        case rel => exact ⟨i + 1, l', ts ++ [s1], by go_num, ⟨by omega, by omega⟩, ⟨HP2.out⟩, ⟨⟨HT9.out.1, HT9.out.2⟩⟩⟩
        case measure => simp [intOf]; omega
      · rw [e] at hap
        clear e
        refine hap.mono ?_
        rintro e w6 ⟨rfl, hL, hK⟩
        have HT5 := Aside0.mk ((HT4.out.call hL hK).step (bal (Below.refl _ _) (.cells #[.int .i64 0, .int .i64 0, .string ⟨#[]⟩] 59)))
        clear hL hK hap HT4
        go_wp2
        go_roundw
        case rel => exact ⟨i + 1, l, ts, by go_num, ⟨by omega, by omega⟩, ⟨HP.out.later⟩, HT5⟩
        case measure => simp [intOf]; omega
  case rest =>
    obtain ⟨i0, l, ts1, hi0, HP, HT⟩ := hcut
    go_wp2_with fail
    refine (wal_Force.calls g b l w1 _ HT.out.log HP.out.gi.di.left HP.out.gi.di.ok).mono ?_
    rintro e w5 ⟨rfl, hL, hK⟩
    have hT5 := HT.out.call hL hK
    have hp5 := HP.out.force.2.upto (i' := 5) (by omega)
    generalize ({ l with dev := (dvFlush l.dev).2 } : Lg) = l5 at hT5 hp5
    obtain ⟨A14, c14, rfl⟩ := Kd.R_slice hT5.row
    have HT5 := Aside0.mk hT5
    have HP5 := Aside0.mk hp5
    clear hL hK hT5 hp5 HP HT
    generalize (dvFlush l.dev).1 = er5
    go_upto_block 2 with fail
    go_cut [14] (fun v14 wc => ∃ (i : Nat) (l : Lg) (ts : List ByteArray), i ≤ 11 ∧ Aside0 (P2 (nn : Int) i l ts1 ts) ∧ Aside0 (TS w1 wc g b l v14 ts))
    case first =>
      go_wp2_with fail
      go_loopw [20, 14] (fun v20 v14 wr => ∃ (i : Nat) (l : Lg) (ts : List ByteArray), v20 = .int .i64 i ∧ (i ≤ l2.length ∧ i ≤ 6) ∧ Aside0 (P2 (nn : Int) (i + 5) l ts1 ts) ∧ Aside0 (TS w1 wr g b l v14 ts)) (fun v20 _ _ => 6 - (intOf v20).toNat)
      case atStart => exact ⟨0, _, _, rfl, ⟨Nat.zero_le _, Nat.zero_le _⟩, ⟨by rw [Nat.zero_add]; exact HP5.out⟩, HT5⟩
      case round =>
        clear HP5 HT5
        obtain ⟨i, l, ts, rfl, ⟨hi, hi2⟩, HP, HT⟩ := hrel
        by_cases q1 : i < l2.length ∧ i < 6
        rotate_left
        · have q2 : (l2.length : Int) ≤ (i : Int) ∨ ((i : Int) < (l2.length : Int) ∧ (6 : Int) ≤ (i : Int)) := by omega
          clear q1
          rcases q2 with q3 | ⟨q3, q4⟩
          all_goals
            go_wp2
            go_meet
            exact ⟨(i + 5), l, ts, by omega, HP, HT⟩
        obtain ⟨q1, q2⟩ := q1
        have hC0 := Kd.C_below HR2.out (bsp HB1.out HT.out.log.below)
        have hp : (0 : Int) ≤ (i : Int) := by omega
        have hq : (i : Int) < (l2.length : Int) := by omega
        have hm : i ≤ 9223372036854775806 := by omega
        obtain ⟨ad0, e0, hx0⟩ := Kd.at_string hC0 (i : Int) hp hq
        cases e0
        clear hC0
        rw [Int.toNat_natCast] at hx0
        generalize rdOf ByteArray.empty l2 (i : Int) = y at hx0
        obtain ⟨s1, hs1⟩ : ∃ s1, s1 = y.extract 0 (min 100 y.size) := ⟨_, rfl⟩
        have HS1 := Aside0.mk (show armoirelaw01_Cut.f y ((100 : Nat) : Int) = some s1 by rw [hs1]; exact cut_f y 100)
        have HZ1 := Aside0.mk (show s1.size ≤ 100 by rw [hs1]; exact cut_size y 100)
        clear hs1
        go_wp2_with fail
        refine (armoirelaw01_Cut.calls y 100 s1 _ HS1.out).mono ?_
        rintro e w5 ⟨rfl, hB⟩
        have HT4 := Aside0.mk (HT.out.step (by first | exact hB | exact hB.below))
        clear hB hx0
        go_wp2_with fail
        have hap := wal_Append.calls g b 24 (1000 * (i + 5)) l s1 w1 w5 HT4.out.log HP.out.gi.ok HP.out.gi.di (by omega) (by have := HZ1.out; omega)
        rcases HP.out.app s1 with ⟨l', e, hp2⟩ | e
        · have HP2 := Aside0.mk hp2
          rw [e] at hap
          clear e hp2
          refine hap.mono ?_
          rintro e w6 ⟨rfl, hL, hK⟩
          have hT5 := (HT4.out.call hL hK).step (bal (Below.refl _ _) (.cells #[.int .i64 l.nx, .int .i64 (l.nx + costN s1.size - 1), .string s1] 59))
          obtain ⟨W5, hW5⟩ : ∃ W5, W5 = w6.alloc (.cells #[.int .i64 l.nx, .int .i64 (l.nx + costN s1.size - 1), .string s1] 59) := ⟨_, rfl⟩
          rw [← hW5] at hT5
          have HT5 := Aside0.mk hT5
          have HF5 := Aside0.mk (show ∀ x, W5.heap.size ≤ x → ¬ Foot W5 g x ∧ x ≠ b from fun x hx => by
            obtain ⟨vs, vc, hD⟩ := HT5.out.log.dev
            exact ⟨fun hf => by have := (hD.foot_lt hf).1; omega, fun e => by have := HT5.out.log.lt; omega⟩)
          clear hL hK hap hT5 HT4
          subst hW5
          go_wp2_with (first
            | ((with_reducible refine gate_builtin (b := .append) (xs := #[.tmp 100, .tmp 102]) rfl ?_); at_builtin; refine Kd.R_append Kd.string (w0 := w1) w1.heap.size rfl (.tmp 100) (.tmp 102) 69 9 (.string ByteArray.empty) 16 rfl Try.underlying69 infoStr rfl (by decide) (by omega) _ ts s1 [.string s1] (fun x => ¬ Foot (w6.alloc (.cells #[.int .i64 l.nx, .int .i64 (l.nx + costN s1.size - 1), .string s1] 59)) g x ∧ x ≠ b) (fun _ => False) rfl (by first | rfl | (simp [Act.eval]; done)) ?aP (fun _ hk => hk.elim) ?aF ?aO ?aB ?aS ?aL ?_; (case aP => rfl); (case aF => exact (fun x hx => HF5.out x hx)); (case aO => exact HT5.out.row); (case aB => exact HT5.out.log.below); (case aS => exact HT5.out.log.below.size); (case aL => have := HP.out.len; omega); intro v1 w9 ho hb hg hat; have HT9 := Aside0.mk (row_push HT5.out.log HT5.out.row hg ho hb); clear ho hb hg hat))
          go_roundw
          case rel => exact ⟨i + 1, l', ts ++ [s1], by go_num, ⟨by omega, by omega⟩, ⟨by rw [show i + 1 + 5 = i + 5 + 1 by omega]; exact HP2.out⟩, ⟨⟨HT9.out.1, HT9.out.2⟩⟩⟩
          case measure => simp [intOf]; omega
        · rw [e] at hap
          clear e
          refine hap.mono ?_
          rintro e w6 ⟨rfl, hL, hK⟩
          have HT5 := Aside0.mk ((HT4.out.call hL hK).step (bal (Below.refl _ _) (.cells #[.int .i64 0, .int .i64 0, .string ⟨#[]⟩] 59)))
          clear hL hK hap HT4
          go_wp2
          go_roundw
          case rel => exact ⟨i + 1, l, ts, by go_num, ⟨by omega, by omega⟩, ⟨by rw [show i + 1 + 5 = i + 5 + 1 by omega]; exact HP.out.later⟩, HT5⟩
          case measure => simp [intOf]; omega
    case rest =>
      obtain ⟨i1, l, ts, hi1, HP, HT⟩ := hcut
      obtain ⟨K, hK⟩ : ∃ K, K = l3.take 30 := ⟨_, rfl⟩
      have HK := Aside0.mk hK
      have hCK := C_take_scalar (Kd.C_below HR3.out HB1.out) 30
      rw [← hK] at hCK
      have hKl : K.length ≤ 9223372036854775807 := Kd.C_max hCK
      have HCK := Aside0.mk hCK
      clear hK hCK
      go_upto_if 106 with fail
      go_cut [3] (fun v3 wc2 => v3 = .slice A3 K.length c3 ∧ wc = wc2)
      case first =>
        by_cases q : 30 < l3.length
        · have hA : A3.isSome = true := by obtain ⟨ad, e, -⟩ := HR3.out.2.2 (by omega); rw [e]; rfl
          obtain ⟨ad3, rfl⟩ := Option.isSome_iff_exists.1 hA
          have q1 : decide ((30 : Int) < (l3.length : Int)) = true := decide_eq_true (by omega)
          have q2 : (30 : Int) ≤ (c3 : Int) := by have := HC3.out; omega
          have e30 := Aside0.mk (show K.length = 30 by rw [HK.out, List.length_take]; omega)
          clear q hA
          rw [q1]
          go_wp2
          go_meet
          exact ⟨by rw [e30.out], rfl⟩
        · have q1 : decide ((30 : Int) < (l3.length : Int)) = false := decide_eq_false (by omega)
          have e30 := Aside0.mk (show K = l3 by rw [HK.out]; exact List.take_of_length_le (by omega))
          clear q
          rw [q1]
          go_wp2
          go_meet
          exact ⟨by rw [e30.out], rfl⟩
      case rest =>
        obtain ⟨rfl, rfl⟩ := hcut
        obtain ⟨j, j1, j2, hs⟩ := HP.out.scan K
        have HSC := Aside0.mk hs
        have hcs : costs ts ≤ 20 := by have h1 := HP.out.gi.nx; have h2 := HP.out.gi.ok.nx; have h3 := HP.out.at_; have h4 := HP.out.gi.m0; omega
        have HCS := Aside0.mk hcs
        clear hs hcs
        go_wp2_with fail
        refine (log_Crash g b l A3 c3 K w1 wc HT.out.log HP.out.gi.di.ok (HT.out.log.keeps HCK.out)).mono ?_
        rintro e w7 ⟨rfl, hL, hK⟩
        have HT7 := Aside0.mk (HT.out.call hL hK)
        have hx7 := (HT7.out.log.below.block w0.heap.size (blk_lt HX.out)).trans HX.out
        have b0 := (kcl hx7 0).trans rfl
        have b1 := (kcl hx7 1).trans rfl
        clear hL hK hx7
        go_wp2_with fail
        have hsc := wal_Scan.calls g (dvCrash l.dev K) 2 20 nn w1 w7 24 0 HT7.out.log.dev rfl (HP.out.gi.di.crash K) (by decide) (by decide) (by have := HQ.out; omega)
        rw [show (20 : Int).toNat = 20 from rfl, HSC.out] at hsc
        refine hsc.mono ?_
        rintro e w8 ⟨v, rfl, hR, hB⟩
        have hlen : (recs (nn : Int) (ts.take j)).length = j := by rw [recs_length, List.length_take]; omega
        obtain ⟨A8, c8, rfl⟩ := Kd.R_slice hR
        have HG := Aside0.mk (Kd.R_reads' hR).2.2
        rw [hlen] at HG ⊢
        have hT8 := HT7.out.step hB
        obtain ⟨A9, c9, rfl⟩ := Kd.R_slice hT8.row
        have HTX := Aside0.mk (Kd.R_reads' hT8.row).2.2
        have HB8 := Aside0.mk (bsp HB1.out hT8.log.below)
        have hj9 : j ≤ 9223372036854775807 := Kd.C_max HG.out
        have ht9 : ts.length ≤ 9223372036854775807 := Kd.C_max HTX.out
        have q1 : decide (j < ts1.length) = false := decide_eq_false (by omega)
        have q2 : decide (ts.length < j) = false := decide_eq_false (by omega)
        have q3 : ¬ (j < ts1.length) := by omega
        have q4 : ¬ (ts.length < j) := by omega
        clear hR hB hsc b0 b1 hT8 hlen
        go_wp2_with fail
        go_loopw [138, 27] (fun v138 v27 wr => ∃ i : Nat, v138 = .int .i64 i ∧ v27 = .int .i64 ((nn : Int) + costs (ts.take i)) ∧ i ≤ j ∧ Aside0 (Below w8.heap.size w8 wr)) (fun v138 _ _ => j - (intOf v138).toNat)
        case atStart => exact ⟨0, rfl, by simp [costs], Nat.zero_le _, ⟨Below.refl _ _⟩⟩
        case round =>
          clear q1 q2 q3 q4
          obtain ⟨i, rfl, rfl, hi, HL⟩ := hrel
          by_cases q : i < j
          · have hi9 : (i : Int) < (j : Int) := by omega
            have hi0 : (0 : Int) ≤ (i : Int) := by omega
            have hit : (i : Int) < (ts.length : Int) := by omega
            have hi8 : i ≤ 9223372036854775806 := by omega
            obtain ⟨adg, cs, e0, -, hkk, hcc0⟩ := Kd.C_get (Kd.C_below HG.out HL.out) noRec (i : Int) hi0 hi9
            cases e0
            rw [Int.toNat_natCast] at hkk hcc0
            have hcc : ∀ jj u, cs[jj]? = some u → wr.cell? (adg.add (i * 3 + jj)) = some u := hcc0
            have hrec := recs_get (ts.take j) (nn : Int) i (by rw [List.length_take]; omega)
            rw [List.take_take, List.take_take, show min i j = i by omega, show min (i + 1) j = i + 1 by omega, show (ts.take j).getD i ⟨#[]⟩ = ts.getD i ⟨#[]⟩ by rw [List.getD_eq_getElem?_getD, List.getD_eq_getElem?_getD, List.getElem?_take, if_pos q]] at hrec
            rw [hrec, costs_take_succ ts i (by omega)] at hkk
            have hle := costs_take_le ts (i + 1)
            rw [costs_take_succ ts i (by omega)] at hle
            obtain ⟨adt, e1, hx1⟩ := Kd.at_string (Kd.C_below HTX.out HL.out) (i : Int) hi0 hit
            cases e1
            rw [Int.toNat_natCast] at hx1
            have hrd : rdOf ByteArray.empty ts (i : Int) = ts.getD i ⟨#[]⟩ := by simp [rdOf]; rfl
            rw [hrd] at hx1
            have hnx := costs_take_succ ts i (by omega)
            generalize ts.getD i ⟨#[]⟩ = x at hx1 hkk hle hnx
            obtain rfl : cs = [.int .i64 ((nn : Int) + costs (ts.take i)), .int .i64 ((nn : Int) + ((costs (ts.take i) + costN x.size : Nat) : Int) - 1), .string x] := k59_open hkk
            have g0 : wr.cell? (adg.add (i * 3)) = some (.int .i64 ((nn : Int) + costs (ts.take i))) := hcc 0 _ rfl
            have g1 : wr.cell? ⟨(adg.add (i * 3)).block, (adg.add (i * 3)).off + 1, none⟩ = some (.int .i64 ((nn : Int) + ((costs (ts.take i) + costN x.size : Nat) : Int) - 1)) := by rw [← add_field _ _ 1 (by omega)]; exact hcc 1 _ rfl
            have g2 : wr.cell? ⟨(adg.add (i * 3)).block, (adg.add (i * 3)).off + 2, none⟩ = some (.string x) := by rw [← add_field _ _ 2 (by omega)]; exact hcc 2 _ rfl
            have hcp := cost_pos x.size
            have hqq := HQ.out
            have hcs := HCS.out
            have HCF := Aside0.mk (cost_f x.size (by omega))
            have HNX := Aside0.mk hnx
            have hxx : (x.toList != x.toList) = false := by simp
            generalize costN x.size = kx at HCF HNX g1 hle hcp
            generalize costs (ts.take i) = pc at g0 g1 hle HNX ⊢
            have E2 := Aside0.mk (And.intro (wrapK ((nn : Int) + (pc : Int) + (kx : Int)) (by omega)) (And.intro (wrapK ((nn : Int) + (pc : Int) + (kx : Int) - 1) (by omega)) (And.intro (wrapI ((nn : Int) + (pc : Int) + (kx : Int) - 1 + 1) (by omega)) (show (nn : Int) + ((pc + kx : Nat) : Int) - 1 = (nn : Int) + (pc : Int) + (kx : Int) - 1 by omega))))
            have E4 := Aside0.mk (wrapI ((nn : Int) + (pc : Int) + (kx : Int)) (by omega))
            rw [E2.out.2.2.2] at g1
            clear hkk hcc hcc0 hrec hle hrd hnx hcp hqq hcs
            have HR0 := Aside0.mk (And.intro hx1 hxx)
            clear hx1
            go_upto_region 35 with fail
            have hbx := World.alloc_heap_new wr (.cells #[.int .i64 ((nn : Int) + pc), .int .i64 ((nn : Int) + pc + kx - 1), .string x] 59)
            have HL1 := Aside0.mk (bal HL.out (.cells #[.int .i64 ((nn : Int) + pc), .int .i64 ((nn : Int) + pc + kx - 1), .string x] 59))
            have HL2 := Aside0.mk (below_drew (bal HL.out (.cells #[.int .i64 ((nn : Int) + pc), .int .i64 ((nn : Int) + pc + kx - 1), .string x] 59)))
            have hx2 := pw_cell_below (below_drew (bal (Below.refl wr.heap.size wr) (.cells #[.int .i64 ((nn : Int) + pc), .int .i64 ((nn : Int) + pc + kx - 1), .string x] 59))) HR0.out.1
            obtain ⟨W2, hW2⟩ : ∃ W2, W2 = wr.alloc (.cells #[.int .i64 ((nn : Int) + pc), .int .i64 ((nn : Int) + pc + kx - 1), .string x] 59) := ⟨_, rfl⟩
            rw [← hW2] at HL1 HL2 hbx hx2
            have HBW := Aside0.mk hbx
            rw [← hW2]
            have hbd : W2.drew.heap[wr.heap.size]? = _ := hbx
            have HBX := Aside0.mk hbd
            have r0 := (kcl hbd 0).trans rfl
            have r1 := (kcl hbd 1).trans rfl
            have r2 := (kcl hbd 2).trans rfl
            have hxx := HR0.out.2
            obtain ⟨k1, k2, e3, -⟩ := E2.out
            clear hbx hW2 hbd
            go_cut [167] (fun v167 w9 => v167 = .bool false ∧ Aside0 (Below W2.heap.size W2 w9))
            case first =>
              go_region_held3 (fun w' => w'.cell? ⟨wr.heap.size, 0, none⟩ = some (.int .i64 ((nn : Int) + pc)) ∧ w'.cell? ⟨wr.heap.size, 1, none⟩ = some (.int .i64 ((nn : Int) + pc + kx - 1)) ∧ w'.cell? ⟨wr.heap.size, 2, none⟩ = some (.string x) ∧ w'.cell? (adt.add i) = some (.string x)) (first | exact ⟨r0, r1, r2, hx2⟩) (first
                | (go_simp; go_at_call 14; (with_reducible refine (wal_Cost.calls _ _ _ HCF.out).mono ?_); rintro e w9 ⟨rfl, hB⟩; have HB9 := Aside0.mk hB; have hx2 := pw_cell_below hB hx2; have hb9 := (hB.block wr.heap.size (blk_lt HBX.out)).trans HBX.out; have r0 := (kcl hb9 0).trans rfl; have r1 := (kcl hb9 1).trans rfl; have r2 := (kcl hb9 2).trans rfl; clear hB hb9))
              go_wp2
              go_meet
              exact ⟨rfl, ⟨bsp (below_drew (Below.refl _ W2)) HB9.out⟩⟩
            case rest =>
              obtain ⟨rfl, HB9⟩ := hcut
              have hb9 := (HB9.out.block wr.heap.size (blk_lt HBW.out)).trans HBW.out
              clear r0 r1 r2 hx2 k1 k2
              have r1 := (kcl hb9 1).trans rfl
              have hqq := HQ.out
              have HE := Aside0.mk (bsp HL1.out HB9.out)
              have e4 := E4.out
              clear hb9 hqq
              go_wp2
              go_roundw
              case rel => exact ⟨i + 1, by go_num, by rw [HNX.out, Int.natCast_add, ← Int.add_assoc]; (try rw [E4.out]), by omega, HE⟩
              case measure => simp [intOf]; omega
          · obtain rfl : i = j := by omega
            go_wp2
            go_ret
            exact ⟨rfl, bsp HB8.out HL.out⟩
end Go.Proofs.Ytfllpmmfjbjgoaa.PA

namespace Go.Proofs.Ytfllpmmfjbjgoaa
open Go.RowKit Go.Proofs.YtfllpmmfjbjgoaaW.PrintWords
def Reads {H : Type} (enc : TypeId × Value → H) (P : Program) (W : World) (base : Nat) (spare : Nat → Bool) (held : Bool) {α : Type} (d : Kd α) (t : TypeId) (ok : α → Prop) : Prop :=
  P.cellsOf t = d.sz ∧ ∀ fuel cs x, DataW.trod enc P W base spare held fuel t cs = some x → ∃ y, d.K W y cs ∧ ok y
section
variable {H : Type} {enc : TypeId × Value → H} {P : Program} {W : World} {base : Nat} {spare : Nat → Bool} {held : Bool}
theorem Reads.int {k : IntKind} {t : TypeId} (hu : P.underlying t = some (.int k)) (hc : P.cellsOf t = 1) : Reads enc P W base spare held (Kd.int k) t (fun n => (Lit.int k n).wf = true) :=
  ⟨hc, fun _ _ _ h => by obtain ⟨n, rfl, _, hw⟩ := DataW.trod_int hu h; exact ⟨n, rfl, hw⟩⟩
theorem Reads.bool {t : TypeId} (hu : P.underlying t = some .bool) (hc : P.cellsOf t = 1) : Reads enc P W base spare held Kd.bool t (fun _ => True) :=
  ⟨hc, fun _ _ _ h => by obtain ⟨n, rfl, _⟩ := DataW.trod_bool hu h; exact ⟨n, rfl, trivial⟩⟩
theorem Reads.string {t : TypeId} (hu : P.underlying t = some .string) (hc : P.cellsOf t = 1) : Reads enc P W base spare held Kd.string t (fun s => s.size ≤ maxLen) :=
  ⟨hc, fun _ _ _ h => by obtain ⟨n, rfl, _, hw⟩ := DataW.trod_string hu h; exact ⟨n, rfl, hw⟩⟩
theorem list_of {α β : Type} (l : List β) (R : α → β → Prop) (h : ∀ b ∈ l, ∃ a, R a b) : ∃ xs : List α, xs.length = l.length ∧ ∀ (j : Nat) (a : α), xs[j]? = some a → ∃ b, l[j]? = some b ∧ R a b := by
  induction l with
  | nil => exact ⟨[], rfl, fun j a h => by simp at h⟩
  | cons b l ih =>
    obtain ⟨a, ha⟩ := h b List.mem_cons_self
    obtain ⟨xs, hl, hx⟩ := ih (fun b hb => h b (List.mem_cons_of_mem _ hb))
    refine ⟨a :: xs, by simp [hl], fun j a' hj => ?_⟩
    cases j with
    | zero => simp only [List.getElem?_cons_zero, Option.some.injEq] at hj; subst hj; exact ⟨b, rfl, ha⟩
    | succ j => exact hx j a' (by simpa using hj)
theorem Reads.row {α : Type} {d : Kd α} {ok : α → Prop} {t e : TypeId} (hu : P.underlying t = some (.slice e)) (he : Reads enc P W base spare held d e ok) {fuel : Nat} {cs : List Value} {x : DataW H × List MemPlace}
    (h : DataW.trod enc P W base spare held fuel t cs = some x) : ∃ A c, ∃ xs : List α, cs = [.slice A xs.length c] ∧ xs.length ≤ c ∧ Kd.C d W A xs.length xs ∧ xs.length ≤ maxLen ∧ ∀ y ∈ xs, ok y := by
  rcases DataW.trod_slice hu h with ⟨rfl, _⟩ | ⟨a, len, cap, elems, rest, n, _, rfl, _, _, hl, hm, hlen, hel, _, _⟩
  · exact ⟨none, 0, [], rfl, Nat.le_refl _, ⟨rfl, by simp, fun h => by simp at h⟩, by simp, fun y hy => by simp at hy⟩
  · have each : ∀ i ∈ List.range len, ∃ y : α, (∃ c, d.K W y c ∧ c.length = d.sz ∧ ∀ j u, c[j]? = some u → W.cell? (a.add (i * d.sz + j)) = some u) ∧ ok y := by
      intro i hi
      have hi' : i < len := by simpa using hi
      have h1 := hel i hi'
      rw [he.1] at h1
      have h2 : ∃ c, W.cells? base (a.add (i * d.sz)) d.sz = some c ∧ (DataW.trod enc P W base spare held n e c) = elems[i]? := by
        cases hc : W.cells? base (a.add (i * d.sz)) d.sz with
        | none =>
          rw [hc] at h1
          have : i < elems.length := by omega
          simp [this] at h1
        | some c =>
          rw [hc] at h1
          exact ⟨c, rfl, h1⟩
      obtain ⟨c, hc, hx⟩ := h2
      have hi2 : i < elems.length := by omega
      rw [List.getElem?_eq_getElem hi2] at hx
      obtain ⟨y, hy, hok⟩ := he.2 _ _ _ hx
      obtain ⟨_, hcl, hcc⟩ := World.cells?_some hc
      refine ⟨y, ⟨c, hy, hcl, fun j u hj => ?_⟩, hok⟩
      have hj' : j < c.length := (List.getElem?_eq_some_iff.1 hj).1
      have h3 := hcc j (by omega)
      rw [hj] at h3
      have e1 : (a.add (i * d.sz)).add j = a.add (i * d.sz + j) := by
        by_cases hi0 : i * d.sz = 0 <;> by_cases hj0 : j = 0 <;> simp [Addr.add, hi0, hj0] <;> omega
      rwa [e1] at h3
    obtain ⟨xs, hxl, hxs⟩ := list_of (List.range len) _ each
    have hxl' : xs.length = len := by simpa using hxl
    have hm' : len ≤ maxLen := Nat.le_trans hl hm
    refine ⟨some a, cap, xs, by rw [hxl'], by omega, ⟨rfl, by unfold maxLen at hm'; omega, fun _ => ⟨a, rfl, fun j p hp => ?_⟩⟩, by omega, fun y hy => ?_⟩
    · obtain ⟨i, hi, ⟨c, hk, hcl, hcc⟩, _⟩ := hxs j p hp
      have hj : j < len := by have := (List.getElem?_eq_some_iff.1 hp).1; omega
      obtain rfl : j = i := by simpa [List.getElem?_range hj] using hi
      exact ⟨c, hcl, hk, hcc⟩
    · obtain ⟨j, hj⟩ := List.mem_iff_getElem?.1 hy
      obtain ⟨i, _, _, hok⟩ := hxs j y hj
      exact hok
theorem Reads.slice {α : Type} {d : Kd α} {ok : α → Prop} {t e : TypeId} (hu : P.underlying t = some (.slice e)) (hc : P.cellsOf t = 1) (he : Reads enc P W base spare held d e ok) :
    Reads enc P W base spare held (Kd.slice e d) t (fun xs => xs.length ≤ maxLen ∧ ∀ y ∈ xs, ok y) :=
  ⟨hc, fun _ _ _ h => by
    obtain ⟨A, c, xs, rfl, h1, h2, h3, h4⟩ := Reads.row hu he h
    exact ⟨xs, ⟨A, c, rfl, h1, h2⟩, h3, h4⟩⟩
def Fields {H : Type} (enc : TypeId × Value → H) (P : Program) (W : World) (base : Nat) (spare : Nat → Bool) (held : Bool) {α : Type} (fs : List Field) (off : Nat) (d : Kd α) (ok : α → Prop) : Prop :=
  ∀ (n : Nat) (cs : List Value) (xs : List (DataW H × List MemPlace)), (∀ (i : Nat) (f : Field), fs[i]? = some f → DataW.trod enc P W base spare held n f.type ((cs.drop f.offset).take (P.cellsOf f.type)) = xs[i]?) → xs.length = fs.length → cs.length = off + d.sz →
    ∃ y, d.K W y (cs.drop off) ∧ ok y
theorem Fields.one {α : Type} {d : Kd α} {ok : α → Prop} {f : Field} {off : Nat} (ho : f.offset = off) (h : Reads enc P W base spare held d f.type ok) : Fields enc P W base spare held [f] off d ok := by
  intro n cs xs hx hl hc
  have h1 := hx 0 f rfl
  have hl' : 0 < xs.length := by rw [hl]; exact Nat.one_pos
  rw [List.getElem?_eq_getElem hl', ho, h.1, List.take_of_length_le (by rw [List.length_drop]; omega)] at h1
  exact h.2 _ _ _ h1
theorem Fields.cons {α β : Type} {d : Kd α} {d' : Kd β} {ok : α → Prop} {ok' : β → Prop} {f : Field} {fs : List Field} {off : Nat} (ho : f.offset = off) (h : Reads enc P W base spare held d f.type ok)
    (h' : Fields enc P W base spare held fs (off + d.sz) d' ok') : Fields enc P W base spare held (f :: fs) off (Kd.pair d d') (fun p => ok p.1 ∧ ok' p.2) := by
  intro n cs xs hx hl hc
  have hc2 : cs.length = off + d.sz + d'.sz := by rw [hc]; exact (Nat.add_assoc _ _ _).symm
  have h1 := hx 0 f rfl
  have hl' : 0 < xs.length := by rw [hl]; exact Nat.succ_pos _
  rw [List.getElem?_eq_getElem hl', ho, h.1] at h1
  obtain ⟨y, hy, hok⟩ := h.2 _ _ _ h1
  obtain ⟨z, hz, hok'⟩ := h' n cs (xs.drop 1) (fun i g hg => by
    have h2 := hx (i + 1) g (by simpa using hg)
    rw [h2, List.getElem?_drop, Nat.add_comm 1 i]) (by rw [List.length_drop, hl]; rfl) hc2
  refine ⟨(y, z), ⟨(cs.drop off).take d.sz, cs.drop (off + d.sz), ?_, hy, hz⟩, hok, hok'⟩
  rw [← List.drop_drop, List.take_append_drop]
theorem Reads.struct {α β : Type} {d : Kd α} {ok : α → Prop} {g : β → α} (mk : α → β) (hg : ∀ a, g (mk a) = a) {t : TypeId} {fs : Array Field} (hu : P.underlying t = some (.struct fs)) (hc : P.cellsOf t = d.sz)
    (h : Fields enc P W base spare held fs.toList 0 d ok) : Reads enc P W base spare held (Kd.iso d g) t (fun b => ok (g b)) := by
  refine ⟨hc, fun fuel cs x hx => ?_⟩
  obtain ⟨xs, n, _, _, hl, hxl, hf⟩ := DataW.trod_struct hu hx
  obtain ⟨y, hy, hok⟩ := h n cs xs (fun i f hi => hf i f (by simpa using hi)) (by simpa using hxl) (by rw [hl, hc]; exact (Nat.zero_add _).symm)
  refine ⟨mk y, ?_, by show ok (g (mk y)); rw [hg]; exact hok⟩
  show d.K W (g (mk y)) cs
  rw [hg]
  simpa using hy
end
end Go.Proofs.Ytfllpmmfjbjgoaa

