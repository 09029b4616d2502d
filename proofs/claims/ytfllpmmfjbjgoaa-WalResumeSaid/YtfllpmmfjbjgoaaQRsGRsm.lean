import Derived.Test.YtfllpmmfjbjgoaaQRsGPfx0
import Derived.Test.YtfllpmmfjbjgoaaQRsMCrcMath
import Derived.Test.YtfllpmmfjbjgoaaQRsPAx0
namespace Go.Proofs.Ytfllpmmfjbjgoaa.PA
set_option linter.unusedSimpArgs false
open Go.RowKit Go.Proofs.YtfllpmmfjbjgoaaW.PrintWords Go.Proofs.YtfllpmmfjbjgoaaW.PrintLast Go.Proofs.YtfllpmmfjbjgoaaW.PrintMore Go.Proofs.Ytfllpmmfjbjgoaa Go.Proofs.Ytfllpmmfjbjgoaa.PL
structure RA (i : Nat) (l : Lg) (ts : List ByteArray) : Prop where
  gi : GI 24 (1000 * i) l 3 ts
  at_ : l.hd = 3 ∧ l.fr = 1 ∧ l.ln = 14
  pp : Poss (PP 1 14 3 (3 + 14) ts) l.dev
theorem RA.app {i : Nat} {l : Lg} {ts : List ByteArray} (h : RA i l ts) (t : ByteArray) : ∃ ts', RA (i + 1) (lgApp l t).2.2 ts' := by
  obtain ⟨a1, a2, a3⟩ := h.at_
  rcases h.gi.app t with ⟨d', e, ha, hg, hz⟩ | e
  · rw [a1, a3] at hz
    rw [a2, a3] at ha
    rw [e]
    exact ⟨ts ++ [t], ⟨by rw [show 1000 * (i + 1) = 1000 * i + 1000 by omega]; exact hg, ⟨a1, a2, a3⟩, app_PP ha h.pp h.gi.nx (by decide) (by omega)⟩⟩
  · rw [e]
    exact ⟨ts, ⟨{ h.gi with di := h.gi.di.later (by omega) }, h.at_, h.pp⟩⟩
theorem RA.force {i : Nat} {l : Lg} {ts : List ByteArray} (h : RA i l ts) : RA i { l with dev := (dvFlush l.dev).2 } ts := by
  obtain ⟨f1, f2, f3, f4⟩ := h.gi.up.flush
  exact ⟨⟨⟨h.gi.ok.ln, h.gi.ok.fr, h.gi.ok.hd, h.gi.ok.nx⟩, f2, h.gi.di.flush, h.gi.nx, h.gi.area, h.gi.top, h.gi.m0⟩, h.at_, h.pp.flush h.gi.di.ok⟩
theorem RA.new : RA 0 ⟨dvNew 24, 1, 14, 3, 3⟩ [] :=
  ⟨⟨lgok_mk _ 1 14 3 3 (by decide) (by decide) (by decide) (by decide), upn_new 24, DI.new 24, rfl, (by show (1 : Int) + 14 ≤ ((24 : Nat) : Int); decide), (by show (3 : Int) + 14 ≤ 1000000; decide), ⟨by decide, Int.le_refl _⟩⟩, ⟨rfl, rfl, rfl⟩, PP.new _ _ _ _ _⟩
theorem RA.crash {i : Nat} {l : Lg} {ts : List ByteArray} (h : RA i l ts) (K : List Int) : ∃ us, QV 1 14 3 (secAt (dvCrash l.dev K) 1 14) us ∧ Poss (QP 1 14 3 (secAt (dvCrash l.dev K) 1 14) us) (dvCrash l.dev K) ∧ DI 24 0 (dvCrash l.dev K) := by
  have hd := h.gi.di.crash K
  have hx := h.gi.ok.nx
  have hn := h.gi.nx
  have ha := h.at_
  obtain ⟨us, h1, h2, -⟩ := qv_of (h.pp.crash h.gi.di.ok K) rfl rfl (by decide) (by decide) (by rw [hd.sec]; decide) (by decide) (by omega)
  exact ⟨us, h1, h2, hd⟩
structure RD (us : List ByteArray) (i : Nat) (l : Lg) (ts : List ByteArray) : Prop where
  gi : GI 24 (1000 * i) l 3 ts
  at_ : l.hd = 3 ∧ l.fr = 1 ∧ l.ln = 14
  pp : Poss (PP 1 14 3 (3 + 14) ts) l.dev
  fp : Poss (FP 1 14 3 (3 + costs us) (lay 3 us)) l.dev
  pre : ∃ vs, ts = us ++ vs
theorem RD.app {us : List ByteArray} {i : Nat} {l : Lg} {ts : List ByteArray} (h : RD us i l ts) (t : ByteArray) :
    (∃ l' : Lg, lgApp l t = (⟨l.nx, l.nx + costN t.size - 1, t⟩, 0, l') ∧ RD us (i + 1) l' (ts ++ [t])) ∨ (lgApp l t = (noRec, 13, l) ∧ RD us (i + 1) l ts) := by
  obtain ⟨a1, a2, a3⟩ := h.at_
  obtain ⟨vs, hvs⟩ := h.pre
  rcases h.gi.app t with ⟨d', e, ha, hg, hz⟩ | e
  · have hn := h.gi.nx
    have hc : costs ts = costs us + costs vs := by rw [hvs, costs_append]
    rw [a1, a3] at hz
    rw [a2, a3] at ha
    exact .inl ⟨_, e, ⟨by rw [show 1000 * (i + 1) = 1000 * i + 1000 by omega]; exact hg, ⟨a1, a2, a3⟩, app_PP ha h.pp h.gi.nx (by decide) (by omega), app_FP ha h.fp (by omega) (by omega), ⟨vs ++ [t], by rw [hvs, List.append_assoc]⟩⟩⟩
  · exact .inr ⟨e, ⟨{ h.gi with di := h.gi.di.later (by omega) }, h.at_, h.pp, h.fp, h.pre⟩⟩
theorem RD.new {d : Dv} {V : Int → Option (Int × ByteArray)} {us : List ByteArray} (hv : QV 1 14 3 V us) (hp : Poss (QP 1 14 3 V us) d) (hu : UpN d) (hi : DI 24 0 d) : (rsm 1 14 3 d).1 = 0 ∧ (rsm 1 14 3 d).2.cache = [] ∧ scan (secAt d 1 14) (14 : Int).toNat 3 0 ⟨#[]⟩ = (recs 3 us, (3 : Int) + (costs us : Int)) ∧ RD us 14 ⟨(rsm 1 14 3 d).2, 1, 14, 3, 3 + costs us⟩ us := by
  obtain ⟨h1, h2, h3, h4, h5⟩ := rsm_up hv hp hu hi (by decide) (by decide) (by decide) (by decide)
  have h6 := (rsm_poss hv hp hu.down hi (by decide) (by decide) (by decide) (by decide)).2
  have hle := hv.le
  exact ⟨h1, h3, qp_scan hv hp hu.down (by decide) (by decide) (by rw [hi.sec]; decide) (by decide), ⟨⟨lgok_mk _ 1 14 3 _ (by decide) (by decide) (by omega) (by omega), h2, h6.later (by decide), rfl, (by show (1 : Int) + 14 ≤ ((24 : Nat) : Int); decide), (by show (3 : Int) + 14 ≤ 1000000; decide), ⟨by decide, Int.le_refl _⟩⟩, ⟨rfl, rfl, rfl⟩, h4, h5, ⟨[], by simp⟩⟩⟩
theorem RD.scan {us : List ByteArray} {i : Nat} {l : Lg} {ts : List ByteArray} (h : RD us i l ts) (K : List Int) :
    ∃ j, us.length ≤ j ∧ j ≤ ts.length ∧ Go.Proofs.Ytfllpmmfjbjgoaa.PA.scan (secAt (dvCrash l.dev K) 1 14) (14 : Int).toNat 3 0 ⟨#[]⟩ = (recs 3 (ts.take j), (3 : Int) + (costs (ts.take j) : Int)) := by
  obtain ⟨vs, hvs⟩ := h.pre
  have hn := h.gi.nx
  have hx := h.gi.ok.nx
  have ha := h.at_
  have hok := h.gi.di.ok
  have hlen := (h.gi.di.crash K).sec
  obtain ⟨j, j1, j2, j3⟩ := pre_scan (h.pp.crash hok K) rfl (by decide) (by decide) (by rw [hlen]; decide) (by decide) (by omega)
  refine ⟨j, j3 us.length (by rw [hvs]; simp) ?_, j1, j2⟩
  have ht : ts.take us.length = us := by rw [hvs]; simp
  rw [ht]
  refine (h.fp.crash hok K).imp (fun a c hc s x y z => ?_)
  rw [hc s x y z, hvs, lay_append _ _ _ _ x, if_pos y]
theorem recs_snoc (ts : List ByteArray) (t : ByteArray) (n0 : Int) : recs n0 (ts ++ [t]) = recs n0 ts ++ [⟨n0 + costs ts, n0 + costs ts + costN t.size - 1, t⟩] := by
  rw [recs_append]; simp [recs]
theorem recs_len_le (ts : List ByteArray) : ts.length ≤ costs ts := by
  induction ts with
  | nil => exact Nat.le_refl _
  | cons t ts ih => have := cost_pos t.size; simp only [costs, List.length_cons]; omega
theorem recs_take_get (ts : List ByteArray) (n0 : Int) (j i : Nat) (hj : j ≤ ts.length) (h : i < j) : (recs n0 (ts.take j)).getD i noRec = (recs n0 ts).getD i noRec := by
  have h1 := recs_append (ts.take j) (ts.drop j) n0
  rw [List.take_append_drop] at h1
  rw [h1, List.getD_eq_getElem?_getD, List.getD_eq_getElem?_getD, List.getElem?_append_left (by rw [recs_length, List.length_take]; omega)]
theorem at_Rec {w : World} {A : Option Addr} {n : Nat} {xs : List S59} (h : Kd.C k59 w A n xs) (i : Int) (h0 : 0 ≤ i) (h1 : i < n) : ∃ ad, A = some ad ∧ w.cell? (ad.add (i.toNat * 3)) = some (.int .i64 (xs.getD i.toNat noRec).f0) ∧ w.cell? ⟨(ad.add (i.toNat * 3)).block, (ad.add (i.toNat * 3)).off + 1, none⟩ = some (.int .i64 (xs.getD i.toNat noRec).f1) ∧
    w.cell? ⟨(ad.add (i.toNat * 3)).block, (ad.add (i.toNat * 3)).off + 2, none⟩ = some (.string (xs.getD i.toNat noRec).f2) := by
  obtain ⟨ad, cs, e, _, hK, hc0⟩ := Kd.C_get h noRec i h0 h1
  have hc : ∀ j u, cs[j]? = some u → w.cell? (ad.add (i.toNat * 3 + j)) = some u := hc0
  obtain rfl := k59_open hK
  exact ⟨ad, e, hc 0 _ rfl, by rw [← add_field _ _ 1 (by omega)]; exact hc 1 _ rfl, by rw [← add_field _ _ 2 (by omega)]; exact hc 2 _ rfl⟩
structure RB (w1 W : World) (g : Nat) (d : Dv) (v : Value) (rs : List S59) : Prop where
  dev : IsDev w1 W g d
  below : Below w1.heap.size w1 W
  row : Kd.R k59 59 W w1.heap.size (fun x => ¬ Foot W g x) v rs
theorem RB.call {w1 W W1 : World} {g : Nat} {d d1 : Dv} {v : Value} {rs : List S59} (h : RB w1 W g d v rs) (hI : IsDev w1 W1 g d1) (hB : Below w1.heap.size w1 W1) (hK : DevKeep W W1 g) : RB w1 W1 g d1 v rs := ⟨hI, hB, row_dev h.row hK⟩
theorem RB.step {w1 W W1 : World} {g : Nat} {d : Dv} {v : Value} {rs : List S59} (h : RB w1 W g d v rs) (hB : Below W.heap.size W W1) : RB w1 W1 g d v rs := by
  obtain ⟨vs, vc, hD⟩ := h.dev
  exact h.call ⟨vs, vc, hD.below hB⟩ (bsp h.below hB) (DevKeep.of_below hD.lt hB)
theorem RB.keeps {w1 W : World} {g : Nat} {d : Dv} {v : Value} {rs : List S59} (h : RB w1 W g d v rs) {A : Option Addr} {ks : List Int} (hk : Kd.C (Kd.int .i64) w1 A ks.length ks) : ∀ W_, Kept W W_ (Foot W g) → Kd.C (Kd.int .i64) W_ A ks.length ks := fun W_ hK => by
  obtain ⟨vs, vc, hD⟩ := h.dev
  refine C_scalar_move hk fun k hlt => ?_
  exact (hK.2 k (by have := h.below.size; omega) (fun hf => by have := (hD.foot_lt hf).2; omega)).trans (h.below.block k hlt)
theorem dev_Arm (g : Nat) (d : Dv) (n : Int) (w0 w : World) (hI : IsDev w0 w g d) (hB : Below w0.heap.size w0 w) :
    Calls Try.prog 32 #[.pointer (some ⟨g, 0, none⟩), .int .i64 n] w fun e w' => e = .returned (.tuple #[]) ∧ IsDev w0 w' g { d with left := n } ∧ Below w0.heap.size w0 w' ∧ DevKeep w w' g := by
  obtain ⟨vs, vc, hD⟩ := hI
  refine (device_Arm.calls g vs vc d n w0 w hD).mono ?_
  rintro e w' ⟨rfl, rfl⟩
  have hD2 : Dev w0 (w.setCell ⟨g, 2, none⟩ (.int .i64 n)) g vs vc { d with left := n } := hD.num rfl rfl rfl
  exact ⟨rfl, ⟨vs, vc, hD2⟩, hB.setCell (p := ⟨g, 2, none⟩) hD.ge _, (DevKeep.refl _ _).num hD hD2⟩
structure RL (w1 W : World) (g b : Nat) (l : Lg) (v : Value) (rs : List S59) : Prop where
  log : LogSt w1 W g b l
  row : Kd.R k59 59 W w1.heap.size (fun x => ¬ Foot W g x ∧ x ≠ b) v rs
theorem RL.call {w1 W W1 : World} {g b : Nat} {l l2 : Lg} {v : Value} {rs : List S59} (h : RL w1 W g b l v rs) (hL : LogSt w1 W1 g b l2) (hK : LogKeep W W1 g b) : RL w1 W1 g b l2 v rs := ⟨hL, row_log h.row hK⟩
theorem RL.step {w1 W W1 : World} {g b : Nat} {l : Lg} {v : Value} {rs : List S59} (h : RL w1 W g b l v rs) (hB : Below W.heap.size W W1) : RL w1 W1 g b l v rs := ⟨h.log.step hB, row_log h.row (LogKeep.of_below h.log hB)⟩
theorem RB.log {w1 W W1 : World} {g b : Nat} {d : Dv} {l : Lg} {v : Value} {rs : List S59} (h : RB w1 W g d v rs) (hL : LogSt w1 W1 g b l) (hb : W.heap.size ≤ b) (hK : DevKeep W W1 g) : RL w1 W1 g b l v rs :=
  ⟨hL, by
    have h1 := Kd.R_bound h.row
    have h2 := Kd.R_step h1 (w1 := W1) (fun x hx hlt => hK.kept.2 x hlt hx.1)
    exact Kd.R_mono h2 (fun x hx => ⟨fun hf => (hK.foot x hf).elim hx.1 (fun h3 => by have := hx.2.2.1; omega), fun e => by have := hx.2.2.1; omega⟩)⟩
structure RQ (V : Int → Option (Int × ByteArray)) (us : List ByteArray) (d : Dv) : Prop where
  up : UpN d
  di : DI 24 0 d
  qp : Poss (QP 1 14 3 V us) d
theorem RQ.crash {V : Int → Option (Int × ByteArray)} {us : List ByteArray} {d : Dv} {k : Nat} (h : Poss (QP 1 14 3 V us) d) (hi : DI 24 k d) (K : List Int) : RQ V us (dvCrash d K) := ⟨upn_crash d K, hi.crash K, h.crash hi.ok K⟩
set_option maxHeartbeats 32000000 in
set_option maxRecDepth 100000 in
theorem WalResume.walk (w : World) (A0 : Option Addr) (c0 : Nat) (l0 : List ByteArray) (hr0 : Kd.C Kd.string w A0 l0.length l0) (_ : l0.length ≤ c0) (A1 : Option Addr) (c1 : Nat) (l1 : List ByteArray) (hr1 : Kd.C Kd.string w A1 l1.length l1) (_ : l1.length ≤ c1) (A2 : Option Addr) (c2 : Nat) (l2 : List Int) (hr2 : Kd.C (Kd.int .i64) w A2 l2.length l2) (hc2 : l2.length ≤ c2) (A3 : Option Addr) (c3 : Nat) (l3 : List Int) (hr3 : Kd.C (Kd.int .i64) w A3 l3.length l3) (_ : l3.length ≤ c3) :
    Calls Try.prog 9 #[.slice A0 l0.length c0, .slice A1 l1.length c1, .slice A2 l2.length c2, .slice A3 l3.length c3] w fun e w' => e = .returned (.bool true) ∧ Below w.heap.size w w' := by
  have hm0 : l0.length ≤ 9223372036854775807 := Kd.C_max hr0
  have hm1 : l1.length ≤ 9223372036854775807 := Kd.C_max hr1
  have hm2 : l2.length ≤ 9223372036854775807 := Kd.C_max hr2
  have hm3 : l3.length ≤ 9223372036854775807 := Kd.C_max hr3
  have HR0 := Aside0.mk hr0
  have HR1 := Aside0.mk hr1
  have HR2 := Aside0.mk hr2
  have HR3 := Aside0.mk hr3
  have HC2 := Aside0.mk hc2
  have HO := Aside0.mk (show openE 1 14 3 24 = 0 by decide)
  clear hr0 hr1 hr2 hr3 hc2
  go_enter Try.func9, Try.ntmps9
  go_wp2_with fail
  refine (law_awake.calls _).mono ?_
  rintro e w0 ⟨rfl, hB⟩
  have HB1 := Aside0.mk (bal hB (.cells #[.int .i64 1, .int .i64 14] 28))
  have HX := Aside0.mk (World.alloc_heap_new w0 (.cells #[.int .i64 1, .int .i64 14] 28))
  have hx := HX.out
  have b0 := (kcl hx 0).trans rfl
  have b1 := (kcl hx 1).trans rfl
  obtain ⟨w1, hw1⟩ : ∃ w1, w1 = w0.alloc (.cells #[.int .i64 1, .int .i64 14] 28) := ⟨_, rfl⟩
  rw [← hw1] at HX HB1 b0 b1
  clear hB hx
  go_wp2_with fail
  rw [← hw1]
  clear hw1
  refine (law_begin.calls 1 14 3 w1 HO.out).mono ?_
  rintro e w3 ⟨g, b, rfl, hL⟩
  have HL3 := Aside0.mk hL
  have HA3 := Aside0.mk RA.new
  clear hL b0 b1
  obtain ⟨K, hK⟩ : ∃ K, K = l2.take 30 := ⟨_, rfl⟩
  have HK := Aside0.mk hK
  have hCK := C_take_scalar (Kd.C_below HR2.out HB1.out) 30
  rw [← hK] at hCK
  have hKl : K.length ≤ 9223372036854775807 := Kd.C_max hCK
  have HCK := Aside0.mk hCK
  clear hK hCK
  go_upto_if 49 with fail
  go_cut [2] (fun v2 wc => v2 = .slice A2 K.length c2 ∧ w3 = wc)
  case first =>
    by_cases q : 30 < l2.length
    · have hA : A2.isSome = true := by obtain ⟨ad, e, -⟩ := HR2.out.2.2 (by omega); rw [e]; rfl
      obtain ⟨ad2, rfl⟩ := Option.isSome_iff_exists.1 hA
      have q1 : decide ((30 : Int) < (l2.length : Int)) = true := decide_eq_true (by omega)
      have q2 : (30 : Int) ≤ (c2 : Int) := by have := HC2.out; omega
      have e30 := Aside0.mk (show K.length = 30 by rw [HK.out, List.length_take]; omega)
      clear q hA
      rw [q1]
      go_wp2
      go_meet
      exact ⟨by rw [e30.out], rfl⟩
    · have q1 : decide ((30 : Int) < (l2.length : Int)) = false := decide_eq_false (by omega)
      have e30 := Aside0.mk (show K = l2 by rw [HK.out]; exact List.take_of_length_le (by omega))
      clear q
      rw [q1]
      go_wp2
      go_meet
      exact ⟨by rw [e30.out], rfl⟩
  case rest =>
    obtain ⟨rfl, rfl⟩ := hcut
    go_upto_block 0 with fail
    go_cut [] (fun wc => ∃ (i : Nat) (l : Lg) (ts : List ByteArray), i ≤ 8 ∧ Aside0 (RA i l ts) ∧ Aside0 (LogSt w1 wc g b l))
    case first =>
      go_wp2_with fail
      go_loopw [13] (fun v13 wr => ∃ (i : Nat) (l : Lg) (ts : List ByteArray), v13 = .int .i64 i ∧ (i ≤ l0.length ∧ i ≤ 8) ∧ Aside0 (RA i l ts) ∧ Aside0 (LogSt w1 wr g b l)) (fun v13 _ => 8 - (intOf v13).toNat)
      case atStart => exact ⟨0, _, _, rfl, ⟨Nat.zero_le _, Nat.zero_le _⟩, HA3, HL3⟩
      case round =>
        clear HA3 HL3
        obtain ⟨i, l, ts, rfl, ⟨hi, hi2⟩, HP, HT⟩ := hrel
        by_cases q1 : i < l0.length ∧ i < 8
        rotate_left
        · have q2 : (l0.length : Int) ≤ (i : Int) ∨ ((i : Int) < (l0.length : Int) ∧ (8 : Int) ≤ (i : Int)) := by omega
          clear q1
          rcases q2 with q3 | ⟨q3, q4⟩
          all_goals
            go_wp2
            go_meet
            exact ⟨i, l, ts, by omega, HP, HT⟩
        obtain ⟨q1, q2⟩ := q1
        have hC0 := Kd.C_below HR0.out (bsp HB1.out HT.out.below)
        have hp : (0 : Int) ≤ (i : Int) := by omega
        have hq : (i : Int) < (l0.length : Int) := by omega
        have hm : i ≤ 9223372036854775806 := by omega
        obtain ⟨ad0, e0, hx0⟩ := Kd.at_string hC0 (i : Int) hp hq
        cases e0
        clear hC0
        rw [Int.toNat_natCast] at hx0
        generalize rdOf ByteArray.empty l0 (i : Int) = y at hx0
        obtain ⟨s1, hs1⟩ : ∃ s1, s1 = y.extract 0 (min 90 y.size) := ⟨_, rfl⟩
        have HS1 := Aside0.mk hs1
        have HZ1 := Aside0.mk (show s1.size ≤ 90 by rw [hs1, ByteArray.size_extract]; omega)
        clear hs1
        go_upto_if 68 with fail
        go_cut [14] (fun v14 wc => v14 = .string s1 ∧ wr = wc)
        case first =>
          by_cases q : 90 < y.size
          · have q3 : decide ((90 : Int) < (y.size : Int)) = true := decide_eq_true (by omega)
            have q4 : (90 : Int) ≤ (y.size : Int) := by omega
            have e9 := Aside0.mk (show s1 = y.extract 0 90 by rw [HS1.out, show min 90 y.size = 90 by omega])
            clear q
            rw [q3]
            go_wp2
            go_meet
            exact ⟨by rw [e9.out], rfl⟩
          · have q3 : decide ((90 : Int) < (y.size : Int)) = false := decide_eq_false (by omega)
            have e9 := Aside0.mk (show s1 = y by rw [HS1.out, show min 90 y.size = y.size by omega]; simp)
            clear q
            rw [q3]
            go_wp2
            go_meet
            exact ⟨by rw [e9.out], rfl⟩
        case rest =>
          obtain ⟨rfl, rfl⟩ := hcut
          clear hx0
          obtain ⟨ts', hp5⟩ := HP.out.app s1
          have hap := wal_Append.calls g b 24 (1000 * i) l s1 w1 wr HT.out HP.out.gi.ok HP.out.gi.di (by omega) (by have := HZ1.out; omega)
          generalize lgApp l s1 = X at hap hp5
          obtain ⟨xr, xe, l5⟩ := X
          dsimp only at hap hp5
          have HP5 := Aside0.mk hp5
          clear hp5
          go_wp2_with fail
          refine hap.mono ?_
          rintro e w6 ⟨rfl, hL, hK⟩
          have HT5 := Aside0.mk hL
          clear hL hK hap
          by_cases q5 : i = 2
          · subst q5
            have hfo := wal_Force.calls g b l5 w1 w6 HT5.out HP5.out.gi.di.left HP5.out.gi.di.ok
            go_wp2_with fail
            refine hfo.mono ?_
            rintro e w7 ⟨rfl, hL, hK⟩
            have HT7 := Aside0.mk hL
            clear hL hK hfo
            go_wp2
            go_roundw
            case rel => exact ⟨2 + 1, _, ts', by go_num, ⟨by omega, by omega⟩, ⟨HP5.out.force⟩, HT7⟩
            case measure => simp [intOf]
          · have q6 : ((i : Int) == 2) = false := beq_eq_false_iff_ne.2 (by omega)
            have q7 : (i == 2) = false := beq_eq_false_iff_ne.2 q5
            go_wp2
            go_roundw
            case rel => exact ⟨i + 1, l5, ts', by go_num, ⟨by omega, by omega⟩, HP5, HT5⟩
            case measure => simp [intOf]; omega
    case rest =>
      obtain ⟨i0, l, ts, hi0, HP, HT⟩ := hcut
      clear HA3 HL3
      obtain ⟨us, hqv, hqp, hqi⟩ := HP.out.crash K
      have hcr := device_Crash.calls g l.dev A2 c2 K w1 wc HT.out.dev HT.out.below HP.out.gi.di.ok (HT.out.keeps HCK.out)
      have hqu := upn_crash l.dev K
      generalize dvCrash l.dev K = d1 at hqv hqp hqi hcr hqu
      have HS0 := Aside0.mk hqv.scan
      obtain ⟨V, hV⟩ : ∃ V, V = secAt d1 1 14 := ⟨_, rfl⟩
      rw [← hV] at hqv hqp
      have HQV := Aside0.mk hqv
      have HQ1 := Aside0.mk (show RQ V us d1 from ⟨hqu, hqi, hqp⟩)
      have HUL := Aside0.mk (recs_length us 3)
      obtain ⟨rs, hrs⟩ : ∃ rs, rs = recs 3 us := ⟨_, rfl⟩
      rw [← hrs] at HS0 HUL
      have HRS := Aside0.mk hrs
      have HCR := Aside0.mk hcr
      clear hqv hqp hqi hqu hV hrs hcr HP
      go_wp2_with fail
      refine HCR.out.mono ?_
      rintro e w5 ⟨rfl, hI, hB, hK⟩
      have hx5 := (hB.block w0.heap.size (blk_lt HX.out)).trans HX.out
      have b0 := (kcl hx5 0).trans rfl
      have b1 := (kcl hx5 1).trans rfl
      have HI5 := Aside0.mk (And.intro hI hB)
      clear hI hB hK hx5 HCR HT
      go_wp2_with fail
      have hsc := wal_Scan.calls g d1 1 14 3 w1 w5 24 0 HI5.out.1 HQ1.out.up.down HQ1.out.di (by decide) (by decide) (by decide)
      rw [HS0.out] at hsc
      dsimp only at hsc
      refine hsc.mono ?_
      rintro e w6 ⟨v, rfl, hR, hB6⟩
      have HB6 := Aside0.mk (show RB w1 w6 g d1 v rs by
        obtain ⟨hI, hB⟩ := HI5.out
        obtain ⟨vs, vc, hD⟩ := hI
        refine ⟨⟨vs, vc, hD.below hB6⟩, bsp hB hB6, Kd.R_lower (Kd.R_mono (Kd.R_bound hR) (fun x hx hf => ?_)) hB.size⟩
        have := (hD.foot_lt ((foot_same (hB6.block g hD.lt) x).1 hf)).1
        have := hx.2.1
        omega)
      obtain ⟨A15, c15, hv⟩ := Kd.R_slice hR
      subst hv
      clear hR hB6 hsc b0 b1 HI5
      go_upto_block 2 with fail
      go_cut [] (fun wc => ∃ (d : Dv), Aside0 (RQ V us d) ∧ Aside0 (RB w1 wc g d (.slice A15 rs.length c15) rs))
      case first =>
        go_wp2_with fail
        go_loopw [18] (fun v18 wr => ∃ (i : Nat) (d : Dv), v18 = .int .i64 i ∧ (i ≤ l3.length ∧ i ≤ 4) ∧ Aside0 (RQ V us d) ∧ Aside0 (RB w1 wr g d (.slice A15 rs.length c15) rs)) (fun v18 _ => 4 - (intOf v18).toNat)
        case atStart => exact ⟨0, d1, rfl, ⟨Nat.zero_le _, Nat.zero_le _⟩, HQ1, HB6⟩
        case round =>
          clear HQ1 HB6
          obtain ⟨i, d, rfl, ⟨hi, hi2⟩, HQ, HT⟩ := hrel
          by_cases q1 : i < l3.length ∧ i < 4
          rotate_left
          · have q2 : (l3.length : Int) ≤ (i : Int) ∨ ((i : Int) < (l3.length : Int) ∧ (4 : Int) ≤ (i : Int)) := by omega
            clear q1
            rcases q2 with q3 | ⟨q3, q4⟩
            all_goals
              go_wp2
              go_meet
              exact ⟨d, HQ, HT⟩
          obtain ⟨q1, q2⟩ := q1
          have hC0 := Kd.C_below HR3.out (bsp HB1.out HT.out.below)
          have hp : (0 : Int) ≤ (i : Int) := by omega
          have hq : (i : Int) < (l3.length : Int) := by omega
          have hm : i ≤ 9223372036854775806 := by omega
          obtain ⟨ad0, e0, hx0⟩ := Kd.at_int hC0 (i : Int) hp hq
          cases e0
          clear hC0
          rw [Int.toNat_natCast] at hx0
          generalize rd l3 (i : Int) = x at hx0
          obtain ⟨k, hk⟩ : ∃ k : Nat, x % 16 = k := ⟨(x % 16).toNat, by omega⟩
          have mx := i64_and15 x
          rw [hk] at mx
          have HK9 := Aside0.mk (show k ≤ 15 by omega)
          clear hk
          go_wp2_with fail
          refine (dev_Arm g d (k : Int) w1 wr HT.out.dev HT.out.below).mono ?_
          rintro e w7 ⟨rfl, hI, hB, hK⟩
          have HT7 := Aside0.mk (HT.out.call hI hB hK)
          have hx7 := (hB.block w0.heap.size (blk_lt HX.out)).trans HX.out
          have b0 := (kcl hx7 0).trans rfl
          have b1 := (kcl hx7 1).trans rfl
          have HDA := Aside0.mk (HQ.out.di.arm (k : Int) (by have := HK9.out; omega))
          have hpo := rsm_poss HQV.out (HQ.out.qp.arm (k : Int)) HQ.out.up.down HDA.out (by decide) (by decide) (by decide) (by decide)
          have hres := wal_Resume.calls g { d with left := (k : Int) } 1 3 14 w1 w7 0 HT7.out.dev HT7.out.below HQ.out.up.down HDA.out (by decide) (by decide) (by decide)
          rw [show ((14 : Nat) : Int) = 14 from rfl] at hres
          have HPO := Aside0.mk hpo
          have HRES := Aside0.mk hres
          clear hI hB hK hx7 hx0 mx hpo hres
          go_wp2_with fail
          refine HRES.out.mono ?_
          intro e w8 hpost
          have hend : (∃ v : Value, e = .returned v) ∧ RB w1 w8 g (rsm 1 14 3 { d with left := (k : Int) }).2 (.slice A15 rs.length c15) rs := by
            rcases hpost with ⟨h0, b2, v2, rfl, hL, hRw, hb, hK⟩ | ⟨h0, rfl, hI, hB, hK⟩
            · exact ⟨⟨_, rfl⟩, HT7.out.call hL.dev hL.below hK⟩
            · exact ⟨⟨_, rfl⟩, HT7.out.call hI hB hK⟩
          obtain ⟨⟨v2, rfl⟩, hrb⟩ := hend
          generalize (rsm 1 14 3 { d with left := (k : Int) }).2 = d8 at hrb HPO
          have HT8 := Aside0.mk hrb
          have HCR := Aside0.mk (device_Crash.calls g d8 A2 c2 K w1 w8 HT8.out.dev HT8.out.below HPO.out.2.ok (HT8.out.keeps HCK.out))
          clear hpost hrb b0 b1
          go_wp2_with fail
          refine HCR.out.mono ?_
          rintro e w9 ⟨rfl, hI, hB, hK⟩
          have HT9 := Aside0.mk (HT8.out.call hI hB hK)
          clear hI hB hK
          go_wp2
          go_roundw
          case rel => exact ⟨i + 1, _, by go_num, ⟨by omega, by omega⟩, ⟨RQ.crash HPO.out.1 HPO.out.2 K⟩, HT9⟩
          case measure => simp [intOf]; omega
      case rest =>
        obtain ⟨d, HQ, HT⟩ := hcut
        clear HQ1 HB6
        have hx7 := (HT.out.below.block w0.heap.size (blk_lt HX.out)).trans HX.out
        have b0 := (kcl hx7 0).trans rfl
        have b1 := (kcl hx7 1).trans rfl
        obtain ⟨n1, n2, n3, n4⟩ := RD.new HQV.out HQ.out.qp HQ.out.up HQ.out.di
        have hres := wal_Resume.calls g d 1 3 14 w1 wc 0 HT.out.dev HT.out.below HQ.out.up.down HQ.out.di (by decide) (by decide) (by decide)
        rw [show ((14 : Nat) : Int) = 14 from rfl] at hres
        have HRES := Aside0.mk hres
        have HN := Aside0.mk (And.intro n1 (And.intro n2 (And.intro n3 n4)))
        clear hres n1 n2 n3 n4 hx7
        go_wp2_with fail
        refine HRES.out.mono ?_
        intro e w8 hpost
        have hend : ∃ (b2 : Nat) (v : Value), e = .returned (.tuple #[.pointer (some ⟨b2, 0, none⟩), v, .int .i64 0]) ∧ RL w1 w8 g b2 ⟨(rsm 1 14 3 d).2, 1, 14, 3, 3 + costs us⟩ (.slice A15 rs.length c15) rs ∧ Kd.R k59 59 w8 wc.heap.size (fun x => ¬ Foot w8 g x ∧ x ≠ b2) v rs := by
          rcases hpost with ⟨h0, b2, v2, e1, hL, hRw, hb, hK⟩ | ⟨h0, -⟩
          · rw [HN.out.2.2.1] at hL hRw
            rw [← HRS.out] at hRw
            exact ⟨b2, v2, e1, HT.out.log hL hb hK, hRw⟩
          · exact absurd HN.out.1 h0
        obtain ⟨b2, v2, rfl, hrl, hgot⟩ := hend
        obtain ⟨A20, c20, hv⟩ := Kd.R_slice hgot
        subst hv
        have hrd := HN.out.2.2.2
        have hca := HN.out.2.1
        generalize (rsm 1 14 3 d).2 = d8 at hrl hrd hca
        have HL8 := Aside0.mk hrl
        have HRD := Aside0.mk hrd
        have HCA := Aside0.mk hca
        have HG := Aside0.mk (Kd.R_reads' hgot).2.2
        have HWT := Aside0.mk (Kd.R_reads' hrl.row).2.2
        have hrl9 : rs.length ≤ 9223372036854775807 := Kd.C_max HG.out
        clear hpost hrl hgot hrd hca b0 b1 HN
        go_wp2_with fail
        refine (wal_Head.calls g b2 _ w1 w8 HL8.out.log).mono ?_
        rintro e w9 ⟨rfl, rfl⟩
        dsimp only
        go_wp2_with fail
        refine (wal_Next.calls g b2 _ w1 w9 HL8.out.log).mono ?_
        rintro e w9' ⟨rfl, rfl⟩
        dsimp only
        have hlo : Calls Try.prog 27 #[.pointer (some ⟨g, 0, none⟩)] w9' fun e w' => e = .returned (.int .i64 0) ∧ w' = w9' := by
          obtain ⟨vs, vc, hD⟩ := HL8.out.log.dev
          have h := device_Loose.calls g vs vc _ w1 w9' hD
          dsimp only at h
          rw [HCA.out] at h
          exact h
        go_wp2_with fail
        refine hlo.mono ?_
        rintro e w8 ⟨rfl, rfl⟩
        clear hlo
        go_wp2_with fail
        go_loopw [151] (fun v151 wr => ∃ i : Nat, v151 = .int .i64 i ∧ i ≤ rs.length ∧ Aside0 (Below w8.heap.size w8 wr)) (fun v151 _ => rs.length - (intOf v151).toNat)
        case atStart => exact ⟨0, rfl, Nat.zero_le _, ⟨Below.refl _ _⟩⟩
        case round =>
          obtain ⟨i, rfl, hi, HBW⟩ := hrel
          by_cases q : i < rs.length
          · have hp : (0 : Int) ≤ (i : Int) := by omega
            have hq : (i : Int) < (rs.length : Int) := by omega
            have hm : i ≤ 9223372036854775806 := by omega
            obtain ⟨ad1, e1, y0, y1, y2⟩ := at_Rec (Kd.C_below HG.out HBW.out) (i : Int) hp hq
            cases e1
            obtain ⟨ad2, e2, z0, z1, z2⟩ := at_Rec (Kd.C_below HWT.out HBW.out) (i : Int) hp hq
            cases e2
            rw [Int.toNat_natCast] at y0 y1 y2 z0 z1 z2
            generalize rs.getD i noRec = x at y0 y1 y2 z0 z1 z2
            obtain ⟨x0, x1, x2⟩ := x
            dsimp only at y0 y1 y2 z0 z1 z2
            have hxx : (x2.toList != x2.toList) = false := by simp
            go_wp2_with fail
            go_quiet (fail)
            have HBQ := Aside0.mk (bdn HBW.out nq)
            go_wp2
            go_roundw
            case rel => exact ⟨i + 1, by go_num, by omega, HBQ⟩
            case measure => simp [intOf]; omega
          · obtain rfl : i = rs.length := by omega
            have HL9 := Aside0.mk (HL8.out.step HBW.out)
            rw [HRS.out] at HL9
            go_upto_block 6 with fail
            go_cut [15] (fun v15 wc2 => ∃ (i : Nat) (l : Lg) (ts : List ByteArray), i ≤ 18 ∧ Aside0 (RD us i l ts) ∧ Aside0 (RL w1 wc2 g b2 l v15 (recs 3 ts)))
            case first =>
              go_wp2_with fail
              go_loopw [24, 15] (fun v24 v15 wr => ∃ (i : Nat) (l : Lg) (ts : List ByteArray), v24 = .int .i64 i ∧ (i ≤ l1.length ∧ i ≤ 4) ∧ Aside0 (RD us (i + 14) l ts) ∧ Aside0 (RL w1 wr g b2 l v15 (recs 3 ts))) (fun v24 _ _ => 4 - (intOf v24).toNat)
              case atStart => exact ⟨0, _, us, rfl, ⟨Nat.zero_le _, Nat.zero_le _⟩, ⟨by rw [Nat.zero_add]; exact HRD.out⟩, ⟨by rw [← HRS.out] at HL9 ⊢; exact HL9.out⟩⟩
              case round =>
                clear HL9
                obtain ⟨i, l, ts, rfl, ⟨hi, hi2⟩, HP, HT⟩ := hrel
                by_cases q1 : i < l1.length ∧ i < 4
                rotate_left
                · have q2 : (l1.length : Int) ≤ (i : Int) ∨ ((i : Int) < (l1.length : Int) ∧ (4 : Int) ≤ (i : Int)) := by omega
                  clear q1
                  rcases q2 with q3 | ⟨q3, q4⟩
                  all_goals
                    go_wp2
                    go_meet
                    exact ⟨i + 14, l, ts, by omega, HP, HT⟩
                obtain ⟨q1, q2⟩ := q1
                have hC0 := Kd.C_below HR1.out (bsp HB1.out HT.out.log.below)
                have hp : (0 : Int) ≤ (i : Int) := by omega
                have hq : (i : Int) < (l1.length : Int) := by omega
                have hm : i ≤ 9223372036854775806 := by omega
                obtain ⟨ad0, e0, hx0⟩ := Kd.at_string hC0 (i : Int) hp hq
                cases e0
                clear hC0
                rw [Int.toNat_natCast] at hx0
                generalize rdOf ByteArray.empty l1 (i : Int) = y at hx0
                obtain ⟨s1, hs1⟩ : ∃ s1, s1 = y.extract 0 (min 60 y.size) := ⟨_, rfl⟩
                have HS1 := Aside0.mk hs1
                have HZ1 := Aside0.mk (show s1.size ≤ 60 by rw [hs1, ByteArray.size_extract]; omega)
                clear hs1
                go_upto_if 182 with fail
                go_cut [25] (fun v25 wc => v25 = .string s1 ∧ wr = wc)
                case first =>
                  by_cases q : 60 < y.size
                  · have q3 : decide ((60 : Int) < (y.size : Int)) = true := decide_eq_true (by omega)
                    have q4 : (60 : Int) ≤ (y.size : Int) := by omega
                    have e9 := Aside0.mk (show s1 = y.extract 0 60 by rw [HS1.out, show min 60 y.size = 60 by omega])
                    clear q
                    rw [q3]
                    go_wp2
                    go_meet
                    exact ⟨by rw [e9.out], rfl⟩
                  · have q3 : decide ((60 : Int) < (y.size : Int)) = false := decide_eq_false (by omega)
                    have e9 := Aside0.mk (show s1 = y by rw [HS1.out, show min 60 y.size = y.size by omega]; simp)
                    clear q
                    rw [q3]
                    go_wp2
                    go_meet
                    exact ⟨by rw [e9.out], rfl⟩
                case rest =>
                  obtain ⟨rfl, rfl⟩ := hcut
                  clear hx0
                  have hap := wal_Append.calls g b2 24 (1000 * (i + 14)) l s1 w1 wr HT.out.log HP.out.gi.ok HP.out.gi.di (by omega) (by have := HZ1.out; omega)
                  obtain ⟨A15b, c15b, hv⟩ := Kd.R_slice HT.out.row
                  subst hv
                  rcases HP.out.app s1 with ⟨l', ea, hp2⟩ | ⟨ea, hp2⟩
                  · as_aux_lemma =>
                      rw [ea] at hap
                      dsimp only at hap
                      have HP2 := Aside0.mk hp2
                      have HSN := Aside0.mk (show recs 3 (ts ++ [s1]) = recs 3 ts ++ [⟨l.nx, l.nx + costN s1.size - 1, s1⟩] by rw [recs_snoc, HP.out.gi.nx])
                      have HLE := Aside0.mk (show (recs 3 ts).length ≤ 1000000 by have h1 := recs_length ts 3; have h2 := recs_len_le ts; have h3 := HP.out.gi.nx; have h4 := HP.out.gi.ok.nx; omega)
                      have HAP := Aside0.mk hap
                      clear ea hp2 hap
                      generalize costN s1.size = kn at HAP HSN
                      go_wp2_with fail
                      refine HAP.out.mono ?_
                      rintro e w6 ⟨rfl, hL, hK⟩
                      have HT5 := Aside0.mk ((HT.out.call hL hK).step (bal (Below.refl _ _) (.cells #[.int .i64 l.nx, .int .i64 (l.nx + (kn : Int) - 1), .string s1] 59)))
                      have HF5 := Aside0.mk (show ∀ x, (w6.alloc (.cells #[.int .i64 l.nx, .int .i64 (l.nx + (kn : Int) - 1), .string s1] 59)).heap.size ≤ x → ¬ Foot (w6.alloc (.cells #[.int .i64 l.nx, .int .i64 (l.nx + (kn : Int) - 1), .string s1] 59)) g x ∧ x ≠ b2 from fun x hx => by
                        obtain ⟨vs, vc, hD⟩ := HT5.out.log.dev
                        exact ⟨fun hf => by have := (hD.foot_lt hf).1; omega, fun e => by have := HT5.out.log.lt; omega⟩)
                      clear hL hK
                      go_wp2_with (first
                        | ((with_reducible refine gate_builtin (b := .append) (xs := #[.tmp 193, .tmp 195]) rfl ?_); at_builtin; refine Kd.R_append k59 (w0 := w1) w1.heap.size rfl (.tmp 193) (.tmp 195) 32 59 (.agg #[(.int .i64 0), (.int .i64 0), (.string ⟨#[]⟩)]) 32 rfl Try.underlying32 info_rec rfl (by decide) (by omega) _ (recs 3 ts) (⟨l.nx, l.nx + (kn : Int) - 1, s1⟩ : S59) [.int .i64 l.nx, .int .i64 (l.nx + (kn : Int) - 1), .string s1] (fun x => ¬ Foot (w6.alloc (.cells #[.int .i64 l.nx, .int .i64 (l.nx + (kn : Int) - 1), .string s1] 59)) g x ∧ x ≠ b2) (fun _ => False) rfl (by first | rfl | (simp [Act.eval]; done)) ?aP (fun _ hk => hk.elim) ?aF ?aO ?aB ?aS ?aL ?_; (case aP => exact k59_mkM _ _ _ (⟨l.nx, l.nx + (kn : Int) - 1, s1⟩ : S59)); (case aF => exact (fun x hx => HF5.out x hx)); (case aO => exact HT5.out.row); (case aB => exact HT5.out.log.below); (case aS => exact HT5.out.log.below.size); (case aL => have := HLE.out; omega); intro v1 w9 ho hb hg hat; have HT9 := Aside0.mk (row_push HT5.out.log HT5.out.row hg ho hb); clear ho hb hg hat))
                      go_roundw
                      case rel => exact ⟨i + 1, l', ts ++ [s1], by go_num, ⟨by omega, by omega⟩, ⟨by rw [show i + 1 + 14 = i + 14 + 1 by omega]; exact HP2.out⟩, ⟨⟨HT9.out.1, by rw [HSN.out]; exact HT9.out.2⟩⟩⟩
                      case measure => simp [intOf]; omega
                  · as_aux_lemma =>
                      rw [ea] at hap
                      unfold noRec at hap
                      dsimp only at hap
                      have HP2 := Aside0.mk hp2
                      have HAP := Aside0.mk hap
                      clear ea hp2 hap
                      go_wp2_with fail
                      refine HAP.out.mono ?_
                      rintro e w6 ⟨rfl, hL, hK⟩
                      have HT5 := Aside0.mk ((HT.out.call hL hK).step (bal (Below.refl _ _) (.cells #[.int .i64 0, .int .i64 0, .string ⟨#[]⟩] 59)))
                      clear hL hK
                      go_wp2
                      go_roundw
                      case rel => exact ⟨i + 1, l, ts, by go_num, ⟨by omega, by omega⟩, ⟨by rw [show i + 1 + 14 = i + 14 + 1 by omega]; exact HP2.out⟩, HT5⟩
                      case measure => simp [intOf]; omega
            case rest =>
              as_aux_lemma =>
                clear HL8 HL9 HG HWT
                obtain ⟨i3, l, ts, hi3, HP, HT⟩ := hcut
                obtain ⟨A15b, c15b, hv⟩ := Kd.R_slice HT.out.row
                subst hv
                obtain ⟨j, j1, j2, hs⟩ := HP.out.scan K
                have HSC := Aside0.mk hs
                have hdi := HP.out.gi.di.crash K
                have HCR := Aside0.mk (log_Crash g b2 l A2 c2 K w1 wc HT.out.log HP.out.gi.di.ok (HT.out.log.keeps HCK.out))
                have hlj := recs_length (ts.take j) 3
                rw [List.length_take, show min j ts.length = j by omega] at hlj
                have hlt := recs_length ts 3
                have HGE := Aside0.mk (fun i (h : i < j) => recs_take_get ts 3 j i j2 h)
                clear hs
                obtain ⟨gs, hgs⟩ : ∃ gs, gs = recs 3 (ts.take j) := ⟨_, rfl⟩
                obtain ⟨ws, hws⟩ : ∃ ws, ws = recs 3 ts := ⟨_, rfl⟩
                rw [← hgs] at HSC hlj HGE
                rw [← hws] at HT hlt HGE ⊢
                have HDI := Aside0.mk hdi
                have HLJ := Aside0.mk (And.intro hlj (And.intro hlt (And.intro j1 (And.intro j2 HUL.out))))
                clear hdi hlj hlt hgs hws j1 j2
                go_wp2_with fail
                refine HCR.out.mono ?_
                rintro e w10 ⟨rfl, hL, hK⟩
                have HT10 := Aside0.mk (HT.out.call hL hK)
                have hx7 := (HT10.out.log.below.block w0.heap.size (blk_lt HX.out)).trans HX.out
                have b0 := (kcl hx7 0).trans rfl
                have b1 := (kcl hx7 1).trans rfl
                clear hL hK hx7 HCR
                go_wp2_with fail
                have hsc := wal_Scan.calls g (dvCrash l.dev K) 1 14 3 w1 w10 24 0 HT10.out.log.dev rfl HDI.out (by decide) (by decide) (by decide)
                rw [HSC.out] at hsc
                dsimp only at hsc
                refine hsc.mono ?_
                rintro e w11 ⟨v, rfl, hR, hB⟩
                obtain ⟨A28, c28, hv⟩ := Kd.R_slice hR
                subst hv
                have HG := Aside0.mk (Kd.R_reads' hR).2.2
                have HT11 := Aside0.mk (HT10.out.step hB)
                have HWT := Aside0.mk (Kd.R_reads' HT11.out.row).2.2
                have hg9 : gs.length ≤ 9223372036854775807 := Kd.C_max HG.out
                have hw9 : ws.length ≤ 9223372036854775807 := Kd.C_max HWT.out
                have q1 : decide (gs.length < rs.length) = false := decide_eq_false (by have := HLJ.out; omega)
                have q2 : decide (ws.length < gs.length) = false := decide_eq_false (by have := HLJ.out; omega)
                have q3 : ¬ (gs.length < rs.length) := by have := HLJ.out; omega
                have q4 : ¬ (ws.length < gs.length) := by have := HLJ.out; omega
                clear hR hB hsc b0 b1
                go_wp2_with fail
                go_loopw [224] (fun v224 wr => ∃ i : Nat, v224 = .int .i64 i ∧ i ≤ gs.length ∧ Aside0 (Below w11.heap.size w11 wr)) (fun v224 _ => gs.length - (intOf v224).toNat)
                case atStart => exact ⟨0, rfl, Nat.zero_le _, ⟨Below.refl _ _⟩⟩
                case round =>
                  clear q1 q2 q3 q4
                  obtain ⟨i, rfl, hi, HBW⟩ := hrel
                  by_cases q : i < gs.length
                  · have hp : (0 : Int) ≤ (i : Int) := by omega
                    have hq : (i : Int) < (gs.length : Int) := by omega
                    have hq2 : (i : Int) < (ws.length : Int) := by have := HLJ.out; omega
                    have hm : i ≤ 9223372036854775806 := by omega
                    obtain ⟨ad1, e1, y0, y1, y2⟩ := at_Rec (Kd.C_below HG.out HBW.out) (i : Int) hp hq
                    cases e1
                    obtain ⟨ad2, e2, z0, z1, z2⟩ := at_Rec (Kd.C_below HWT.out HBW.out) (i : Int) hp hq2
                    cases e2
                    rw [Int.toNat_natCast] at y0 y1 y2 z0 z1 z2
                    rw [HGE.out i (by have := HLJ.out; omega)] at y0 y1 y2
                    generalize ws.getD i noRec = x at y0 y1 y2 z0 z1 z2
                    obtain ⟨x0, x1, x2⟩ := x
                    dsimp only at y0 y1 y2 z0 z1 z2
                    have hxx := Aside0.mk (show (x2.toList != x2.toList) = false by simp)
                    have HZ := Aside0.mk (And.intro z0 (And.intro z1 z2))
                    clear z0 z1 z2
                    go_upto_region 54 with fail
                    have hBa := bal (Below.refl wr.heap.size wr) (.cells #[.int .i64 x0, .int .i64 x1, .string x2] 59)
                    have hbx := World.alloc_heap_new wr (.cells #[.int .i64 x0, .int .i64 x1, .string x2] 59)
                    have z0 := pw_cell_below hBa HZ.out.1
                    have z1 := pw_cell_below hBa HZ.out.2.1
                    have z2 := pw_cell_below hBa HZ.out.2.2
                    have HL1 := Aside0.mk (bsp HBW.out hBa)
                    obtain ⟨W2, hW2⟩ : ∃ W2, W2 = wr.alloc (.cells #[.int .i64 x0, .int .i64 x1, .string x2] 59) := ⟨_, rfl⟩
                    rw [← hW2] at HL1 hbx z0 z1 z2
                    rw [← hW2]
                    have r0 := (kcl hbx 0).trans rfl
                    have r1 := (kcl hbx 1).trans rfl
                    have r2 := (kcl hbx 2).trans rfl
                    have hxx := hxx.out
                    clear hbx hW2 hBa y0 y1 y2
                    go_quiet (fail)
                    have HLq := Aside0.mk (bdn HL1.out nq)
                    go_wp2
                    go_roundw
                    case rel => exact ⟨i + 1, by go_num, by omega, HLq⟩
                    case measure => simp [intOf]; omega
                  · obtain rfl : i = gs.length := by omega
                    have HT12 := Aside0.mk (HT11.out.step HBW.out)
                    have hx7 := (HT12.out.log.below.block w0.heap.size (blk_lt HX.out)).trans HX.out
                    have b0 := (kcl hx7 0).trans rfl
                    have b1 := (kcl hx7 1).trans rfl
                    clear hx7
                    go_wp2_with fail
                    refine (wal_Resume_bad wr _ 1 14 0 (by decide)).mono ?_
                    rintro e w13 ⟨rfl, hB⟩
                    have HB13 := Aside0.mk (bsp HB1.out (bsp HT12.out.log.below hB))
                    clear hB b0 b1
                    go_wp2
                    go_ret
                    exact ⟨rfl, HB13.out⟩
end Go.Proofs.Ytfllpmmfjbjgoaa.PA

