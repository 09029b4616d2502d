import Derived.Test.YtfllpmmfjbjgoaaQPlGMay
import Derived.Test.YtfllpmmfjbjgoaaQPlMOutBase
import Derived.Test.YtfllpmmfjbjgoaaQPlPAx6
import Derived.ChangeSlices
import Derived.ProofKit
import Derived.DataReads
import Derived.Test.YtfllpmmfjbjgoaaQPlWWords
namespace Go.Proofs.Ytfllpmmfjbjgoaa.PA
set_option linter.unusedSimpArgs false
open Go.RowKit Go.Proofs.YtfllpmmfjbjgoaaW.PrintWords Go.Proofs.YtfllpmmfjbjgoaaW.PrintLast Go.Proofs.YtfllpmmfjbjgoaaW.PrintMore Go.Proofs.Ytfllpmmfjbjgoaa Go.Proofs.Ytfllpmmfjbjgoaa.PL
structure Ac1 where
  f0 : Int
  f1 : Int
  f2 : ByteArray
def kAc : Kd Ac1 := Kd.iso (Kd.pair (Kd.int .i64) (Kd.pair (Kd.int .i64) Kd.string)) (fun x => (x.f0, x.f1, x.f2))
theorem kAc_open {w : World} {x : Ac1} {cs : List Value} (h : kAc.K w x cs) : cs = [.int .i64 x.f0, .int .i64 x.f1, .string x.f2] := by
  obtain ⟨c1, c2, rfl, h1, c3, c4, rfl, h2, h3⟩ := h
  obtain rfl := h1
  obtain rfl := h2
  obtain rfl := h3
  rfl
def zAc : Ac1 := ⟨0, 0, ByteArray.empty⟩
theorem at_Ac {w : World} {A : Option Addr} {n : Nat} {xs : List Ac1} (h : Kd.C kAc w A n xs) (i : Int) (h0 : 0 ≤ i) (h1 : i < n) : ∃ ad, A = some ad ∧ w.cell? (ad.add (i.toNat * 3)) = some (.int .i64 (xs.getD i.toNat zAc).f0) ∧ w.cell? ⟨(ad.add (i.toNat * 3)).block, (ad.add (i.toNat * 3)).off + 1, none⟩ = some (.int .i64 (xs.getD i.toNat zAc).f1) ∧
    w.cell? ⟨(ad.add (i.toNat * 3)).block, (ad.add (i.toNat * 3)).off + 2, none⟩ = some (.string (xs.getD i.toNat zAc).f2) := by
  obtain ⟨ad, cs, e, _, hK, hc0⟩ := Kd.C_get h zAc i h0 h1
  have hc : ∀ j u, cs[j]? = some u → w.cell? (ad.add (i.toNat * 3 + j)) = some u := hc0
  obtain rfl := kAc_open hK
  exact ⟨ad, e, hc 0 _ rfl, by rw [← add_field _ _ 1 (by omega)]; exact hc 1 _ rfl, by rw [← add_field _ _ 2 (by omega)]; exact hc 2 _ rfl⟩
theorem info_ref : (Try.prog.info? 62).map (fun i => (i.zero, i.size, i.bytes)) = some (some (.agg #[(.int .i64 0), (.int .i64 0), (.string ⟨#[]⟩)]), 3, 32) := by kernel_rfl
structure TR (w0 W : World) (g b : Nat) (l : Lg) (v : Value) (ts : List S62) : Prop where
  log : LogSt w0 W g b l
  row : Kd.R k62 62 W w0.heap.size (fun x => ¬ Foot W g x ∧ x ≠ b) v ts
theorem TR.step {w0 W W1 : World} {g b : Nat} {l : Lg} {v : Value} {ts : List S62} (h : TR w0 W g b l v ts) (hB : Below W.heap.size W W1) : TR w0 W1 g b l v ts := ⟨h.log.step hB, row_log h.row (LogKeep.of_below h.log hB)⟩
theorem TR.call {w0 W W1 : World} {g b : Nat} {l l2 : Lg} {v : Value} {ts : List S62} (h : TR w0 W g b l v ts) (hL : LogSt w0 W1 g b l2) (hK : LogKeep W W1 g b) : TR w0 W1 g b l2 v ts := ⟨hL, row_log h.row hK⟩
def allR (n0 : Int) (ts : List ByteArray) : List S62 := (recs n0 ts).map toR
theorem allR_snoc (n0 : Int) (ts : List ByteArray) (t : ByteArray) : allR n0 (ts ++ [t]) = allR n0 ts ++ [⟨n0 + costs ts, n0 + costs ts + costN t.size - 1, t⟩] := by
  unfold allR
  rw [recs_append, List.map_append]
  simp [recs, toR]
theorem allR_length (n0 : Int) (ts : List ByteArray) : (allR n0 ts).length = ts.length := by unfold allR; rw [List.length_map, recs_length]
def zRf : S62 := ⟨0, 0, ByteArray.empty⟩
theorem at_Rf {w : World} {A : Option Addr} {n : Nat} {xs : List S62} (h : Kd.C k62 w A n xs) (i : Int) (h0 : 0 ≤ i) (h1 : i < n) : ∃ ad, A = some ad ∧ w.cell? (ad.add (i.toNat * 3)) = some (.int .i64 (xs.getD i.toNat zRf).f0) ∧ w.cell? ⟨(ad.add (i.toNat * 3)).block, (ad.add (i.toNat * 3)).off + 1, none⟩ = some (.int .i64 (xs.getD i.toNat zRf).f1) ∧
    w.cell? ⟨(ad.add (i.toNat * 3)).block, (ad.add (i.toNat * 3)).off + 2, none⟩ = some (.string (xs.getD i.toNat zRf).f2) := by
  obtain ⟨ad, cs, e, _, hK, hc0⟩ := Kd.C_get h zRf i h0 h1
  have hc : ∀ j u, cs[j]? = some u → w.cell? (ad.add (i.toNat * 3 + j)) = some u := hc0
  obtain rfl := k62_open hK
  exact ⟨ad, e, hc 0 _ rfl, by rw [← add_field _ _ 1 (by omega)]; exact hc 1 _ rfl, by rw [← add_field _ _ 2 (by omega)]; exact hc 2 _ rfl⟩
theorem recs_start (n0 : Int) (ts : List ByteArray) (j : Nat) : (0 < ((recs (n0 + costs (ts.take j)) (ts.drop j)).map toR).length → (((recs (n0 + costs (ts.take j)) (ts.drop j)).map toR).getD 0 zRf).f0 = n0 + costs (ts.take j)) ∧ (((recs (n0 + costs (ts.take j)) (ts.drop j)).map toR).length = 0 → n0 + costs ts = n0 + costs (ts.take j)) := by
  have hc : costs ts = costs (ts.take j) + costs (ts.drop j) := by rw [← costs_append, List.take_append_drop]
  cases h : ts.drop j with
  | nil => rw [h] at hc; simp only [costs] at hc; exact ⟨fun h2 => by simp [recs] at h2, fun _ => by omega⟩
  | cons t us => exact ⟨fun _ => rfl, fun h2 => by simp [recs] at h2⟩
set_option maxHeartbeats 32000000 in
set_option maxRecDepth 100000 in
theorem WalPlays.walk (w : World) (a0 : Int) (_ : (Lit.int .i64 a0).wf = true) (a1 : Int) (_ : (Lit.int .i64 a1).wf = true) (a2 : Int) (_ : (Lit.int .i64 a2).wf = true) (A3 : Option Addr) (c3 : Nat) (l3 : List Ac1) (hr3 : Kd.C kAc w A3 l3.length l3) (_ : l3.length ≤ c3) (_ : ∀ x ∈ l3, (Lit.int .i64 x.f0).wf = true ∧ (Lit.int .i64 x.f1).wf = true ∧ x.f2.size ≤ maxLen) :
    Calls Try.prog 5 #[.int .i64 a0, .int .i64 a1, .int .i64 a2, .slice A3 l3.length c3] w fun e w' => e = .returned (.bool true) ∧ Below w.heap.size w w' := by
  have m1 := i64_and7 a0
  have m2 := i64_and15 a1
  have m3 := i64_and65535 a2
  obtain ⟨fr, hfr⟩ : ∃ fr : Nat, a0 % 8 = fr := ⟨(a0 % 8).toNat, by omega⟩
  obtain ⟨q1, hq1⟩ : ∃ q1 : Nat, a1 % 16 = q1 := ⟨(a1 % 16).toNat, by omega⟩
  obtain ⟨q2, hq2⟩ : ∃ q2 : Nat, a2 % 65536 = q2 := ⟨(a2 % 65536).toNat, by omega⟩
  rw [hfr] at m1
  rw [hq1] at m2
  rw [hq2] at m3
  obtain ⟨L, hL⟩ : ∃ L : Nat, L = q1 + 2 := ⟨_, rfl⟩
  obtain ⟨nn, hnn⟩ : ∃ nn : Nat, nn = q2 + 1 := ⟨_, rfl⟩
  have HQ := Aside0.mk (show fr ≤ 7 ∧ 2 ≤ L ∧ L ≤ 17 ∧ 1 ≤ nn ∧ nn ≤ 70000 by omega)
  have HAR := Aside0.mk (show armoirelaw05_area.f a0 a1 = some ((fr : Int), (L : Int)) by unfold armoirelaw05_area.f; rw [m1, m2, wrapI _ (by omega)]; congr 2; omega)
  have E4 := Aside0.mk (show wrap64 (1 + (q2 : Int)) = (nn : Int) by rw [wrapI _ (by omega)]; omega)
  have HO := Aside0.mk (show openE fr L nn 24 = 0 by
    have := HQ.out
    have hc : chkA fr L 24 = 0 := by unfold chkA; exact if_neg (by omega)
    unfold openE
    rw [if_pos hc, if_neg (by omega)])
  have HR3 := Aside0.mk hr3
  have hm3 : l3.length ≤ 9223372036854775807 := Kd.C_max hr3
  clear hfr hq1 hq2 hL hnn hr3 m1 m2
  go_enter Try.func5, Try.ntmps5
  go_wp2_with fail
  refine (law_awake.calls _).mono ?_
  rintro e w0 ⟨rfl, hB⟩
  have HB0 := Aside0.mk hB
  clear hB
  go_wp2_with fail
  refine (armoirelaw05_area.calls a0 a1 fr L _ HAR.out).mono ?_
  rintro e w00 ⟨rfl, hB⟩
  have HB1 := Aside0.mk (bal (bsp HB0.out hB) (.cells #[.int .i64 (fr : Int), .int .i64 (L : Int)] 28))
  have HX := Aside0.mk (World.alloc_heap_new w00 (.cells #[.int .i64 (fr : Int), .int .i64 (L : Int)] 28))
  obtain ⟨w1, hw1⟩ : ∃ w1, w1 = w00.alloc (.cells #[.int .i64 (fr : Int), .int .i64 (L : Int)] 28) := ⟨_, rfl⟩
  rw [← hw1] at HX HB1
  have hx := HX.out
  have b0 := (kcl hx 0).trans rfl
  have b1 := (kcl hx 1).trans rfl
  clear hB hx
  have e4 := E4.out
  go_wp2_with fail
  rw [← hw1]
  clear hw1
  rw [E4.out]
  clear e4
  refine (law_begin.calls fr L nn w1 HO.out).mono ?_
  rintro e w3 ⟨g, b, rfl, hL⟩
  have HT3 := Aside0.mk (show TR w1 w3 g b ⟨dvNew 24, fr, L, nn, nn⟩ (.slice none 0 0) (allR nn []) from ⟨hL, Kd.R_nil _ _ _ _ _⟩)
  have HP3 := Aside0.mk (show PW nn fr L 0 ⟨dvNew 24, fr, L, nn, nn⟩ [] from
    { ok := lgok_mk _ fr L nn nn (by have := HQ.out; omega) (by have := HQ.out; omega) (by have := HQ.out; omega) (by have := HQ.out; omega), up := upn_new 24, di := DI.new 24, nx := by simp [costs], ar := ⟨rfl, rfl, by have := HQ.out; omega⟩, n0b := by have := HQ.out; omega, hd := Int.le_refl _, cs := by simp [costs], len := Nat.zero_le _, wr := WR.new _ _ _ 24 (by have := HQ.out; omega) (by omega) (by have := HQ.out; omega) })
  clear hL b0 b1
  go_wp2_with fail
  go_loopw [2, 13, 14, 15] (fun v2 v13 v14 v15 wr => ∃ (i : Nat) (l : Lg) (ts : List ByteArray), v15 = .int .i64 i ∧ v2 = .int .i64 l.nx ∧ v13 = .int .i64 l.hd ∧ (i ≤ l3.length ∧ i ≤ 60) ∧ Aside0 (PW nn fr L i l ts) ∧ Aside0 (TR w1 wr g b l v14 (allR nn ts))) (fun _ _ _ v15 _ => 60 - (intOf v15).toNat)
  case atStart => exact ⟨0, _, _, rfl, rfl, rfl, ⟨Nat.zero_le _, Nat.zero_le _⟩, HP3, HT3⟩
  case round =>
    clear HP3 HT3
    obtain ⟨i, l, ts, rfl, rfl, rfl, ⟨hi, hi2⟩, HP, HT⟩ := hrel
    by_cases q1 : i < l3.length ∧ i < 60
    rotate_left
    · have q2 : (l3.length : Int) ≤ (i : Int) ∨ ((i : Int) < (l3.length : Int) ∧ (60 : Int) ≤ (i : Int)) := by omega
      clear q1
      rcases q2 with q3 | ⟨q3, q4⟩
      all_goals
        go_wp2
        go_ret
        exact ⟨rfl, bsp HB1.out HT.out.log.below⟩
    obtain ⟨q1, q2⟩ := q1
    have hC0 := Kd.C_below HR3.out (bsp HB1.out HT.out.log.below)
    have hp : (0 : Int) ≤ (i : Int) := by omega
    have hq : (i : Int) < (l3.length : Int) := by omega
    have hm : i ≤ 9223372036854775806 := by omega
    obtain ⟨ad0, e0, y0, y1, y2⟩ := at_Ac hC0 (i : Int) hp hq
    cases e0
    clear hC0
    rw [Int.toNat_natCast] at y0 y1 y2
    have HY1 := Aside0.mk y1
    generalize l3.getD i zAc = x at y0 y1 y2 HY1
    obtain ⟨kd, x1, x2⟩ := x
    dsimp only at y0 y1 y2 HY1
    obtain ⟨s1, hs1⟩ : ∃ s1, s1 = x2.extract 0 (min 300 x2.size) := ⟨_, rfl⟩
    have HS1 := Aside0.mk (show armoirelaw01_Cut.f x2 ((300 : Nat) : Int) = some s1 by rw [hs1]; exact cut_f x2 300)
    have HZ1 := Aside0.mk (show s1.size ≤ 300 by rw [hs1]; exact cut_size x2 300)
    clear hs1
    go_wp2_with fail
    refine (armoirelaw01_Cut.calls x2 300 s1 _ HS1.out).mono ?_
    rintro e w5 ⟨rfl, hB⟩
    have hBd := hB.below
    have HT5 := Aside0.mk (HT.out.step hBd)
    have z0 := pw_cell_below hBd y0
    have z1 := pw_cell_below hBd y1
    have hxa := (HT5.out.log.below.block w00.heap.size (blk_lt HX.out)).trans HX.out
    have b1 := (kcl hxa 1).trans rfl
    clear hB hBd y0 y1 y2 hxa
    go_upto_block 2 with fail
    go_cut [2, 13, 14] (fun v2 v13 v14 wc => ∃ (l : Lg) (ts : List ByteArray), v2 = .int .i64 l.nx ∧ v13 = .int .i64 l.hd ∧ Aside0 (PW nn fr L (i + 1) l ts) ∧ Aside0 (TR w1 wc g b l v14 (allR nn ts)))
    case first =>
      by_cases k1 : kd = 1
      · subst k1
        obtain ⟨kn, hkn⟩ : ∃ kn : Nat, kn = costN s1.size := ⟨_, rfl⟩
        have hrc := ref_cost s1.size (by have := HZ1.out; omega)
        have hsz : s1.size ≤ 300 := HZ1.out
        have happ := HP.out.app (by omega) s1 hsz
        rw [← hkn] at hrc happ
        have HRC := Aside0.mk hrc
        have o3 := HP.out.ok.hd
        have o4 := HP.out.ok.nx
        have o5 : kn ≤ 10 := by rw [hkn]; unfold costN; omega
        have E1 := Aside0.mk (wrapI (l.nx - l.hd) (by omega))
        have E2 := Aside0.mk (wrapI (l.nx - l.hd + (kn : Int)) (by omega))
        have E3 := Aside0.mk (wrapI (l.nx + (kn : Int)) (by omega))
        have E5 := Aside0.mk (wrapI (l.nx + (kn : Int) - 1) (by omega))
        have HAPP := Aside0.mk happ
        have HKN := Aside0.mk hkn
        clear happ hrc hkn o3 o4 o5 z1
        go_wp2_with fail
        refine (armoireref05_Cost.calls _ _ _ _ HRC.out).mono ?_
        rintro e w6 ⟨rfl, ⟨m6, rfl⟩⟩
        have HT6 := Aside0.mk (HT5.out.step (bdn (Below.refl _ _) m6))
        generalize World.drewN _ m6 = w6 at HT6 ⊢
        have hxa := (HT6.out.log.below.block w00.heap.size (blk_lt HX.out)).trans HX.out
        clear b1
        have b1 := (kcl hxa 1).trans rfl
        clear hxa
        have hap := wal_Append.calls g b 24 (1000 * i) l s1 w1 w6 HT6.out.log HP.out.ok HP.out.di (by omega) (by omega)
        obtain ⟨A14, c14, hv⟩ := Kd.R_slice HT6.out.row
        subst hv
        rcases HAPP.out with ⟨qf, l', ea, hp2, n1, n2⟩ | ⟨qf, ea⟩
        · as_aux_lemma =>
            have q5 : decide (l.nx - l.hd + (kn : Int) ≤ (L : Int)) = true := decide_eq_true (by omega)
            rw [ea] at hap
            dsimp only at hap
            have HP2 := Aside0.mk hp2
            have HN := Aside0.mk (And.intro n1 n2)
            have HAP := Aside0.mk hap
            have e1 := E1.out
            have e2 := E2.out
            clear qf ea hp2 n1 n2 hap
            go_wp2_with fail
            refine HAP.out.mono ?_
            rintro e w7 ⟨rfl, hL, hK⟩
            have HT7 := Aside0.mk ((HT6.out.call hL hK).step (bal (Below.refl _ _) (.cells #[.int .i64 l.nx, .int .i64 (l.nx + (kn : Int) - 1), .string s1] 59)))
            have hbx := World.alloc_heap_new w7 (.cells #[.int .i64 l.nx, .int .i64 (l.nx + (kn : Int) - 1), .string s1] 59)
            clear hL hK b1 e1 e2
            have e3 := E3.out
            have e5 := E5.out
            have HT8 := Aside0.mk (HT7.out.step (bal (Below.refl _ _) (.cells #[.int .i64 l.nx, .int .i64 (l.nx + (kn : Int) - 1), .string s1] 62)))
            have hsn : allR nn (ts ++ [s1]) = allR nn ts ++ [⟨l.nx, l.nx + (kn : Int) - 1, s1⟩] := by rw [allR_snoc, ← HP.out.nx, HKN.out]
            have HSN := Aside0.mk hsn
            have HF8 := Aside0.mk (show ∀ x, ((w7.alloc (.cells #[.int .i64 l.nx, .int .i64 (l.nx + (kn : Int) - 1), .string s1] 59)).alloc (.cells #[.int .i64 l.nx, .int .i64 (l.nx + (kn : Int) - 1), .string s1] 62)).heap.size ≤ x → ¬ Foot ((w7.alloc (.cells #[.int .i64 l.nx, .int .i64 (l.nx + (kn : Int) - 1), .string s1] 59)).alloc (.cells #[.int .i64 l.nx, .int .i64 (l.nx + (kn : Int) - 1), .string s1] 62)) g x ∧ x ≠ b from fun x hx => by
              obtain ⟨vs, vc, hD⟩ := HT8.out.log.dev
              exact ⟨fun hf => by have := (hD.foot_lt hf).1; omega, fun e => by have := HT8.out.log.lt; omega⟩)
            clear hsn hbx
            go_wp2_with (first
              | ((with_reducible refine gate_builtin (b := .append) (xs := #[.tmp 117, .tmp 119]) rfl ?_); at_builtin; refine Kd.R_append k62 (w0 := w1) w1.heap.size rfl (.tmp 117) (.tmp 119) 46 62 (.agg #[(.int .i64 0), (.int .i64 0), (.string ⟨#[]⟩)]) 32 rfl Try.underlying46 info_ref rfl (by decide) (by omega) _ (allR nn ts) (⟨l.nx, l.nx + (kn : Int) - 1, s1⟩ : S62) [.int .i64 l.nx, .int .i64 (l.nx + (kn : Int) - 1), .string s1] (fun x => ¬ Foot ((w7.alloc (.cells #[.int .i64 l.nx, .int .i64 (l.nx + (kn : Int) - 1), .string s1] 59)).alloc (.cells #[.int .i64 l.nx, .int .i64 (l.nx + (kn : Int) - 1), .string s1] 62)) g x ∧ x ≠ b) (fun _ => False) rfl (by first | rfl | (simp [Act.eval]; done)) ?aP (fun _ hk => hk.elim) ?aF ?aO ?aB ?aS ?aL ?_; (case aP => exact k62_mkM _ _ _ (⟨l.nx, l.nx + (kn : Int) - 1, s1⟩ : S62)); (case aF => exact (fun x hx => HF8.out x hx)); (case aO => exact HT8.out.row); (case aB => exact HT8.out.log.below); (case aS => exact HT8.out.log.below.size); (case aL => have := HP.out.len; rw [allR_length]; omega); intro v1 w9 ho hb hg hat; have HT9 := Aside0.mk (row_push HT8.out.log HT8.out.row hg ho hb); clear ho hb hg hat))
            go_meet
            exact ⟨l', ts ++ [s1], by rw [HN.out.2, E3.out], by rw [HN.out.1], HP2, ⟨⟨HT9.out.1, by rw [HSN.out]; exact HT9.out.2⟩⟩⟩
        · as_aux_lemma =>
            have q5 : decide (l.nx - l.hd + (kn : Int) ≤ (L : Int)) = false := decide_eq_false (by omega)
            rw [ea] at hap
            unfold noRec at hap
            dsimp only at hap
            have HAP := Aside0.mk hap
            have e1 := E1.out
            have e2 := E2.out
            clear qf ea hap
            go_wp2_with fail
            refine HAP.out.mono ?_
            rintro e w7 ⟨rfl, hL, hK⟩
            have HT7 := Aside0.mk ((HT6.out.call hL hK).step (bal (Below.refl _ _) (.cells #[.int .i64 0, .int .i64 0, .string ⟨#[]⟩] 59)))
            clear hL hK b1 e1 e2
            go_wp2
            go_meet
            exact ⟨l, ts, rfl, rfl, ⟨HP.out.later⟩, HT7⟩
      by_cases k2 : kd = 2
      · as_aux_lemma =>
          subst k2
          have g1 : ((2 : Int) == 1) = false := rfl
          obtain ⟨f1, f2, hp2⟩ := HP.out.force
          have hfo := wal_Force.calls g b l w1 w5 HT5.out.log HP.out.di.left HP.out.di.ok
          rw [f1] at hfo
          have HP2 := Aside0.mk hp2
          have HF2 := Aside0.mk f2
          obtain ⟨A14, c14, rfl⟩ := Kd.R_slice HT5.out.row
          clear hp2 f1 f2 b1 z1
          go_wp2_with fail
          refine hfo.mono ?_
          rintro e w6 ⟨rfl, hL, hK⟩
          have HT6 := Aside0.mk (HT5.out.call hL hK)
          obtain ⟨vs, vc, hD⟩ := HT6.out.log.dev
          have hlo := device_Loose.calls g vs vc _ w1 w6 hD
          dsimp only at hlo
          rw [HF2.out] at hlo
          clear hL hK hfo hD
          go_wp2_with fail
          refine hlo.mono ?_
          rintro e w7 ⟨rfl, rfl⟩
          clear hlo
          go_wp2
          go_meet
          exact ⟨{ l with dev := (dvFlush l.dev).2 }, ts, rfl, rfl, HP2, HT6⟩
      by_cases k3 : kd = 3
      · as_aux_lemma =>
          subst k3
          have g1 : ((3 : Int) == 1) = false := rfl
          have g2 : ((3 : Int) == 2) = false := rfl
          clear b1
          obtain ⟨z, hz⟩ : ∃ z : Nat, x1 % 16 = z := ⟨(x1 % 16).toNat, by omega⟩
          have mz := i64_and15 x1
          rw [hz] at mz
          have o3 := HP.out.ok.hd
          have o4 := HP.out.ok.nx
          have e1 := wrapI (l.hd + (z : Int)) (by omega)
          have e2 := wrapI (l.hd + (z : Int) - 1) (by omega)
          obtain ⟨A14, c14, hv⟩ := Kd.R_slice HT5.out.row
          subst hv
          have hz0 : z ≤ 15 := by omega
          clear hz
          by_cases qg : l.hd ≤ l.hd + (z : Int) - 1 ∧ l.hd + (z : Int) - 1 ≤ l.nx
          · obtain ⟨qg1, qg2⟩ := qg
            have q5 : decide (l.hd ≤ l.hd + (z : Int) - 1) = true := decide_eq_true qg1
            have q6 : decide (l.hd + (z : Int) - 1 ≤ l.nx) = true := decide_eq_true qg2
            have HTR := Aside0.mk (wal_Trim_ok g b l (l.hd + (z : Int) - 1) w1 w5 HT5.out.log qg1 qg2)
            have HP2 := Aside0.mk (HP.out.trim (l.hd + (z : Int) - 1) qg1 qg2)
            clear qg1 qg2 o3 o4 hz0
            go_wp2_with fail
            refine HTR.out.mono ?_
            rintro e w6 ⟨rfl, hL, hK⟩
            have HT6 := Aside0.mk (HT5.out.call hL hK)
            clear hL hK
            go_wp2
            go_meet
            exact ⟨{ l with hd := l.hd + (z : Int) - 1 }, ts, rfl, rfl, HP2, HT6⟩
          · have HTR := Aside0.mk (wal_Trim_bad g b l (l.hd + (z : Int) - 1) w1 w5 HT5.out.log (by omega))
            by_cases qg1 : l.hd ≤ l.hd + (z : Int) - 1
            · have q5 : decide (l.hd ≤ l.hd + (z : Int) - 1) = true := decide_eq_true qg1
              have q6 : decide (l.hd + (z : Int) - 1 ≤ l.nx) = false := decide_eq_false (by omega)
              clear qg qg1 o3 o4 hz0
              go_wp2_with fail
              refine HTR.out.mono ?_
              rintro e w6 ⟨rfl, rfl⟩
              go_wp2
              go_meet
              exact ⟨l, ts, rfl, rfl, ⟨HP.out.later⟩, HT5⟩
            · have q5 : decide (l.hd ≤ l.hd + (z : Int) - 1) = false := decide_eq_false qg1
              clear qg qg1 o3 o4 hz0
              go_wp2_with fail
              refine HTR.out.mono ?_
              rintro e w6 ⟨rfl, rfl⟩
              go_wp2
              go_meet
              exact ⟨l, ts, rfl, rfl, ⟨HP.out.later⟩, HT5⟩
      have g1 : (kd == 1) = false := beq_eq_false_iff_ne.2 k1
      have g2 : (kd == 2) = false := beq_eq_false_iff_ne.2 k2
      have g3 : (kd == 3) = false := beq_eq_false_iff_ne.2 k3
      obtain ⟨A14, c14, rfl⟩ := Kd.R_slice HT5.out.row
      go_wp2
      go_meet
      exact ⟨l, ts, rfl, rfl, ⟨HP.out.later⟩, HT5⟩
    case rest =>
      obtain ⟨l, ts, rfl, rfl, HP2, HT2⟩ := hcut
      have hlen0 := allR_length nn ts
      obtain ⟨rs, hrs⟩ : ∃ rs, rs = allR nn ts := ⟨_, rfl⟩
      rw [← hrs] at HT2 hlen0
      have HRS := Aside0.mk hrs
      have HLN := Aside0.mk hlen0
      obtain ⟨A14, c14, hv⟩ := Kd.R_slice HT2.out.row
      subst hv
      have hxa := (HT2.out.log.below.block w00.heap.size (blk_lt HX.out)).trans HX.out
      have b0 := (kcl hxa 0).trans rfl
      have b1 := (kcl hxa 1).trans rfl
      have hLd := fun m => (HT2.out.log.step (bdn (Below.refl _ _) m) : LogSt w1 (wc.drewN m) g b l)
      have HLD := Aside0.mk hLd
      have hfr := fun m => wal_Free.calls g b l w1 _ (HLD.out m) HP2.out.ok
      rw [HP2.out.ar.2.1] at hfr
      have hfr2 : ∀ m, Calls Try.prog 31 #[.pointer (some ⟨b, 0, none⟩)] (wc.drewN m) fun e w' => e = .returned (.int .i64 ((L : Int) - (l.nx - l.hd))) ∧ ∃ n, w' = (wc.drewN m).drewN n := fun m => (hfr m).mono (fun e w' h => ⟨h.1, h.2.out⟩)
      have HFR := Aside0.mk hfr2
      have o3 := HP2.out.ok.hd
      have o4 := HP2.out.ok.nx
      have o5 := HQ.out
      have k1 : IntKind.i64.wrap (l.nx - l.hd) = l.nx - l.hd := wrapK _ (by omega)
      have k2 : IntKind.i64.wrap ((L : Int) - (l.nx - l.hd)) = (L : Int) - (l.nx - l.hd) := wrapK _ (by omega)
      clear hxa hLd hfr hfr2 hrs hlen0 o3 o4 o5 z0 z1
      go_wp2_with fail
      go_quiet (first
        | (go_at_call 29; exact Calls.quiet_of_same (wal_Head.calls g b l w1 _ (HLD.out _)))
        | (go_at_call 30; exact Calls.quiet_of_same (wal_Next.calls g b l w1 _ (HLD.out _)))
        | (go_at_call 31; exact Calls.quiet_of (HFR.out _)))
      have HT3 := Aside0.mk (HT2.out.step (bdn (Below.refl _ _) nq))
      generalize World.drewN _ nq = w5b at HT3 ⊢
      clear k1 k2 b0 b1
      have hCa := (Kd.R_reads' HT3.out.row).2.2
      have HCA := Aside0.mk hCa
      have hra : rs.length ≤ 9223372036854775807 := Kd.C_max hCa
      clear hCa
      go_wp2_with fail
      go_loopw [24, 184] (fun v24 v184 wr => ∃ m : Nat, v184 = .int .i64 m ∧ m ≤ rs.length ∧ Aside0 (Below w5b.heap.size w5b wr) ∧ Aside0 (Kd.R k62 62 wr w5b.heap.size (fun _ => True) v24 ((rs.take m).filter (fun r => decide (l.hd ≤ r.f0))))) (fun _ v184 _ => rs.length - (intOf v184).toNat)
      case atStart => exact ⟨0, rfl, Nat.zero_le _, ⟨Below.refl _ _⟩, ⟨Kd.R_nil _ _ _ _ _⟩⟩
      case round =>
        obtain ⟨m, rfl, hm, HBW, HRW⟩ := hrel
        by_cases qm : m < rs.length
        · have hm0 : (0 : Int) ≤ (m : Int) := by omega
          have hm1 : (m : Int) < (rs.length : Int) := by omega
          have hm2 : m ≤ 9223372036854775806 := by omega
          obtain ⟨ad1, e1, y0, y1, y2⟩ := at_Rf (Kd.C_below HCA.out HBW.out) (m : Int) hm0 hm1
          cases e1
          rw [Int.toNat_natCast] at y0 y1 y2
          have htk : (rs.take (m + 1)).filter (fun r => decide (l.hd ≤ r.f0)) = (rs.take m).filter (fun r => decide (l.hd ≤ r.f0)) ++ (if l.hd ≤ (rs.getD m zRf).f0 then [rs.getD m zRf] else []) := by
            rw [List.take_add_one, List.getElem?_eq_getElem qm, List.filter_append, List.getD_eq_getElem?_getD, List.getElem?_eq_getElem qm]
            congr 1
            by_cases hq : l.hd ≤ (rs[m]).f0
            · simp [hq]
            · simp [hq]
          generalize rs.getD m zRf = x at y0 y1 y2 htk
          obtain ⟨x0, x1, x2⟩ := x
          dsimp only at y0 y1 y2 htk
          have HTK := Aside0.mk htk
          have HB1W := Aside0.mk (bal HBW.out (.cells #[.int .i64 x0, .int .i64 x1, .string x2] 62))
          have HR1W := Aside0.mk (Kd.R_alloc HRW.out (.cells #[.int .i64 x0, .int .i64 x1, .string x2] 62))
          obtain ⟨A24, c24, hv⟩ := Kd.R_slice HRW.out
          subst hv
          clear htk
          by_cases qx : l.hd ≤ x0
          · as_aux_lemma =>
              have q5 : decide (l.hd ≤ x0) = true := decide_eq_true qx
              have HQX := Aside0.mk qx
              clear qx
              go_wp2_with (first
                | ((with_reducible refine gate_builtin (b := .append) (xs := #[.tmp 192, .tmp 194]) rfl ?_); at_builtin; refine Kd.R_append k62 (w0 := w5b) w5b.heap.size rfl (.tmp 192) (.tmp 194) 46 62 (.agg #[(.int .i64 0), (.int .i64 0), (.string ⟨#[]⟩)]) 32 rfl Try.underlying46 info_ref rfl (by decide) (by omega) _ ((rs.take m).filter (fun r => decide (l.hd ≤ r.f0))) (⟨x0, x1, x2⟩ : S62) [.int .i64 x0, .int .i64 x1, .string x2] (fun _ => True) (fun _ => False) rfl (by first | rfl | (simp [Act.eval]; done)) ?aP (fun _ hk => hk.elim) ?aF ?aO ?aB ?aS ?aL ?_; (case aP => exact k62_mkM _ _ _ (⟨x0, x1, x2⟩ : S62)); (case aF => exact (fun _ _ => trivial)); (case aO => exact HR1W.out); (case aB => exact HB1W.out); (case aS => exact HB1W.out.size); (case aL => have h1 := List.length_filter_le (fun r : S62 => decide (l.hd ≤ r.f0)) (rs.take m); have h2 := List.length_take_le m rs; have h3 := HP2.out.len; have h4 := HLN.out; omega); intro v1 w9 ho hb hg hat; have HR9 := Aside0.mk ho; have HB9 := Aside0.mk hb; clear ho hb hg hat))
              go_roundw
              case rel => exact ⟨m + 1, by go_num, by omega, HB9, ⟨by rw [HTK.out, if_pos HQX.out]; exact HR9.out⟩⟩
              case measure => simp [intOf]; omega
          · as_aux_lemma =>
              have q5 : decide (l.hd ≤ x0) = false := decide_eq_false qx
              have HQX := Aside0.mk qx
              clear qx
              go_wp2
              go_roundw
              case rel => exact ⟨m + 1, by go_num, by omega, HB1W, ⟨by rw [HTK.out, if_neg HQX.out, List.append_nil]; exact HR1W.out⟩⟩
              case measure => simp [intOf]; omega
        · obtain rfl : m = rs.length := by omega
          have hRw := HRW.out
          rw [List.take_length] at hRw
          obtain ⟨j, j1, j2, j3⟩ := recs_filter l.hd ts nn
          have hsc := plays_scan (j := j) HP2.out.wr HP2.out.up.down (by have := HQ.out; omega) (by omega) (by rw [HP2.out.di.sec]; have := HP2.out.ar.2.2; omega) HP2.out.n0b.1 (by have h1 := HP2.out.nx; have h2 := HP2.out.ok.nx; have h3 := HP2.out.ar.2.1; omega) (j3 (by have h1 := HP2.out.nx; have h2 := HP2.out.ok.hd; omega))
          have hst := recs_start nn ts j
          have hws : rs.filter (fun r => decide (l.hd ≤ r.f0)) = (recs (nn + costs (ts.take j)) (ts.drop j)).map toR := by
            rw [HRS.out, ← j2]
            unfold allR
            rw [List.filter_map]
            rfl
          rw [hws] at hRw
          have hln := recs_length (ts.drop j) (nn + costs (ts.take j))
          have hct : (costs (ts.take j) : Int) ≤ costs ts := by
            have h := costs_append (ts.take j) (ts.drop j)
            rw [List.take_append_drop] at h
            omega
          generalize recs (nn + costs (ts.take j)) (ts.drop j) = us at hRw hsc hst hln
          have htf := told_f us (by have := HP2.out.len; rw [hln, List.length_drop]; omega)
          have hwl : (us.map toR).length = us.length := List.length_map _
          obtain ⟨ws, hws2⟩ : ∃ ws, ws = us.map toR := ⟨_, rfl⟩
          rw [← hws2] at htf hRw hst hwl
          obtain ⟨s0, hs0⟩ : ∃ s0 : Int, s0 = (nn : Int) + costs (ts.take j) := ⟨_, rfl⟩
          rw [← hs0] at hsc hst
          have hs1 : 1 ≤ s0 ∧ s0 ≤ 1000000 := by have h1 := HP2.out.n0b; have h2 := HP2.out.nx; have h3 := HP2.out.ok.nx; omega
          have HTF := Aside0.mk htf
          have HSC := Aside0.mk hsc
          have HS1 := Aside0.mk hs1
          have HWL := Aside0.mk hwl
          have HST := Aside0.mk hst
          have HNX := Aside0.mk HP2.out.nx
          obtain ⟨A24, c24, hv⟩ := Kd.R_slice hRw
          subst hv
          have HRW2 := Aside0.mk (Kd.R_reads' hRw)
          have hwm : ws.length ≤ 9223372036854775807 := Kd.C_max HRW2.out.2.2
          clear hws hln hct htf hws2 hs0 hs1 hsc hRw hwl hst j1 j2 j3
          have HT6 := Aside0.mk (HT3.out.step HBW.out)
          clear hm qm
          have hxa := (HT6.out.log.below.block w00.heap.size (blk_lt HX.out)).trans HX.out
          have b0 := (kcl hxa 0).trans rfl
          have b1 := (kcl hxa 1).trans rfl
          clear hxa
          by_cases q0 : 0 < ws.length
          · as_aux_lemma =>
              obtain ⟨ad2, e2, y0, -, -⟩ := at_Rf HRW2.out.2.2 0 (by decide) (by omega)
              cases e2
              rw [show (0 : Int).toNat * 3 = 0 from rfl, show (0 : Int).toNat = 0 from rfl, HST.out.1 q0] at y0
              have y1 : wr.cell? ad2 = some (.int .i64 s0) := y0
              have q5 : (0 : Int) < (ws.length : Int) := by omega
              go_wp2_with fail
              have hsw := wal_Scan.calls g l.dev fr L s0 w1 wr 24 (1000 * (i + 1)) HT6.out.log.dev HP2.out.up.down HP2.out.di (by have := HQ.out; unfold chkA; exact if_neg (by omega)) (by decide) (by have := HS1.out; omega)
              rw [HSC.out] at hsw
              refine hsw.mono ?_
              rintro e w8 ⟨v, rfl, hRs, hB⟩
              obtain ⟨A28, c28, rfl⟩ := Kd.R_slice hRs
              have HG := Aside0.mk (Kd.R_reads' hRs)
              have HT8 := Aside0.mk (HT6.out.step hB)
              have HCW := Aside0.mk (Kd.C_below HRW2.out.2.2 hB)
              dsimp only at HG ⊢
              rw [← HNX.out]
              clear hB hRs hsw b0 b1
              go_wp2_with fail
              have htd := armoirelaw05_told.calls (us.length + 1) A28 c28 us (some ad2) c24 ws true w8 HG.out.2.2 HG.out.2.1 HCW.out HRW2.out.2.1 HTF.out
              refine htd.mono ?_
              rintro e w9 ⟨rfl, hdr⟩
              have HT9 := Aside0.mk (HT8.out.step hdr.below)
              clear hdr htd
              go_wp2
              go_roundw
              case rel => exact ⟨i + 1, l, ts, by go_num, rfl, rfl, ⟨by omega, by omega⟩, HP2, ⟨by rw [← HRS.out]; exact HT9.out⟩⟩
              case measure => simp [intOf]; omega
          · as_aux_lemma =>
              have q5 : decide ((0 : Int) < (ws.length : Int)) = false := decide_eq_false (by omega)
              have q6 : ws.length = 0 := by omega
              have e0 : s0 = l.nx := by have h1 := HST.out.2 q6; have h2 := HNX.out; omega
              subst e0
              have hz : ws = [] := List.length_eq_zero_iff.1 q6
              have HZ := Aside0.mk hz
              clear hz q6
              go_wp2_with fail
              have hsw := wal_Scan.calls g l.dev fr L l.nx w1 wr 24 (1000 * (i + 1)) HT6.out.log.dev HP2.out.up.down HP2.out.di (by have := HQ.out; unfold chkA; exact if_neg (by omega)) (by decide) (by have := HS1.out; omega)
              rw [HSC.out] at hsw
              refine hsw.mono ?_
              rintro e w8 ⟨v, rfl, hRs, hB⟩
              obtain ⟨A28, c28, rfl⟩ := Kd.R_slice hRs
              have HG := Aside0.mk (Kd.R_reads' hRs)
              have HT8 := Aside0.mk (HT6.out.step hB)
              have HCW := Aside0.mk (Kd.C_below HRW2.out.2.2 hB)
              dsimp only at HG ⊢
              rw [← HNX.out]
              clear hB hRs hsw b0 b1
              go_wp2_with fail
              have htd := armoirelaw05_told.calls (us.length + 1) A28 c28 us A24 c24 ws true w8 HG.out.2.2 HG.out.2.1 HCW.out HRW2.out.2.1 HTF.out
              refine htd.mono ?_
              rintro e w9 ⟨rfl, hdr⟩
              have HT9 := Aside0.mk (HT8.out.step hdr.below)
              clear hdr htd
              go_wp2
              go_roundw
              case rel => exact ⟨i + 1, l, ts, by go_num, rfl, rfl, ⟨by omega, by omega⟩, HP2, ⟨by rw [← HRS.out]; exact HT9.out⟩⟩
              case measure => simp [intOf]; omega
end Go.Proofs.Ytfllpmmfjbjgoaa.PA

namespace Go.Proofs.Ytfllpmmfjbjgoaa
open Go.RowKit Go.Proofs.YtfllpmmfjbjgoaaW.PrintWords
def Reads {H : Type} (enc : TypeId × Value → H) (P : Program) (W : World) (base : Nat) (spare : Nat → Bool) (held : Bool) {α : Type} (d : Kd α) (t : TypeId) (ok : α → Prop) : Prop :=
  P.cellsOf t = d.sz ∧ ∀ fuel cs x, DataW.trod enc P W base spare held fuel t cs = some x → ∃ y, d.K W y cs ∧ ok y
section
variable {H : Type} {enc : TypeId × Value → H} {P : Program} {W : World} {base : Nat} {spare : Nat → Bool} {held : Bool}
theorem Reads.int {k : IntKind} {t : TypeId} (hu : P.underlying t = some (.int k)) (hc : P.cellsOf t = 1) : Reads enc P W base spare held (Kd.int k) t (fun n => (Lit.int k n).wf = true) :=
  ⟨hc, fun _ _ _ h => by obtain ⟨n, rfl, _, hw⟩ := DataW.trod_int hu h; exact ⟨n, rfl, hw⟩⟩
theorem Reads.bool {t : TypeId} (hu : P.underlying t = some .bool) (hc : P.cellsOf t = 1) : Reads enc P W base spare held Kd.bool t (fun _ => True) :=
  ⟨hc, fun _ _ _ h => by obtain ⟨n, rfl, _⟩ := DataW.trod_bool hu h; exact ⟨n, rfl, trivial⟩⟩
theorem Reads.string {t : TypeId} (hu : P.underlying t = some .string) (hc : P.cellsOf t = 1) : Reads enc P W base spare held Kd.string t (fun s => s.size ≤ maxLen) :=
  ⟨hc, fun _ _ _ h => by obtain ⟨n, rfl, _, hw⟩ := DataW.trod_string hu h; exact ⟨n, rfl, hw⟩⟩
theorem list_of {α β : Type} (l : List β) (R : α → β → Prop) (h : ∀ b ∈ l, ∃ a, R a b) : ∃ xs : List α, xs.length = l.length ∧ ∀ (j : Nat) (a : α), xs[j]? = some a → ∃ b, l[j]? = some b ∧ R a b := by
  induction l with
  | nil => exact ⟨[], rfl, fun j a h => by simp at h⟩
  | cons b l ih =>
    obtain ⟨a, ha⟩ := h b List.mem_cons_self
    obtain ⟨xs, hl, hx⟩ := ih (fun b hb => h b (List.mem_cons_of_mem _ hb))
    refine ⟨a :: xs, by simp [hl], fun j a' hj => ?_⟩
    cases j with
    | zero => simp only [List.getElem?_cons_zero, Option.some.injEq] at hj; subst hj; exact ⟨b, rfl, ha⟩
    | succ j => exact hx j a' (by simpa using hj)
theorem Reads.row {α : Type} {d : Kd α} {ok : α → Prop} {t e : TypeId} (hu : P.underlying t = some (.slice e)) (he : Reads enc P W base spare held d e ok) {fuel : Nat} {cs : List Value} {x : DataW H × List MemPlace}
    (h : DataW.trod enc P W base spare held fuel t cs = some x) : ∃ A c, ∃ xs : List α, cs = [.slice A xs.length c] ∧ xs.length ≤ c ∧ Kd.C d W A xs.length xs ∧ xs.length ≤ maxLen ∧ ∀ y ∈ xs, ok y := by
  rcases DataW.trod_slice hu h with ⟨rfl, _⟩ | ⟨a, len, cap, elems, rest, n, _, rfl, _, _, hl, hm, hlen, hel, _, _⟩
  · exact ⟨none, 0, [], rfl, Nat.le_refl _, ⟨rfl, by simp, fun h => by simp at h⟩, by simp, fun y hy => by simp at hy⟩
  · have each : ∀ i ∈ List.range len, ∃ y : α, (∃ c, d.K W y c ∧ c.length = d.sz ∧ ∀ j u, c[j]? = some u → W.cell? (a.add (i * d.sz + j)) = some u) ∧ ok y := by
      intro i hi
      have hi' : i < len := by simpa using hi
      have h1 := hel i hi'
      rw [he.1] at h1
      have h2 : ∃ c, W.cells? base (a.add (i * d.sz)) d.sz = some c ∧ (DataW.trod enc P W base spare held n e c) = elems[i]? := by
        cases hc : W.cells? base (a.add (i * d.sz)) d.sz with
        | none =>
          rw [hc] at h1
          have : i < elems.length := by omega
          simp [this] at h1
        | some c =>
          rw [hc] at h1
          exact ⟨c, rfl, h1⟩
      obtain ⟨c, hc, hx⟩ := h2
      have hi2 : i < elems.length := by omega
      rw [List.getElem?_eq_getElem hi2] at hx
      obtain ⟨y, hy, hok⟩ := he.2 _ _ _ hx
      obtain ⟨_, hcl, hcc⟩ := World.cells?_some hc
      refine ⟨y, ⟨c, hy, hcl, fun j u hj => ?_⟩, hok⟩
      have hj' : j < c.length := (List.getElem?_eq_some_iff.1 hj).1
      have h3 := hcc j (by omega)
      rw [hj] at h3
      have e1 : (a.add (i * d.sz)).add j = a.add (i * d.sz + j) := by
        by_cases hi0 : i * d.sz = 0 <;> by_cases hj0 : j = 0 <;> simp [Addr.add, hi0, hj0] <;> omega
      rwa [e1] at h3
    obtain ⟨xs, hxl, hxs⟩ := list_of (List.range len) _ each
    have hxl' : xs.length = len := by simpa using hxl
    have hm' : len ≤ maxLen := Nat.le_trans hl hm
    refine ⟨some a, cap, xs, by rw [hxl'], by omega, ⟨rfl, by unfold maxLen at hm'; omega, fun _ => ⟨a, rfl, fun j p hp => ?_⟩⟩, by omega, fun y hy => ?_⟩
    · obtain ⟨i, hi, ⟨c, hk, hcl, hcc⟩, _⟩ := hxs j p hp
      have hj : j < len := by have := (List.getElem?_eq_some_iff.1 hp).1; omega
      obtain rfl : j = i := by simpa [List.getElem?_range hj] using hi
      exact ⟨c, hcl, hk, hcc⟩
    · obtain ⟨j, hj⟩ := List.mem_iff_getElem?.1 hy
      obtain ⟨i, _, _, hok⟩ := hxs j y hj
      exact hok
theorem Reads.slice {α : Type} {d : Kd α} {ok : α → Prop} {t e : TypeId} (hu : P.underlying t = some (.slice e)) (hc : P.cellsOf t = 1) (he : Reads enc P W base spare held d e ok) :
    Reads enc P W base spare held (Kd.slice e d) t (fun xs => xs.length ≤ maxLen ∧ ∀ y ∈ xs, ok y) :=
  ⟨hc, fun _ _ _ h => by
    obtain ⟨A, c, xs, rfl, h1, h2, h3, h4⟩ := Reads.row hu he h
    exact ⟨xs, ⟨A, c, rfl, h1, h2⟩, h3, h4⟩⟩
def Fields {H : Type} (enc : TypeId × Value → H) (P : Program) (W : World) (base : Nat) (spare : Nat → Bool) (held : Bool) {α : Type} (fs : List Field) (off : Nat) (d : Kd α) (ok : α → Prop) : Prop :=
  ∀ (n : Nat) (cs : List Value) (xs : List (DataW H × List MemPlace)), (∀ (i : Nat) (f : Field), fs[i]? = some f → DataW.trod enc P W base spare held n f.type ((cs.drop f.offset).take (P.cellsOf f.type)) = xs[i]?) → xs.length = fs.length → cs.length = off + d.sz →
    ∃ y, d.K W y (cs.drop off) ∧ ok y
theorem Fields.one {α : Type} {d : Kd α} {ok : α → Prop} {f : Field} {off : Nat} (ho : f.offset = off) (h : Reads enc P W base spare held d f.type ok) : Fields enc P W base spare held [f] off d ok := by
  intro n cs xs hx hl hc
  have h1 := hx 0 f rfl
  have hl' : 0 < xs.length := by rw [hl]; exact Nat.one_pos
  rw [List.getElem?_eq_getElem hl', ho, h.1, List.take_of_length_le (by rw [List.length_drop]; omega)] at h1
  exact h.2 _ _ _ h1
theorem Fields.cons {α β : Type} {d : Kd α} {d' : Kd β} {ok : α → Prop} {ok' : β → Prop} {f : Field} {fs : List Field} {off : Nat} (ho : f.offset = off) (h : Reads enc P W base spare held d f.type ok)
    (h' : Fields enc P W base spare held fs (off + d.sz) d' ok') : Fields enc P W base spare held (f :: fs) off (Kd.pair d d') (fun p => ok p.1 ∧ ok' p.2) := by
  intro n cs xs hx hl hc
  have hc2 : cs.length = off + d.sz + d'.sz := by rw [hc]; exact (Nat.add_assoc _ _ _).symm
  have h1 := hx 0 f rfl
  have hl' : 0 < xs.length := by rw [hl]; exact Nat.succ_pos _
  rw [List.getElem?_eq_getElem hl', ho, h.1] at h1
  obtain ⟨y, hy, hok⟩ := h.2 _ _ _ h1
  obtain ⟨z, hz, hok'⟩ := h' n cs (xs.drop 1) (fun i g hg => by
    have h2 := hx (i + 1) g (by simpa using hg)
    rw [h2, List.getElem?_drop, Nat.add_comm 1 i]) (by rw [List.length_drop, hl]; rfl) hc2
  refine ⟨(y, z), ⟨(cs.drop off).take d.sz, cs.drop (off + d.sz), ?_, hy, hz⟩, hok, hok'⟩
  rw [← List.drop_drop, List.take_append_drop]
theorem Reads.struct {α β : Type} {d : Kd α} {ok : α → Prop} {g : β → α} (mk : α → β) (hg : ∀ a, g (mk a) = a) {t : TypeId} {fs : Array Field} (hu : P.underlying t = some (.struct fs)) (hc : P.cellsOf t = d.sz)
    (h : Fields enc P W base spare held fs.toList 0 d ok) : Reads enc P W base spare held (Kd.iso d g) t (fun b => ok (g b)) := by
  refine ⟨hc, fun fuel cs x hx => ?_⟩
  obtain ⟨xs, n, _, _, hl, hxl, hf⟩ := DataW.trod_struct hu hx
  obtain ⟨y, hy, hok⟩ := h n cs xs (fun i f hi => hf i f (by simpa using hi)) (by simpa using hxl) (by rw [hl, hc]; exact (Nat.zero_add _).symm)
  refine ⟨mk y, ?_, by show ok (g (mk y)); rw [hg]; exact hok⟩
  show d.K W (g (mk y)) cs
  rw [hg]
  simpa using hy
end
end Go.Proofs.Ytfllpmmfjbjgoaa

