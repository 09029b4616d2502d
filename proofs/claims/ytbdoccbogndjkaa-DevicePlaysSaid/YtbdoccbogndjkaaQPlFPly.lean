import Derived.Test.YtbdoccbogndjkaaQPlFArm
import Derived.Test.YtbdoccbogndjkaaQPlPFx1
import Derived.Test.YtbdoccbogndjkaaQPlPFx2
namespace Go.Proofs.Ytbdoccbogndjkaa
set_option linter.unusedSimpArgs false
open Go.RowKit Go.Proofs.YtbdoccbogndjkaaW.PrintWords Go.Proofs.YtbdoccbogndjkaaW.PrintLast Go.Proofs.YtbdoccbogndjkaaW.PrintMore
attribute [local go_sem] max2_int max_two
theorem cell_on {w W : World} (hB : Below w.heap.size w W) {p : Addr} {v : Value} (h : w.cell? p = some v) : W.cell? p = some v := by
  have hlt := World.block_lt_of_cell? w _ h
  rw [← h]; simp only [World.cell?, hB.block _ hlt]
theorem keeps_on {w W : World} {g : Nat} {d : Dv} (hI : IsDev w W g d) (hB : Below w.heap.size w W) {A : Option Addr} {l : List Int} (hk : Kd.C (Kd.int .i64) w A l.length l) : ∀ W_, Kept W W_ (Foot W g) → Kd.C (Kd.int .i64) W_ A l.length l := fun W_ hK => by
  obtain ⟨vs, vc, hD⟩ := hI
  refine C_scalar_move hk fun k hlt => ?_
  exact (hK.2 k (by have := hB.size; omega) (fun hf => by have := (hD.foot_lt hf).2; omega)).trans (hB.block k hlt)
set_option maxHeartbeats 40000000 in
set_option maxRecDepth 100000 in
theorem DevicePlays.walk (w : World) (a0 : Int) (_ : (Lit.int .i64 a0).wf = true) (A1 : Option Addr) (c1 : Nat) (l1 : List Act1) (hr1 : Kd.C kAct w A1 l1.length l1) (_ : l1.length ≤ c1) (hw0 : ∀ x ∈ l1, (Lit.int .i64 x.kind).wf = true ∧ (Lit.int .i64 x.at_).wf = true ∧ x.s.size ≤ maxLen ∧ x.keep.length ≤ maxLen ∧ ∀ z ∈ x.keep, (Lit.int .i64 z).wf = true) :
    Calls Try.prog 6 #[.int .i64 a0, .slice A1 l1.length c1] w fun e w' => e = .returned (.bool true) ∧ Below w.heap.size w w' := by
  have hw1 : ∀ x ∈ l1, -9223372036854775808 ≤ x.at_ ∧ x.at_ < 9223372036854775808 := fun x hx => by
    have h := (hw0 x hx).2.1
    simp [Lit.wf, IntKind.min, IntKind.max, IntKind.signed, IntKind.bits] at h
    omega
  clear hw0
  have m7 := i64_and7 a0
  obtain ⟨q, hq⟩ : ∃ q : Nat, a0 % 8 = q := ⟨(a0 % 8).toNat, by omega⟩
  rw [hq] at m7
  obtain ⟨n, hn⟩ : ∃ n : Nat, n = q + 1 := ⟨_, rfl⟩
  have hw : wrap64 (1 + (q : Int)) = (n : Int) := by rw [wrapP _ ⟨by omega, by omega⟩]; omega
  have NB := Aside0.mk (show 1 ≤ n ∧ n ≤ 8 by omega)
  have HR := Aside0.mk hr1
  have HW1 := Aside0.mk hw1
  have hm1 : l1.length ≤ 9223372036854775807 := Kd.C_max hr1
  clear hq hn hr1 hw1
  have HN := Aside0.mk (device_New_good n w w (Below.refl _ _) NB.out.1 (by have := NB.out; omega))
  have HX := Aside0.mk (new_f n (by have := NB.out; omega))
  go_enter Try.func6, Try.ntmps6
  go_wp2_with fail
  refine HN.out.mono ?_
  rintro e w1 ⟨rfl, hI, hB, -⟩
  have HI1 := Aside0.mk hI
  have HB1 := Aside0.mk hB
  clear hI hB
  go_wp2_with fail
  refine (armoirelaw03_awake.calls _).mono ?_
  rintro e w2 ⟨rfl, hB⟩
  have HI2 := Aside0.mk (HI1.out.below hB)
  have HB2 := Aside0.mk (bsp HB1.out hB)
  clear hB HI1 HB1
  go_wp2_with fail
  refine (PF.armoireref03_New.calls (n + 71) n (dvNew n).sec [] (-1) false 0 _ HX.out).mono ?_
  rintro e w3 ⟨v1, v2, rfl, hR1, hR2, hB⟩
  have hps : PS w (w3.alloc (.cells #[v1, v2, .int .i64 (-1), .bool false, .int .i64 0] 45)) w.heap.size w3.heap.size (dvNew n) [] v1 v2 := by
    obtain ⟨vs, vc, hD⟩ := HI2.out
    have hB' := bal hB (.cells #[v1, v2, .int .i64 (-1), .bool false, .int .i64 0] 45)
    have hD2 := hD.below hB'
    have hD3 := hD.below hB
    have hf : ∀ b, Foot (w3.alloc (.cells #[v1, v2, .int .i64 (-1), .bool false, .int .i64 0] 45)) w.heap.size b → b < w2.heap.size := fun b hb => (hD.foot_lt ((foot_same (hB'.block _ hD.lt) b).1 hb)).1
    have hlt3 : w2.heap.size ≤ w3.heap.size := hB.size
    refine ⟨⟨vs, vc, hD2⟩, bsp HB2.out hB', Nat.le_trans HB2.out.size hlt3, fun h => by have := hf _ h; omega, World.alloc_heap_new _ _, ?_, ?_, rfl⟩
    · exact Kd.R_lower (Kd.R_alloc (Kd.R_mono (Kd.R_bound hR1) (fun b hb => ⟨fun h2 => by have := hf b h2; have := hb.2.1; omega, fun e => by have := hb.2.2.1; omega⟩)) _) HB2.out.size
    · exact Kd.R_lower (Kd.R_alloc (Kd.R_mono (Kd.R_bound hR2) (fun b hb => ⟨fun h2 => by have := hf b h2; have := hb.2.1; omega, fun e => by have := hb.2.2.1; omega⟩)) _) HB2.out.size
  obtain ⟨A3, c3, rfl⟩ := Kd.R_slice hR1
  obtain ⟨A4, c4, rfl⟩ := Kd.R_slice hR2
  have HP := Aside0.mk hps
  clear hR1 hR2 hB hps HI2 HB2
  go_wp2_with fail
  go_loopw [8] (fun v8 wr => ∃ (i : Nat) (d : Dv) (C : List PF.S72) (v1 v2 : Value), v8 = .int .i64 i ∧ (i ≤ l1.length ∧ i ≤ 100) ∧ Aside0 (PI n i d) ∧ Aside0 (PS w wr w.heap.size w3.heap.size d C v1 v2)) (fun v8 _ => 100 - (intOf v8).toNat)
  case atStart => exact ⟨0, _, _, _, _, rfl, ⟨Nat.zero_le _, Nat.zero_le _⟩, ⟨PI.new n⟩, HP⟩
  case round =>
    clear HP
    obtain ⟨i, d, C, v1, v2, rfl, ⟨hi, hi2⟩, HI, HP⟩ := hrel
    by_cases q1 : i < l1.length ∧ i < 100
    rotate_left
    · have q2 : (l1.length : Int) ≤ (i : Int) ∨ ((i : Int) < (l1.length : Int) ∧ (100 : Int) ≤ (i : Int)) := by omega
      clear q1
      rcases q2 with q3 | ⟨q3, q4⟩
      all_goals
        go_wp2
        go_ret
        exact ⟨rfl, HP.out.below⟩
    obtain ⟨q1, q2⟩ := q1
    have hp : (0 : Int) ≤ (i : Int) := by omega
    have hq : (i : Int) < (l1.length : Int) := by omega
    have hm : i ≤ 9223372036854775806 := by omega
    obtain ⟨ad, Ak, ck, e0, y0, y1, y2, y3, hk1, hk2⟩ := at_Act HR.out (i : Int) hp hq
    cases e0
    have y0 := cell_on HP.out.below y0
    have y1 := cell_on HP.out.below y1
    have y2 := cell_on HP.out.below y2
    have y3 := cell_on HP.out.below y3
    rw [Int.toNat_natCast] at y0 y1 y2 y3 hk1 hk2
    have hat : -9223372036854775808 ≤ (l1.getD i zAct).at_ ∧ (l1.getD i zAct).at_ < 9223372036854775808 := by
      rw [List.getD_eq_getElem?_getD, List.getElem?_eq_getElem q1]; exact HW1.out _ (List.getElem_mem q1)
    generalize l1.getD i zAct = x at y0 y1 y2 y3 hk1 hk2 hat
    have HAT := Aside0.mk hat
    clear hat
    have HK2 := Aside0.mk hk2
    clear hk2
    go_wp2_with fail
    obtain ⟨s1, hs1⟩ : ∃ s1, PF.armoirelaw01_Cut.f x.s 70 = some s1 ∧ s1.size ≤ 70 := by
      unfold PF.armoirelaw01_Cut.f
      by_cases h : (x.s.size : Int) > 70
      · rw [if_pos h, if_pos (by decide), if_pos (by omega)]; exact ⟨_, rfl, by rw [ByteArray.size_extract]; omega⟩
      · rw [if_neg h]; exact ⟨_, rfl, by omega⟩
    have HS1 := Aside0.mk hs1
    clear hs1
    refine (PF.armoirelaw01_Cut.calls x.s 70 s1 _ HS1.out.1).mono ?_
    rintro e w4 ⟨rfl, hD⟩
    have hb4 := (hD.below.block wr.heap.size (by simp)).trans (World.alloc_heap_new wr _)
    have HB4 := Aside0.mk hb4
    have hB45 := (bsp (bal (Below.refl wr.heap.size wr) (.cells #[.int .i64 x.kind, .int .i64 x.at_, .string x.s, .slice Ak x.keep.length ck] 48)) hD.below).setCell (p := ⟨wr.heap.size, 2, none⟩) (Nat.le_refl _) (.string s1)
    have hps5 := HP.out.step hB45
    have HP5 := Aside0.mk hps5
    have HB5 := Aside0.mk (show (w4.setCell ⟨wr.heap.size, 2, none⟩ (.string s1)).heap[wr.heap.size]? = some (.cells #[.int .i64 x.kind, .int .i64 x.at_, .string s1, .slice Ak x.keep.length ck] 48 (0, 0)) from blk_set hb4 2 (.string s1))
    have HNA := Aside0.mk (show ¬ Foot (w4.setCell ⟨wr.heap.size, 2, none⟩ (.string s1)) w.heap.size wr.heap.size from fun hf => by
      obtain ⟨vs, vc, hDw⟩ := HP.out.dev
      have := (hDw.foot_lt ((foot_same (hB45.block _ hDw.lt) _).1 hf)).1
      omega)
    have HNB := Aside0.mk (show w3.heap.size ≠ wr.heap.size from fun e => by have := blk_lt HP.out.box; omega)
    have c0 := (kcl hb4 0).trans rfl
    have c2 := (kcl hb4 2).trans rfl
    have f2 := kfr hb4 2
    clear hD hb4 y0 y1 y2 y3 hB45 hps5
    go_upto_block 2 with fail
    go_cut [10, 11] (fun v10 v11 wc => ∃ (d : Dv) (C : List PF.S72) (v1 v2 : Value) (e : Int), v10 = .int .i64 e ∧ v11 = .int .i64 e ∧ Aside0 (PI n (i + 1) d) ∧ Aside0 (PS w wc w.heap.size w3.heap.size d C v1 v2))
    case first =>
      clear c0 c2 f2
      revert HP5 HB5 HNA
      generalize w4.setCell ⟨wr.heap.size, 2, none⟩ (.string s1) = W5
      intro HP5 HB5 HNA
      obtain ⟨kd, at1, s0, keep⟩ := x
      dsimp only at HB5 HK2 hk1 HS1 HAT ⊢
      obtain ⟨A6, c6, rfl⟩ := Kd.R_slice HP5.out.r1
      obtain ⟨A7, c7, rfl⟩ := Kd.R_slice HP5.out.r2
      have k0 := (kcl HB5.out 0).trans rfl
      have k1 := (kcl HB5.out 1).trans rfl
      have k2 := (kcl HB5.out 2).trans rfl
      have k3 := (kcl HB5.out 3).trans rfl
      have hs6 : s1.size ≤ 9223372036854775807 := by have := HS1.out.2; omega
      have hcl := HI.out.cache
      by_cases e1 : kd = 1
      · subst e1
        go_wp2_with fail
        refine (device_Write.calls w.heap.size d at1 s1 w W5 HP5.out.dev HP5.out.below HI.out.left (by omega) hs6).mono ?_
        rintro e w6 ⟨rfl, hI, hB, hK⟩
        have HI6 := Aside0.mk hI
        have HB6 := Aside0.mk hB
        have ⟨p1, p2, p3, p4⟩ := HP5.out.kept hK
        have hb6 := p2.trans HP5.out.box
        have HX6 := Aside0.mk hb6
        have HA6 := Aside0.mk p1
        have HR6 := Aside0.mk p3
        have HQ6 := Aside0.mk p4
        have b0 := (kcl hb6 0).trans rfl
        have b1 := (kcl hb6 1).trans rfl
        have b2 := (kcl hb6 2).trans rfl
        have b3 := (kcl hb6 3).trans rfl
        have b4 := (kcl hb6 4).trans rfl
        have hk6 := (hK.kept.2 wr.heap.size (blk_lt HB5.out) HNA.out).trans HB5.out
        have k0 := (kcl hk6 0).trans rfl
        have k1 := (kcl hk6 1).trans rfl
        have k2 := (kcl hk6 2).trans rfl
        have k3 := (kcl hk6 3).trans rfl
        clear hI hB hK p1 p2 p3 p4 hb6 hk6
        by_cases qa : at1 < 0 ∨ (d.sec.length : Int) ≤ at1 ∨ 64 < s1.size
        · have hd : dvWrite d at1 s1 = (4, d) := by unfold dvWrite; rw [if_pos qa]
          rw [hd] at HI6 ⊢
          dsimp only at HI6
          go_wp2_with fail
          refine (refPut_bad A6 A7 c6 c7 d.sec C (max d.left (-1)) d.down d.calls at1 s1 w6 qa).mono ?_
          rintro e w7 ⟨rfl, hB⟩
          clear b0 b1 b2 b3 b4
          have hx7 := (hB.block w3.heap.size (blk_lt HX6.out)).trans HX6.out
          have b0 := (kcl hx7 0).trans rfl
          have b1 := (kcl hx7 1).trans rfl
          have b2 := (kcl hx7 2).trans rfl
          have b3 := (kcl hx7 3).trans rfl
          have b4 := (kcl hx7 4).trans rfl
          have g0 := kfr hx7 0
          have g1 := kfr hx7 1
          have g2 := kfr hx7 2
          have g3 := kfr hx7 3
          have g4 := kfr hx7 4
          have HX7 := Aside0.mk hx7
          have HB7 := Aside0.mk hB
          clear hx7 hB
          go_wp2
          go_meet
          exact ⟨d, C, _, _, 4, rfl, rfl, ⟨HI.out.later (Nat.le_succ _)⟩, ⟨PS.after HI6.out HB6.out HP5.out.ge HA6.out HX6.out HB7.out (row_keep HI6.out HB7.out HR6.out) (row_keep HI6.out HB7.out HQ6.out) HP5.out.cache⟩⟩
        · have hrc := rCall_dv d
          have hrows := dvCall_rows d
          have hpi := HI.out.write at1 s1
          obtain ⟨ok, dd, hdd⟩ : ∃ ok dd, dvCall d = (ok, dd) := ⟨_, _, rfl⟩
          rw [hdd] at hrc hrows
          dsimp only at hrc hrows
          have hnl : ¬ (64 < s1.size) := fun h => qa (.inr (.inr h))
          cases ok with
          | false =>
            have hd : dvWrite d at1 s1 = (16, dd) := by unfold dvWrite; rw [if_neg qa, hdd, if_pos rfl]
            rw [hd] at HI6 hpi ⊢
            dsimp only at HI6 hpi
            have HPI := Aside0.mk hpi
            have hcc := HP5.out.cache
            rw [← hrows.2] at hcc
            have HCC := Aside0.mk hcc
            have HRW := Aside0.mk hrows.1
            clear hcc hpi hdd
            go_wp2_with fail
            refine (refPut_no A6 A7 c6 c7 d.sec C (max d.left (-1)) d.down d.calls at1 s1 _ _ _ w6 (by have := HI.out.left; omega) hrc (by omega) (by omega) (by omega)).mono ?_
            rintro e w7 ⟨rfl, hB⟩
            clear b0 b1 b2 b3 b4
            have hx7 := (hB.block w3.heap.size (blk_lt HX6.out)).trans HX6.out
            have b0 := (kcl hx7 0).trans rfl
            have b1 := (kcl hx7 1).trans rfl
            have b2 := (kcl hx7 2).trans rfl
            have b3 := (kcl hx7 3).trans rfl
            have b4 := (kcl hx7 4).trans rfl
            have g0 := kfr hx7 0
            have g1 := kfr hx7 1
            have g2 := kfr hx7 2
            have g3 := kfr hx7 3
            have g4 := kfr hx7 4
            have HX7 := Aside0.mk hx7
            have HB7 := Aside0.mk hB
            clear hx7 hB
            go_wp2
            go_meet
            exact ⟨dd, C, _, _, 16, rfl, rfl, HPI, ⟨PS.after HI6.out HB6.out HP5.out.ge HA6.out HX6.out HB7.out (by rw [HRW.out]; exact row_keep HI6.out HB7.out HR6.out) (row_keep HI6.out HB7.out HQ6.out) HCC.out⟩⟩
          | true =>
            have hd : dvWrite d at1 s1 = (0, { dd with cache := dd.cache ++ [⟨at1, pad s1⟩] }) := by unfold dvWrite; rw [if_neg qa, hdd, if_neg (by simp)]
            rw [hd] at HI6 hpi ⊢
            dsimp only at HI6 hpi
            have HPI := Aside0.mk hpi
            have hcc : dd.cache ++ [(⟨at1, pad s1⟩ : Wr)] = (C ++ [(⟨at1, pad s1⟩ : PF.S72)]).map toWr := by rw [hrows.2, HP5.out.cache, List.map_append]; rfl
            have HCC := Aside0.mk hcc
            have HRW := Aside0.mk hrows.1
            have hC6 : C.length ≤ 1000000 := by have h1 := HP5.out.cache; have h2 := congrArg List.length h1; rw [List.length_map] at h2; omega
            have HC6 := Aside0.mk hC6
            clear hcc hpi hdd hC6
            go_wp2_with fail
            refine (refPut_ok A6 A7 c6 c7 d.sec C (max d.left (-1)) d.down d.calls at1 s1 (pad s1) 70 _ _ _ w6 (by have := HI.out.left; omega) hrc (by omega) (by omega) (by omega) (Kd.R_reads' HQ6.out).2.2 HC6.out (fill_pad s1 (by omega))).mono ?_
            rintro e w7 ⟨v9, rfl, hR9, hB⟩
            have HR9 := Aside0.mk (row_new HI6.out hB (blk_lt HX6.out) HB6.out.size hR9)
            obtain ⟨A9, c9, rfl⟩ := Kd.R_slice hR9
            rw [show (C ++ [(⟨at1, pad s1⟩ : PF.S72)]).length = C.length + 1 by simp] at HR9
            clear hR9
            clear b0 b1 b2 b3 b4
            have hx7 := (hB.block w3.heap.size (blk_lt HX6.out)).trans HX6.out
            have b0 := (kcl hx7 0).trans rfl
            have b1 := (kcl hx7 1).trans rfl
            have b2 := (kcl hx7 2).trans rfl
            have b3 := (kcl hx7 3).trans rfl
            have b4 := (kcl hx7 4).trans rfl
            have g0 := kfr hx7 0
            have g1 := kfr hx7 1
            have g2 := kfr hx7 2
            have g3 := kfr hx7 3
            have g4 := kfr hx7 4
            have HX7 := Aside0.mk hx7
            have HB7 := Aside0.mk hB
            clear hx7 hB
            go_wp2
            go_meet
            exact ⟨{ dd with cache := dd.cache ++ [⟨at1, pad s1⟩] }, C ++ [⟨at1, pad s1⟩], _, _, 0, rfl, rfl, HPI, ⟨PS.after HI6.out HB6.out HP5.out.ge HA6.out HX6.out HB7.out (by show Kd.R _ _ _ _ _ _ dd.sec; rw [HRW.out]; exact row_keep HI6.out HB7.out HR6.out) HR9.out HCC.out⟩⟩
      replace e1 : (kd == 1) = false := beq_eq_false_iff_ne.2 e1
      by_cases e2 : kd = 2
      · subst e2
        go_wp2_with fail
        refine (device_Flush.calls w.heap.size d w W5 HP5.out.dev HP5.out.below HI.out.left HI.out.ok).mono ?_
        rintro e w6 ⟨rfl, hI, hB, hK⟩
        have HI6 := Aside0.mk hI
        have HB6 := Aside0.mk hB
        have ⟨p1, p2, p3, p4⟩ := HP5.out.kept hK
        have hb6 := p2.trans HP5.out.box
        have HX6 := Aside0.mk hb6
        have HA6 := Aside0.mk p1
        have HR6 := Aside0.mk p3
        have HQ6 := Aside0.mk p4
        have b0 := (kcl hb6 0).trans rfl
        have b1 := (kcl hb6 1).trans rfl
        have b2 := (kcl hb6 2).trans rfl
        have b3 := (kcl hb6 3).trans rfl
        have b4 := (kcl hb6 4).trans rfl
        have hk6 := (hK.kept.2 wr.heap.size (blk_lt HB5.out) HNA.out).trans HB5.out
        have k0 := (kcl hk6 0).trans rfl
        have k1 := (kcl hk6 1).trans rfl
        have k2 := (kcl hk6 2).trans rfl
        have k3 := (kcl hk6 3).trans rfl
        clear hI hB hK p1 p2 p3 p4 hb6 hk6
        have hrc := rCall_dv d
        have hrows := dvCall_rows d
        have hpi := HI.out.flush
        obtain ⟨ok, dd, hdd⟩ : ∃ ok dd, dvCall d = (ok, dd) := ⟨_, _, rfl⟩
        rw [hdd] at hrc hrows
        dsimp only at hrc hrows
        have hC6 : C.length ≤ 1000000 := by have h1 := HP5.out.cache; have h2 := congrArg List.length h1; rw [List.length_map] at h2; omega
        have HC6 := Aside0.mk hC6
        clear hC6
        cases ok with
        | false =>
          have hd : dvFlush d = (16, dd) := by unfold dvFlush; rw [hdd, if_pos rfl]
          rw [hd] at HI6 hpi ⊢
          dsimp only at HI6 hpi
          have HPI := Aside0.mk (hpi.later (Nat.le_succ _))
          have hcc := HP5.out.cache
          rw [← hrows.2] at hcc
          have HCC := Aside0.mk hcc
          have HRW := Aside0.mk hrows.1
          clear hcc hpi hdd
          go_wp2_with fail
          refine (refFlush_no A6 A7 d.sec.length c6 C.length c7 (max d.left (-1)) d.down d.calls _ _ _ w6 (by have := HI.out.left; omega) hrc).mono ?_
          rintro e w7 ⟨rfl, hB⟩
          clear b0 b1 b2 b3 b4
          have hx7 := (hB.block w3.heap.size (blk_lt HX6.out)).trans HX6.out
          have b0 := (kcl hx7 0).trans rfl
          have b1 := (kcl hx7 1).trans rfl
          have b2 := (kcl hx7 2).trans rfl
          have b3 := (kcl hx7 3).trans rfl
          have b4 := (kcl hx7 4).trans rfl
          have g0 := kfr hx7 0
          have g1 := kfr hx7 1
          have g2 := kfr hx7 2
          have g3 := kfr hx7 3
          have g4 := kfr hx7 4
          have HX7 := Aside0.mk hx7
          have HB7 := Aside0.mk hB
          clear hx7 hB
          go_wp2
          go_meet
          exact ⟨dd, C, _, _, 16, rfl, rfl, HPI, ⟨PS.after HI6.out HB6.out HP5.out.ge HA6.out HX6.out HB7.out (by rw [HRW.out]; exact row_keep HI6.out HB7.out HR6.out) (row_keep HI6.out HB7.out HQ6.out) HCC.out⟩⟩
        | true =>
          have hd : dvFlush d = (0, { dd with sec := lastB d.sec d.cache, cache := [] }) := by unfold dvFlush; rw [hdd, if_neg (by simp)]
          rw [hd] at HI6 hpi ⊢
          dsimp only at HI6 hpi
          have HPI := Aside0.mk (hpi.later (Nat.le_succ _))
          have hlast := last_f d.sec C (by have := HI.out.sec; have := NB.out; omega) HC6.out (fun x hx => HI.out.ok (toWr x) (by rw [HP5.out.cache]; exact List.mem_map_of_mem hx))
          rw [← HP5.out.cache] at hlast
          have HLa := Aside0.mk hlast
          clear hpi hdd hlast
          go_wp2_with fail
          refine (refFlush_ok A6 A7 c6 c7 d.sec C (lastB d.sec d.cache) _ (max d.left (-1)) d.down d.calls _ _ _ w6 (by have := HI.out.left; omega) hrc (Kd.R_reads' HR6.out).2.2 (Kd.R_reads' HR6.out).2.1 (Kd.R_reads' HQ6.out).2.2 (Kd.R_reads' HQ6.out).2.1 HLa.out).mono ?_
          rintro e w7 ⟨v9, rfl, hR9, hB⟩
          have HR9 := Aside0.mk (row_new HI6.out hB (blk_lt HX6.out) HB6.out.size hR9)
          clear hR9
          generalize hll : lastB d.sec d.cache = ls at HR9 HI6 HPI ⊢
          clear hll
          obtain ⟨A9, c9, rfl⟩ := Kd.R_slice HR9.out
          clear b0 b1 b2 b3 b4
          have hx7 := (hB.block w3.heap.size (blk_lt HX6.out)).trans HX6.out
          have b0 := (kcl hx7 0).trans rfl
          have b1 := (kcl hx7 1).trans rfl
          have b2 := (kcl hx7 2).trans rfl
          have b3 := (kcl hx7 3).trans rfl
          have b4 := (kcl hx7 4).trans rfl
          have g0 := kfr hx7 0
          have g1 := kfr hx7 1
          have g2 := kfr hx7 2
          have g3 := kfr hx7 3
          have g4 := kfr hx7 4
          have HX7 := Aside0.mk hx7
          have HB7 := Aside0.mk hB
          clear hx7 hB
          go_wp2
          go_meet
          exact ⟨{ dd with sec := ls, cache := [] }, [], _, _, 0, rfl, rfl, HPI, ⟨PS.after HI6.out HB6.out HP5.out.ge HA6.out HX6.out HB7.out HR9.out (Kd.R_nil _ _ _ _ _) rfl⟩⟩
      replace e2 : (kd == 2) = false := beq_eq_false_iff_ne.2 e2
      by_cases e3 : kd = 3
      · subst e3
        have hC3 := C_take_int HK2.out 30
        obtain ⟨K, hK⟩ : ∃ K, K = keep.take 30 := ⟨_, rfl⟩
        rw [← hK] at hC3
        have hK30 : K.length ≤ 30 := by rw [hK]; exact List.length_take_le 30 keep
        have hKc : K.length ≤ ck := by have h2 : K.length ≤ keep.length := by { rw [hK]; exact List.length_take_le' 30 keep }; omega
        have HK30 := Aside0.mk hK30
        have HKC := Aside0.mk hKc
        have HC3 := Aside0.mk hC3
        have HKK := Aside0.mk hK
        have HKL := Aside0.mk hk1
        have hC6 : C.length ≤ 1000 := by have h1 := HP5.out.cache; have h2 := congrArg List.length h1; rw [List.length_map] at h2; omega
        have HC6 := Aside0.mk hC6
        have hs9 : d.sec.length ≤ 1000000 := by have := HI.out.sec; have := NB.out; omega
        have HCF := Aside0.mk (crash_f d C K (max d.left (-1)) d.down HP5.out.cache hC6 (by omega) hs9 HI.out.ok)
        have hpi := (HI.out.crash K).later (Nat.le_succ i)
        have hDL : (dvCrash d K).left = -1 ∧ (dvCrash d K).down = false ∧ (dvCrash d K).cache = [] := ⟨rfl, rfl, rfl⟩
        have hDC := device_Crash.calls w.heap.size d Ak ck K w W5 HP5.out.dev HP5.out.below HI.out.ok (keeps_on HP5.out.dev HP5.out.below hC3)
        generalize dvCrash d K = D at HCF hpi hDL hDC
        have HPI := Aside0.mk hpi
        have HDL := Aside0.mk hDL
        have HDC := Aside0.mk hDC
        clear hC3 hK30 hKc hC6 hs9 hK hk1 hpi hDL hDC
        go_wp2_with fail
        have hfew := few.calls Ak ck keep _ (Kd.C_below HK2.out HP5.out.below) HKL.out
        rw [← HKK.out] at hfew
        refine hfew.mono ?_
        rintro e w' ⟨rfl, rfl⟩
        clear hfew
        go_wp2_with fail
        refine HDC.out.mono ?_
        rintro e w6 ⟨rfl, hI, hB, hK⟩
        replace hI : IsDev w w6.drew w.heap.size D := by obtain ⟨_, _, h⟩ := hI; exact ⟨_, _, h.drew⟩
        replace hB := below_drew hB
        replace hK := hK.drew
        have HI6 := Aside0.mk hI
        have HB6 := Aside0.mk hB
        have ⟨p1, p2, p3, p4⟩ := HP5.out.kept hK
        have hb6 := p2.trans HP5.out.box
        have HX6 := Aside0.mk hb6
        have HA6 := Aside0.mk p1
        have HR6 := Aside0.mk p3
        have HQ6 := Aside0.mk p4
        have b0 := (kcl hb6 0).trans rfl
        have b1 := (kcl hb6 1).trans rfl
        have b2 := (kcl hb6 2).trans rfl
        have b3 := (kcl hb6 3).trans rfl
        have b4 := (kcl hb6 4).trans rfl
        have hk6 := (hK.kept.2 wr.heap.size (blk_lt HB5.out) HNA.out).trans HB5.out
        have k0 := (kcl hk6 0).trans rfl
        have k1 := (kcl hk6 1).trans rfl
        have k2 := (kcl hk6 2).trans rfl
        have k3 := (kcl hk6 3).trans rfl
        clear hI hB hK p1 p2 p3 p4 hb6 hk6
        have hfew := few.calls Ak ck keep w6.drew (Kd.C_below HK2.out HB6.out) HKL.out
        rw [← HKK.out] at hfew
        have HFW := Aside0.mk hfew
        have HCR := Aside0.mk (PF.armoireref03_Crash.calls _ A6 c6 d.sec A7 c7 C (max d.left (-1)) d.down d.calls Ak ck K _ _ _ _ _ w6.drew (Kd.R_reads' HR6.out).2.2 (Kd.R_reads' HR6.out).2.1 (Kd.R_reads' HQ6.out).2.2 (Kd.R_reads' HQ6.out).2.1 (Kd.C_below HC3.out HB6.out) HKC.out HCF.out)
        clear hfew
        go_wp2_with fail
        go_region_law (first
          | (go_simp; go_at_call 13; (with_reducible refine HFW.out.mono ?_); rintro e wz ⟨rfl, rfl⟩)
          | (go_simp; go_at_call 24; (with_reducible refine HCR.out.mono ?_); rintro e w7 ⟨v8, v9, rfl, hR8, hR9, hB⟩;
             obtain ⟨A8, c8, rfl⟩ := Kd.R_slice hR8; obtain ⟨A9, c9, rfl⟩ := Kd.R_slice hR9;
             have HR8 := Aside0.mk (row_new HI6.out hB (blk_lt HX6.out) HB6.out.size hR8); have HR9 := Aside0.mk (row_new HI6.out hB (blk_lt HX6.out) HB6.out.size hR9);
             clear hR8 hR9 b0 b1 b2 b3 b4;
             have hx7 := (hB.block w3.heap.size (blk_lt HX6.out)).trans HX6.out;
             have b0 := (kcl hx7 0).trans rfl; have b1 := (kcl hx7 1).trans rfl; have b2 := (kcl hx7 2).trans rfl; have b3 := (kcl hx7 3).trans rfl; have b4 := (kcl hx7 4).trans rfl;
             have g0 := kfr hx7 0; have g1 := kfr hx7 1; have g2 := kfr hx7 2; have g3 := kfr hx7 3; have g4 := kfr hx7 4;
             have HX7 := Aside0.mk hx7; have HB7 := Aside0.mk hB; clear hx7 hB))
        all_goals
          go_wp2
          go_meet
          have hfin := PS.after HI6.out HB6.out HP5.out.ge HA6.out HX6.out HB7.out HR8.out HR9.out HDL.out.2.2
          rw [HDL.out.1, HDL.out.2.1, Int.max_self] at hfin
          exact ⟨D, [], _, _, 0, rfl, rfl, HPI, ⟨hfin⟩⟩
      replace e3 : (kd == 3) = false := beq_eq_false_iff_ne.2 e3
      by_cases e4 : kd = 4
      · subst e4
        obtain ⟨vs, vc, hD⟩ := HP5.out.dev
        have HD5 := Aside0.mk hD
        clear hD
        go_wp2_with fail
        refine (device_Arm.calls w.heap.size vs vc d at1 w _ HD5.out).mono ?_
        rintro e w6 ⟨rfl, rfl⟩
        have hD6 : Dev w (W5.setCell ⟨w.heap.size, 2, none⟩ (.int .i64 at1)) w.heap.size vs vc { d with left := at1 } := HD5.out.num rfl rfl rfl
        have hK : DevKeep W5 (W5.setCell ⟨w.heap.size, 2, none⟩ (.int .i64 at1)) w.heap.size := (DevKeep.refl _ _).num HD5.out hD6
        have HI6 := Aside0.mk (show IsDev w (W5.setCell ⟨w.heap.size, 2, none⟩ (.int .i64 at1)) w.heap.size { d with left := at1 } from ⟨vs, vc, hD6⟩)
        have HB6 := Aside0.mk (HP5.out.below.setCell (p := ⟨w.heap.size, 2, none⟩) (Nat.le_refl _) (.int .i64 at1))
        have ⟨p1, p2, p3, p4⟩ := HP5.out.kept hK
        have hb6 := p2.trans HP5.out.box
        have HX6 := Aside0.mk hb6
        have HA6 := Aside0.mk p1
        have HR6 := Aside0.mk p3
        have HQ6 := Aside0.mk p4
        have b2 := (kcl hb6 2).trans rfl
        have g2 := kfr hb6 2
        have hk6 := (hK.kept.2 wr.heap.size (blk_lt HB5.out) HNA.out).trans HB5.out
        have k1' := (kcl hk6 1).trans rfl
        clear hD6 hK p1 p2 p3 p4 hb6 hk6
        have hmx : (if at1 < (-1 : Int) then (-1 : Int) else at1) = max at1 (-1) := by split <;> omega
        go_wp2
        go_meet
        exact ⟨{ d with left := at1 }, C, _, _, 0, rfl, rfl, ⟨(HI.out.arm at1 HAT.out).later (Nat.le_succ i)⟩, ⟨PS.put1 HI6.out HB6.out HP5.out.ge HA6.out HX6.out rfl HR6.out HQ6.out HP5.out.cache⟩⟩
      replace e4 : (kd == 4) = false := beq_eq_false_iff_ne.2 e4
      by_cases e5 : kd = 5
      · subst e5
        have hpi := (HI.out.spoil at1 s1).later (Nat.le_succ i)
        have hsp := device_Spoil.calls w.heap.size d at1 s1 w W5 HP5.out.dev HP5.out.below (by have := HS1.out.2; omega)
        have hlen : d.sec.length = n := HI.out.sec
        have HLN := Aside0.mk hlen
        have hfl := fill_any s1
        have HFL := Aside0.mk hfl
        clear hlen hfl
        have hdd : dvSpoil d at1 s1 = if 0 ≤ at1 ∧ at1 < d.sec.length then { d with sec := d.sec.set at1.toNat ((s1 ++ Z64).extract 0 64) } else d := rfl
        generalize (s1 ++ Z64).extract 0 64 = fs at hdd HFL
        generalize dvSpoil d at1 s1 = D at hpi hsp hdd
        have HDD := Aside0.mk hdd
        have HPI := Aside0.mk hpi
        have HSP := Aside0.mk hsp
        clear hpi hsp hdd
        go_wp2_with fail
        refine HSP.out.mono ?_
        rintro e w6 ⟨rfl, hI, hB, hK⟩
        have HI6 := Aside0.mk hI
        have HB6 := Aside0.mk hB
        have ⟨p1, p2, p3, p4⟩ := HP5.out.kept hK
        have hb6 := p2.trans HP5.out.box
        have HX6 := Aside0.mk hb6
        have HA6 := Aside0.mk p1
        have HR6 := Aside0.mk p3
        have HQ6 := Aside0.mk p4
        have b0 := (kcl hb6 0).trans rfl
        have hk6 := (hK.kept.2 wr.heap.size (blk_lt HB5.out) HNA.out).trans HB5.out
        have k1' := (kcl hk6 1).trans rfl
        have HK6 := Aside0.mk hk6
        clear hI hB hK p1 p2 p3 p4 hb6 hk6 HSP
        by_cases qa : 0 ≤ at1 ∧ at1 < n
        · obtain ⟨qa1, qa2⟩ := qa
          have hd : D = { d with sec := d.sec.set at1.toNat fs } := HDD.out.trans (if_pos ⟨qa1, by have := HLN.out; omega⟩)
          clear HDD
          subst hd
          have q5 : decide (0 ≤ at1) = true := decide_eq_true qa1
          have q6 : decide (at1 < (n : Int)) = true := decide_eq_true qa2
          go_wp2_with (first
            | ((with_reducible refine gds (N := 119) rfl ?_); refine Kd.R_lit Kd.string _ 9 ?hg (N := 119) ?hd (xs := ([] : List ByteArray)) (inner := []) (ok := fun _ => True) (okp := fun _ => True) ?hr ?hp (fun _ hk => hk) trivial (Below.refl _ _) (Nat.le_refl _) (by simp) ?_; (case hd => rfl); (case hg => rfl); (case hr => first | (go_simp; done) | (go_simp; rfl)); (case hp => exact (Reps.none _ _)); intro v5 w8 ho5 hb hg_ hnew_; clear hg_ hnew_; have HO5 := Aside0.mk ho5; have HB8 := Aside0.mk hb; have hbx := (hb.block w3.heap.size (blk_lt HX6.out)).trans HX6.out; have b0 := (kcl hbx 0).trans rfl; clear ho5 hb hbx)
            | ((with_reducible refine gate_builtin (b := .append) (xs := #[.tmp 119, .tmp 121]) rfl ?_); at_builtin; refine Kd.R_append_rows Kd.string (w0 := w6) w6.heap.size rfl (.tmp 119) (.tmp 121) 29 9 (.string ByteArray.empty) 16 rfl Try.underlying29 infoStr rfl (by decide) (by omega) v5 ([] : List ByteArray) d.sec _ _ _ (fun _ => True) (fun _ => False) rfl rfl ?aO ?aR (fun _ _ h => h) (fun _ h => h.elim) ?aF ?aB ?aS ?aL ?_; (case aR => exact Kd.C_below (Kd.R_reads' HR6.out).2.2 HB8.out); (case aB => exact HB8.out); (case aF => exact (fun _ _ => trivial)); (case aO => exact HO5.out); (case aS => exact HB8.out.size); (case aL => have := HLN.out; have := NB.out; simp only [List.length_nil]; omega); intro v6 w9 ho hb hg hat;
               rw [List.nil_append] at ho; obtain ⟨nb, nc, rfl⟩ := R_head ho (by have := HLN.out; have := NB.out; omega); have HO9 := Aside0.mk ho; have HB9 := Aside0.mk hb;
               have hx9 : w9.drew.heap[w3.heap.size]? = _ := (hb.block w3.heap.size (blk_lt HX6.out)).trans HX6.out; have HX9 := Aside0.mk hx9; have hk9 : w9.drew.heap[wr.heap.size]? = _ := (hb.block wr.heap.size (blk_lt HK6.out)).trans HK6.out; have k1' := (kcl hk9 1).trans rfl; have k2' := (kcl hk9 2).trans rfl; have hk9' : w9.heap[wr.heap.size]? = _ := hk9; have k1'' := (kcl hk9' 1).trans rfl; have k2'' := (kcl hk9' 2).trans rfl;
               obtain ⟨cs9, -, hM9, hc9, hf9⟩ := Kd.R_elem ho ByteArray.empty at1 qa1 (by have := HLN.out; omega);
               obtain rfl : cs9 = [.string (d.sec.getD at1.toNat ByteArray.empty)] := hM9;
               have z1 : w9.cell? ⟨nb, at1.toNat, none⟩ = some (.string (d.sec.getD at1.toNat ByteArray.empty)) := by (have h2 := hc9 0 _ rfl; rw [show at1.toNat * Kd.string.sz = at1.toNat from Nat.mul_one _] at h2; exact h2);
               have z2 : w9.frozen? ⟨nb, at1.toNat, none⟩ = false := by (have h2 := hf9 0; rw [show at1.toNat * Kd.string.sz = at1.toNat from Nat.mul_one _] at h2; exact h2);
               have q7 : at1 < (d.sec.length : Int) := by (have := HLN.out; omega);
               clear ho hb hg hat hx9 hk9 hk9' hc9 hf9 b0))
          go_region_law (first
            | (go_simp; go_at_call 16; (with_reducible refine (PF.armoireref03_Fill.calls 70 s1 fs _ HFL.out).mono ?_); rintro e w7 ⟨rfl, ⟨m7, rfl⟩⟩))
          all_goals
            have hB9 := HB9.out
            have hne : nb ≠ w3.heap.size := fun e => by have h1 := Kd.R_base HO9.out nb rfl; have := blk_lt HX6.out; omega
            have hx10 : ((w9.drewN (1 + m7)).setCell ⟨nb, at1.toNat, none⟩ (.string fs)).heap[w3.heap.size]? = _ := (Below.heap_setCell (w9.drewN (1 + m7)) ⟨nb, at1.toNat, none⟩ (.string fs) w3.heap.size (Ne.symm hne)).trans HX9.out
            have b0 := (kcl hx10 0).trans rfl
            have g0 := kfr hx10 0
            have HX10 := Aside0.mk hx10
            have HNE := Aside0.mk hne
            clear hx10 hne hB9 z1 z2
            go_wp2
            go_meet
            have hB10 : Below w6.heap.size w6 ((w9.drewN (1 + m7)).setCell ⟨nb, at1.toNat, none⟩ (.string fs)) := (bdn HB9.out _).setCell (p := ⟨nb, at1.toNat, none⟩) (Kd.R_base HO9.out nb rfl) _
            have hR10 := Kd.R_putn (Kd.R_drewN HO9.out (1 + m7)) at1 fs
            have hI10 := HI6.out.below hB10
            have hQ10 := row_keep HI6.out hB10 HQ6.out
            have hR11 := row_new HI6.out hB10 (blk_lt HX6.out) HB6.out.size hR10
            obtain ⟨vs6, vc6, hD6⟩ := HI6.out
            exact ⟨{ d with sec := d.sec.set at1.toNat fs }, C, _, _, 0, rfl, rfl, HPI, ⟨PS.put1 hI10 (bsp HB6.out hB10) HP5.out.ge (fun h => HA6.out ((foot_same (hB10.block w.heap.size hD6.lt) w3.heap.size).1 h)) HX10.out rfl hR11 hQ10 HP5.out.cache⟩⟩
        · have hd : D = d := HDD.out.trans (if_neg (fun h => qa ⟨h.1, by have := HLN.out; omega⟩))
          clear HDD
          subst hd
          have hPS : PS w w6 w.heap.size w3.heap.size D C (.slice A6 D.sec.length c6) (.slice A7 C.length c7) := ⟨HI6.out, HB6.out, HP5.out.ge, HA6.out, HX6.out, HR6.out, HQ6.out, HP5.out.cache⟩
          have HPS := Aside0.mk hPS
          clear hPS
          have qb : at1 < 0 ∨ (0 ≤ at1 ∧ (n : Int) ≤ at1) := by omega
          clear qa
          rcases qb with q5 | ⟨q5, q6⟩
          · have q7 : decide (0 ≤ at1) = false := decide_eq_false (by omega)
            go_wp2
            go_meet
            exact ⟨D, C, _, _, 0, rfl, rfl, HPI, HPS⟩
          · have q7 : decide (0 ≤ at1) = true := decide_eq_true q5
            have q8 : decide (at1 < (n : Int)) = false := decide_eq_false (by omega)
            go_wp2
            go_meet
            exact ⟨D, C, _, _, 0, rfl, rfl, HPI, HPS⟩
      replace e5 : (kd == 5) = false := beq_eq_false_iff_ne.2 e5
      by_cases e6 : kd = 6
      · subst e6
        have hcn := device_Clone.calls w.heap.size d w W5 HP5.out.dev (by have := HI.out.sec; have := NB.out; omega) (by omega)
        have HCN := Aside0.mk hcn
        have HPW := Aside0.mk (HI.out.write 0 ⟨#[111, 116, 104, 101, 114]⟩)
        clear hcn
        go_wp2_with fail
        refine HCN.out.mono ?_
        rintro e w6 ⟨g6, rfl, hI, hB⟩
        have HI6 := Aside0.mk hI
        have HB6 := Aside0.mk hB
        clear hI hB HCN
        go_wp2_with fail
        refine (device_Write.calls g6 d 0 ⟨#[111, 116, 104, 101, 114]⟩ W5 w6 HI6.out HB6.out HI.out.left (by omega) (by decide)).mono ?_
        rintro e w7 ⟨rfl, hI, hB, -⟩
        have HI7 := Aside0.mk hI
        have HB7 := Aside0.mk hB
        clear hI hB
        generalize dvWrite d 0 ⟨#[111, 116, 104, 101, 114]⟩ = d7 at HI7 HPW ⊢
        obtain ⟨e7, d7⟩ := d7
        dsimp only at HI7 HPW ⊢
        go_wp2_with fail
        refine (device_Flush.calls g6 d7 W5 w7 HI7.out HB7.out HPW.out.left HPW.out.ok).mono ?_
        rintro e w8 ⟨rfl, hI, hB, -⟩
        have HI8 := Aside0.mk hI
        have HB8 := Aside0.mk hB
        clear hI hB
        generalize dvFlush d7 = d8 at HI8 ⊢
        obtain ⟨e8, d8⟩ := d8
        dsimp only at HI8 ⊢
        go_wp2_with fail
        refine (device_Spoil.calls g6 d8 0 ⟨#[109, 111, 114, 101]⟩ W5 w8 HI8.out HB8.out (by decide)).mono ?_
        rintro e w9 ⟨rfl, -, hB, -⟩
        have HP9 := Aside0.mk (HP5.out.step hB)
        clear hB
        go_wp2
        go_meet
        exact ⟨d, C, _, _, 0, rfl, rfl, ⟨HI.out.later (Nat.le_succ _)⟩, HP9⟩
      replace e6 : (kd == 6) = false := beq_eq_false_iff_ne.2 e6
      by_cases e7 : kd = 7
      · subst e7
        have HRF := Aside0.mk (read_f d C (max d.left (-1)) d.calls at1 HP5.out.cache (by have h1 := HP5.out.cache; have h2 := congrArg List.length h1; rw [List.length_map] at h2; omega))
        have hrr := device_Read.calls w.heap.size d at1 w W5 HP5.out.dev
        generalize dvRead d at1 = z at hrr HRF
        obtain ⟨zs, zf⟩ := z
        dsimp only at hrr
        have hxx : (zs.toList != zs.toList) = false := by simp
        have hff : (zf != zf) = false := by simp
        go_wp2_with fail
        refine hrr.mono ?_
        rintro e w6 ⟨rfl, hB⟩
        have HP6 := Aside0.mk (HP5.out.step hB)
        have hb6 := HP6.out.box
        have b0 := (kcl hb6 0).trans rfl
        have b1 := (kcl hb6 1).trans rfl
        have b2 := (kcl hb6 2).trans rfl
        have b3 := (kcl hb6 3).trans rfl
        have b4 := (kcl hb6 4).trans rfl
        have hk6 := (hB.block wr.heap.size (blk_lt HB5.out)).trans HB5.out
        have k1' := (kcl hk6 1).trans rfl
        clear hB hb6 hk6 hrr
        go_wp2_with fail
        refine (PF.armoireref03_Read.calls _ A6 c6 d.sec A7 c7 C (max d.left (-1)) d.down d.calls at1 zs zf _ (Kd.R_reads' HP6.out.r1).2.2 (Kd.R_reads' HP6.out.r1).2.1 (Kd.R_reads' HP6.out.r2).2.2 (Kd.R_reads' HP6.out.r2).2.1 HRF.out).mono ?_
        rintro e w7 ⟨rfl, hB⟩
        have HP7 := Aside0.mk (HP6.out.step hB)
        clear hB b0 b1 b2 b3 b4
        go_wp2
        go_meet
        exact ⟨d, C, _, _, 0, rfl, rfl, ⟨HI.out.later (Nat.le_succ _)⟩, HP7⟩
      replace e7 : (kd == 7) = false := beq_eq_false_iff_ne.2 e7
      go_wp2
      go_meet
      exact ⟨d, C, _, _, 0, rfl, rfl, ⟨HI.out.later (Nat.le_succ _)⟩, HP5⟩
    case rest =>
      obtain ⟨d, C, v1, v2, e, rfl, rfl, HI5, HP6⟩ := hcut
      obtain ⟨A6, c6, rfl⟩ := Kd.R_slice HP6.out.r1
      obtain ⟨A7, c7, rfl⟩ := Kd.R_slice HP6.out.r2
      have hb := HP6.out.box
      have b0 := (kcl hb 0).trans rfl
      have b1 := (kcl hb 1).trans rfl
      have b2 := (kcl hb 2).trans rfl
      have b3 := (kcl hb 3).trans rfl
      have b4 := (kcl hb 4).trans rfl
      clear hb
      have hcl : C.length = d.cache.length := by rw [HP6.out.cache, List.length_map]
      have hIs := lawIs.calls w.heap.size d A6 A7 c6 c7 d.sec C (max d.left (-1)) (C.length + 2) w wc HP6.out.dev rfl hcl (by have := HI5.out.sec; have := NB.out; omega) (Kd.R_reads' HP6.out.r1).2.2 (Kd.R_reads' HP6.out.r1).2.1 (Kd.R_reads' HP6.out.r2).2.2 (Kd.R_reads' HP6.out.r2).2.1 (fun j _ => read_f d C _ _ _ HP6.out.cache (by have := HI5.out.cache; omega))
      have HIs := Aside0.mk hIs
      have he : (e != e) = false := by simp
      clear hIs hcl
      go_wp2_with fail
      refine HIs.out.mono ?_
      rintro e w6 ⟨rfl, hB⟩
      have HP7 := Aside0.mk (HP6.out.step hB)
      clear hB b0 b1 b2 b3 b4
      go_wp2
      go_roundw
      case rel => exact ⟨i + 1, d, C, _, _, by go_num, ⟨by omega, by omega⟩, HI5, HP7⟩
      case measure => simp [intOf]; omega
end Go.Proofs.Ytbdoccbogndjkaa

