import Derived.Test.YtjiblcncadekcaaGreatQOxOLe
import Derived.Deep.RegionLaw
import Derived.Test.YtjiblcncadekcaaGreatQOxPAx10
import Derived.Test.YtjiblcncadekcaaGreatQOxPAx11
import Derived.Test.YtjiblcncadekcaaGreatQOxPAx4
import Derived.Test.YtjiblcncadekcaaGreatQOxPAx8
namespace Go.Proofs.YtjiblcncadekcaaGreat.PA
set_option linter.unusedSimpArgs false
set_option linter.unusedVariables false
open Go.RowKit Go.Proofs.YtjiblcncadekcaaGreatW.PrintWords Go.Proofs.YtjiblcncadekcaaGreatW.PrintLast Go.Proofs.YtjiblcncadekcaaGreatW.PrintMore Go.Proofs.YtjiblcncadekcaaGreat Go.Proofs.YtjiblcncadekcaaGreat.PL
attribute [local go_sem] Oper.semAt_some
set_option maxHeartbeats 16000000 in
set_option maxRecDepth 100000 in
theorem ArmoireOrders.walk (w : World) (kind n : Int) (A1 : Option Addr) (c1 : Nat) (rs : List Rw) (hr1 : Kd.C k73 w A1 rs.length rs) (hc1 : rs.length ≤ c1) (hlo : -9223372036854775808 ≤ n) (hhi : n < 9223372036854775808) (A2 : Option Addr) (c2 : Nat) (cs : List LAct) (hr2 : Kd.C kLAct w A2 cs.length cs) (A3 : Option Addr) (c3 : Nat) (os : List Int) (hr3 : Kd.C (Kd.int .i64) w A3 os.length os) :
    Calls Tryz.prog 3 #[.agg #[.int .i64 kind, .int .i64 n, .slice A1 rs.length c1], .slice A2 cs.length c2, .slice A3 os.length c3] w fun e w' => e = .returned (.bool true) ∧ Below w.heap.size w w' := by
  have hm9 : cs.length ≤ 9223372036854775807 := Kd.C_max hr2
  have hm8 : os.length ≤ 9223372036854775807 := Kd.C_max hr3
  obtain ⟨kd, m, ys, ht, hok⟩ := tidy_f kind n rs hlo hhi
  obtain ⟨kT, hT⟩ := Ev.rounds ht
  have hyl : ys.length ≤ 8 := by have := hok.len; rwa [List.length_map] at this
  obtain ⟨n0, hn0⟩ : ∃ n0, n0 = maskN kd m 1125899906842623 := ⟨_, rfl⟩
  obtain ⟨n1, hn1⟩ : ∃ n1, n1 = maskN kd n0 1099511627775 := ⟨_, rfl⟩
  have hok0 : OkM kd n1 (ys.map to68) 0 := by
    by_cases q3 : kd = 3
    · have e : n1 = Go.bits .and .i64 n0 1099511627775 := by rw [hn1]; unfold maskN; rw [if_pos q3]
      have hb := i64_mask 40 (by decide) n0
      have hb2 : 0 ≤ n1 ∧ n1 < 2 ^ 40 := by rw [e]; exact hb
      exact ⟨hok.k1, hok.k7, hok.num, (fun _ => by omega), by omega, by omega, by have := hok.len; omega, hok.one, fun x hx => ⟨(hok.row x hx).2.2.1, (hok.row x hx).2.2.2⟩, hok.ord⟩
    · have e : n1 = m := by rw [hn1, hn0]; unfold maskN; rw [if_neg q3, if_neg q3]
      rw [e]
      exact ⟨hok.k1, hok.k7, hok.num, (fun h => absurd h q3), hok.lo, hok.hi, by have := hok.len; omega, hok.one, fun x hx => ⟨(hok.row x hx).2.2.1, (hok.row x hx).2.2.2⟩, hok.ord⟩
  obtain ⟨kO, hO⟩ := Ev.rounds (own_f kd n1 ys (by omega))
  obtain ⟨xs0, hxs0⟩ : ∃ xs0, xs0 = ys.map to68 := ⟨_, rfl⟩
  rw [← hxs0] at hO hok0
  have HT := Z0.mk hT
  have HO := Z0.mk hO
  have HN0 := Z0.mk hn0
  have HN1 := Z0.mk hn1
  have HR1 := Z0.mk hr1
  have HC1 := Z0.mk hc1
  have HR2 := Z0.mk hr2
  have HR3 := Z0.mk hr3
  have HOK := Z0.mk hok0
  clear ht hT hok hyl hn0 hn1 hO hxs0 hr1 hc1 hr2 hr3 hok0 hlo hhi
  go_enter Tryz.func3, Tryz.ntmps3
  obtain ⟨Wa, hWa⟩ : ∃ Wa, Wa = w.alloc (.cells #[.int .i64 kind, .int .i64 n, .slice A1 rs.length c1] 24) := ⟨_, rfl⟩
  obtain ⟨q2, hq2⟩ : ∃ q2, q2 = w.heap.size := ⟨_, rfl⟩
  have HBa := Z0.mk (show Below w.heap.size w Wa by rw [hWa]; exact bal (Below.refl _ _) _)
  have HA2 := Z0.mk (show Wa.heap[q2]? = some (.cells #[.int .i64 kind, .int .i64 n, .slice A1 rs.length c1] 24 (0, 0)) by rw [hWa, hq2]; exact blk_new w _)
  go_upto_region 1 with fail
  rw [← hWa, ← hq2]
  clear hWa hq2
  go_wp2_with fail
  refine (armoiretop_live.calls 400 true _ live_f).mono ?_
  rintro e w1 ⟨rfl, hB1⟩
  have HB1 := Z0.mk (bsp HBa.out hB1)
  have HA1 := Z0.mk (kbl HA2.out hB1)
  clear hB1 HBa HA2
  have a0 := (kcl HA1.out 0).trans rfl
  have a1 := (kcl HA1.out 1).trans rfl
  have a2 := (kcl HA1.out 2).trans rfl
  go_wp2_with fail
  refine (lawState.calls kT kind n A1 c1 rs kd m ys _ (Kd.C_below HR1.out HB1.out) HC1.out HT.out).mono ?_
  rintro e w2 ⟨v2, rfl, hR2, hB2⟩
  rw [← HN0.out]
  obtain ⟨A5, c5, hv2⟩ := Kd.R_slice hR2
  subst hv2
  have HB2 := Z0.mk (bsp HB1.out hB2)
  have HR5 := Z0.mk (Kd.R_lower hR2 HB1.out.size)
  clear hB2 hR2 a0 a1 a2 HA1
  go_upto_region 4 with ((with_reducible refine gds (N := 7) rfl ?_); refine bx_ (N := 7) (cs := #[.int .i64 0, .int .i64 0, .slice none 0 0]) (t := 30) ?_; intro q7 hg w3 hbox hb; have HGX := Z0.mk hg; have HBX := Z0.mk hbox; have HBB := Z0.mk hb; clear hg hbox hb; have x0 := (kcl HBX.out 0).trans rfl; have f0 := kfr HBX.out 0; have x1 := (kcl HBX.out 1).trans rfl; have f1 := kfr HBX.out 1; have x2 := (kcl HBX.out 2).trans rfl; have f2 := kfr HBX.out 2)
  have h5 := set3_new HGX.out HBB.out HBX.out (.int .i64 kd) (.int .i64 n0) (.slice A5 ys.length c5)
  have HQ7 := Z0.mk (show w.heap.size ≤ q7 by rw [HGX.out]; exact HB2.out.size)
  generalize (((w3.setCell ⟨q7, 0, none⟩ (.int .i64 kd)).setCell ⟨q7, 1, none⟩ (.int .i64 n0)).setCell ⟨q7, 2, none⟩ (.slice A5 ys.length c5)) = w4 at h5 ⊢
  have HB4 := Z0.mk (bsp HB2.out h5.1)
  have H5 := Z0.mk h5.2
  have HR5b := Z0.mk (Kd.R_below HR5.out h5.1)
  clear h5 HGX HBB HBX x0 x1 x2 f0 f1 f2 HR5 HB2 HB1
  have a0 := (kcl H5.out 0).trans rfl
  have a1 := (kcl H5.out 1).trans rfl
  have f1 := kfr H5.out 1
  go_upto_if 34 with fail
  go_cut [34] (fun v34 wc => Z0 (Below w.heap.size w wc) ∧ Z0 (wc.heap[q7]? = some (.cells #[.int .i64 kd, .int .i64 n1, .slice A5 ys.length c5] 30 (0, 0))) ∧ Z0 (Kd.R k72 72 wc w.heap.size (fun _ => True) (.slice A5 ys.length c5) ys))
  case first =>
    by_cases q3 : kd = 3
    · have hm : Go.bits .and .i64 n0 1099511627775 = n1 := by rw [HN1.out]; unfold maskN; rw [if_pos q3]
      subst q3
      have HBS := Z0.mk (bst (j := 1) (v := .int .i64 n1) HB4.out HQ7.out)
      have HXS := Z0.mk (kpt H5.out 1 (.int .i64 n1) (cs' := #[.int .i64 3, .int .i64 n1, .slice A5 ys.length c5]) rfl)
      have HRS := Z0.mk (Kd.R_set HR5b.out H5.out tyR67 1 (.int .i64 n1))
      go_wp2
      go_meet
      exact ⟨HBS, HXS, HRS⟩
    · have e : n1 = n0 := by rw [HN1.out]; unfold maskN; rw [if_neg q3]
      subst e
      have q3b : (kd == 3) = false := beq_eq_false_iff_ne.2 q3
      clear q3
      go_wp2
      go_meet
      exact ⟨HB4, H5, HR5b⟩
  case rest =>
    obtain ⟨HB5, H5b, HR5c⟩ := hcut
    clear HB4 H5 HR5b a0 a1 f1 HT HN0 HN1 HR1 HC1
    have a0 := (kcl H5b.out 0).trans rfl
    have a1 := (kcl H5b.out 1).trans rfl
    have a2 := (kcl H5b.out 2).trans rfl
    go_wp2_with fail
    obtain ⟨A5', c5', he5, hc5, hC5⟩ := Kd.R_reads HR5c.out
    cases he5
    refine (armoirelaw11_Own.calls kO kd n1 A5 c5 ys kd n1 xs0 _ hC5 hc5 HO.out).mono ?_
    rintro e w5 ⟨v6, rfl, hR6, hB6⟩
    obtain ⟨A6, c6, hv6⟩ := Kd.R_slice hR6
    subst hv6
    have HB6 := Z0.mk (bsp HB5.out hB6)
    have H5c := Z0.mk (kbl H5b.out hB6)
    have HR6 := Z0.mk (Kd.R_lower hR6 HB5.out.size)
    clear hR6 hB6 a0 a1 a2 HR5c hC5 hc5 H5b HB5 HO
    go_upto_region 7 with ((with_reducible refine gds (N := 8) rfl ?_); refine bx_ (N := 8) (cs := #[.int .i64 0, .int .i64 0, .slice none 0 0]) (t := 24) ?_; intro q8 hg w6 hbox hb; have HGX := Z0.mk hg; have HBX := Z0.mk hbox; have HBB := Z0.mk hb; clear hg hbox hb; have x0 := (kcl HBX.out 0).trans rfl; have f0 := kfr HBX.out 0; have x1 := (kcl HBX.out 1).trans rfl; have f1 := kfr HBX.out 1; have x2 := (kcl HBX.out 2).trans rfl; have f2 := kfr HBX.out 2)
    have h6 := set3_new HGX.out HBB.out HBX.out (.int .i64 kd) (.int .i64 n1) (.slice A6 xs0.length c6)
    have HQ8 := Z0.mk (show w.heap.size ≤ q8 by rw [HGX.out]; exact HB6.out.size)
    generalize (((w6.setCell ⟨q8, 0, none⟩ (.int .i64 kd)).setCell ⟨q8, 1, none⟩ (.int .i64 n1)).setCell ⟨q8, 2, none⟩ (.slice A6 xs0.length c6)) = w7 at h6 ⊢
    have HB7 := Z0.mk (bsp HB6.out h6.1)
    have H8 := Z0.mk h6.2
    have H7 := Z0.mk (kbl H5c.out h6.1)
    have HR7 := Z0.mk (Kd.R_below HR6.out h6.1)
    clear h6 HGX HBB HBX x0 x1 x2 f0 f1 f2 HR6 H5c HB6
    go_wp2_with fail
    refine (lockNew.calls _).mono ?_
    rintro e w8 ⟨p, b, rfl, hT, hp, hb, hB8⟩
    have HT8 := Z0.mk (show TBo w.heap.size w8 p b objX [] from .inl ⟨Nat.le_trans HB7.out.size hp, Nat.le_trans HB7.out.size hb, (fun e => by
      have h1 := hT.box
      rw [e, hT.map] at h1
      cases h1), rfl, hT⟩)
    have HB8 := Z0.mk (bsp HB7.out hB8)
    have H8b := Z0.mk (kbl H8.out hB8)
    have H7b := Z0.mk (kbl H7.out hB8)
    have HR8 := Z0.mk (Kd.R_below HR7.out hB8)
    clear hT hp hb hB8 HB7 H8 H7 HR7
    have hmk := lists_make w8
    obtain ⟨W9, hW9⟩ : ∃ W9, W9 = w8.alloc (.cells #[.slice none 0 0, .slice none 0 0, .slice none 0 0, .slice none 0 0] 50) := ⟨_, rfl⟩
    obtain ⟨L, hL⟩ : ∃ L, L = w8.heap.size := ⟨_, rfl⟩
    have hB9 : Below w8.heap.size w8 W9 := by rw [hW9]; exact bal (Below.refl _ _) _
    have HLO := Z0.mk (show LO w W9 q7 q8 p b L kd #[.int .i64 kd, .int .i64 n1, .slice A5 ys.length c5] n1 (.slice A6 xs0.length c6) xs0 [.slice none 0 0, .slice none 0 0, .slice none 0 0, .slice none 0 0] [[], [], [], []] [] from
      ⟨bsp HB8.out hB9, HQ7.out, HQ8.out, by rw [hL]; exact HB8.out.size, kbl H7b.out hB9, kbl H8b.out hB9, by rw [hW9, hL]; exact blk_new w8 _, rfl, Kd.R_below HR8.out hB9, HT8.out.below hB9, (fun k hk => by
        match k, hk with
        | 0, _ | 1, _ | 2, _ | 3, _ => exact Kd.R_nil _ _ _ _ _), (fun j k hj hk _ r hr => by
        match j, hj with
        | 0, _ | 1, _ | 2, _ | 3, _ => cases hr)⟩)
    have HLM := Z0.mk (L1.start kd n1 xs0)
    go_upto_region 9 with fail
    rw [← hW9, ← hL]
    clear hW9 hL hmk hB9 HB8 HT8 H7b H8b HR8 HQ7 HQ8
    go_upto_block 0 with fail
    go_cut [11] (fun v11 wc => ∃ (vs : List Value) (ls : List (List Stp)) (H : List Lck), Z0 (LO w wc q7 q8 p b L kd #[.int .i64 kd, .int .i64 n1, .slice A5 ys.length c5] n1 (.slice A6 xs0.length c6) xs0 vs ls H) ∧ Z0 (L1 kd n1 xs0 ls H 24))
    case first =>
      go_wp2_with fail
      go_loopw [11] (fun v11 wr => ∃ (i : Nat) (vs : List Value) (ls : List (List Stp)) (H : List Lck), v11 = .int .i64 i ∧ i ≤ 24 ∧ Z0 (LO w wr q7 q8 p b L kd #[.int .i64 kd, .int .i64 n1, .slice A5 ys.length c5] n1 (.slice A6 xs0.length c6) xs0 vs ls H) ∧ Z0 (L1 kd n1 xs0 ls H i)) (fun v11 _ => 24 - (intOf v11).toNat)
      case atStart => exact ⟨0, _, _, _, rfl, by decide, HLO, HLM⟩
      case round =>
        clear HLO HLM
        obtain ⟨i, vs, ls, H, rfl, hi, HLO, HLM⟩ := hrel
        by_cases q1 : i < cs.length
        rotate_left
        · have HLM2 := Z0.mk (HLM.out.skip hi)
          go_wp2
          go_meet
          exact ⟨_, _, _, HLO, HLM2⟩
        by_cases q2' : i < 24
        rotate_left
        · obtain rfl : i = 24 := by omega
          go_wp2
          go_meet
          exact ⟨_, _, _, HLO, HLM⟩
        obtain ⟨x, hx⟩ : ∃ x, x = cs.getD i zLAct := ⟨_, rfl⟩
        have p0 : (0 : Int) ≤ (i : Int) := by omega
        have p1 : (i : Int) < (cs.length : Int) := by omega
        have p2 : (i : Int) < 24 := by omega
        obtain ⟨ad, e1, -, y1, -, y3, y4, y5, y6, -, -, -⟩ := at_LAct (Kd.C_below HR2.out HLO.out.below) (i : Int) p0 p1
        subst e1
        rw [Int.toNat_natCast, ← hx] at y1 y3 y4 y5 y6
        obtain ⟨k, hk, hkm⟩ : ∃ k : Nat, k < 4 ∧ Go.bits .and .i64 x.txn 3 = (k : Int) := by
          have hb : 0 ≤ Go.bits .and .i64 x.txn 3 ∧ Go.bits .and .i64 x.txn 3 < 2 ^ 2 := i64_mask 2 (by decide) x.txn
          exact ⟨(Go.bits .and .i64 x.txn 3).toNat, by omega, by omega⟩
        obtain ⟨o, a, b1, cn, hof, hco⟩ := of_f kd 0 [] x.op x.a x.b x.n
        obtain ⟨kF, hof⟩ := Ev.rounds hof
        have HOF := Z0.mk (show ∀ W, Calls Tryz.prog 8 #[.agg #[.int .i64 kd, .int .i64 0, .slice none 0 0], .agg #[.int .i64 x.op, .string x.a, .string x.b, .int .i64 x.n]] W (fun e w' => e = .returned (.agg #[.int .i64 o, .string a, .string b1, .int .i64 cn]) ∧ Below W.heap.size W w') from fun W => armoirelaw13_Of.calls kF kd 0 none 0 [] x.op x.a x.b x.n o a b1 cn W (Kd.C_nil _ _) (Nat.le_refl _) hof)
        have HCO := Z0.mk hco
        have HK4 := Z0.mk hk
        have hk4 : (k : Int) < 4 := by omega
        have hk0 : (0 : Int) ≤ (k : Int) := by omega
        clear hx hof hco
        go_upto_region 13 with fail
        clear hkm y1
        have a0 := (kcl HLO.out.b7 0).trans rfl
        go_cut [13] (fun v13 wc => ∃ g : Nat, v13 = .pointer (some ⟨g, 0, none⟩) ∧ Z0 (wc.heap[g]? = some (.cells #[.int .i64 o, .string a, .string b1, .int .i64 cn] 44 (0, 0))) ∧ Z0 (LO w wc q7 q8 p b L kd #[.int .i64 kd, .int .i64 n1, .slice A5 ys.length c5] n1 (.slice A6 xs0.length c6) xs0 vs ls H))
        case first =>
          have hX : wr.drew.cell? ⟨q7, 0, none⟩ = some (.int .i64 kd) ∧ wr.drew.cell? ⟨(ad.add (i * 10)).block, (ad.add (i * 10)).off + 3, none⟩ = some (.int .i64 x.op) ∧ wr.drew.cell? ⟨(ad.add (i * 10)).block, (ad.add (i * 10)).off + 4, none⟩ = some (.string x.a) ∧ wr.drew.cell? ⟨(ad.add (i * 10)).block, (ad.add (i * 10)).off + 5, none⟩ = some (.string x.b) ∧ wr.drew.cell? ⟨(ad.add (i * 10)).block, (ad.add (i * 10)).off + 6, none⟩ = some (.int .i64 x.n) := ⟨a0, y3, y4, y5, y6⟩
          have HC := Z0.mk (show ∀ W1, Below wr.drew.heap.size wr.drew W1 → _ from fun W1 h => (⟨pcb_ h hX.1, pcb_ h hX.2.1, pcb_ h hX.2.2.1, pcb_ h hX.2.2.2.1, pcb_ h hX.2.2.2.2⟩ : W1.cell? ⟨q7, 0, none⟩ = some (.int .i64 kd) ∧ W1.cell? ⟨(ad.add (i * 10)).block, (ad.add (i * 10)).off + 3, none⟩ = some (.int .i64 x.op) ∧ W1.cell? ⟨(ad.add (i * 10)).block, (ad.add (i * 10)).off + 4, none⟩ = some (.string x.a) ∧ W1.cell? ⟨(ad.add (i * 10)).block, (ad.add (i * 10)).off + 5, none⟩ = some (.string x.b) ∧ W1.cell? ⟨(ad.add (i * 10)).block, (ad.add (i * 10)).off + 6, none⟩ = some (.int .i64 x.n)))
          have HLD := Z0.mk (HLO.out.step (below_drew (Below.refl _ _)))
          clear a0 y3 y4 y5 y6 HLO HLM
          refine start_ (n := 11) (S := fun w' => w'.cell? ⟨q7, 0, none⟩ = some (.int .i64 kd) ∧ w'.cell? ⟨(ad.add (i * 10)).block, (ad.add (i * 10)).off + 3, none⟩ = some (.int .i64 x.op) ∧ w'.cell? ⟨(ad.add (i * 10)).block, (ad.add (i * 10)).off + 4, none⟩ = some (.string x.a) ∧ w'.cell? ⟨(ad.add (i * 10)).block, (ad.add (i * 10)).off + 5, none⟩ = some (.string x.b) ∧ w'.cell? ⟨(ad.add (i * 10)).block, (ad.add (i * 10)).off + 6, none⟩ = some (.int .i64 x.n)) (ds := [10]) #[false,false,false,false,false,false,false,false,false,false,false] (by kernel_rfl) rfl rfl ⟨hX.1, hX.2.1, hX.2.2.1, hX.2.2.2.1, hX.2.2.2.2⟩ (fun hHeld => ?_)
          clear hX
          generalize wr.drew = w10 at HC HLD hHeld ⊢
          refine pu_ 0 (some 59) (bA 11 1) ?_
          refine pu_ 3 (some 62) (bA 11 9) ?_
          refine pu_ 4 (some 63) (bA 11 25) ?_
          refine pu_ 5 (some 64) (bA 11 57) ?_
          refine pu_ 6 (some 65) (bA 11 121) ?_
          refine tk_ 1 (some 60) (bA 11 123) hHeld ?_
          refine pu_ 2 (some 61) (bA 11 127) ?_
          refine tk_ 7 (some 66) (bA 11 255) hHeld ?_
          refine two_ (i := 8) (j := 9) (Ni := some 67) (Nj := some 13) (bA 11 511) (bA 11 767) rfl rfl rfl rfl (by kernel_rfl) (by decide) (by decide) (fun K hK => ?_) (fun K hK => ?_)
          · skip
            refine goes_ Tryz.func8 (by kernel_rfl) rfl #[.agg #[.int .i64 kd, .int .i64 0, .slice none 0 0], .agg #[.int .i64 x.op, .string x.a, .string x.b, .int .i64 x.n]] (by rfl) rfl rfl (by (try simp only [List.map_toArray, List.map_cons, List.map_nil]); first | done | rfl | (simp only [Act.eval, Array.getD_eq_getD_getElem?, Option.getD_some, *]; done)) ?_
            with_reducible refine (HOF.out _).mono ?_
            rintro e w11 ⟨rfl, hB11⟩
            refine ⟨_, rfl, ?_⟩
            have HB11 := Z0.mk (hB11)
            clear hB11
            have hX := HC.out _ HB11.out
            refine hK.out _ _ ⟨hX.1, hX.2.1, hX.2.2.1, hX.2.2.2.1, hX.2.2.2.2⟩ (fun hHeld => ?_)
            clear hK K
            refine nm_ (some 67) ?_
            refine one_ (i := 9) (N := some 13) (bA 11 1023) rfl rfl (by kernel_rfl) (by decide) (fun K hK => ?_)
            refine value_ (w1 := ?_) (v := ?_) (by rfl) rfl ?_ ?_
            rotate_left 2
            · go_simp
              constructor
              · rfl
              · rfl
            have HB8 := Z0.mk (bal HB11.out (.cells #[.int .i64 0, .string ⟨#[]⟩, .string ⟨#[]⟩, .int .i64 0] 44))
            have HX8 := Z0.mk (blk_new w11 (.cells #[.int .i64 0, .string ⟨#[]⟩, .string ⟨#[]⟩, .int .i64 0] 44))
            have hX := HC.out _ HB8.out
            refine hK.out _ _ ⟨hX.1, hX.2.1, hX.2.2.1, hX.2.2.2.1, hX.2.2.2.2⟩ (fun hHeld => ?_)
            clear hK K
            refine nm_ (some 13) ?_
            refine last_ (i := 10) (N := none) (bA 11 2047) rfl rfl (by kernel_rfl) (by decide) (fun K hK => ?_)
            have x0 := (kcl HX8.out 0).trans rfl
            have x1 := (kcl HX8.out 1).trans rfl
            have x2 := (kcl HX8.out 2).trans rfl
            have x3 := (kcl HX8.out 3).trans rfl
            have f0 := kfr HX8.out 0
            have f1 := kfr HX8.out 1
            have f2 := kfr HX8.out 2
            have f3 := kfr HX8.out 3
            refine skip_ (w1 := ?_) (by rfl) rfl ?_ ?_
            rotate_left
            · go_simp
              rfl
            refine hK.out _ _ ?_
            clear hK K
            refine done_ (by kernel_rfl) ?_
            go_wp2
            go_meet
            exact ⟨w11.heap.size, rfl, ⟨blk_new w11 _⟩, ⟨HLD.out.step (bal HB11.out _)⟩⟩
          · skip
            refine value_ (w1 := ?_) (v := ?_) (by rfl) rfl ?_ ?_
            rotate_left 2
            · go_simp
              constructor
              · rfl
              · rfl
            have HB8 := Z0.mk (bal (Below.refl w10.heap.size w10) (.cells #[.int .i64 0, .string ⟨#[]⟩, .string ⟨#[]⟩, .int .i64 0] 44))
            have HX8 := Z0.mk (blk_new w10 (.cells #[.int .i64 0, .string ⟨#[]⟩, .string ⟨#[]⟩, .int .i64 0] 44))
            have hX := HC.out _ HB8.out
            refine hK.out _ _ ⟨hX.1, hX.2.1, hX.2.2.1, hX.2.2.2.1, hX.2.2.2.2⟩ (fun hHeld => ?_)
            clear hK K
            refine nm_ (some 13) ?_
            refine one_ (i := 8) (N := some 67) (bA 11 1023) rfl rfl (by kernel_rfl) (by decide) (fun K hK => ?_)
            refine goes_ Tryz.func8 (by kernel_rfl) rfl #[.agg #[.int .i64 kd, .int .i64 0, .slice none 0 0], .agg #[.int .i64 x.op, .string x.a, .string x.b, .int .i64 x.n]] (by rfl) rfl rfl (by (try simp only [List.map_toArray, List.map_cons, List.map_nil]); first | done | rfl | (simp only [Act.eval, Array.getD_eq_getD_getElem?, Option.getD_some, *]; done)) ?_
            with_reducible refine (HOF.out _).mono ?_
            rintro e w11 ⟨rfl, hB11⟩
            refine ⟨_, rfl, ?_⟩
            have HB11 := Z0.mk (bsp HB8.out hB11)
            have HX8b := Z0.mk (kbl HX8.out hB11)
            clear hB11
            have hX := HC.out _ HB11.out
            refine hK.out _ _ ⟨hX.1, hX.2.1, hX.2.2.1, hX.2.2.2.1, hX.2.2.2.2⟩ (fun hHeld => ?_)
            clear hK K
            refine nm_ (some 67) ?_
            refine last_ (i := 10) (N := none) (bA 11 2047) rfl rfl (by kernel_rfl) (by decide) (fun K hK => ?_)
            have x0 := (kcl HX8b.out 0).trans rfl
            have x1 := (kcl HX8b.out 1).trans rfl
            have x2 := (kcl HX8b.out 2).trans rfl
            have x3 := (kcl HX8b.out 3).trans rfl
            have f0 := kfr HX8b.out 0
            have f1 := kfr HX8b.out 1
            have f2 := kfr HX8b.out 2
            have f3 := kfr HX8b.out 3
            refine skip_ (w1 := ?_) (by rfl) rfl ?_ ?_
            rotate_left
            · go_simp
              rfl
            refine hK.out _ _ ?_
            clear hK K
            refine done_ (by kernel_rfl) ?_
            go_wp2
            go_meet
            exact ⟨w10.heap.size, rfl, ⟨(set4_new rfl HB11.out HX8b.out _ _ _ _).2⟩, ⟨HLD.out.step (set4_new rfl HB11.out HX8b.out _ _ _ _).1⟩⟩
        case rest =>
          obtain ⟨g13, rfl, HB13, HLO2⟩ := hcut
          clear HLO HOF a0 y3 y4 y5 y6
          have y0 := (kcl HB13.out 0).trans rfl
          have y1 := (kcl HB13.out 1).trans rfl
          have y2 := (kcl HB13.out 2).trans rfl
          have y3 := (kcl HB13.out 3).trans rfl
          go_upto_region 15 with ((with_reducible refine gds (N := 14) rfl ?_); refine bx_ (N := 14) (cs := #[.int .i64 0, .string ⟨#[]⟩, .string ⟨#[]⟩, .int .i64 0]) (t := 38) ?_; intro g14 hg w12 hbox hb; have HGX := Z0.mk hg; have HBX := Z0.mk hbox; have HBB := Z0.mk hb; clear hg hbox hb; have x0 := (kcl HBX.out 0).trans rfl; have f0 := kfr HBX.out 0; have x1 := (kcl HBX.out 1).trans rfl; have f1 := kfr HBX.out 1; have x2 := (kcl HBX.out 2).trans rfl; have f2 := kfr HBX.out 2; have x3 := (kcl HBX.out 3).trans rfl; have f3 := kfr HBX.out 3)
          have h14 := set4_new HGX.out HBB.out HBX.out (.int .i64 o) (.string a) (.string b1) (.int .i64 cn)
          generalize ((((w12.setCell ⟨g14, 0, none⟩ (.int .i64 o)).setCell ⟨g14, 1, none⟩ (.string a)).setCell ⟨g14, 2, none⟩ (.string b1)).setCell ⟨g14, 3, none⟩ (.int .i64 cn)) = w13 at h14 ⊢
          have HLO3 := Z0.mk (HLO2.out.step h14.1)
          have HB14 := Z0.mk h14.2
          clear h14 HGX HBB HBX x0 x1 x2 x3 f0 f1 f2 f3 HLO2 y0 y1 y2 y3 HB13
          have HLX := HLO3
          have HBX14 := HB14
          have hst := HLM.out.ok hi HK4.out HOK.out
          obtain ⟨st, hst0⟩ : ∃ st, st = runS kd (n1, xs0) (ls.getD k []) := ⟨_, rfl⟩
          rw [← hst0] at hst
          have HS0 := Z0.mk hst0
          obtain ⟨nk, xk⟩ := st
          dsimp only at hst
          have hxl : xk.length < 1000 := by have := hst.len; omega
          obtain ⟨l, hl1, hl2, hl3⟩ := ans_f kd nk xk o a b1 cn (by omega) hst.k1 (fun _ => hst.uq)
          obtain ⟨kA, hA⟩ := Ev.rounds hl1
          have HAN := Z0.mk hl3
          have HA := Z0.mk hA
          have HLL := Z0.mk (show l.length ≤ 1001 by omega)
          have HXL := Z0.mk hxl
          have hm7 : l.length ≤ 1001 := HLL.out
          go_cut [83, 84, 85] (fun v83 v84 v85 wc => ∃ A16 c16, v83 = .slice A16 l.length c16 ∧ v84 = .int .i64 (l.length : Int) ∧ v85 = .int .i64 0 ∧ Z0 (Kd.C k40 wc A16 l.length l) ∧ Z0 (wc.heap[g14]? = some (.cells #[.int .i64 o, .string a, .string b1, .int .i64 cn] 38 (0, 0))) ∧ Z0 (LO w wc q7 q8 p b L kd #[.int .i64 kd, .int .i64 n1, .slice A5 ys.length c5] n1 (.slice A6 xs0.length c6) xs0 vs ls H))
          case first =>
            obtain ⟨Ak, ck, hvk, hck, hCk⟩ := Kd.R_reads (HLO3.out.rl k HK4.out)
            obtain ⟨Ab, cb, hvb, hcb, hCb⟩ := Kd.R_reads HLO3.out.rb
            injection hvb with hb1 hb2 hb3
            subst hb1
            subst hb3
            have hlen := lens_getD ls k
            have HVW := Z0.mk (show ∀ W1, Below w13.drew.heap.size w13.drew W1 → Calls Tryz.prog 10 #[.pointer (some ⟨L, k, none⟩), .string ⟨#[120]⟩, .agg #[.int .i64 kd, .int .i64 n1, .slice A6 xs0.length c6]] W1 (fun e w' => ∃ v : Value, e = .returned (.agg #[.int .i64 kd, .int .i64 nk, v]) ∧ Rd W1 w' v xk ∧ Below W1.heap.size W1 w') from fun W1 hB => by
              have hes : ((ls.getD k []).map (entOf objX)).map stpE = ls.getD k [] := by
                rw [List.map_map]
                exact List.map_id' _
              have hcell : W1.cell? ⟨L, k, none⟩ = some (.slice Ak ((ls.getD k []).map (entOf objX)).length ck) := by
                rw [← hvk]
                exact pcb_ hB ((kcl (kdw HLO3.out.bL) k).trans (HLO3.out.at_ HK4.out))
              have h := listViewO.calls L k ⟨#[120]⟩ kd n1 A6 c6 xs0 Ak ck ((ls.getD k []).map (entOf objX)) W1 (fun e he => by obtain ⟨y, -, rfl⟩ := List.mem_map.1 he; rfl) (Kd.C_below (Kd.C_drew hCk) hB) hcell (Kd.C_below (Kd.C_drew hCb) hB) hcb (by rw [List.length_map]; have := HLM.out.sum; have := HOK.out.len; omega)
              rw [hes, runR_runS, ← HS0.out] at h
              exact h)
            clear hvk hck hCk hcb hCb hlen hb2
            have hX : w13.drew.cell? ⟨q8, 0, none⟩ = some (.int .i64 kd) ∧ w13.drew.cell? ⟨q8, 1, none⟩ = some (.int .i64 n1) ∧ w13.drew.cell? ⟨q8, 2, none⟩ = some (.slice A6 xs0.length c6) ∧ w13.drew.cell? ⟨g14, 0, none⟩ = some (.int .i64 o) ∧ w13.drew.cell? ⟨g14, 1, none⟩ = some (.string a) ∧ w13.drew.cell? ⟨g14, 2, none⟩ = some (.string b1) ∧ w13.drew.cell? ⟨g14, 3, none⟩ = some (.int .i64 cn) := ⟨(kcl HLO3.out.b8 0).trans rfl, (kcl HLO3.out.b8 1).trans rfl, (kcl HLO3.out.b8 2).trans rfl, (kcl HB14.out 0).trans rfl, (kcl HB14.out 1).trans rfl, (kcl HB14.out 2).trans rfl, (kcl HB14.out 3).trans rfl⟩
            have HXB := Z0.mk (show ∀ W1, Below w13.drew.heap.size w13.drew W1 → W1.cell? ⟨q8, 0, none⟩ = some (.int .i64 kd) ∧ W1.cell? ⟨q8, 1, none⟩ = some (.int .i64 n1) ∧ W1.cell? ⟨q8, 2, none⟩ = some (.slice A6 xs0.length c6) ∧ W1.cell? ⟨g14, 0, none⟩ = some (.int .i64 o) ∧ W1.cell? ⟨g14, 1, none⟩ = some (.string a) ∧ W1.cell? ⟨g14, 2, none⟩ = some (.string b1) ∧ W1.cell? ⟨g14, 3, none⟩ = some (.int .i64 cn) from fun W1 h => ⟨pcb_ h hX.1, pcb_ h hX.2.1, pcb_ h hX.2.2.1, pcb_ h hX.2.2.2.1, pcb_ h hX.2.2.2.2.1, pcb_ h hX.2.2.2.2.2.1, pcb_ h hX.2.2.2.2.2.2⟩)
            have HLD := Z0.mk (HLO3.out.step (below_drew (Below.refl _ _)))
            have HBD := Z0.mk (kdw HB14.out)
            have HBz := Z0.mk (Below.refl w13.drew.heap.size w13.drew)
            refine start_ (n := 9) (S := fun w' => w'.cell? ⟨q8, 0, none⟩ = some (.int .i64 kd) ∧ w'.cell? ⟨q8, 1, none⟩ = some (.int .i64 n1) ∧ w'.cell? ⟨q8, 2, none⟩ = some (.slice A6 xs0.length c6) ∧ w'.cell? ⟨g14, 0, none⟩ = some (.int .i64 o) ∧ w'.cell? ⟨g14, 1, none⟩ = some (.string a) ∧ w'.cell? ⟨g14, 2, none⟩ = some (.string b1) ∧ w'.cell? ⟨g14, 3, none⟩ = some (.int .i64 cn)) (ds := []) #[false,false,false,false,false,false,false,false,false] (by kernel_rfl) rfl rfl ⟨hX.1, hX.2.1, hX.2.2.1, hX.2.2.2.1, hX.2.2.2.2.1, hX.2.2.2.2.2.1, hX.2.2.2.2.2.2⟩ (fun hHeld => ?_)
            clear hX
            generalize w13.drew = w14 at HXB HVW HLD HBD HBz hHeld ⊢
            refine pu_ 0 (some 77) (bA 9 1) ?_
            refine pu_ 1 (some 78) (bA 9 3) ?_
            refine pu_ 2 (some 79) (bA 9 7) ?_
            refine pu_ 8 (some 85) (bA 9 263) ?_
            refine tk_ 3 (some 80) (bA 9 271) hHeld ?_
            refine tk_ 5 (some 82) (bA 9 303) hHeld ?_
            refine one_ (i := 4) (N := some 81) (bA 9 319) rfl rfl (by kernel_rfl) (by decide) (fun K hK => ?_)
            refine goes_ Tryz.func10 (by kernel_rfl) rfl #[.pointer (some ⟨L, k, none⟩), .string ⟨#[120]⟩, .agg #[.int .i64 kd, .int .i64 n1, .slice A6 xs0.length c6]] (by rfl) rfl rfl (by (try simp only [List.map_toArray, List.map_cons, List.map_nil]); first | done | rfl | (simp only [Act.eval, Array.getD_eq_getD_getElem?, Option.getD_some, *]; done)) ?_
            with_reducible refine (HVW.out _ HBz.out).mono ?_
            rintro e w15 ⟨v15, rfl, hR15, hB15⟩
            refine ⟨_, rfl, ?_⟩
            obtain ⟨A15, c15, hv15, hc15, hC15⟩ := hR15.here hB15
            subst hv15
            have HB15 := Z0.mk hB15
            have HC15 := Z0.mk hC15
            have Hc15 := Z0.mk hc15
            clear hR15 hB15 hc15 hC15
            have hX := HXB.out _ HB15.out
            refine hK.out _ _ ⟨hX.1, hX.2.1, hX.2.2.1, hX.2.2.2.1, hX.2.2.2.2.1, hX.2.2.2.2.2.1, hX.2.2.2.2.2.2⟩ (fun hHeld => ?_)
            clear hK K
            refine nm_ (some 81) ?_
            refine one_ (i := 6) (N := some 83) (bA 9 383) rfl rfl (by kernel_rfl) (by decide) (fun K hK => ?_)
            refine goes_ Tryz.func9 (by kernel_rfl) rfl #[.agg #[.int .i64 kd, .int .i64 nk, .slice A15 xk.length c15], .agg #[.int .i64 o, .string a, .string b1, .int .i64 cn]] (by rfl) rfl rfl (by (try simp only [List.map_toArray, List.map_cons, List.map_nil]); first | done | rfl | (simp only [Act.eval, Array.getD_eq_getD_getElem?, Option.getD_some, *]; done)) ?_
            with_reducible refine (adt_Answers.calls kA kd nk A15 c15 xk o a b1 cn l _ HC15.out Hc15.out HA.out).mono ?_
            rintro e w16 ⟨v16, rfl, hR16, hB16⟩
            refine ⟨_, rfl, ?_⟩
            obtain ⟨A16, c16, hv16, hc16, hC16⟩ := Kd.R_reads hR16
            subst hv16
            have HB16 := Z0.mk (bsp HB15.out hB16)
            have HC16 := Z0.mk hC16
            clear hR16 hB16 hc16 hC16 hX
            have hX := HXB.out _ HB16.out
            refine hK.out _ _ ⟨hX.1, hX.2.1, hX.2.2.1, hX.2.2.2.1, hX.2.2.2.2.1, hX.2.2.2.2.2.1, hX.2.2.2.2.2.2⟩ (fun hHeld => ?_)
            clear hK K
            refine nm_ (some 83) ?_
            refine pu_ 7 (some 84) (bA 9 511) ?_
            refine done_ (by kernel_rfl) ?_
            go_wp2
            go_meet
            exact ⟨_, _, rfl, rfl, rfl, HC16, ⟨kbl HBD.out HB16.out⟩, ⟨HLD.out.step HB16.out⟩⟩
          case rest =>
            obtain ⟨A16, c16, rfl, rfl, rfl, HC16, HB14, HLO⟩ := hcut
            clear HLO3 HLX HBX14 HA
            have HCQ := Z0.mk (show CallOk o a b1 cn from HCO.out)
            go_wp2_with fail
            go_loopw [85] (fun v85 wr => ∃ j : Nat, v85 = .int .i64 j ∧ j ≤ l.length ∧ Z0 (Kd.C k40 wr A16 l.length l) ∧ Z0 (wr.heap[g14]? = some (.cells #[.int .i64 o, .string a, .string b1, .int .i64 cn] 38 (0, 0))) ∧ Z0 (LO w wr q7 q8 p b L kd #[.int .i64 kd, .int .i64 n1, .slice A5 ys.length c5] n1 (.slice A6 xs0.length c6) xs0 vs ls H)) (fun v85 _ => l.length - (intOf v85).toNat)
            case atStart => exact ⟨0, rfl, Nat.zero_le _, HC16, HB14, HLO⟩
            case round =>
              clear HC16 HB14 HLO
              obtain ⟨j, rfl, hj, HC16, HB14, HLO⟩ := hrel
              by_cases q4 : j < l.length
              rotate_left
              · have HLM2 := Z0.mk (HLM.out.skip (Nat.le_succ i))
                have i2 : (i : Int) + 1 ≤ 24 := by omega
                clear HAN
                go_wp2
                go_roundw
                case rel => exact ⟨i + 1, _, _, _, by go_num, by omega, HLO, HLM2⟩
                case measure => simp [intOf]; omega
              obtain ⟨rr, hrr⟩ : ∃ rr, rr = l.getD j z40 := ⟨_, rfl⟩
              have hrm : rr ∈ l := by rw [hrr, List.getD_eq_getElem?_getD, List.getElem?_eq_getElem q4]; exact List.getElem_mem q4
              obtain ⟨r0, r1, r2⟩ := rr
              have HLEG := Z0.mk (show Leg kd nk xk ⟨o, a, b1, cn, r0, r1, r2⟩ from (HAN.out r0 r1 r2).1 hrm)
              have s0 : (0 : Int) ≤ (j : Int) := by omega
              have s1 : (j : Int) < (l.length : Int) := by omega
              have s2 : (j : Int) < 2000 := by omega
              obtain ⟨ad16, e16, z0, z1, z2⟩ := at_T40 HC16.out (j : Int) s0 s1
              subst e16
              have hrd : rd_T40 l (j : Int) = (⟨r0, r1, r2⟩ : S40) := by rw [hrr]; rfl
              rw [hrd] at z0 z1 z2
              rw [Int.toNat_natCast] at z0 z1 z2
              clear hrr hrm hrd
              go_upto_region 18 with ((with_reducible refine gds (N := 16) rfl ?_); refine bx_ (N := 16) (cs := #[.int .i64 0, .string ⟨#[]⟩, .int .i64 0]) (t := 40) ?_; intro g16 hg w17 hbox hb; have HGX := Z0.mk hg; have HBX := Z0.mk hbox; have HBB := Z0.mk hb; clear hg hbox hb; have x0 := (kcl HBX.out 0).trans rfl; have f0 := kfr HBX.out 0; have x1 := (kcl HBX.out 1).trans rfl; have f1 := kfr HBX.out 1; have x2 := (kcl HBX.out 2).trans rfl; have f2 := kfr HBX.out 2)
              have h16 := set3_new HGX.out HBB.out HBX.out (.int .i64 r0) (.string r1) (.int .i64 r2)
              generalize (((w17.setCell ⟨g16, 0, none⟩ (.int .i64 r0)).setCell ⟨g16, 1, none⟩ (.string r1)).setCell ⟨g16, 2, none⟩ (.int .i64 r2)) = w18 at h16 ⊢
              have HLOb := Z0.mk (HLO.out.step h16.1)
              have HB14b := Z0.mk (kbl HB14.out h16.1)
              have HC16b := Z0.mk (Kd.C_below HC16.out h16.1)
              have HB16 := Z0.mk h16.2
              clear h16 HGX HBB HBX x0 x1 x2 f0 f1 f2 z0 z1 z2 HLO HB14 HC16
              have y0 := (kcl HB14b.out 0).trans rfl
              have y1 := (kcl HB14b.out 1).trans rfl
              have y2 := (kcl HB14b.out 2).trans rfl
              have y3 := (kcl HB14b.out 3).trans rfl
              have z0 := (kcl HB16.out 0).trans rfl
              have z1 := (kcl HB16.out 1).trans rfl
              have z2 := (kcl HB16.out 2).trans rfl
              go_upto_region 19 with ((with_reducible refine gds (N := 17) rfl ?_); refine bx_ (N := 17) (cs := #[.int .i64 0, .string ⟨#[]⟩, .string ⟨#[]⟩, .int .i64 0, .int .i64 0, .string ⟨#[]⟩, .int .i64 0]) (t := 53) ?_; intro g17 hg w19 hbox hb; have HGX := Z0.mk hg; have HBX := Z0.mk hbox; have HBB := Z0.mk hb; clear hg hbox hb; have x0 := (kcl HBX.out 0).trans rfl; have f0 := kfr HBX.out 0; have x1 := (kcl HBX.out 1).trans rfl; have f1 := kfr HBX.out 1; have x2 := (kcl HBX.out 2).trans rfl; have f2 := kfr HBX.out 2; have x3 := (kcl HBX.out 3).trans rfl; have f3 := kfr HBX.out 3; have x4 := (kcl HBX.out 4).trans rfl; have f4 := kfr HBX.out 4; have x5 := (kcl HBX.out 5).trans rfl; have f5 := kfr HBX.out 5; have x6 := (kcl HBX.out 6).trans rfl; have f6 := kfr HBX.out 6)
              have h17 := set7_new HGX.out HBB.out HBX.out (.int .i64 o) (.string a) (.string b1) (.int .i64 cn) (.int .i64 r0) (.string r1) (.int .i64 r2)
              generalize (((((((w19.setCell ⟨g17, 0, none⟩ (.int .i64 o)).setCell ⟨g17, 1, none⟩ (.string a)).setCell ⟨g17, 2, none⟩ (.string b1)).setCell ⟨g17, 3, none⟩ (.int .i64 cn)).setCell ⟨g17, 4, none⟩ (.int .i64 r0)).setCell ⟨g17, 5, none⟩ (.string r1)).setCell ⟨g17, 6, none⟩ (.int .i64 r2)) = w20 at h17 ⊢
              have HLO := Z0.mk (HLOb.out.step h17.1)
              have HB14 := Z0.mk (kbl HB14b.out h17.1)
              have HC16 := Z0.mk (Kd.C_below HC16b.out h17.1)
              have HB17 := Z0.mk h17.2
              clear h17 HGX HBB HBX x0 x1 x2 x3 x4 x5 x6 f0 f1 f2 f3 f4 f5 f6 y0 y1 y2 y3 z0 z1 z2 HLOb HB14b HC16b HB16
              have n1_ := Z0.mk (HLO.out.step (below_drew (Below.refl _ _)))
              have n2_ := Z0.mk (kdw HB14.out)
              have n3_ := Z0.mk (Kd.C_drew HC16.out)
              have n4_ := Z0.mk (kdw HB17.out)
              clear HLO HB14 HC16 HB17
              have HLO := n1_
              have HB14 := n2_
              have HC16 := n3_
              have HB17 := n4_
              clear n1_ n2_ n3_ n4_
              have hjn : wrap64 ((j : Int) + 1) = (j : Int) + 1 := by unfold wrap64; omega
              have HJN := Z0.mk hjn
              clear hjn
              cases hbk : blkR H (k : Int) ⟨o, a, b1, cn, r0, r1, r2⟩
              rotate_left
              · have HBK := Z0.mk hbk
                clear hbk
                have HPK := Z0.mk (show ∀ W0, (LO w W0 q7 q8 p b L kd #[.int .i64 kd, .int .i64 n1, .slice A5 ys.length c5] n1 (.slice A6 xs0.length c6) xs0 vs ls H) → ∀ g, W0.heap[g]? = some (.cells #[.int .i64 o, .string a, .string b1, .int .i64 cn, .int .i64 r0, .string r1, .int .i64 r2] 53 (0, 0)) → Calls Tryz.prog 11 #[.pointer (some ⟨p, 0, none⟩), .string ⟨#[120]⟩, .int .i64 (k : Int), .slice (some ⟨g, 0, none⟩) 1 1] W0 (fun e w' => e = .returned (.int .i64 (-1)) ∧ Below W0.heap.size W0 w') from fun W0 h g hg => pick.calls p b objX H (k : Int) ⟨o, a, b1, cn, r0, r1, r2⟩ (some ⟨g, 0, none⟩) 1 W0 h.tb.tb (by have := HLM.out.hl; omega) (one_Stp (s := ⟨o, a, b1, cn, r0, r1, r2⟩) hg) false (by rw [HBK.out]; rfl))
                refine start_ (n := 14) (S := fun w' => w'.cell? ⟨g17, 0, none⟩ = some (.int .i64 o) ∧ w'.cell? ⟨g17, 1, none⟩ = some (.string a) ∧ w'.cell? ⟨g17, 2, none⟩ = some (.string b1) ∧ w'.cell? ⟨g17, 3, none⟩ = some (.int .i64 cn) ∧ w'.cell? ⟨g17, 4, none⟩ = some (.int .i64 r0) ∧ w'.cell? ⟨g17, 5, none⟩ = some (.string r1) ∧ w'.cell? ⟨g17, 6, none⟩ = some (.int .i64 r2)) (ds := []) #[false,false,false,false,false,false,false,false,false,false,false,false,false,false] (by kernel_rfl) rfl rfl ⟨(kcl HB17.out 0).trans rfl, (kcl HB17.out 1).trans rfl, (kcl HB17.out 2).trans rfl, (kcl HB17.out 3).trans rfl, (kcl HB17.out 4).trans rfl, (kcl HB17.out 5).trans rfl, (kcl HB17.out 6).trans rfl⟩ (fun hHeld => ?_)
                generalize w20.drew = w21 at HLO HB14 HC16 HB17 hHeld ⊢
                refine pu_ 0 (some 92) (bA 14 1) ?_
                refine pu_ 1 (some 93) (bA 14 3) ?_
                refine tk_ 2 (some 94) (bA 14 7) hHeld ?_
                refine one_ (i := 3) (N := some 95) (bA 14 15) rfl rfl (by kernel_rfl) (by decide) (fun K hK => ?_)
                refine value_ (w1 := ?_) (v := ?_) (by rfl) rfl ?_ ?_
                rotate_left 2
                · go_simp
                  constructor
                  · rfl
                  · rfl
                have HB22 := Z0.mk (bal (Below.refl w21.heap.size w21) (.cells #[.int .i64 o, .string a, .string b1, .int .i64 cn, .int .i64 r0, .string r1, .int .i64 r2] 53))
                have HX22 := Z0.mk (blk_new w21 (.cells #[.int .i64 o, .string a, .string b1, .int .i64 cn, .int .i64 r0, .string r1, .int .i64 r2] 53))
                refine hK.out _ _ ⟨(kcl (kal HB17.out _) 0).trans rfl, (kcl (kal HB17.out _) 1).trans rfl, (kcl (kal HB17.out _) 2).trans rfl, (kcl (kal HB17.out _) 3).trans rfl, (kcl (kal HB17.out _) 4).trans rfl, (kcl (kal HB17.out _) 5).trans rfl, (kcl (kal HB17.out _) 6).trans rfl⟩ (fun hHeld => ?_)
                clear hK K
                refine nm_ (some 95) ?_
                refine one_ (i := 4) (N := some 96) (bA 14 31) rfl rfl (by kernel_rfl) (by decide) (fun K hK => ?_)
                refine goes_ Tryz.func11 (by kernel_rfl) rfl #[.pointer (some ⟨p, 0, none⟩), .string ⟨#[120]⟩, .int .i64 (k : Int), .slice (some ⟨w21.heap.size, 0, none⟩) 1 1] (by rfl) rfl rfl (by (try simp only [List.map_toArray, List.map_cons, List.map_nil]); first | done | rfl | (simp only [Act.eval, Array.getD_eq_getD_getElem?, Option.getD_some, *]; done)) ?_
                with_reducible refine (HPK.out _ (HLO.out.step HB22.out) _ HX22.out).mono ?_
                rintro e w23 ⟨rfl, hB23⟩
                refine ⟨_, rfl, ?_⟩
                have HB23 := Z0.mk (bsp HB22.out hB23)
                have HB17e := Z0.mk (kbl HB17.out HB23.out)
                clear hB23
                refine hK.out _ _ ⟨(kcl HB17e.out 0).trans rfl, (kcl HB17e.out 1).trans rfl, (kcl HB17e.out 2).trans rfl, (kcl HB17e.out 3).trans rfl, (kcl HB17e.out 4).trans rfl, (kcl HB17e.out 5).trans rfl, (kcl HB17e.out 6).trans rfl⟩ (fun hHeld => ?_)
                clear hK K
                refine nm_ (some 96) ?_
                refine pu_ 5 (some 97) (bA 14 63) ?_
                refine pu_ 6 (some 98) (bA 14 127) ?_
                refine pn_ 7 (some 99) (bA 14 255) ?_
                refine pn_ 8 (some 100) (bA 14 511) ?_
                refine pn_ 9 (some 101) (bA 14 1023) ?_
                refine pn_ 10 (some 102) (bA 14 2047) ?_
                refine pn_ 11 (some 103) (bA 14 4095) ?_
                refine pn_ 12 (some 104) (bA 14 8191) ?_
                refine pu_ 13 (some 105) (bA 14 16383) ?_
                refine done_ (by kernel_rfl) ?_
                have hjn := HJN.out
                go_wp2
                clear hjn
                go_roundw
                case rel => exact ⟨j + 1, by go_num, q4, ⟨Kd.C_below HC16.out HB23.out⟩, ⟨kbl HB14.out HB23.out⟩, ⟨HLO.out.step HB23.out⟩⟩
                case measure => simp [intOf]; omega
              · have HBK := Z0.mk hbk
                clear hbk
                have HPK := Z0.mk (show ∀ W0, (LO w W0 q7 q8 p b L kd #[.int .i64 kd, .int .i64 n1, .slice A5 ys.length c5] n1 (.slice A6 xs0.length c6) xs0 vs ls H) → ∀ g, W0.heap[g]? = some (.cells #[.int .i64 o, .string a, .string b1, .int .i64 cn, .int .i64 r0, .string r1, .int .i64 r2] 53 (0, 0)) → Calls Tryz.prog 11 #[.pointer (some ⟨p, 0, none⟩), .string ⟨#[120]⟩, .int .i64 (k : Int), .slice (some ⟨g, 0, none⟩) 1 1] W0 (fun e w' => e = .returned (.int .i64 (0)) ∧ Below W0.heap.size W0 w') from fun W0 h g hg => pick.calls p b objX H (k : Int) ⟨o, a, b1, cn, r0, r1, r2⟩ (some ⟨g, 0, none⟩) 1 W0 h.tb.tb (by have := HLM.out.hl; omega) (one_Stp (s := ⟨o, a, b1, cn, r0, r1, r2⟩) hg) true (by rw [HBK.out]; rfl))
                by_cases q5 : (ls.getD k []).length < 12
                rotate_left
                · have HAD := Z0.mk (show ∀ W0, (LO w W0 q7 q8 p b L kd #[.int .i64 kd, .int .i64 n1, .slice A5 ys.length c5] n1 (.slice A6 xs0.length c6) xs0 vs ls H) → Calls Tryz.prog 12 #[.pointer (some ⟨L, k, none⟩), .string ⟨#[120]⟩, .agg #[.int .i64 o, .string a, .string b1, .int .i64 cn, .int .i64 r0, .string r1, .int .i64 r2]] W0 (fun e w' => e = .returned (.int .i64 7) ∧ Below W0.heap.size W0 w') from fun W0 h => by
                    obtain ⟨A9, c9, h9⟩ := Kd.R_slice (h.rl k HK4.out)
                    exact listAddFull.calls L k (vs.getD k undef) vs.toArray ((ls.getD k []).map (entOf objX)) A9 c9 ⟨#[120]⟩ ⟨o, a, b1, cn, r0, r1, r2⟩ W0 h9 h.bL (h.at_ HK4.out) (by rw [List.length_map]; omega))
                  clear q5
                  refine start_ (n := 14) (S := fun w' => w'.cell? ⟨g17, 0, none⟩ = some (.int .i64 o) ∧ w'.cell? ⟨g17, 1, none⟩ = some (.string a) ∧ w'.cell? ⟨g17, 2, none⟩ = some (.string b1) ∧ w'.cell? ⟨g17, 3, none⟩ = some (.int .i64 cn) ∧ w'.cell? ⟨g17, 4, none⟩ = some (.int .i64 r0) ∧ w'.cell? ⟨g17, 5, none⟩ = some (.string r1) ∧ w'.cell? ⟨g17, 6, none⟩ = some (.int .i64 r2)) (ds := []) #[false,false,false,false,false,false,false,false,false,false,false,false,false,false] (by kernel_rfl) rfl rfl ⟨(kcl HB17.out 0).trans rfl, (kcl HB17.out 1).trans rfl, (kcl HB17.out 2).trans rfl, (kcl HB17.out 3).trans rfl, (kcl HB17.out 4).trans rfl, (kcl HB17.out 5).trans rfl, (kcl HB17.out 6).trans rfl⟩ (fun hHeld => ?_)
                  generalize w20.drew = w21 at HLO HB14 HC16 HB17 hHeld ⊢
                  refine pu_ 0 (some 92) (bA 14 1) ?_
                  refine pu_ 1 (some 93) (bA 14 3) ?_
                  refine tk_ 2 (some 94) (bA 14 7) hHeld ?_
                  refine one_ (i := 3) (N := some 95) (bA 14 15) rfl rfl (by kernel_rfl) (by decide) (fun K hK => ?_)
                  refine value_ (w1 := ?_) (v := ?_) (by rfl) rfl ?_ ?_
                  rotate_left 2
                  · go_simp
                    constructor
                    · rfl
                    · rfl
                  have HB22 := Z0.mk (bal (Below.refl w21.heap.size w21) (.cells #[.int .i64 o, .string a, .string b1, .int .i64 cn, .int .i64 r0, .string r1, .int .i64 r2] 53))
                  have HX22 := Z0.mk (blk_new w21 (.cells #[.int .i64 o, .string a, .string b1, .int .i64 cn, .int .i64 r0, .string r1, .int .i64 r2] 53))
                  refine hK.out _ _ ⟨(kcl (kal HB17.out _) 0).trans rfl, (kcl (kal HB17.out _) 1).trans rfl, (kcl (kal HB17.out _) 2).trans rfl, (kcl (kal HB17.out _) 3).trans rfl, (kcl (kal HB17.out _) 4).trans rfl, (kcl (kal HB17.out _) 5).trans rfl, (kcl (kal HB17.out _) 6).trans rfl⟩ (fun hHeld => ?_)
                  clear hK K
                  refine nm_ (some 95) ?_
                  refine one_ (i := 4) (N := some 96) (bA 14 31) rfl rfl (by kernel_rfl) (by decide) (fun K hK => ?_)
                  refine goes_ Tryz.func11 (by kernel_rfl) rfl #[.pointer (some ⟨p, 0, none⟩), .string ⟨#[120]⟩, .int .i64 (k : Int), .slice (some ⟨w21.heap.size, 0, none⟩) 1 1] (by rfl) rfl rfl (by (try simp only [List.map_toArray, List.map_cons, List.map_nil]); first | done | rfl | (simp only [Act.eval, Array.getD_eq_getD_getElem?, Option.getD_some, *]; done)) ?_
                  with_reducible refine (HPK.out _ (HLO.out.step HB22.out) _ HX22.out).mono ?_
                  rintro e w23 ⟨rfl, hB23⟩
                  refine ⟨_, rfl, ?_⟩
                  have HB23 := Z0.mk (bsp HB22.out hB23)
                  have HB17e := Z0.mk (kbl HB17.out HB23.out)
                  clear hB23
                  refine hK.out _ _ ⟨(kcl HB17e.out 0).trans rfl, (kcl HB17e.out 1).trans rfl, (kcl HB17e.out 2).trans rfl, (kcl HB17e.out 3).trans rfl, (kcl HB17e.out 4).trans rfl, (kcl HB17e.out 5).trans rfl, (kcl HB17e.out 6).trans rfl⟩ (fun hHeld => ?_)
                  clear hK K
                  refine nm_ (some 96) ?_
                  refine pu_ 5 (some 97) (bA 14 63) ?_
                  refine pu_ 6 (some 98) (bA 14 127) ?_
                  refine pu_ 7 (some 99) (bA 14 255) ?_
                  refine pu_ 8 (some 100) (bA 14 511) ?_
                  refine pu_ 9 (some 101) (bA 14 1023) ?_
                  refine tk_ 10 (some 102) (bA 14 2047) hHeld ?_
                  refine one_ (i := 11) (N := some 103) (bA 14 4095) rfl rfl (by kernel_rfl) (by decide) (fun K hK => ?_)
                  refine goes_ Tryz.func12 (by kernel_rfl) rfl #[.pointer (some ⟨L, k, none⟩), .string ⟨#[120]⟩, .agg #[.int .i64 o, .string a, .string b1, .int .i64 cn, .int .i64 r0, .string r1, .int .i64 r2]] (by rfl) rfl rfl (by (try simp only [List.map_toArray, List.map_cons, List.map_nil]); first | done | rfl | (simp only [Act.eval, Array.getD_eq_getD_getElem?, Option.getD_some, *]; done)) ?_
                  with_reducible refine (HAD.out _ (HLO.out.step HB23.out)).mono ?_
                  rintro e w24 ⟨rfl, hB24⟩
                  refine ⟨_, rfl, ?_⟩
                  have HB24 := Z0.mk (bsp HB23.out hB24)
                  have HB17f := Z0.mk (kbl HB17.out HB24.out)
                  clear hB24
                  refine hK.out _ _ ⟨(kcl HB17f.out 0).trans rfl, (kcl HB17f.out 1).trans rfl, (kcl HB17f.out 2).trans rfl, (kcl HB17f.out 3).trans rfl, (kcl HB17f.out 4).trans rfl, (kcl HB17f.out 5).trans rfl, (kcl HB17f.out 6).trans rfl⟩ (fun hHeld => ?_)
                  clear hK K
                  refine nm_ (some 103) ?_
                  refine pu_ 12 (some 104) (bA 14 8191) ?_
                  refine pu_ 13 (some 105) (bA 14 16383) ?_
                  refine done_ (by kernel_rfl) ?_
                  have hjn := HJN.out
                  go_wp2
                  clear hjn
                  go_roundw
                  case rel => exact ⟨j + 1, by go_num, q4, ⟨Kd.C_below HC16.out HB24.out⟩, ⟨kbl HB14.out HB24.out⟩, ⟨HLO.out.step HB24.out⟩⟩
                  case measure => simp [intOf]; omega
                · have HAD := Z0.mk (show ∀ W0, (LO w W0 q7 q8 p b L kd #[.int .i64 kd, .int .i64 n1, .slice A5 ys.length c5] n1 (.slice A6 xs0.length c6) xs0 vs ls H) → Calls Tryz.prog 12 #[.pointer (some ⟨L, k, none⟩), .string ⟨#[120]⟩, .agg #[.int .i64 o, .string a, .string b1, .int .i64 cn, .int .i64 r0, .string r1, .int .i64 r2]] W0 _ from fun W0 h => listAddO.calls L k (vs.getD k undef) vs.toArray ((ls.getD k []).map (entOf objX)) ⟨#[120]⟩ ⟨o, a, b1, cn, r0, r1, r2⟩ w W0 h.below h.bL (h.at_ HK4.out) (h.rl k HK4.out) (by rw [List.length_map]; exact q5))
                  clear q5
                  refine start_ (n := 14) (S := fun w' => w'.cell? ⟨g17, 0, none⟩ = some (.int .i64 o) ∧ w'.cell? ⟨g17, 1, none⟩ = some (.string a) ∧ w'.cell? ⟨g17, 2, none⟩ = some (.string b1) ∧ w'.cell? ⟨g17, 3, none⟩ = some (.int .i64 cn) ∧ w'.cell? ⟨g17, 4, none⟩ = some (.int .i64 r0) ∧ w'.cell? ⟨g17, 5, none⟩ = some (.string r1) ∧ w'.cell? ⟨g17, 6, none⟩ = some (.int .i64 r2)) (ds := [11]) #[false,false,false,false,false,false,false,false,false,false,false,false,false,false] (by kernel_rfl) rfl rfl ⟨(kcl HB17.out 0).trans rfl, (kcl HB17.out 1).trans rfl, (kcl HB17.out 2).trans rfl, (kcl HB17.out 3).trans rfl, (kcl HB17.out 4).trans rfl, (kcl HB17.out 5).trans rfl, (kcl HB17.out 6).trans rfl⟩ (fun hHeld => ?_)
                  generalize w20.drew = w21 at HLO HB14 HC16 HB17 hHeld ⊢
                  refine pu_ 0 (some 92) (bA 14 1) ?_
                  refine pu_ 1 (some 93) (bA 14 3) ?_
                  refine tk_ 2 (some 94) (bA 14 7) hHeld ?_
                  refine one_ (i := 3) (N := some 95) (bA 14 15) rfl rfl (by kernel_rfl) (by decide) (fun K hK => ?_)
                  refine value_ (w1 := ?_) (v := ?_) (by rfl) rfl ?_ ?_
                  rotate_left 2
                  · go_simp
                    constructor
                    · rfl
                    · rfl
                  have HB22 := Z0.mk (bal (Below.refl w21.heap.size w21) (.cells #[.int .i64 o, .string a, .string b1, .int .i64 cn, .int .i64 r0, .string r1, .int .i64 r2] 53))
                  have HX22 := Z0.mk (blk_new w21 (.cells #[.int .i64 o, .string a, .string b1, .int .i64 cn, .int .i64 r0, .string r1, .int .i64 r2] 53))
                  refine hK.out _ _ ⟨(kcl (kal HB17.out _) 0).trans rfl, (kcl (kal HB17.out _) 1).trans rfl, (kcl (kal HB17.out _) 2).trans rfl, (kcl (kal HB17.out _) 3).trans rfl, (kcl (kal HB17.out _) 4).trans rfl, (kcl (kal HB17.out _) 5).trans rfl, (kcl (kal HB17.out _) 6).trans rfl⟩ (fun hHeld => ?_)
                  clear hK K
                  refine nm_ (some 95) ?_
                  refine one_ (i := 4) (N := some 96) (bA 14 31) rfl rfl (by kernel_rfl) (by decide) (fun K hK => ?_)
                  refine goes_ Tryz.func11 (by kernel_rfl) rfl #[.pointer (some ⟨p, 0, none⟩), .string ⟨#[120]⟩, .int .i64 (k : Int), .slice (some ⟨w21.heap.size, 0, none⟩) 1 1] (by rfl) rfl rfl (by (try simp only [List.map_toArray, List.map_cons, List.map_nil]); first | done | rfl | (simp only [Act.eval, Array.getD_eq_getD_getElem?, Option.getD_some, *]; done)) ?_
                  with_reducible refine (HPK.out _ (HLO.out.step HB22.out) _ HX22.out).mono ?_
                  rintro e w23 ⟨rfl, hB23⟩
                  refine ⟨_, rfl, ?_⟩
                  have HB23 := Z0.mk (bsp HB22.out hB23)
                  have HB17e := Z0.mk (kbl HB17.out HB23.out)
                  clear hB23
                  refine hK.out _ _ ⟨(kcl HB17e.out 0).trans rfl, (kcl HB17e.out 1).trans rfl, (kcl HB17e.out 2).trans rfl, (kcl HB17e.out 3).trans rfl, (kcl HB17e.out 4).trans rfl, (kcl HB17e.out 5).trans rfl, (kcl HB17e.out 6).trans rfl⟩ (fun hHeld => ?_)
                  clear hK K
                  refine nm_ (some 96) ?_
                  refine pu_ 5 (some 97) (bA 14 63) ?_
                  refine pu_ 6 (some 98) (bA 14 127) ?_
                  refine pu_ 7 (some 99) (bA 14 255) ?_
                  refine pu_ 8 (some 100) (bA 14 511) ?_
                  refine pu_ 9 (some 101) (bA 14 1023) ?_
                  refine tk_ 10 (some 102) (bA 14 2047) hHeld ?_
                  refine last_ (i := 11) (N := some 103) (bA 14 4095) rfl rfl (by kernel_rfl) (by decide) (fun K hK => ?_)
                  refine goes_ Tryz.func12 (by kernel_rfl) rfl #[.pointer (some ⟨L, k, none⟩), .string ⟨#[120]⟩, .agg #[.int .i64 o, .string a, .string b1, .int .i64 cn, .int .i64 r0, .string r1, .int .i64 r2]] (by rfl) rfl rfl (by (try simp only [List.map_toArray, List.map_cons, List.map_nil]); first | done | rfl | (simp only [Act.eval, Array.getD_eq_getD_getElem?, Option.getD_some, *]; done)) ?_
                  with_reducible refine (HAD.out _ (HLO.out.step HB23.out)).mono ?_
                  rintro e w24 ⟨rfl, v5, w25, rfl, hb5, hr5, hB5, hG5, ha5⟩
                  refine ⟨_, rfl, ?_⟩
                  have HLA := Z0.mk ((HLO.out.step HB23.out).add HK4.out HLM.out.len hb5 hB5 hG5 hr5 ha5)
                  have HKM := Z0.mk ((HLO.out.step HB23.out).keepM HK4.out hG5 v5)
                  clear hb5 hr5 hB5 hG5 ha5
                  refine hK.out _ _ ?_
                  clear hK K
                  refine nm_ (some 103) ?_
                  refine pu_ 12 (some 104) (bA 14 8191) ?_
                  refine pu_ 13 (some 105) (bA 14 16383) ?_
                  refine done_ (by kernel_rfl) ?_
                  have HB17g := Z0.mk (HKM.out.blk HB17e.out (by decide))
                  generalize w25.setCell ⟨L, k, none⟩ v5 = w26 at HLA HB17g ⊢
                  clear HKM HAD HPK HB17e HB22 HX22 HB14 HC16 HLO HB17 HJN
                  have HLM2 := Z0.mk (HLM.out.add (s := ⟨o, a, b1, cn, r0, r1, r2⟩) HK4.out HBK.out ⟨by rw [← HS0.out]; exact HLEG.out, HCQ.out⟩)
                  have x0 := (kcl HB17g.out 0).trans rfl
                  have x1 := (kcl HB17g.out 1).trans rfl
                  have x2 := (kcl HB17g.out 2).trans rfl
                  have x3 := (kcl HB17g.out 3).trans rfl
                  have x4 := (kcl HB17g.out 4).trans rfl
                  have x5 := (kcl HB17g.out 5).trans rfl
                  have x6 := (kcl HB17g.out 6).trans rfl
                  go_wp2_with fail
                  refine (grant.calls w p b objX H (k : Int) ⟨o, a, b1, cn, r0, r1, r2⟩ _ HLA.out.tb HLA.out.below (by have := HLM.out.hl; omega)).mono ?_
                  rintro e w27 ⟨rfl, hT, hB, hk9⟩
                  have HLG := Z0.mk (HLA.out.grant hT hB hk9)
                  clear hT hB hk9 x0 x1 x2 x3 x4 x5 x6 HLA HB17g HAN
                  have i2 : (i : Int) + 1 ≤ 24 := by omega
                  go_wp2
                  go_roundw
                  case rel => exact ⟨i + 1, _, _, _, by go_num, by omega, HLG, HLM2⟩
                  case measure => simp [intOf]; omega
    case rest =>
      obtain ⟨vs, ls, H, HLO2, HLM2⟩ := hcut
      clear HLO HLM
      have a0 := (kcl HLO2.out.b8 0).trans rfl
      have a1 := (kcl HLO2.out.b8 1).trans rfl
      have a2 := (kcl HLO2.out.b8 2).trans rfl
      go_upto_region 23 with ((with_reducible refine gds (N := 18) rfl ?_); refine bx_ (N := 18) (cs := #[.int .i64 0, .int .i64 0, .slice none 0 0]) (t := 24) ?_; intro q18 hg w30 hbox hb; have HGX := Z0.mk hg; have HBX := Z0.mk hbox; have HBB := Z0.mk hb; clear hg hbox hb; have x0 := (kcl HBX.out 0).trans rfl; have f0 := kfr HBX.out 0; have x1 := (kcl HBX.out 1).trans rfl; have f1 := kfr HBX.out 1; have x2 := (kcl HBX.out 2).trans rfl; have f2 := kfr HBX.out 2)
      have h18 := set3_new HGX.out HBB.out HBX.out (.int .i64 kd) (.int .i64 n1) (.slice A6 xs0.length c6)
      have HQ18 := Z0.mk (show w.heap.size ≤ q18 by rw [HGX.out]; exact HLO2.out.below.size)
      have HN18 := Z0.mk (show q8 ≠ q18 by have := klt_ HLO2.out.b8; have := HGX.out; omega)
      generalize (((w30.setCell ⟨q18, 0, none⟩ (.int .i64 kd)).setCell ⟨q18, 1, none⟩ (.int .i64 n1)).setCell ⟨q18, 2, none⟩ (.slice A6 xs0.length c6)) = w31 at h18 ⊢
      have HLF := Z0.mk (show LF w w31 q7 q8 p b L kd #[.int .i64 kd, .int .i64 n1, .slice A5 ys.length c5] n1 (.slice A6 xs0.length c6) xs0 vs ls H q18 n1 (.slice A6 xs0.length c6) xs0 from ⟨HLO2.out.step h18.1, HQ18.out, HN18.out, h18.2, Kd.R_below HLO2.out.rb h18.1⟩)
      clear h18 HGX HBB HBX x0 x1 x2 f0 f1 f2 a0 a1 a2 HLO2
      go_upto_block 4 with fail
      go_cut [114] (fun v114 wc => ∃ (nj : Int) (vn : Value) (xj : List Rw), Z0 (LF w wc q7 q8 p b L kd #[.int .i64 kd, .int .i64 n1, .slice A5 ys.length c5] n1 (.slice A6 xs0.length c6) xs0 vs ls H q18 nj vn xj) ∧ Z0 ((nj, xj) = runS kd (n1, xs0) (flatO ls [0, 1, 2, 3])))
      case first =>
        go_wp2_with fail
        go_loopw [114] (fun v114 wr => ∃ (k : Nat) (nj : Int) (vn : Value) (xj : List Rw), v114 = .int .i64 k ∧ k ≤ 4 ∧ Z0 (LF w wr q7 q8 p b L kd #[.int .i64 kd, .int .i64 n1, .slice A5 ys.length c5] n1 (.slice A6 xs0.length c6) xs0 vs ls H q18 nj vn xj) ∧ Z0 ((nj, xj) = runS kd (n1, xs0) (flatO ls (List.range k)))) (fun v114 _ => 4 - (intOf v114).toNat)
        case atStart => exact ⟨0, _, _, _, rfl, by decide, HLF, ⟨rfl⟩⟩
        case round =>
          clear HLF
          obtain ⟨k, nj, vn, xj, rfl, hk, HLF, HRN⟩ := hrel
          by_cases q1 : k < 4
          rotate_left
          · obtain rfl : k = 4 := by omega
            go_wp2
            go_meet
            exact ⟨_, _, _, HLF, HRN⟩
          have HK4 := Z0.mk q1
          have hk4 : (k : Int) < 4 := by omega
          have hk0 : (0 : Int) ≤ (k : Int) := by omega
          have HPM := Z0.mk (range_perm q1)
          have HRN2 := Z0.mk (show (nj, xj) = runS kd (n1, xs0) (flatO ls (List.range k) ++ (ls.getD k []).take 0) by rw [List.take_zero, List.append_nil]; exact HRN.out)
          have HK1 := Z0.mk (show wrap64 ((k : Int) + 1) = (k : Int) + 1 by unfold wrap64; omega)
          obtain ⟨Ak, ck, hvk, hck, hCk⟩ := Kd.R_reads (HLF.out.lo.rl k q1)
          obtain ⟨es, hes⟩ : ∃ es, es = (ls.getD k []).map (entOf objX) := ⟨_, rfl⟩
          rw [← hes] at hvk hck hCk
          have HES := Z0.mk hes
          have hln : es.length ≤ 24 := by rw [hes, List.length_map]; have := lens_getD ls k; have := HLM2.out.sum; omega
          clear hes
          go_wp2_with fail
          refine (listAll.calls L k Ak ck vs.toArray es _ HLF.out.lo.bL (by rw [← hvk]; exact HLF.out.lo.at_ q1) hCk (by omega)).mono ?_
          rintro e w32 ⟨A32, c32, rfl, hC, hB⟩
          have HLFb := Z0.mk (HLF.out.step hB)
          have HC32 := Z0.mk (Kd.R_lower hC HLF.out.lo.below.size)
          clear hC hB HLF HRN hvk hck hCk
          go_wp2_with fail
          go_loopw [122] (fun vI wr => ∃ (j : Nat) (nj : Int) (vn : Value) (xj : List Rw), vI = .int .i64 j ∧ j ≤ es.length ∧ Z0 (LF w wr q7 q8 p b L kd #[.int .i64 kd, .int .i64 n1, .slice A5 ys.length c5] n1 (.slice A6 xs0.length c6) xs0 vs ls H q18 nj vn xj) ∧ Z0 ((nj, xj) = runS kd (n1, xs0) (flatO ls (List.range k) ++ (ls.getD k []).take j)) ∧ Z0 (Kd.R kEnt 60 wr w.heap.size (fun _ => True) (.slice A32 es.length c32) es)) (fun vI _ => es.length - (intOf vI).toNat)
          case atStart => exact ⟨0, nj, vn, xj, rfl, Nat.zero_le _, HLFb, HRN2, HC32⟩
          case round =>
            clear HLFb HRN2 HC32
            obtain ⟨j, nj, vn, xj, rfl, hj, HLF, HRN, HC32⟩ := hrel
            by_cases q2 : j < es.length
            · have q3 : j < (ls.getD k []).length := by rwa [HES.out, List.length_map] at q2
              obtain ⟨s, hs⟩ : ∃ s, s = (ls.getD k []).getD j zStp := ⟨_, rfl⟩
              obtain ⟨hok, hleg⟩ := on_way (o := (List.range k)) (p := ((List.range (3 - k)).map (· + (k + 1)))) HLM2.out HOK.out HPM.out (Nat.le_of_lt q3)
              obtain ⟨hleg, hnx⟩ := hleg q3
              rw [← hs] at hleg hnx
              rw [← HRN.out] at hok hleg hnx
              dsimp only at hok hleg
              have p0 : (0 : Int) ≤ (j : Int) := by omega
              have p1 : (j : Int) < (es.length : Int) := by omega
              have p2 : (j : Int) < 24 := by omega
              obtain ⟨A32', c32', he32, hc32, hC32⟩ := Kd.R_reads HC32.out
              cases he32
              obtain ⟨ad, e1, y0, y1, y2, y3, y4, y5, y6, y7⟩ := at_Ent hC32 (j : Int) p0 p1
              subst e1
              have hget : es.getD j zEnt = (⟨objX, s.op, s.a, s.b, s.n, s.code, s.text, s.rn⟩ : Ent) := by
                rw [hs, HES.out]
                exact get_ent q3
              rw [Int.toNat_natCast, hget] at y0 y1 y2 y3 y4 y5 y6 y7
              dsimp only at y0 y1 y2 y3 y4 y5 y6 y7
              obtain ⟨kL, hL⟩ := Ev.rounds (legs_f kd nj xj s (by have := hok.len; omega) hok.k1 (fun _ => hok.uq) hleg)
              have HEV := Z0.mk hL
              have HNX := Z0.mk hnx
              have HXL := Z0.mk (show xj.length < 1000000 by have := hok.len; omega)
              obtain ⟨Aj, cj, hvj, hcj, hCj⟩ := Kd.R_reads HLF.out.gr
              subst hvj
              have HCj := Z0.mk hCj
              have Hcj := Z0.mk hcj
              have HK2 := Z0.mk (show wrap64 ((j : Int) + 1) = (j : Int) + 1 by unfold wrap64; omega)
              obtain ⟨W5, hW5⟩ : ∃ W5, W5 = wr.alloc (.cells #[.string objX, .int .i64 s.op, .string s.a, .string s.b, .int .i64 s.n, .int .i64 s.code, .string s.text, .int .i64 s.rn] 60) := ⟨_, rfl⟩
              obtain ⟨g21, hg21⟩ : ∃ g, g = wr.heap.size := ⟨_, rfl⟩
              have hB5 : Below wr.heap.size wr W5 := by rw [hW5]; exact bal (Below.refl _ _) _
              have HB21 := Z0.mk (show W5.heap[g21]? = some (.cells #[.string objX, .int .i64 s.op, .string s.a, .string s.b, .int .i64 s.n, .int .i64 s.code, .string s.text, .int .i64 s.rn] 60 (0, 0)) by rw [hW5, hg21]; exact blk_new wr _)
              have HB5 := Z0.mk hB5
              clear hs hget hL hnx hok hleg hCj hcj hB5 q3 hc32 hC32
              go_upto_region 29 with fail
              rw [← hW5, ← hg21]
              have HLF5 := Z0.mk (HLF.out.step HB5.out)
              have HC5 := Z0.mk (Kd.R_below HC32.out HB5.out)
              have HCj5 := Z0.mk (Kd.C_below HCj.out HB5.out)
              clear hW5 hg21 y0 y1 y2 y3 y4 y5 y6 y7 HLF HC32 HCj HB5
              have a0 := (kcl HLF5.out.gb 0).trans rfl
              have a1 := (kcl HLF5.out.gb 1).trans rfl
              have a2 := (kcl HLF5.out.gb 2).trans rfl
              have b1 := (kcl HB21.out 1).trans rfl
              have b2 := (kcl HB21.out 2).trans rfl
              have b3 := (kcl HB21.out 3).trans rfl
              have b4 := (kcl HB21.out 4).trans rfl
              have b5 := (kcl HB21.out 5).trans rfl
              have b6 := (kcl HB21.out 6).trans rfl
              have b7 := (kcl HB21.out 7).trans rfl
              go_wp2_with fail
              refine (adt_Legal.calls kL kd nj Aj cj xj s.op s.a s.b s.n s.code s.text s.rn true _ HCj5.out Hcj.out HEV.out).mono ?_
              rintro e w40 ⟨rfl, hB40⟩
              have HLF6 := Z0.mk (HLF5.out.step hB40)
              have HC6 := Z0.mk (Kd.R_below HC5.out hB40)
              have HCj6 := Z0.mk (Kd.C_below HCj5.out hB40)
              have HB22 := Z0.mk (kbl HB21.out hB40)
              clear hB40 HLF5 HC5 HCj5 HB21 a0 a1 a2 b1 b2 b3 b4 b5 b6 b7
              have a0 := (kcl HLF6.out.gb 0).trans rfl
              have a1 := (kcl HLF6.out.gb 1).trans rfl
              have a2 := (kcl HLF6.out.gb 2).trans rfl
              have b1 := (kcl HB22.out 1).trans rfl
              have b2 := (kcl HB22.out 2).trans rfl
              have b3 := (kcl HB22.out 3).trans rfl
              have b4 := (kcl HB22.out 4).trans rfl
              have b5 := (kcl HB22.out 5).trans rfl
              have b6 := (kcl HB22.out 6).trans rfl
              have b7 := (kcl HB22.out 7).trans rfl
              go_wp2_with fail
              refine (adtApply.calls kd nj Aj cj xj s.op s.a s.b s.n s.code s.text s.rn _ HCj6.out Hcj.out HXL.out).mono ?_
              rintro e w41 ⟨v41, rfl, hO, hB41⟩
              have HNW := Z0.mk (HLF6.out.now (n' := (applyR kd nj xj s.op s.a s.b s.n s.code s.text).1) hB41 hO)
              have HLF7 := Z0.mk (HLF6.out.step hB41)
              have HC7 := Z0.mk (Kd.R_below HC6.out hB41)
              obtain ⟨A41, m41, c41, hv41⟩ : ∃ A41 m41 c41, v41 = .slice A41 m41 c41 := by
                rcases hO with ⟨h, -⟩ | h
                · exact ⟨_, _, _, h⟩
                · obtain ⟨A3, c3, h⟩ := Kd.R_slice h
                  exact ⟨_, _, _, h⟩
              subst hv41
              have HRJ := Z0.mk (show applyR kd nj xj s.op s.a s.b s.n s.code s.text = runS kd (n1, xs0) (flatO ls (List.range k) ++ (ls.getD k []).take (j + 1)) from HNX.out.symm)
              have HC8 := Z0.mk (far_ent HC7.out HLF7.out.gb (applyR kd nj xj s.op s.a s.b s.n s.code s.text).1 (.slice A41 m41 c41))
              clear hO hB41 HLF6 HC6 HCj6 HB22 HNX HRN HEV Hcj HXL HC7 a0 a1 a2 b1 b2 b3 b4 b5 b6 b7
              generalize applyR kd nj xj s.op s.a s.b s.n s.code s.text = y at HNW HRJ HC8 ⊢
              obtain ⟨n6, x6⟩ := y
              dsimp only at HNW HRJ HC8 ⊢
              have a0 := (kcl HLF7.out.gb 0).trans rfl
              have a1 := (kcl HLF7.out.gb 1).trans rfl
              have a2 := (kcl HLF7.out.gb 2).trans rfl
              have f0 := kfr HLF7.out.gb 0
              have f1 := kfr HLF7.out.gb 1
              have f2 := kfr HLF7.out.gb 2
              have hk2 := HK2.out
              go_wp2
              clear hk2
              go_roundw
              case rel => exact ⟨j + 1, _, _, _, by go_num, by omega, HNW, HRJ, HC8⟩
              case measure => simp [intOf]; omega
            · obtain rfl : j = es.length := by omega
              have HRN3 := Z0.mk (show (nj, xj) = runS kd (n1, xs0) (flatO ls (List.range (k + 1))) by rw [range_next]; have h := HRN.out; rw [HES.out, List.length_map, List.take_length] at h; exact h)
              have hk1 := HK1.out
              go_wp2
              clear hk1
              go_roundw
              case rel => exact ⟨k + 1, _, _, _, by go_num, q1, HLF, HRN3⟩
              case measure => simp [intOf]; omega
      case rest =>
        obtain ⟨nF, vF, xF, HLF1, HRF⟩ := hcut
        clear HLF
        obtain ⟨W33, hW33⟩ : ∃ W33, W33 = wc.alloc (.cells #[.int .i64 0, .int .i64 1, .int .i64 2, .int .i64 3] 3) := ⟨_, rfl⟩
        obtain ⟨g22, hg22⟩ : ∃ g, g = wc.heap.size := ⟨_, rfl⟩
        have hB33 : Below wc.heap.size wc W33 := by rw [hW33]; exact bal (Below.refl _ _) _
        have hb22 : W33.heap[g22]? = some (.cells #[.int .i64 0, .int .i64 1, .int .i64 2, .int .i64 3] 3 (0, 0)) := by rw [hW33, hg22]; exact blk_new wc _
        have HB22 := Z0.mk hb22
        have HLF3 := Z0.mk (HLF1.out.step hB33)
        clear hB33 hb22
        go_upto_region 35 with fail
        rw [← hW33, ← hg22]
        clear hW33 hg22 HLF1
        have a0 := (kcl HLF3.out.lo.b8 0).trans rfl
        have a1 := (kcl HLF3.out.lo.b8 1).trans rfl
        have a2 := (kcl HLF3.out.lo.b8 2).trans rfl
        go_upto_region 36 with ((with_reducible refine gds (N := 23) rfl ?_); refine bx_ (N := 23) (cs := #[.int .i64 0, .int .i64 0, .slice none 0 0]) (t := 24) ?_; intro q23 hg w34 hbox hb; have HGX := Z0.mk hg; have HBX := Z0.mk hbox; have HBB := Z0.mk hb; clear hg hbox hb; have x0 := (kcl HBX.out 0).trans rfl; have f0 := kfr HBX.out 0; have x1 := (kcl HBX.out 1).trans rfl; have f1 := kfr HBX.out 1; have x2 := (kcl HBX.out 2).trans rfl; have f2 := kfr HBX.out 2)
        have h23 := set3_new HGX.out HBB.out HBX.out (.int .i64 kd) (.int .i64 n1) (.slice A6 xs0.length c6)
        have HQ23 := Z0.mk (show w.heap.size ≤ q23 by rw [HGX.out]; exact HLF3.out.lo.below.size)
        have HN23 := Z0.mk (show q8 ≠ q23 ∧ q18 ≠ q23 ∧ g22 ≠ q23 by have := klt_ HLF3.out.lo.b8; have := klt_ HLF3.out.gb; have := klt_ HB22.out; have := HGX.out; omega)
        generalize (((w34.setCell ⟨q23, 0, none⟩ (.int .i64 kd)).setCell ⟨q23, 1, none⟩ (.int .i64 n1)).setCell ⟨q23, 2, none⟩ (.slice A6 xs0.length c6)) = w35 at h23 ⊢
        have HLG := Z0.mk (show LG w w35 q7 q8 p b L kd #[.int .i64 kd, .int .i64 n1, .slice A5 ys.length c5] n1 (.slice A6 xs0.length c6) xs0 vs ls H q23 n1 (.slice A6 xs0.length c6) xs0 q18 nF vF xF g22 [0, 1, 2, 3] from ⟨⟨HLF3.out.lo.step h23.1, HQ23.out, HN23.out.1, h23.2, Kd.R_below HLF3.out.lo.rb h23.1⟩, HN23.out.2.1, kbl HLF3.out.gb h23.1, Kd.R_below HLF3.out.gr h23.1, HN23.out.2.2, (rdI_four HB22.out).below h23.1⟩)
        clear h23 HGX HBB HBX x0 x1 x2 f0 f1 f2 a0 a1 a2 HLF3 HB22 HQ23
        go_wp2_with fail
        go_loopw [22, 24] (fun v22 v24 wr => ∃ (dn lf : List Nat) (g c d : Nat) (nj : Int) (vn : Value) (xj : List Rw), v22 = .slice (some ⟨g, 0, none⟩) lf.length c ∧ v24 = .int .i64 (d : Int) ∧ lf.length ≤ c ∧ Z0 (d = dn.length) ∧ Z0 ((dn ++ lf).Perm [0, 1, 2, 3]) ∧ Z0 (LG w wr q7 q8 p b L kd #[.int .i64 kd, .int .i64 n1, .slice A5 ys.length c5] n1 (.slice A6 xs0.length c6) xs0 vs ls H q23 nj vn xj q18 nF vF xF g lf) ∧ Z0 ((nj, xj) = runS kd (n1, xs0) (flatO ls dn))) (fun _ v24 _ => 4 - (intOf v24).toNat)
        case atStart => exact ⟨[], [0, 1, 2, 3], g22, 4, 0, n1, _, xs0, rfl, rfl, by decide, ⟨rfl⟩, ⟨List.Perm.refl _⟩, HLG, ⟨rfl⟩⟩
        case round =>
          clear HLG
          obtain ⟨dn, lf, g, c, d, nj, vn, xj, rfl, rfl, hlc, HDL, HPD, HLG, HRN⟩ := hrel
          have HLN := Z0.mk (show d + lf.length = 4 by have := HPD.out.length_eq; rw [HDL.out]; rwa [List.length_append] at this)
          have hd4 : d ≤ 4 := by have := HLN.out; omega
          have hl4 : lf.length ≤ 4 := by have := HLN.out; omega
          by_cases q1 : 0 < lf.length
          rotate_left
          · have hlf : lf = [] := List.length_eq_zero_iff.1 (by omega)
            subst hlf
            have hpd := HPD.out
            rw [List.append_nil] at hpd
            have hfin : (nj, xj) = (nF, xF) := (HRN.out.trans (HLM2.out.perm HOK.out hpd).2).trans HRF.out.symm
            injection hfin with hf1 hf2
            subst hf1
            subst hf2
            have hend := end_ok HLM2.out HOK.out
            rw [← HRF.out] at hend
            obtain ⟨kS, hS⟩ := Ev.rounds (same_f kd nj xj (by have := hend.len; dsimp only at this; omega))
            have HS := Z0.mk hS
            obtain ⟨Af, cf, hvf, hcf, hCf⟩ := Kd.R_reads HLG.out.gr
            obtain ⟨An, cn, hvn, hcn, hCn⟩ := Kd.R_reads HLG.out.lf.gr
            subst hvf
            subst hvn
            have HCf := Z0.mk hCf
            have Hcf := Z0.mk hcf
            have HCn := Z0.mk hCn
            have Hcn := Z0.mk hcn
            clear hS hend hpd hCf hcf hCn hcn
            have a0 := (kcl HLG.out.gb 0).trans rfl
            have a1 := (kcl HLG.out.gb 1).trans rfl
            have a2 := (kcl HLG.out.gb 2).trans rfl
            have b0 := (kcl HLG.out.lf.gb 0).trans rfl
            have b1 := (kcl HLG.out.lf.gb 1).trans rfl
            have b2 := (kcl HLG.out.lf.gb 2).trans rfl
            go_wp2_with fail
            refine (value_State_Same.calls kS kd nj Af cf xj kd nj An cn xj true _ HCf.out Hcf.out HCn.out Hcn.out HS.out).mono ?_
            rintro e w60 ⟨rfl, hB60⟩
            have HB60 := Z0.mk (bsp HLG.out.lf.lo.below hB60)
            clear hB60 a0 a1 a2 b0 b1 b2
            go_wp2
            go_ret
            exact ⟨rfl, HB60.out⟩
          have p0 : (0 : Int) < (lf.length : Int) := by omega
          have p1 : (d : Int) ≤ 4 := by omega
          have HKD := Z0.mk (show wrap64 ((d : Int) + 1) = (d : Int) + 1 by unfold wrap64; omega)
          go_upto_if 155 with fail
          go_cut [25] (fun v25 wx => ∃ i : Nat, v25 = .int .i64 (i : Int) ∧ i < lf.length ∧ wx = wr)
          case first =>
            by_cases q5 : d < os.length
            · have q6 : (d : Int) < (os.length : Int) := by omega
              have q7' : (0 : Int) ≤ (d : Int) := by omega
              obtain ⟨ad3, e3, z0⟩ := Kd.at_int (Kd.C_below HR3.out HLG.out.lf.lo.below) (d : Int) q7' q6
              subst e3
              rw [Int.toNat_natCast] at z0
              obtain ⟨m, hm1, hm2⟩ : ∃ m : Nat, m < 256 ∧ Go.bits .and .i64 (rd os (d : Int)) 255 = (m : Int) := by
                have hb : 0 ≤ Go.bits .and .i64 (rd os (d : Int)) 255 ∧ Go.bits .and .i64 (rd os (d : Int)) 255 < 2 ^ 8 := i64_mask 8 (by decide) _
                exact ⟨(Go.bits .and .i64 (rd os (d : Int)) 255).toNat, by omega, by omega⟩
              have hm3 : (0 : Int) ≤ (m : Int) := by omega
              have hm4 : (m : Int) < 256 := by omega
              have hmne : ¬ ((lf.length : Int) = 0) := by omega
              go_wp2
              go_meet
              exact ⟨m % lf.length, by rw [Int.natCast_emod], Nat.mod_lt _ q1, rfl⟩
            · have q6 : ¬ ((d : Int) < (os.length : Int)) := by omega
              go_wp2
              go_meet
              exact ⟨0, rfl, q1, rfl⟩
          case rest =>
            obtain ⟨i, rfl, hi, hwx⟩ := hcut
            subst hwx
            have hkm : lf.getD i 0 ∈ lf := by rw [List.getD_eq_getElem?_getD, List.getElem?_eq_getElem hi]; exact List.getElem_mem hi
            obtain ⟨k, hk⟩ : ∃ k, k = lf.getD i 0 := ⟨_, rfl⟩
            rw [← hk] at hkm
            have HK4 : Z0 (k < 4) := ⟨by
              have := HPD.out.subset (List.mem_append_right dn hkm)
              simp only [List.mem_cons, List.not_mem_nil, or_false] at this
              omega⟩
            have HPM : Z0 ((dn ++ k :: lf.eraseIdx i).Perm [0, 1, 2, 3]) := ⟨by
              have h1 : (k :: lf.eraseIdx i).Perm lf := by
                rw [hk]
                exact erase_perm hi
              exact (h1.append_left dn).trans HPD.out⟩
            have z1 := HLG.out.rd.at_ hi
            rw [← hk] at z1
            have HKE := Z0.mk hk
            have hk4 : (k : Int) < 4 := by have := HK4.out; omega
            have hk0 : (0 : Int) ≤ (k : Int) := by omega
            have hi0 : (0 : Int) ≤ (i : Int) := by omega
            have hi1 : (i : Int) < (lf.length : Int) := by omega
            have HRN2 := Z0.mk (show (nj, xj) = runS kd (n1, xs0) (flatO ls dn ++ (ls.getD k []).take 0) by rw [List.take_zero, List.append_nil]; exact HRN.out)
            obtain ⟨Ak, ck, hvk, hck, hCk⟩ := Kd.R_reads (HLG.out.lf.lo.rl k HK4.out)
            obtain ⟨es, hes⟩ : ∃ es, es = (ls.getD k []).map (entOf objX) := ⟨_, rfl⟩
            rw [← hes] at hvk hck hCk
            have HES := Z0.mk hes
            have hln : es.length ≤ 24 := by rw [hes, List.length_map]; have := lens_getD ls k; have := HLM2.out.sum; omega
            clear hes hk hkm HPD HRN
            go_wp2_with fail
            refine (listAll.calls L k Ak ck vs.toArray es _ HLG.out.lf.lo.bL (by rw [← hvk]; exact HLG.out.lf.lo.at_ HK4.out) hCk (by omega)).mono ?_
            rintro e w32 ⟨A32, c32, rfl, hC, hB⟩
            have HLFb := Z0.mk (HLG.out.step hB)
            have HC32 := Z0.mk (Kd.R_lower hC HLG.out.lf.lo.below.size)
            clear hC hB HLG hvk hck hCk z1
            go_wp2_with fail
            go_loopw [172] (fun vI wr => ∃ (j : Nat) (nj : Int) (vn : Value) (xj : List Rw), vI = .int .i64 j ∧ j ≤ es.length ∧ Z0 (LG w wr q7 q8 p b L kd #[.int .i64 kd, .int .i64 n1, .slice A5 ys.length c5] n1 (.slice A6 xs0.length c6) xs0 vs ls H q23 nj vn xj q18 nF vF xF g lf) ∧ Z0 ((nj, xj) = runS kd (n1, xs0) (flatO ls dn ++ (ls.getD k []).take j)) ∧ Z0 (Kd.R kEnt 60 wr w.heap.size (fun _ => True) (.slice A32 es.length c32) es)) (fun vI _ => es.length - (intOf vI).toNat)
            case atStart => exact ⟨0, nj, vn, xj, rfl, Nat.zero_le _, HLFb, HRN2, HC32⟩
            case round =>
              clear HLFb HRN2 HC32
              obtain ⟨j, nj, vn, xj, rfl, hj, HLF, HRN, HC32⟩ := hrel
              by_cases q2 : j < es.length
              · have q3 : j < (ls.getD k []).length := by rwa [HES.out, List.length_map] at q2
                obtain ⟨s, hs⟩ : ∃ s, s = (ls.getD k []).getD j zStp := ⟨_, rfl⟩
                obtain ⟨hok, hleg⟩ := on_way (o := dn) (p := (lf.eraseIdx i)) HLM2.out HOK.out HPM.out (Nat.le_of_lt q3)
                obtain ⟨hleg, hnx⟩ := hleg q3
                rw [← hs] at hleg hnx
                rw [← HRN.out] at hok hleg hnx
                dsimp only at hok hleg
                have p0 : (0 : Int) ≤ (j : Int) := by omega
                have p1 : (j : Int) < (es.length : Int) := by omega
                have p2 : (j : Int) < 24 := by omega
                obtain ⟨A32', c32', he32, hc32, hC32⟩ := Kd.R_reads HC32.out
                cases he32
                obtain ⟨ad, e1, y0, y1, y2, y3, y4, y5, y6, y7⟩ := at_Ent hC32 (j : Int) p0 p1
                subst e1
                have hget : es.getD j zEnt = (⟨objX, s.op, s.a, s.b, s.n, s.code, s.text, s.rn⟩ : Ent) := by
                  rw [hs, HES.out]
                  exact get_ent q3
                rw [Int.toNat_natCast, hget] at y0 y1 y2 y3 y4 y5 y6 y7
                dsimp only at y0 y1 y2 y3 y4 y5 y6 y7
                obtain ⟨kL, hL⟩ := Ev.rounds (legs_f kd nj xj s (by have := hok.len; omega) hok.k1 (fun _ => hok.uq) hleg)
                have HEV := Z0.mk hL
                have HNX := Z0.mk hnx
                have HXL := Z0.mk (show xj.length < 1000000 by have := hok.len; omega)
                obtain ⟨Aj, cj, hvj, hcj, hCj⟩ := Kd.R_reads HLF.out.lf.gr
                subst hvj
                have HCj := Z0.mk hCj
                have Hcj := Z0.mk hcj
                have HK2 := Z0.mk (show wrap64 ((j : Int) + 1) = (j : Int) + 1 by unfold wrap64; omega)
                obtain ⟨W5, hW5⟩ : ∃ W5, W5 = wr.alloc (.cells #[.string objX, .int .i64 s.op, .string s.a, .string s.b, .int .i64 s.n, .int .i64 s.code, .string s.text, .int .i64 s.rn] 60) := ⟨_, rfl⟩
                obtain ⟨g21, hg21⟩ : ∃ g, g = wr.heap.size := ⟨_, rfl⟩
                have hB5 : Below wr.heap.size wr W5 := by rw [hW5]; exact bal (Below.refl _ _) _
                have HB21 := Z0.mk (show W5.heap[g21]? = some (.cells #[.string objX, .int .i64 s.op, .string s.a, .string s.b, .int .i64 s.n, .int .i64 s.code, .string s.text, .int .i64 s.rn] 60 (0, 0)) by rw [hW5, hg21]; exact blk_new wr _)
                have HB5 := Z0.mk hB5
                clear hs hget hL hnx hok hleg hCj hcj hB5 q3 hc32 hC32
                go_upto_region 45 with fail
                rw [← hW5, ← hg21]
                have HLF5 := Z0.mk (HLF.out.step HB5.out)
                have HC5 := Z0.mk (Kd.R_below HC32.out HB5.out)
                have HCj5 := Z0.mk (Kd.C_below HCj.out HB5.out)
                clear hW5 hg21 y0 y1 y2 y3 y4 y5 y6 y7 HLF HC32 HCj HB5
                have a0 := (kcl HLF5.out.lf.gb 0).trans rfl
                have a1 := (kcl HLF5.out.lf.gb 1).trans rfl
                have a2 := (kcl HLF5.out.lf.gb 2).trans rfl
                have b1 := (kcl HB21.out 1).trans rfl
                have b2 := (kcl HB21.out 2).trans rfl
                have b3 := (kcl HB21.out 3).trans rfl
                have b4 := (kcl HB21.out 4).trans rfl
                have b5 := (kcl HB21.out 5).trans rfl
                have b6 := (kcl HB21.out 6).trans rfl
                have b7 := (kcl HB21.out 7).trans rfl
                go_wp2_with fail
                refine (adt_Legal.calls kL kd nj Aj cj xj s.op s.a s.b s.n s.code s.text s.rn true _ HCj5.out Hcj.out HEV.out).mono ?_
                rintro e w40 ⟨rfl, hB40⟩
                have HLF6 := Z0.mk (HLF5.out.step hB40)
                have HC6 := Z0.mk (Kd.R_below HC5.out hB40)
                have HCj6 := Z0.mk (Kd.C_below HCj5.out hB40)
                have HB22 := Z0.mk (kbl HB21.out hB40)
                clear hB40 HLF5 HC5 HCj5 HB21 a0 a1 a2 b1 b2 b3 b4 b5 b6 b7
                have a0 := (kcl HLF6.out.lf.gb 0).trans rfl
                have a1 := (kcl HLF6.out.lf.gb 1).trans rfl
                have a2 := (kcl HLF6.out.lf.gb 2).trans rfl
                have b1 := (kcl HB22.out 1).trans rfl
                have b2 := (kcl HB22.out 2).trans rfl
                have b3 := (kcl HB22.out 3).trans rfl
                have b4 := (kcl HB22.out 4).trans rfl
                have b5 := (kcl HB22.out 5).trans rfl
                have b6 := (kcl HB22.out 6).trans rfl
                have b7 := (kcl HB22.out 7).trans rfl
                go_wp2_with fail
                refine (adtApply.calls kd nj Aj cj xj s.op s.a s.b s.n s.code s.text s.rn _ HCj6.out Hcj.out HXL.out).mono ?_
                rintro e w41 ⟨v41, rfl, hO, hB41⟩
                have HNW := Z0.mk (HLF6.out.now (n' := (applyR kd nj xj s.op s.a s.b s.n s.code s.text).1) hB41 hO)
                have HLF7 := Z0.mk (HLF6.out.step hB41)
                have HC7 := Z0.mk (Kd.R_below HC6.out hB41)
                obtain ⟨A41, m41, c41, hv41⟩ : ∃ A41 m41 c41, v41 = .slice A41 m41 c41 := by
                  rcases hO with ⟨h, -⟩ | h
                  · exact ⟨_, _, _, h⟩
                  · obtain ⟨A3, c3, h⟩ := Kd.R_slice h
                    exact ⟨_, _, _, h⟩
                subst hv41
                have HRJ := Z0.mk (show applyR kd nj xj s.op s.a s.b s.n s.code s.text = runS kd (n1, xs0) (flatO ls dn ++ (ls.getD k []).take (j + 1)) from HNX.out.symm)
                have HC8 := Z0.mk (far_ent HC7.out HLF7.out.lf.gb (applyR kd nj xj s.op s.a s.b s.n s.code s.text).1 (.slice A41 m41 c41))
                clear hO hB41 HLF6 HC6 HCj6 HB22 HNX HRN HEV Hcj HXL HC7 a0 a1 a2 b1 b2 b3 b4 b5 b6 b7
                generalize applyR kd nj xj s.op s.a s.b s.n s.code s.text = y at HNW HRJ HC8 ⊢
                obtain ⟨n6, x6⟩ := y
                dsimp only at HNW HRJ HC8 ⊢
                have a0 := (kcl HLF7.out.lf.gb 0).trans rfl
                have a1 := (kcl HLF7.out.lf.gb 1).trans rfl
                have a2 := (kcl HLF7.out.lf.gb 2).trans rfl
                have f0 := kfr HLF7.out.lf.gb 0
                have f1 := kfr HLF7.out.lf.gb 1
                have f2 := kfr HLF7.out.lf.gb 2
                have hk2 := HK2.out
                go_wp2
                clear hk2
                go_roundw
                case rel => exact ⟨j + 1, _, _, _, by go_num, by omega, HNW, HRJ, HC8⟩
                case measure => simp [intOf]; omega
              · obtain rfl : j = es.length := by omega
                have HRN3 := Z0.mk (show (nj, xj) = runS kd (n1, xs0) (flatO ls (dn ++ [k])) by rw [flatO_append, flatO_one]; have h := HRN.out; rw [HES.out, List.length_map, List.take_length] at h; exact h)
                have HPN := Z0.mk (show ((dn ++ [k]) ++ lf.eraseIdx i).Perm [0, 1, 2, 3] by rw [List.append_assoc]; exact HPM.out)
                have HER := Z0.mk (show (lf.eraseIdx i).length = lf.length - 1 from List.length_eraseIdx_of_lt hi)
                have HDN := Z0.mk (show d + 1 = (dn ++ [k]).length by rw [HDL.out]; simp)
                have hli : (i : Int) + 1 ≤ (lf.length : Int) := by omega
                have hci : (lf.length : Int) ≤ (c : Int) := by omega
                have hi4 : (i : Int) < 4 := by omega
                have hic : i ≤ c := by omega
                have hi9 : (0 : Int) ≤ (i : Int) + 1 := by omega
                have htn : ((i : Int) + 1).toNat = i + 1 := by omega
                have HWI := Z0.mk (show wrap64 ((i : Int) + 1) = (i : Int) + 1 by unfold wrap64; omega)
                have hwi := HWI.out
                go_upto_region 49 with fail
                have HLG5 := Z0.mk (HLF.out.step (below_drew (Below.refl _ _)))
                clear HLF HRN HC32 HPM HES
                by_cases q7 : i + 1 = lf.length
                · have HQ7 := Z0.mk q7
                  clear q7
                  refine start_ (n := 10) (S := fun w' => True) (ds := []) #[false,false,false,false,false,false,false,false,false,false] (by kernel_rfl) rfl rfl trivial (fun hHeld => ?_)
                  generalize wr.drew = w50 at HLG5 hHeld ⊢
                  refine pu_ 0 (some 194) (bA 10 1) ?_
                  refine pu_ 1 (some 195) (bA 10 3) ?_
                  refine pu_ 2 (some 196) (bA 10 7) ?_
                  refine pu_ 3 (some 197) (bA 10 15) ?_
                  refine pu_ 4 (some 198) (bA 10 31) ?_
                  refine pu_ 5 (some 199) (bA 10 63) ?_
                  refine pu_ 6 (some 200) (bA 10 127) ?_
                  refine pu_ 7 (some 201) (bA 10 255) ?_
                  refine one_ (i := 8) (N := some 202) (bA 10 511) rfl rfl (by kernel_rfl) (by decide) (fun K hK => ?_)
                  refine step_append_runN rfl _ _ 26 26 rfl _ _ (by first | rfl | (simp [Act.eval, Act.put]; done)) (by first | rfl | (simp [Act.eval, Act.put]; done)) _ _ (left_noneM w50 g i (lf.length - (i + 1)) (c - (i + 1)) (if c = i + 1 then some ⟨g, 0, none⟩ else some ⟨g, i + 1, none⟩) (by have := HQ7.out; omega)) ?_
                  refine hK.out _ _ trivial (fun hHeld => ?_)
                  clear hK K
                  refine nm_ (some 202) ?_
                  refine pu_ 9 (some 22) (bA 10 1023) ?_
                  refine done_ (by kernel_rfl) ?_
                  clear hwi htn
                  have hkd := HKD.out
                  go_wp2
                  clear hkd
                  go_roundw
                  case rel => exact ⟨dn ++ [k], lf.eraseIdx i, g, i, d + 1, _, _, _, by rw [show (lf.eraseIdx i).length = i by have := HQ7.out; rw [HER.out]; omega], by go_num, by have := HQ7.out; rw [HER.out]; omega, HDN, HPN, ⟨⟨HLG5.out.lf, HLG5.out.ne, HLG5.out.gb, HLG5.out.gr, HLG5.out.ne3, HLG5.out.rd.erase_last HQ7.out⟩⟩, HRN3⟩
                  case measure => have := HLN.out; simp [intOf]; omega
                · have HQ7 := Z0.mk (show i + 1 < lf.length by omega)
                  have q8c : ¬ (c = i + 1) := by omega
                  have e8 : ¬ (c : Int) = (i : Int) + 1 := by omega
                  refine start_ (n := 10) (S := fun w' => True) (ds := []) #[false,false,false,false,false,false,false,false,false,false] (by kernel_rfl) rfl rfl trivial (fun hHeld => ?_)
                  generalize wr.drew = w50 at HLG5 hHeld ⊢
                  refine pu_ 0 (some 194) (bA 10 1) ?_
                  refine pu_ 1 (some 195) (bA 10 3) ?_
                  refine pu_ 2 (some 196) (bA 10 7) ?_
                  refine pu_ 3 (some 197) (bA 10 15) ?_
                  refine pu_ 4 (some 198) (bA 10 31) ?_
                  refine pu_ 5 (some 199) (bA 10 63) ?_
                  refine pu_ 6 (some 200) (bA 10 127) ?_
                  refine pu_ 7 (some 201) (bA 10 255) ?_
                  refine one_ (i := 8) (N := some 202) (bA 10 511) rfl rfl (by kernel_rfl) (by decide) (fun K hK => ?_)
                  obtain ⟨c9, w51, hr9, hB9, hR9, hc9⟩ := left_grow (c := c - (i + 1)) HLG5.out.rd HQ7.out hl4
                  have HB9 := Z0.mk hB9
                  have HR9 := Z0.mk hR9
                  have Hc9 := Z0.mk hc9
                  clear hB9 hR9 hc9
                  refine step_append_runN rfl _ _ 26 26 rfl _ _ (by first | rfl | (simp [Act.eval, Act.put]; done)) (by first | rfl | (simp [Act.eval, Act.put]; done)) _ _ (hr9) ?_
                  refine hK.out _ _ trivial (fun hHeld => ?_)
                  clear hK K
                  refine nm_ (some 202) ?_
                  refine pu_ 9 (some 22) (bA 10 1023) ?_
                  refine done_ (by kernel_rfl) ?_
                  clear hr9
                  have HL9 := Z0.mk (HLG5.out.step HB9.out)
                  clear hwi htn
                  have hkd := HKD.out
                  go_wp2
                  clear hkd
                  go_roundw
                  case rel => exact ⟨dn ++ [k], lf.eraseIdx i, w50.heap.size, c9, d + 1, _, _, _, by rw [HER.out], by go_num, by rw [HER.out]; exact Hc9.out, HDN, HPN, ⟨⟨HL9.out.lf, HL9.out.ne, HL9.out.gb, HL9.out.gr, (by have := klt_ HLG5.out.lf.gb; omega), HR9.out⟩⟩, HRN3⟩
                  case measure => have := HLN.out; simp [intOf]; omega
end Go.Proofs.YtjiblcncadekcaaGreat.PA

