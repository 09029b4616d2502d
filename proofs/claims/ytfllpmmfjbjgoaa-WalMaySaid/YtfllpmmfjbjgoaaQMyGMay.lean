import Derived.Test.YtfllpmmfjbjgoaaQMyGAwake
import Derived.Test.YtfllpmmfjbjgoaaQMyPAx6
namespace Go.Proofs.Ytfllpmmfjbjgoaa.PA
set_option linter.unusedSimpArgs false
open Go.RowKit Go.Proofs.YtfllpmmfjbjgoaaW.PrintWords Go.Proofs.YtfllpmmfjbjgoaaW.PrintLast Go.Proofs.YtfllpmmfjbjgoaaW.PrintMore Go.Proofs.Ytfllpmmfjbjgoaa Go.Proofs.Ytfllpmmfjbjgoaa.PL
set_option maxHeartbeats 2000000 in
theorem wal_Scan_bad (g : Nat) (d : Dv) (fr ln from_ : Int) (w0 w : World) (hI : IsDev w0 w g d) (hn : d.sec.length ≤ 1000000) (hb : ¬ chkA fr ln d.sec.length = 0) :
    Calls Try.prog 13 #[.pointer (some ⟨g, 0, none⟩), .agg #[.int .i64 fr, .int .i64 ln], .int .i64 from_] w fun e w' => e = .returned (.tuple #[.slice none 0 0, .int .i64 0, .int .i64 (chkA fr ln d.sec.length)]) ∧ Below w.heap.size w w' := by
  have hC := wal_Check.calls g d fr ln w0 _ (hI.below (bal (Below.refl w.heap.size w) (.cells #[.int .i64 fr, .int .i64 ln] 28))) hn
  have hx : (w.alloc (.cells #[.int .i64 fr, .int .i64 ln] 28)).heap[w.heap.size]? = _ := World.alloc_heap_new w (.cells #[.int .i64 fr, .int .i64 ln] 28)
  have HB := Aside0.mk (bal (Below.refl w.heap.size w) (.cells #[.int .i64 fr, .int .i64 ln] 28))
  have b0 := (kcl hx 0).trans rfl
  have b1 := (kcl hx 1).trans rfl
  generalize chkA fr ln d.sec.length = r at hC hb ⊢
  have HC := Aside0.mk hC
  have p1 : (r != 0) = true := bne_iff_ne.2 hb
  clear hC hx hn hI hb
  go_enter Try.func13, Try.ntmps13
  go_wp2_with fail
  refine HC.out.mono ?_
  rintro e w1 ⟨rfl, hB⟩
  have HB1 := Aside0.mk (bsp HB.out hB)
  clear hB b0 b1
  go_wp2
  go_ret3
  exact ⟨rfl, HB1.out⟩
theorem ref_cost_l0 (n : Nat) (hn : n ≤ 1000000) : ∀ (d j k : Nat), j + d = costN n → 1 ≤ j → d < k → armoireref05_Cost.l0 k (n : Int) (j : Int) = some (costN n : Int) := by
  have hc := cost_pos n
  intro d
  induction d with
  | zero =>
    intro j k h1 h2 h3
    obtain ⟨k, rfl⟩ : ∃ q, k = q + 1 := ⟨k - 1, by omega⟩
    have hj : j = costN n := by omega
    rw [armoireref05_Cost.l0, wrapI _ (by omega), if_neg (by omega), hj]
  | succ d ih =>
    intro j k h1 h2 h3
    obtain ⟨k, rfl⟩ : ∃ q, k = q + 1 := ⟨k - 1, by omega⟩
    have hlt : 44 * j < n := by unfold costN at h1; omega
    rw [armoireref05_Cost.l0, wrapI (44 * (j : Int)) (by omega), if_pos (by omega), wrapI _ (by omega), show (j : Int) + 1 = ((j + 1 : Nat) : Int) by omega]
    exact ih (j + 1) k (by omega) (by omega) (by omega)
theorem ref_cost (n : Nat) (hn : n ≤ 1000000) : armoireref05_Cost.f (costN n + 1) (n : Int) = some (costN n : Int) := by
  have hc := cost_pos n
  exact ref_cost_l0 n hn (costN n - 1) 1 (costN n + 1) (by omega) (by omega) (by omega)
theorem cost_neg : wal_Cost.f (-5) = some 1 := by decide +kernel
set_option maxHeartbeats 16000000 in
set_option maxRecDepth 100000 in
theorem WalMay.walk (a0 : Int) (h0 : (Lit.int .i64 a0).wf = true) (a1 : Int) (h1 : (Lit.int .i64 a1).wf = true) (a2 : Int) (_ : (Lit.int .i64 a2).wf = true) (a3 : Int) (_ : (Lit.int .i64 a3).wf = true) (w : World) :
    Calls Try.prog 3 #[.int .i64 a0, .int .i64 a1, .int .i64 a2, .int .i64 a3] w fun e w' => e = .returned (.bool true) ∧ Below w.heap.size w w' := by
  have hr : (-9223372036854775808 ≤ a0 ∧ a0 ≤ 9223372036854775807) ∧ (-9223372036854775808 ≤ a1 ∧ a1 ≤ 9223372036854775807) := by
    simp [Lit.wf, IntKind.min, IntKind.max, IntKind.signed, IntKind.bits] at h0 h1
    omega
  clear h0 h1
  have hm := i64_and4095 a3
  obtain ⟨c, hc⟩ : ∃ c : Nat, a3 % 4096 = c ∧ c < 4096 := ⟨(a3 % 4096).toNat, by omega, by omega⟩
  obtain ⟨hc, hc2⟩ := hc
  rw [hc] at hm
  clear hc
  have HC1 := Aside0.mk (cost_f c (by omega))
  have HC2 := Aside0.mk (ref_cost c (by omega))
  have HC3 := Aside0.mk cost_neg
  generalize costN c = cc at HC1 HC2
  have hn := device_New_good 10 w w (Below.refl _ _) (by decide) (by decide)
  rw [show ((10 : Nat) : Int) = 10 from rfl] at hn
  have hs10 : (dvNew 10).sec.length = 10 := by simp [dvNew]
  have hdi := DI.new 10
  have hup := (upn_new 10).down
  generalize dvNew 10 = dn at hn hs10 hdi hup
  have HN := Aside0.mk hn
  have HS := Aside0.mk hs10
  have HDI := Aside0.mk hdi
  have HUP := Aside0.mk hup
  have HR := Aside0.mk hr
  clear hn hs10 hdi hup hr hc2
  by_cases q1 : a1 < 2
  · have hA : chkA a0 a1 dn.sec.length = 4 := by rw [HS.out]; unfold chkA; rw [if_pos (by omega)]
    have HO := Aside0.mk (show openE a0 a1 a2 dn.sec.length = 4 by unfold openE; rw [hA]; rfl)
    have HA := Aside0.mk hA
    have p1 : decide (2 ≤ a1) = false := decide_eq_false (by omega)
    clear hA q1
    go_enter Try.func3, Try.ntmps3
    go_wp2_with fail
    refine HN.out.mono ?_
    rintro e w1 ⟨rfl, hI, hB, -⟩
    have HI1 := Aside0.mk hI
    have HB1 := Aside0.mk hB
    clear hI hB
    go_wp2_with fail
    refine (law_awake.calls _).mono ?_
    rintro e w2 ⟨rfl, hB⟩
    have hx := World.alloc_heap_new w2 (.cells #[.int .i64 a0, .int .i64 a1] 28)
    have HX := Aside0.mk hx
    have HI2 := Aside0.mk ((HI1.out.below hB).below (bal (Below.refl _ _) (.cells #[.int .i64 a0, .int .i64 a1] 28)))
    have HB2 := Aside0.mk (bal (bsp HB1.out hB) (.cells #[.int .i64 a0, .int .i64 a1] 28))
    have b0 := (kcl hx 0).trans rfl
    have b1 := (kcl hx 1).trans rfl
    clear hB hx
    go_wp2_with fail
    refine (wal_Open_bad _ dn a0 a1 a2 w _ HI2.out (by rw [HS.out]; decide) (by rw [HO.out]; decide)).mono ?_
    rintro e w3 ⟨rfl, hB⟩
    rw [HO.out]
    have hx3 := (hB.block w2.heap.size (blk_lt HX.out)).trans HX.out
    clear b0 b1
    have b0 := (kcl hx3 0).trans rfl
    have b1 := (kcl hx3 1).trans rfl
    have HI3 := Aside0.mk (HI2.out.below hB)
    have HB3 := Aside0.mk (bsp HB2.out hB)
    clear hB hx3
    go_wp2_with fail
    refine (wal_Scan_bad _ dn a0 a1 1 w _ HI3.out (by rw [HS.out]; decide) (by rw [HA.out]; decide)).mono ?_
    rintro e w4 ⟨rfl, hB⟩
    rw [HA.out]
    have HB4 := Aside0.mk (bsp HB3.out hB)
    clear hB b0 b1
    go_wp2_with fail
    refine (wal_Cost.calls _ _ _ HC1.out).mono ?_
    rintro e w5 ⟨rfl, hB⟩
    have HB5 := Aside0.mk (bsp HB4.out hB)
    clear hB
    go_wp2_with fail
    refine (armoireref05_Cost.calls _ _ _ _ HC2.out).mono ?_
    rintro e w6 ⟨rfl, ⟨m6, rfl⟩⟩
    go_wp2_with fail
    refine (wal_Cost.calls _ _ _ HC3.out).mono ?_
    rintro e w7 ⟨rfl, hB⟩
    have HB7 := Aside0.mk (bsp (bdn HB5.out m6) hB)
    clear hB
    go_wp2
    go_ret
    exact ⟨rfl, HB7.out⟩
  have p1 : decide (2 ≤ a1) = true := decide_eq_true (by omega)
  by_cases q2 : 10 < a1
  · have hA : chkA a0 a1 dn.sec.length = 4 := by rw [HS.out]; unfold chkA; rw [if_pos (by omega)]
    have HO := Aside0.mk (show openE a0 a1 a2 dn.sec.length = 4 by unfold openE; rw [hA]; rfl)
    have HA := Aside0.mk hA
    have p2 : decide (a1 ≤ 10) = false := decide_eq_false (by omega)
    clear hA q2
    go_enter Try.func3, Try.ntmps3
    go_wp2_with fail
    refine HN.out.mono ?_
    rintro e w1 ⟨rfl, hI, hB, -⟩
    have HI1 := Aside0.mk hI
    have HB1 := Aside0.mk hB
    clear hI hB
    go_wp2_with fail
    refine (law_awake.calls _).mono ?_
    rintro e w2 ⟨rfl, hB⟩
    have hx := World.alloc_heap_new w2 (.cells #[.int .i64 a0, .int .i64 a1] 28)
    have HX := Aside0.mk hx
    have HI2 := Aside0.mk ((HI1.out.below hB).below (bal (Below.refl _ _) (.cells #[.int .i64 a0, .int .i64 a1] 28)))
    have HB2 := Aside0.mk (bal (bsp HB1.out hB) (.cells #[.int .i64 a0, .int .i64 a1] 28))
    have b0 := (kcl hx 0).trans rfl
    have b1 := (kcl hx 1).trans rfl
    clear hB hx
    go_wp2_with fail
    refine (wal_Open_bad _ dn a0 a1 a2 w _ HI2.out (by rw [HS.out]; decide) (by rw [HO.out]; decide)).mono ?_
    rintro e w3 ⟨rfl, hB⟩
    rw [HO.out]
    have hx3 := (hB.block w2.heap.size (blk_lt HX.out)).trans HX.out
    clear b0 b1
    have b0 := (kcl hx3 0).trans rfl
    have b1 := (kcl hx3 1).trans rfl
    have HI3 := Aside0.mk (HI2.out.below hB)
    have HB3 := Aside0.mk (bsp HB2.out hB)
    clear hB hx3
    go_wp2_with fail
    refine (wal_Scan_bad _ dn a0 a1 1 w _ HI3.out (by rw [HS.out]; decide) (by rw [HA.out]; decide)).mono ?_
    rintro e w4 ⟨rfl, hB⟩
    rw [HA.out]
    have HB4 := Aside0.mk (bsp HB3.out hB)
    clear hB b0 b1
    go_wp2_with fail
    refine (wal_Cost.calls _ _ _ HC1.out).mono ?_
    rintro e w5 ⟨rfl, hB⟩
    have HB5 := Aside0.mk (bsp HB4.out hB)
    clear hB
    go_wp2_with fail
    refine (armoireref05_Cost.calls _ _ _ _ HC2.out).mono ?_
    rintro e w6 ⟨rfl, ⟨m6, rfl⟩⟩
    go_wp2_with fail
    refine (wal_Cost.calls _ _ _ HC3.out).mono ?_
    rintro e w7 ⟨rfl, hB⟩
    have HB7 := Aside0.mk (bsp (bdn HB5.out m6) hB)
    clear hB
    go_wp2
    go_ret
    exact ⟨rfl, HB7.out⟩
  have p2 : decide (a1 ≤ 10) = true := decide_eq_true (by omega)
  by_cases q3 : a0 < 0
  · have hA : chkA a0 a1 dn.sec.length = 4 := by rw [HS.out]; unfold chkA; rw [if_pos (by omega)]
    have HO := Aside0.mk (show openE a0 a1 a2 dn.sec.length = 4 by unfold openE; rw [hA]; rfl)
    have HA := Aside0.mk hA
    have p3 : decide (0 ≤ a0) = false := decide_eq_false (by omega)
    clear hA q3
    go_enter Try.func3, Try.ntmps3
    go_wp2_with fail
    refine HN.out.mono ?_
    rintro e w1 ⟨rfl, hI, hB, -⟩
    have HI1 := Aside0.mk hI
    have HB1 := Aside0.mk hB
    clear hI hB
    go_wp2_with fail
    refine (law_awake.calls _).mono ?_
    rintro e w2 ⟨rfl, hB⟩
    have hx := World.alloc_heap_new w2 (.cells #[.int .i64 a0, .int .i64 a1] 28)
    have HX := Aside0.mk hx
    have HI2 := Aside0.mk ((HI1.out.below hB).below (bal (Below.refl _ _) (.cells #[.int .i64 a0, .int .i64 a1] 28)))
    have HB2 := Aside0.mk (bal (bsp HB1.out hB) (.cells #[.int .i64 a0, .int .i64 a1] 28))
    have b0 := (kcl hx 0).trans rfl
    have b1 := (kcl hx 1).trans rfl
    clear hB hx
    go_wp2_with fail
    refine (wal_Open_bad _ dn a0 a1 a2 w _ HI2.out (by rw [HS.out]; decide) (by rw [HO.out]; decide)).mono ?_
    rintro e w3 ⟨rfl, hB⟩
    rw [HO.out]
    have hx3 := (hB.block w2.heap.size (blk_lt HX.out)).trans HX.out
    clear b0 b1
    have b0 := (kcl hx3 0).trans rfl
    have b1 := (kcl hx3 1).trans rfl
    have HI3 := Aside0.mk (HI2.out.below hB)
    have HB3 := Aside0.mk (bsp HB2.out hB)
    clear hB hx3
    go_wp2_with fail
    refine (wal_Scan_bad _ dn a0 a1 1 w _ HI3.out (by rw [HS.out]; decide) (by rw [HA.out]; decide)).mono ?_
    rintro e w4 ⟨rfl, hB⟩
    rw [HA.out]
    have HB4 := Aside0.mk (bsp HB3.out hB)
    clear hB b0 b1
    go_wp2_with fail
    refine (wal_Cost.calls _ _ _ HC1.out).mono ?_
    rintro e w5 ⟨rfl, hB⟩
    have HB5 := Aside0.mk (bsp HB4.out hB)
    clear hB
    go_wp2_with fail
    refine (armoireref05_Cost.calls _ _ _ _ HC2.out).mono ?_
    rintro e w6 ⟨rfl, ⟨m6, rfl⟩⟩
    go_wp2_with fail
    refine (wal_Cost.calls _ _ _ HC3.out).mono ?_
    rintro e w7 ⟨rfl, hB⟩
    have HB7 := Aside0.mk (bsp (bdn HB5.out m6) hB)
    clear hB
    go_wp2
    go_ret
    exact ⟨rfl, HB7.out⟩
  have p3 : decide (0 ≤ a0) = true := decide_eq_true (by omega)
  have e1 : wrap64 (10 - a1) = 10 - a1 := wrapI _ (by omega)
  by_cases q4 : 10 - a1 < a0
  · have hA : chkA a0 a1 dn.sec.length = 4 := by rw [HS.out]; unfold chkA; rw [if_pos (by omega)]
    have HO := Aside0.mk (show openE a0 a1 a2 dn.sec.length = 4 by unfold openE; rw [hA]; rfl)
    have HA := Aside0.mk hA
    have p4 : decide (a0 ≤ 10 - a1) = false := decide_eq_false (by omega)
    clear hA q4
    go_enter Try.func3, Try.ntmps3
    go_wp2_with fail
    refine HN.out.mono ?_
    rintro e w1 ⟨rfl, hI, hB, -⟩
    have HI1 := Aside0.mk hI
    have HB1 := Aside0.mk hB
    clear hI hB
    go_wp2_with fail
    refine (law_awake.calls _).mono ?_
    rintro e w2 ⟨rfl, hB⟩
    have hx := World.alloc_heap_new w2 (.cells #[.int .i64 a0, .int .i64 a1] 28)
    have HX := Aside0.mk hx
    have HI2 := Aside0.mk ((HI1.out.below hB).below (bal (Below.refl _ _) (.cells #[.int .i64 a0, .int .i64 a1] 28)))
    have HB2 := Aside0.mk (bal (bsp HB1.out hB) (.cells #[.int .i64 a0, .int .i64 a1] 28))
    have b0 := (kcl hx 0).trans rfl
    have b1 := (kcl hx 1).trans rfl
    clear hB hx
    go_wp2_with fail
    refine (wal_Open_bad _ dn a0 a1 a2 w _ HI2.out (by rw [HS.out]; decide) (by rw [HO.out]; decide)).mono ?_
    rintro e w3 ⟨rfl, hB⟩
    rw [HO.out]
    have hx3 := (hB.block w2.heap.size (blk_lt HX.out)).trans HX.out
    clear b0 b1
    have b0 := (kcl hx3 0).trans rfl
    have b1 := (kcl hx3 1).trans rfl
    have HI3 := Aside0.mk (HI2.out.below hB)
    have HB3 := Aside0.mk (bsp HB2.out hB)
    clear hB hx3
    go_wp2_with fail
    refine (wal_Scan_bad _ dn a0 a1 1 w _ HI3.out (by rw [HS.out]; decide) (by rw [HA.out]; decide)).mono ?_
    rintro e w4 ⟨rfl, hB⟩
    rw [HA.out]
    have HB4 := Aside0.mk (bsp HB3.out hB)
    clear hB b0 b1
    go_wp2_with fail
    refine (wal_Cost.calls _ _ _ HC1.out).mono ?_
    rintro e w5 ⟨rfl, hB⟩
    have HB5 := Aside0.mk (bsp HB4.out hB)
    clear hB
    go_wp2_with fail
    refine (armoireref05_Cost.calls _ _ _ _ HC2.out).mono ?_
    rintro e w6 ⟨rfl, ⟨m6, rfl⟩⟩
    go_wp2_with fail
    refine (wal_Cost.calls _ _ _ HC3.out).mono ?_
    rintro e w7 ⟨rfl, hB⟩
    have HB7 := Aside0.mk (bsp (bdn HB5.out m6) hB)
    clear hB
    go_wp2
    go_ret
    exact ⟨rfl, HB7.out⟩
  have p4 : decide (a0 ≤ 10 - a1) = true := decide_eq_true (by omega)
  have hA : chkA a0 a1 ((10 : Nat) : Int) = 0 := by unfold chkA; rw [if_neg (by omega)]
  have HAN := Aside0.mk hA
  have HA := Aside0.mk (show chkA a0 a1 dn.sec.length = 0 by rw [HS.out]; exact hA)
  clear hA q1 q2 q3 q4
  by_cases q5 : a2 < 1
  · have HO := Aside0.mk (show openE a0 a1 a2 dn.sec.length = 18 by unfold openE; rw [HA.out, if_pos rfl, if_pos (by omega)])
    have p5 : decide (a2 < 1) = true := decide_eq_true (by omega)
    clear q5
    go_enter Try.func3, Try.ntmps3
    go_wp2_with fail
    refine HN.out.mono ?_
    rintro e w1 ⟨rfl, hI, hB, -⟩
    have HI1 := Aside0.mk hI
    have HB1 := Aside0.mk hB
    clear hI hB
    go_wp2_with fail
    refine (law_awake.calls _).mono ?_
    rintro e w2 ⟨rfl, hB⟩
    have hx := World.alloc_heap_new w2 (.cells #[.int .i64 a0, .int .i64 a1] 28)
    have HX := Aside0.mk hx
    have HI2 := Aside0.mk ((HI1.out.below hB).below (bal (Below.refl _ _) (.cells #[.int .i64 a0, .int .i64 a1] 28)))
    have HB2 := Aside0.mk (bal (bsp HB1.out hB) (.cells #[.int .i64 a0, .int .i64 a1] 28))
    have b0 := (kcl hx 0).trans rfl
    have b1 := (kcl hx 1).trans rfl
    clear hB hx
    go_wp2_with fail
    refine (wal_Open_bad _ dn a0 a1 a2 w _ HI2.out (by rw [HS.out]; decide) (by rw [HO.out]; decide)).mono ?_
    rintro e w3 ⟨rfl, hB⟩
    rw [HO.out]
    have hx3 := (hB.block w2.heap.size (blk_lt HX.out)).trans HX.out
    clear b0 b1
    have b0 := (kcl hx3 0).trans rfl
    have b1 := (kcl hx3 1).trans rfl
    have HI3 := Aside0.mk (HI2.out.below hB)
    have HB3 := Aside0.mk (bsp HB2.out hB)
    clear hB hx3
    go_wp2_with fail
    refine (wal_Scan.calls _ dn a0 a1 1 w _ 10 0 HI3.out HUP.out HDI.out HAN.out (by decide) ⟨by decide, by decide⟩).mono ?_
    rintro e w4 ⟨v, rfl, hR, hB⟩
    obtain ⟨A4, c4, rfl⟩ := Kd.R_slice hR
    clear hR
    have HB4 := Aside0.mk (bsp HB3.out hB)
    clear hB b0 b1
    go_wp2_with fail
    refine (wal_Cost.calls _ _ _ HC1.out).mono ?_
    rintro e w5 ⟨rfl, hB⟩
    have HB5 := Aside0.mk (bsp HB4.out hB)
    clear hB
    go_wp2_with fail
    refine (armoireref05_Cost.calls _ _ _ _ HC2.out).mono ?_
    rintro e w6 ⟨rfl, ⟨m6, rfl⟩⟩
    go_wp2_with fail
    refine (wal_Cost.calls _ _ _ HC3.out).mono ?_
    rintro e w7 ⟨rfl, hB⟩
    have HB7 := Aside0.mk (bsp (bdn HB5.out m6) hB)
    clear hB
    go_wp2
    go_ret
    exact ⟨rfl, HB7.out⟩
  have p5 : decide (a2 < 1) = false := decide_eq_false (by omega)
  by_cases q6 : 1099511627776 < a2
  · have HO := Aside0.mk (show openE a0 a1 a2 dn.sec.length = 18 by unfold openE; rw [HA.out, if_pos rfl, if_pos (by omega)])
    have p6 : decide (1099511627776 < a2) = true := decide_eq_true (by omega)
    clear q6
    go_enter Try.func3, Try.ntmps3
    go_wp2_with fail
    refine HN.out.mono ?_
    rintro e w1 ⟨rfl, hI, hB, -⟩
    have HI1 := Aside0.mk hI
    have HB1 := Aside0.mk hB
    clear hI hB
    go_wp2_with fail
    refine (law_awake.calls _).mono ?_
    rintro e w2 ⟨rfl, hB⟩
    have hx := World.alloc_heap_new w2 (.cells #[.int .i64 a0, .int .i64 a1] 28)
    have HX := Aside0.mk hx
    have HI2 := Aside0.mk ((HI1.out.below hB).below (bal (Below.refl _ _) (.cells #[.int .i64 a0, .int .i64 a1] 28)))
    have HB2 := Aside0.mk (bal (bsp HB1.out hB) (.cells #[.int .i64 a0, .int .i64 a1] 28))
    have b0 := (kcl hx 0).trans rfl
    have b1 := (kcl hx 1).trans rfl
    clear hB hx
    go_wp2_with fail
    refine (wal_Open_bad _ dn a0 a1 a2 w _ HI2.out (by rw [HS.out]; decide) (by rw [HO.out]; decide)).mono ?_
    rintro e w3 ⟨rfl, hB⟩
    rw [HO.out]
    have hx3 := (hB.block w2.heap.size (blk_lt HX.out)).trans HX.out
    clear b0 b1
    have b0 := (kcl hx3 0).trans rfl
    have b1 := (kcl hx3 1).trans rfl
    have HI3 := Aside0.mk (HI2.out.below hB)
    have HB3 := Aside0.mk (bsp HB2.out hB)
    clear hB hx3
    go_wp2_with fail
    refine (wal_Scan.calls _ dn a0 a1 1 w _ 10 0 HI3.out HUP.out HDI.out HAN.out (by decide) ⟨by decide, by decide⟩).mono ?_
    rintro e w4 ⟨v, rfl, hR, hB⟩
    obtain ⟨A4, c4, rfl⟩ := Kd.R_slice hR
    clear hR
    have HB4 := Aside0.mk (bsp HB3.out hB)
    clear hB b0 b1
    go_wp2_with fail
    refine (wal_Cost.calls _ _ _ HC1.out).mono ?_
    rintro e w5 ⟨rfl, hB⟩
    have HB5 := Aside0.mk (bsp HB4.out hB)
    clear hB
    go_wp2_with fail
    refine (armoireref05_Cost.calls _ _ _ _ HC2.out).mono ?_
    rintro e w6 ⟨rfl, ⟨m6, rfl⟩⟩
    go_wp2_with fail
    refine (wal_Cost.calls _ _ _ HC3.out).mono ?_
    rintro e w7 ⟨rfl, hB⟩
    have HB7 := Aside0.mk (bsp (bdn HB5.out m6) hB)
    clear hB
    go_wp2
    go_ret
    exact ⟨rfl, HB7.out⟩
  have p6 : decide (1099511627776 < a2) = false := decide_eq_false (by omega)
  have HO := Aside0.mk (show openE a0 a1 a2 dn.sec.length = 0 by unfold openE; rw [HA.out, if_pos rfl, if_neg (by omega)])
  clear q5 q6
  go_enter Try.func3, Try.ntmps3
  go_wp2_with fail
  refine HN.out.mono ?_
  rintro e w1 ⟨rfl, hI, hB, -⟩
  have HI1 := Aside0.mk hI
  have HB1 := Aside0.mk hB
  clear hI hB
  go_wp2_with fail
  refine (law_awake.calls _).mono ?_
  rintro e w2 ⟨rfl, hB⟩
  have hx := World.alloc_heap_new w2 (.cells #[.int .i64 a0, .int .i64 a1] 28)
  have HX := Aside0.mk hx
  have HI2 := Aside0.mk ((HI1.out.below hB).below (bal (Below.refl _ _) (.cells #[.int .i64 a0, .int .i64 a1] 28)))
  have HB2 := Aside0.mk (bal (bsp HB1.out hB) (.cells #[.int .i64 a0, .int .i64 a1] 28))
  have b0 := (kcl hx 0).trans rfl
  have b1 := (kcl hx 1).trans rfl
  clear hB hx
  go_wp2_with fail
  refine (wal_Open_ok _ dn a0 a1 a2 w _ HI2.out HB2.out (by rw [HS.out]; decide) HO.out).mono ?_
  rintro e w3 ⟨b, rfl, -, hB⟩
  have hx3 := (hB.block w2.heap.size (blk_lt HX.out)).trans HX.out
  clear b0 b1
  have b0 := (kcl hx3 0).trans rfl
  have b1 := (kcl hx3 1).trans rfl
  have HI3 := Aside0.mk (HI2.out.below hB)
  have HB3 := Aside0.mk (bsp HB2.out hB)
  clear hB hx3
  go_wp2_with fail
  refine (wal_Scan.calls _ dn a0 a1 1 w _ 10 0 HI3.out HUP.out HDI.out HAN.out (by decide) ⟨by decide, by decide⟩).mono ?_
  rintro e w4 ⟨v, rfl, hR, hB⟩
  obtain ⟨A4, c4, rfl⟩ := Kd.R_slice hR
  clear hR
  have HB4 := Aside0.mk (bsp HB3.out hB)
  clear hB b0 b1
  go_wp2_with fail
  refine (wal_Cost.calls _ _ _ HC1.out).mono ?_
  rintro e w5 ⟨rfl, hB⟩
  have HB5 := Aside0.mk (bsp HB4.out hB)
  clear hB
  go_wp2_with fail
  refine (armoireref05_Cost.calls _ _ _ _ HC2.out).mono ?_
  rintro e w6 ⟨rfl, ⟨m6, rfl⟩⟩
  go_wp2_with fail
  refine (wal_Cost.calls _ _ _ HC3.out).mono ?_
  rintro e w7 ⟨rfl, hB⟩
  have HB7 := Aside0.mk (bsp (bdn HB5.out m6) hB)
  clear hB
  go_wp2
  go_ret
  exact ⟨rfl, HB7.out⟩
end Go.Proofs.Ytfllpmmfjbjgoaa.PA

