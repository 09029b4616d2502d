import Derived.Test.YtodikgjanhihhaaQLtFLm
import Derived.Test.YtodikgjanhihhaaQLtPAx3
import Derived.Test.YtodikgjanhihhaaQLtPAx5
import Derived.ChangeSlices
import Derived.ProofKit
import Derived.DataReads
import Derived.Test.YtodikgjanhihhaaQLtWWords
namespace Go.Proofs.Ytodikgjanhihhaa.PA
set_option linter.unusedSimpArgs false
open Go.RowKit Go.Proofs.YtodikgjanhihhaaW.PrintWords Go.Proofs.YtodikgjanhihhaaW.PrintLast Go.Proofs.YtodikgjanhihhaaW.PrintMore Go.Proofs.Ytodikgjanhihhaa Go.Proofs.Ytodikgjanhihhaa.PL
theorem alloc2_new (W : World) (o1 o2 : Obj) : ((W.alloc o1).alloc o2).heap[W.heap.size + 1]? = some o2 := by have := World.alloc_heap_new (W.alloc o1) o2; rw [World.size_alloc] at this; exact this
set_option maxHeartbeats 4000000 in
set_option maxRecDepth 100000 in
theorem StampLatest.walk (n1 m1 : Int) (t1 : ByteArray) (hw1 : (Lit.int .i64 n1).wf = true ∧ (Lit.int .u8 m1).wf = true ∧ t1.size ≤ maxLen) (n2 m2 : Int) (t2 : ByteArray) (hw2 : (Lit.int .i64 n2).wf = true ∧ (Lit.int .u8 m2).wf = true ∧ t2.size ≤ maxLen) (put : Int) (_ : (Lit.int .i64 put).wf = true) (spoil : Int) (_ : (Lit.int .i64 spoil).wf = true) (w : World) :
    Calls Try.prog 6 #[.agg #[.int .i64 n1, .int .u8 m1, .string t1], .agg #[.int .i64 n2, .int .u8 m2, .string t2], .int .i64 put, .int .i64 spoil] w fun e w' => e = .returned (.bool true) ∧ Below w.heap.size w w' := by
  have hm1 : 0 ≤ m1 ∧ m1 ≤ 255 := by
    have h := hw1.2.1
    simp [Lit.wf, IntKind.min, IntKind.max, IntKind.signed, IntKind.bits] at h
    omega
  have hm2 : 0 ≤ m2 ∧ m2 ≤ 255 := by
    have h := hw2.2.1
    simp [Lit.wf, IntKind.min, IntKind.max, IntKind.signed, IntKind.bits] at h
    omega
  clear hw1 hw2
  have HM1 := Aside0.mk hm1
  have HM2 := Aside0.mk hm2
  clear hm1 hm2
  have HC1 := Aside0.mk (show armoirelaw01_Cut.f t1 44 = some (t1.extract 0 (min 44 t1.size)) from cut_f t1 44)
  have HC2 := Aside0.mk (show armoirelaw01_Cut.f t2 44 = some (t2.extract 0 (min 44 t2.size)) from cut_f t2 44)
  have HS1 := Aside0.mk (cut_size t1 44)
  have HS2 := Aside0.mk (cut_size t2 44)
  obtain ⟨s1, hs1⟩ : ∃ s1, s1 = t1.extract 0 (min 44 t1.size) := ⟨_, rfl⟩
  obtain ⟨s2, hs2⟩ : ∃ s2, s2 = t2.extract 0 (min 44 t2.size) := ⟨_, rfl⟩
  rw [← hs1] at HC1 HS1
  rw [← hs2] at HC2 HS2
  clear hs1 hs2
  have hb0 : ((w.alloc (.cells #[.int .i64 n1, .int .u8 m1, .string t1] 23)).alloc (.cells #[.int .i64 n2, .int .u8 m2, .string t2] 23)).heap[w.heap.size]? = some (.cells #[.int .i64 n1, .int .u8 m1, .string t1] 23 (0, 0)) := (Below.heap_alloc _ _ _ (by simp)).trans (World.alloc_heap_new w _)
  have hb1 : ((w.alloc (.cells #[.int .i64 n1, .int .u8 m1, .string t1] 23)).alloc (.cells #[.int .i64 n2, .int .u8 m2, .string t2] 23)).heap[w.heap.size + 1]? = some (.cells #[.int .i64 n2, .int .u8 m2, .string t2] 23 (0, 0)) := by have := World.alloc_heap_new (w.alloc (.cells #[.int .i64 n1, .int .u8 m1, .string t1] 23)) (.cells #[.int .i64 n2, .int .u8 m2, .string t2] 23); rw [World.size_alloc] at this; exact this
  have HB0 := Aside0.mk hb0
  have HB1 := Aside0.mk hb1
  clear hb0 hb1
  go_enter Try.func6, Try.ntmps6
  go_upto_region 1 with fail
  go_cut [] (fun wc => Aside0 (wc.heap[w.heap.size]? = some (.cells #[.int .i64 n1, .int .u8 m1, .string s1] 23 (0, 0))) ∧ Aside0 (wc.heap[w.heap.size + 1]? = some (.cells #[.int .i64 n2, .int .u8 m2, .string s2] 23 (0, 0))) ∧ Aside0 (Below w.heap.size w wc))
  case first =>
    go_region_law (first | (go_simp; go_at_call 7; (with_reducible refine (armoirelaw01_Cut.calls t1 44 s1 _ HC1.out).mono ?_); rintro e w1 ⟨rfl, ⟨ma, rfl⟩⟩) | (go_simp; go_at_call 7; (with_reducible refine (armoirelaw01_Cut.calls t2 44 s2 _ HC2.out).mono ?_); rintro e w1 ⟨rfl, ⟨mb, rfl⟩⟩))
    all_goals go_wp2_with fail
    all_goals go_meet
    all_goals exact ⟨⟨(Below.heap_setCell _ ⟨w.heap.size + 1, 2, none⟩ _ w.heap.size (Nat.ne_of_lt (Nat.lt_succ_self _))).trans (blk_set HB0.out 2 (.string s1))⟩, ⟨blk_set ((Below.heap_setCell _ ⟨w.heap.size, 2, none⟩ _ (w.heap.size + 1) (Nat.succ_ne_self _)).trans HB1.out) 2 (.string s2)⟩, ⟨((bdn (bal (bal (Below.refl _ _) _) _) _).setCell (p := ⟨w.heap.size, 2, none⟩) (Nat.le_refl _) _).setCell (p := ⟨w.heap.size + 1, 2, none⟩) (Nat.le_succ _) _⟩⟩
  case rest =>
    obtain ⟨HX0, HX1, HB⟩ := hcut
    obtain ⟨wa, hwa⟩ : ∃ x, x = wc := ⟨_, rfl⟩
    subst hwa
    have HN := device_New_good 3 wa wa (Below.refl _ _) (by omega) (by omega)
    rw [show ((3 : Nat) : Int) = 3 from rfl] at HN
    have HN := Aside0.mk HN
    obtain ⟨ka, hka⟩ := Ev.rounds awake_true
    have HK := Aside0.mk hka
    clear hka
    go_wp2_with fail
    refine HN.out.mono ?_
    rintro e w1 ⟨rfl, hI, hB, -⟩
    have HI1 := Aside0.mk hI
    have HB1 := Aside0.mk hB
    clear hI hB
    go_wp2_with fail
    refine (armoirelaw04_awake.calls ka true _ HK.out).mono ?_
    rintro e w2 ⟨rfl, hB⟩
    have HI2 := Aside0.mk (HI1.out.below hB)
    have HB2 := Aside0.mk (bsp HB1.out hB)
    clear hB HI1 HB1 HN
    have hx0 : ∀ W, Below wa.heap.size wa W → W.heap[w.heap.size]? = some (.cells #[.int .i64 n1, .int .u8 m1, .string s1] 23 (0, 0)) := fun W h => (h.block w.heap.size (blk_lt HX0.out)).trans HX0.out
    have hx1 : ∀ W, Below wa.heap.size wa W → W.heap[w.heap.size + 1]? = some (.cells #[.int .i64 n2, .int .u8 m2, .string s2] 23 (0, 0)) := fun W h => (h.block (w.heap.size + 1) (blk_lt HX1.out)).trans HX1.out
    have HY0 := Aside0.mk hx0
    have HY1 := Aside0.mk hx1
    clear hx0 hx1
    obtain ⟨p1, hp1⟩ : ∃ p, Go.bits .and .i64 put 1 = p := ⟨_, rfl⟩
    obtain ⟨p2, hp2⟩ : ∃ p, Go.bits .and .i64 put 2 = p := ⟨_, rfl⟩
    obtain ⟨p3, hp3⟩ : ∃ p, Go.bits .and .i64 spoil 1 = p := ⟨_, rfl⟩
    go_upto_if 44 with fail
    go_cut [11] (fun v11 wd => ∃ (oA : Option ByteArray) (d : Dv), v11 = .bool oA.isSome ∧ Aside0 (∀ s, oA = some s → s = tx n1 m1 s1 ∧ FitS n1 m1 s1 ∧ 1 ≤ n1) ∧ Aside0 (Up d sec3 (cl oA none)) ∧ Aside0 (IsDev wa wd wa.heap.size d) ∧ Aside0 (Below wa.heap.size wa wd))
    case first =>
      obtain ⟨kc, hkc⟩ := Ev.rounds (rcheck_f n1 m1 s1)
      have HCk := Aside0.mk hkc
      have HTo := Aside0.mk (told_f n1 m1 s1 HM1.out.1 HM1.out.2)
      clear hkc
      by_cases qp : 0 < p1
      · have q1 : decide (0 < p1) = true := decide_eq_true qp
        clear qp
        rw [q1]
        have hbx := HY0.out _ HB2.out
        have c00 := (kcl hbx 0).trans rfl
        have c01 := (kcl hbx 1).trans rfl
        have c02 := (kcl hbx 2).trans rfl
        clear hbx
        go_wp2_with fail
        refine (stamp_Write.calls wa.heap.size (dvNew 3) 0 n1 m1 s1 wa _ HM1.out HI2.out HB2.out (up_left new3) (by decide)).mono ?_
        rintro e w3 ⟨rfl, hI, hB, -⟩
        by_cases q : chkS n1 s1 = 0
        · obtain ⟨hw1, hw2⟩ := up_wA new3 q HM1.out.1 HM1.out.2
          rw [hw1]
          have HUa := Aside0.mk hw2
          have HFi := Aside0.mk (chkS_fit q HM1.out.1 HM1.out.2)
          clear hw1 hw2
          have HI3 := Aside0.mk hI
          have HB3 := Aside0.mk hB
          clear hI hB c00 c01 c02
          have hbx := HY0.out _ HB3.out
          have c00 := (kcl hbx 0).trans rfl
          have c01 := (kcl hbx 1).trans rfl
          have c02 := (kcl hbx 2).trans rfl
          clear hbx
          go_wp2_with fail
          refine (armoirelaw04_Told.calls n1 m1 s1 n1 m1 s1 _ HTo.out).mono ?_
          rintro e w4 ⟨rfl, hB⟩
          have HB4 := Aside0.mk hB
          clear hB
          go_wp2_with fail
          refine (armoireref04_Check.calls kc n1 m1 s1 (chkS n1 s1) _ HCk.out).mono ?_
          rintro e w5 ⟨rfl, hB⟩
          have HB5 := Aside0.mk (bsp HB4.out hB)
          clear hB HB4
          rw [q]
          go_wp2
          go_meet
          exact ⟨some (tx n1 m1 s1), _, rfl, ⟨fun s hs => by cases hs; exact ⟨rfl, HFi.out⟩⟩, HUa, ⟨HI3.out.below HB5.out⟩, ⟨bsp HB3.out HB5.out⟩⟩
        · rw [up_no q] at hI ⊢
          have q2 : (chkS n1 s1 == 0) = false := beq_eq_false_iff_ne.2 q
          clear q
          have HI3 := Aside0.mk hI
          have HB3 := Aside0.mk hB
          clear hI hB c00 c01 c02
          have hbx := HY0.out _ HB3.out
          have c00 := (kcl hbx 0).trans rfl
          have c01 := (kcl hbx 1).trans rfl
          have c02 := (kcl hbx 2).trans rfl
          clear hbx
          go_wp2_with fail
          refine (armoirelaw04_Told.calls n1 m1 s1 n1 m1 s1 _ HTo.out).mono ?_
          rintro e w4 ⟨rfl, hB⟩
          have HB4 := Aside0.mk hB
          clear hB
          go_wp2_with fail
          refine (armoireref04_Check.calls kc n1 m1 s1 (chkS n1 s1) _ HCk.out).mono ?_
          rintro e w5 ⟨rfl, hB⟩
          have HB5 := Aside0.mk (bsp HB4.out hB)
          clear hB HB4
          go_wp2
          go_meet
          exact ⟨none, _, rfl, ⟨fun s hs => by cases hs⟩, ⟨new3⟩, ⟨HI3.out.below HB5.out⟩, ⟨bsp HB3.out HB5.out⟩⟩
      · have q1 : decide (0 < p1) = false := decide_eq_false qp
        clear qp
        rw [q1]
        go_wp2
        go_meet
        exact ⟨none, _, rfl, ⟨fun s hs => by cases hs⟩, ⟨new3⟩, HI2, HB2⟩
    case rest =>
      obtain ⟨oA, d, rfl, HA, HU, HD, HW⟩ := hcut
      obtain ⟨wb, hwb⟩ : ∃ x, x = wc := ⟨_, rfl⟩
      subst hwb
      clear HI2 HB2
      go_upto_if 57 with fail
      go_cut [12] (fun v12 wd => ∃ (oB : Option ByteArray) (d : Dv), v12 = .bool oB.isSome ∧ Aside0 (∀ s, oB = some s → s = tx n2 m2 s2 ∧ FitS n2 m2 s2 ∧ 1 ≤ n2) ∧ Aside0 (Up d sec3 (cl oA oB)) ∧ Aside0 (IsDev wa wd wa.heap.size d) ∧ Aside0 (Below wa.heap.size wa wd))
      case first =>
        by_cases qp : 0 < p2
        · have q1 : decide (0 < p2) = true := decide_eq_true qp
          clear qp
          rw [q1]
          have hbx := HY1.out _ HW.out
          have c10 := (kcl hbx 0).trans rfl
          have c11 := (kcl hbx 1).trans rfl
          have c12 := (kcl hbx 2).trans rfl
          clear hbx
          go_wp2_with fail
          refine (stamp_Write.calls wa.heap.size d 2 n2 m2 s2 wa _ HM2.out HD.out HW.out (up_left HU.out) (by rw [HU.out.cache]; exact cl_len _ _)).mono ?_
          rintro e w3 ⟨rfl, hI, hB, -⟩
          by_cases q : chkS n2 s2 = 0
          · obtain ⟨hw1, hw2⟩ := up_wB HU.out q HM2.out.1 HM2.out.2
            rw [hw1]
            have HE := Aside0.mk (And.intro hw2 (And.intro hI (And.intro hB (chkS_fit q HM2.out.1 HM2.out.2))))
            clear hw1 hw2 hI hB q
            go_wp2
            go_meet
            exact ⟨some (tx n2 m2 s2), _, rfl, ⟨fun s hs => by cases hs; exact ⟨rfl, HE.out.2.2.2⟩⟩, ⟨HE.out.1⟩, ⟨HE.out.2.1⟩, ⟨HE.out.2.2.1⟩⟩
          · rw [up_no q] at hI ⊢
            have q2 : (chkS n2 s2 == 0) = false := beq_eq_false_iff_ne.2 q
            have HE := Aside0.mk (And.intro hI hB)
            clear q hI hB
            go_wp2
            go_meet
            exact ⟨none, _, rfl, ⟨fun s hs => by cases hs⟩, HU, ⟨HE.out.1⟩, ⟨HE.out.2⟩⟩
        · have q1 : decide (0 < p2) = false := decide_eq_false qp
          clear qp
          rw [q1]
          go_wp2
          go_meet
          exact ⟨none, _, rfl, ⟨fun s hs => by cases hs⟩, HU, HD, HW⟩
      case rest =>
        obtain ⟨oB, d, rfl, HA2, HU2, HD2, HW2⟩ := hcut
        obtain ⟨wd, hwd⟩ : ∃ x, x = wc := ⟨_, rfl⟩
        subst hwd
        clear HD HW HU
        go_upto_if 64 with fail
        go_cut [12] (fun v12 we => ∃ (oB : Option ByteArray) (d : Dv), v12 = .bool oB.isSome ∧ Aside0 (Sees d oA oB n1 m1 s1 n2 m2 s2) ∧ Aside0 (IsDev wa we wa.heap.size d) ∧ Aside0 (Below wa.heap.size wa we))
        case first =>
          by_cases qp : 0 < p3
          · have q1 : decide (0 < p3) = true := decide_eq_true qp
            clear qp
            rw [q1]
            go_wp2_with fail
            refine (device_Flush.calls wa.heap.size d wa _ HD2.out HW2.out (up_left HU2.out) (cl_ok HU2.out)).mono ?_
            rintro e w3 ⟨rfl, hI, hB, -⟩
            have HI3 := Aside0.mk hI
            have HB3 := Aside0.mk hB
            clear hI hB
            go_wp2_with fail
            refine (device_Spoil.calls wa.heap.size _ 2 ⟨#[110, 111, 110, 101]⟩ wa _ HI3.out HB3.out (by decide)).mono ?_
            rintro e w4 ⟨rfl, hI, hB, -⟩
            have HE := Aside0.mk (And.intro (sees_spoiled (n2 := n2) (m2 := m2) (t2 := s2) HU2.out HA.out) (And.intro hI hB))
            clear hI hB
            go_wp2
            go_meet
            exact ⟨none, _, rfl, ⟨HE.out.1⟩, ⟨HE.out.2.1⟩, ⟨HE.out.2.2⟩⟩
          · have q1 : decide (0 < p3) = false := decide_eq_false qp
            clear qp
            rw [q1]
            go_wp2
            go_meet
            exact ⟨oB, _, rfl, ⟨sees_plain HU2.out HA.out HA2.out⟩, HD2, HW2⟩
        case rest =>
          obtain ⟨oB, d, rfl, HV, HI, HW⟩ := hcut
          obtain ⟨we, hwe⟩ : ∃ x, x = wc := ⟨_, rfl⟩
          subst hwe
          clear HD2 HW2 HU2
          cases oA with
          | none =>
            simp only [Option.isSome_none]
            cases oB with
            | none =>
              simp only [Option.isSome_none]
              have hL := stamp_Latest.calls wa.heap.size d 0 2 wa _ HI.out HV.out.r0.2 HV.out.r2.2
              rw [HV.out.r0.1, HV.out.r2.1, show stL (seen none n1 m1 s1) (seen none n2 m2 s2) 0 2 = (0, 0, ⟨#[]⟩, -1, 0) from rfl] at hL
              dsimp only at hL
              have hM := fun W h => stamp_Latest.calls wa.heap.size d 0 3 wa W h HV.out.r0.2 HV.out.r3.2
              rw [HV.out.r0.1, HV.out.r3.1, show stL (seen none n1 m1 s1) (0, 0, ⟨#[]⟩, false, 4) 0 3 = (0, 0, ⟨#[]⟩, -1, 4) from rfl] at hM
              dsimp only at hM
              have hR := fun W h => stamp_Read.calls wa.heap.size d 0 wa W h HV.out.r0.2
              rw [HV.out.r0.1, show seen none n1 m1 s1 = (0, 0, ⟨#[]⟩, false, 0) from rfl] at hR
              dsimp only at hR
              have HM3 := Aside0.mk hM
              have HR3 := Aside0.mk hR
              clear hM hR
              go_wp2_with fail
              refine hL.mono ?_
              rintro e w3 ⟨rfl, hB⟩
              have HW3 := Aside0.mk (bsp HW.out hB)
              have HI3 := Aside0.mk (HI.out.below hB)
              clear hB hL
              go_wp2_with fail
              refine (HM3.out _ (HI3.out.below (bal (Below.refl _ _) (.cells #[.int .i64 0, .int .u8 0, .string ⟨#[]⟩] 23)))).mono ?_
              rintro e w4 ⟨rfl, hB⟩
              have hB4 := bsp (bal (Below.refl _ w3) (.cells #[.int .i64 0, .int .u8 0, .string ⟨#[]⟩] 23)) hB
              have HW4 := Aside0.mk (bsp HW3.out hB4)
              have HI4 := Aside0.mk (HI3.out.below hB4)
              have h13 := (hB.block w3.heap.size (by simp)).trans (World.alloc_heap_new w3 _)
              have H13 := Aside0.mk h13
              clear hB hB4 h13
              have b0 := fun o o2 => HY0.out _ (bal (bal HW4.out o) o2)
              have b1 := fun o o2 => HY1.out _ (bal (bal HW4.out o) o2)
              have c00 := fun o o2 => (kcl (b0 o o2) 0).trans rfl
              have c01 := fun o o2 => (kcl (b0 o o2) 1).trans rfl
              have c02 := fun o o2 => (kcl (b0 o o2) 2).trans rfl
              have c10 := fun o o2 => (kcl (b1 o o2) 0).trans rfl
              have c11 := fun o o2 => (kcl (b1 o o2) 1).trans rfl
              have c12 := fun o o2 => (kcl (b1 o o2) 2).trans rfl
              clear b0 b1
              go_wp2_with fail
              refine (HR3.out _ (HI4.out.below (bal (bal (Below.refl _ _) (.cells #[.int .i64 0, .int .u8 0, .string ⟨#[]⟩] 23)) (.cells #[.int .i64 0, .int .u8 0, .string ⟨#[]⟩] 23)))).mono ?_
              rintro e w5 ⟨rfl, hB⟩
              have hB5 := bsp (bal (bal (Below.refl _ w4) (.cells #[.int .i64 0, .int .u8 0, .string ⟨#[]⟩] 23)) (.cells #[.int .i64 0, .int .u8 0, .string ⟨#[]⟩] 23)) hB
              have h13 := (hB5.block w3.heap.size (blk_lt H13.out)).trans H13.out
              have h19 := (hB.block (w4.heap.size + 1) (by simp)).trans (alloc2_new w4 _ _)
              have h00 := HY0.out _ (bsp HW4.out hB5)
              have g13 := fun o => (Below.heap_alloc w5 o _ (blk_lt h13)).trans h13
              have g19 := fun o => (Below.heap_alloc w5 o _ (blk_lt h19)).trans h19
              have g00 := fun o => (Below.heap_alloc w5 o _ (blk_lt h00)).trans h00
              have HBz := Aside0.mk (bsp HB.out (bsp HW4.out hB5))
              clear c00 c01 c02 c10 c11 c12 hB hB5 h13 h19 h00
              have d130 := fun o => (kcl (g13 o) 0).trans rfl
              have d131 := fun o => (kcl (g13 o) 1).trans rfl
              have d132 := fun o => (kcl (g13 o) 2).trans rfl
              have d190 := fun o => (kcl (g19 o) 0).trans rfl
              have d191 := fun o => (kcl (g19 o) 1).trans rfl
              have d192 := fun o => (kcl (g19 o) 2).trans rfl
              have d00 := fun o => (kcl (g00 o) 0).trans rfl
              have d01 := fun o => (kcl (g00 o) 1).trans rfl
              have d02 := fun o => (kcl (g00 o) 2).trans rfl
              clear g13 g19 g00
              go_wp2
              go_ret
              exact ⟨rfl, bal HBz.out _⟩
            | some b =>
              simp only [Option.isSome_some]
              have hL := stamp_Latest.calls wa.heap.size d 0 2 wa _ HI.out HV.out.r0.2 HV.out.r2.2
              rw [HV.out.r0.1, HV.out.r2.1, show stL (seen none n1 m1 s1) (seen (some b) n2 m2 s2) 0 2 = (n2, m2, s2, 2, 0) from rfl] at hL
              dsimp only at hL
              have hM := fun W h => stamp_Latest.calls wa.heap.size d 0 3 wa W h HV.out.r0.2 HV.out.r3.2
              rw [HV.out.r0.1, HV.out.r3.1, show stL (seen none n1 m1 s1) (0, 0, ⟨#[]⟩, false, 4) 0 3 = (0, 0, ⟨#[]⟩, -1, 4) from rfl] at hM
              dsimp only at hM
              have hR := fun W h => stamp_Read.calls wa.heap.size d 0 wa W h HV.out.r0.2
              rw [HV.out.r0.1, show seen none n1 m1 s1 = (0, 0, ⟨#[]⟩, false, 0) from rfl] at hR
              dsimp only at hR
              have HM3 := Aside0.mk hM
              have HR3 := Aside0.mk hR
              clear hM hR
              go_wp2_with fail
              refine hL.mono ?_
              rintro e w3 ⟨rfl, hB⟩
              have HW3 := Aside0.mk (bsp HW.out hB)
              have HI3 := Aside0.mk (HI.out.below hB)
              clear hB hL
              go_wp2_with fail
              refine (HM3.out _ (HI3.out.below (bal (Below.refl _ _) (.cells #[.int .i64 n2, .int .u8 m2, .string s2] 23)))).mono ?_
              rintro e w4 ⟨rfl, hB⟩
              have hB4 := bsp (bal (Below.refl _ w3) (.cells #[.int .i64 n2, .int .u8 m2, .string s2] 23)) hB
              have HW4 := Aside0.mk (bsp HW3.out hB4)
              have HI4 := Aside0.mk (HI3.out.below hB4)
              have h13 := (hB.block w3.heap.size (by simp)).trans (World.alloc_heap_new w3 _)
              have H13 := Aside0.mk h13
              clear hB hB4 h13
              have b0 := fun o o2 => HY0.out _ (bal (bal HW4.out o) o2)
              have b1 := fun o o2 => HY1.out _ (bal (bal HW4.out o) o2)
              have c00 := fun o o2 => (kcl (b0 o o2) 0).trans rfl
              have c01 := fun o o2 => (kcl (b0 o o2) 1).trans rfl
              have c02 := fun o o2 => (kcl (b0 o o2) 2).trans rfl
              have c10 := fun o o2 => (kcl (b1 o o2) 0).trans rfl
              have c11 := fun o o2 => (kcl (b1 o o2) 1).trans rfl
              have c12 := fun o o2 => (kcl (b1 o o2) 2).trans rfl
              clear b0 b1
              go_wp2_with fail
              refine (HR3.out _ (HI4.out.below (bal (bal (Below.refl _ _) (.cells #[.int .i64 0, .int .u8 0, .string ⟨#[]⟩] 23)) (.cells #[.int .i64 n2, .int .u8 m2, .string s2] 23)))).mono ?_
              rintro e w5 ⟨rfl, hB⟩
              have hB5 := bsp (bal (bal (Below.refl _ w4) (.cells #[.int .i64 0, .int .u8 0, .string ⟨#[]⟩] 23)) (.cells #[.int .i64 n2, .int .u8 m2, .string s2] 23)) hB
              have h13 := (hB5.block w3.heap.size (blk_lt H13.out)).trans H13.out
              have h19 := (hB.block (w4.heap.size + 1) (by simp)).trans (alloc2_new w4 _ _)
              have h00 := HY0.out _ (bsp HW4.out hB5)
              have g13 := fun o => (Below.heap_alloc w5 o _ (blk_lt h13)).trans h13
              have g19 := fun o => (Below.heap_alloc w5 o _ (blk_lt h19)).trans h19
              have g00 := fun o => (Below.heap_alloc w5 o _ (blk_lt h00)).trans h00
              have HBz := Aside0.mk (bsp HB.out (bsp HW4.out hB5))
              clear c00 c01 c02 c10 c11 c12 hB hB5 h13 h19 h00
              have d130 := fun o => (kcl (g13 o) 0).trans rfl
              have d131 := fun o => (kcl (g13 o) 1).trans rfl
              have d132 := fun o => (kcl (g13 o) 2).trans rfl
              have d190 := fun o => (kcl (g19 o) 0).trans rfl
              have d191 := fun o => (kcl (g19 o) 1).trans rfl
              have d192 := fun o => (kcl (g19 o) 2).trans rfl
              have d00 := fun o => (kcl (g00 o) 0).trans rfl
              have d01 := fun o => (kcl (g00 o) 1).trans rfl
              have d02 := fun o => (kcl (g00 o) 2).trans rfl
              clear g13 g19 g00
              go_wp2
              go_ret
              exact ⟨rfl, bal HBz.out _⟩
          | some a =>
            simp only [Option.isSome_some]
            cases oB with
            | none =>
              simp only [Option.isSome_none]
              have hL := stamp_Latest.calls wa.heap.size d 0 2 wa _ HI.out HV.out.r0.2 HV.out.r2.2
              rw [HV.out.r0.1, HV.out.r2.1, show stL (seen (some a) n1 m1 s1) (seen none n2 m2 s2) 0 2 = (n1, m1, s1, 0, 0) from rfl] at hL
              dsimp only at hL
              have hM := fun W h => stamp_Latest.calls wa.heap.size d 0 3 wa W h HV.out.r0.2 HV.out.r3.2
              rw [HV.out.r0.1, HV.out.r3.1, show stL (seen (some a) n1 m1 s1) (0, 0, ⟨#[]⟩, false, 4) 0 3 = (0, 0, ⟨#[]⟩, -1, 4) from rfl] at hM
              dsimp only at hM
              have hR := fun W h => stamp_Read.calls wa.heap.size d 0 wa W h HV.out.r0.2
              rw [HV.out.r0.1, show seen (some a) n1 m1 s1 = (n1, m1, s1, true, 0) from rfl] at hR
              dsimp only at hR
              have HM3 := Aside0.mk hM
              have HR3 := Aside0.mk hR
              clear hM hR
              go_wp2_with fail
              refine hL.mono ?_
              rintro e w3 ⟨rfl, hB⟩
              have HW3 := Aside0.mk (bsp HW.out hB)
              have HI3 := Aside0.mk (HI.out.below hB)
              clear hB hL
              go_wp2_with fail
              refine (HM3.out _ (HI3.out.below (bal (Below.refl _ _) (.cells #[.int .i64 n1, .int .u8 m1, .string s1] 23)))).mono ?_
              rintro e w4 ⟨rfl, hB⟩
              have hB4 := bsp (bal (Below.refl _ w3) (.cells #[.int .i64 n1, .int .u8 m1, .string s1] 23)) hB
              have HW4 := Aside0.mk (bsp HW3.out hB4)
              have HI4 := Aside0.mk (HI3.out.below hB4)
              have h13 := (hB.block w3.heap.size (by simp)).trans (World.alloc_heap_new w3 _)
              have H13 := Aside0.mk h13
              clear hB hB4 h13
              have b0 := fun o o2 => HY0.out _ (bal (bal HW4.out o) o2)
              have b1 := fun o o2 => HY1.out _ (bal (bal HW4.out o) o2)
              have c00 := fun o o2 => (kcl (b0 o o2) 0).trans rfl
              have c01 := fun o o2 => (kcl (b0 o o2) 1).trans rfl
              have c02 := fun o o2 => (kcl (b0 o o2) 2).trans rfl
              have c10 := fun o o2 => (kcl (b1 o o2) 0).trans rfl
              have c11 := fun o o2 => (kcl (b1 o o2) 1).trans rfl
              have c12 := fun o o2 => (kcl (b1 o o2) 2).trans rfl
              clear b0 b1
              go_wp2_with fail
              refine (HR3.out _ (HI4.out.below (bal (bal (Below.refl _ _) (.cells #[.int .i64 0, .int .u8 0, .string ⟨#[]⟩] 23)) (.cells #[.int .i64 n1, .int .u8 m1, .string s1] 23)))).mono ?_
              rintro e w5 ⟨rfl, hB⟩
              have hB5 := bsp (bal (bal (Below.refl _ w4) (.cells #[.int .i64 0, .int .u8 0, .string ⟨#[]⟩] 23)) (.cells #[.int .i64 n1, .int .u8 m1, .string s1] 23)) hB
              have h13 := (hB5.block w3.heap.size (blk_lt H13.out)).trans H13.out
              have h19 := (hB.block (w4.heap.size + 1) (by simp)).trans (alloc2_new w4 _ _)
              have h00 := HY0.out _ (bsp HW4.out hB5)
              have g13 := fun o => (Below.heap_alloc w5 o _ (blk_lt h13)).trans h13
              have g19 := fun o => (Below.heap_alloc w5 o _ (blk_lt h19)).trans h19
              have g00 := fun o => (Below.heap_alloc w5 o _ (blk_lt h00)).trans h00
              have HBz := Aside0.mk (bsp HB.out (bsp HW4.out hB5))
              clear c00 c01 c02 c10 c11 c12 hB hB5 h13 h19 h00
              have d130 := fun o => (kcl (g13 o) 0).trans rfl
              have d131 := fun o => (kcl (g13 o) 1).trans rfl
              have d132 := fun o => (kcl (g13 o) 2).trans rfl
              have d190 := fun o => (kcl (g19 o) 0).trans rfl
              have d191 := fun o => (kcl (g19 o) 1).trans rfl
              have d192 := fun o => (kcl (g19 o) 2).trans rfl
              have d00 := fun o => (kcl (g00 o) 0).trans rfl
              have d01 := fun o => (kcl (g00 o) 1).trans rfl
              have d02 := fun o => (kcl (g00 o) 2).trans rfl
              clear g13 g19 g00
              go_wp2
              go_ret
              exact ⟨rfl, bal HBz.out _⟩
            | some b =>
              simp only [Option.isSome_some]
              by_cases qn : n2 > n1
              · have q9 : decide (n1 < n2) = true := decide_eq_true qn
                have hst : stL (seen (some a) n1 m1 s1) (seen (some b) n2 m2 s2) 0 2 = (n2, m2, s2, 2, 0) := by simp [stL, seen, qn]
                have HST := Aside0.mk hst
                clear hst qn
                have hL := stamp_Latest.calls wa.heap.size d 0 2 wa _ HI.out HV.out.r0.2 HV.out.r2.2
                rw [HV.out.r0.1, HV.out.r2.1, HST.out] at hL
                dsimp only at hL
                have hM := fun W h => stamp_Latest.calls wa.heap.size d 0 3 wa W h HV.out.r0.2 HV.out.r3.2
                rw [HV.out.r0.1, HV.out.r3.1, show stL (seen (some a) n1 m1 s1) (0, 0, ⟨#[]⟩, false, 4) 0 3 = (0, 0, ⟨#[]⟩, -1, 4) from rfl] at hM
                dsimp only at hM
                have hR := fun W h => stamp_Read.calls wa.heap.size d 0 wa W h HV.out.r0.2
                rw [HV.out.r0.1, show seen (some a) n1 m1 s1 = (n1, m1, s1, true, 0) from rfl] at hR
                dsimp only at hR
                have HM3 := Aside0.mk hM
                have HR3 := Aside0.mk hR
                clear hM hR
                go_wp2_with fail
                refine hL.mono ?_
                rintro e w3 ⟨rfl, hB⟩
                have HW3 := Aside0.mk (bsp HW.out hB)
                have HI3 := Aside0.mk (HI.out.below hB)
                clear hB hL
                go_wp2_with fail
                refine (HM3.out _ (HI3.out.below (bal (Below.refl _ _) (.cells #[.int .i64 n2, .int .u8 m2, .string s2] 23)))).mono ?_
                rintro e w4 ⟨rfl, hB⟩
                have hB4 := bsp (bal (Below.refl _ w3) (.cells #[.int .i64 n2, .int .u8 m2, .string s2] 23)) hB
                have HW4 := Aside0.mk (bsp HW3.out hB4)
                have HI4 := Aside0.mk (HI3.out.below hB4)
                have h13 := (hB.block w3.heap.size (by simp)).trans (World.alloc_heap_new w3 _)
                have H13 := Aside0.mk h13
                clear hB hB4 h13
                have b0 := fun o o2 => HY0.out _ (bal (bal HW4.out o) o2)
                have b1 := fun o o2 => HY1.out _ (bal (bal HW4.out o) o2)
                have c00 := fun o o2 => (kcl (b0 o o2) 0).trans rfl
                have c01 := fun o o2 => (kcl (b0 o o2) 1).trans rfl
                have c02 := fun o o2 => (kcl (b0 o o2) 2).trans rfl
                have c10 := fun o o2 => (kcl (b1 o o2) 0).trans rfl
                have c11 := fun o o2 => (kcl (b1 o o2) 1).trans rfl
                have c12 := fun o o2 => (kcl (b1 o o2) 2).trans rfl
                clear b0 b1
                go_wp2_with fail
                refine (HR3.out _ (HI4.out.below (bal (bal (Below.refl _ _) (.cells #[.int .i64 0, .int .u8 0, .string ⟨#[]⟩] 23)) (.cells #[.int .i64 n2, .int .u8 m2, .string s2] 23)))).mono ?_
                rintro e w5 ⟨rfl, hB⟩
                have hB5 := bsp (bal (bal (Below.refl _ w4) (.cells #[.int .i64 0, .int .u8 0, .string ⟨#[]⟩] 23)) (.cells #[.int .i64 n2, .int .u8 m2, .string s2] 23)) hB
                have h13 := (hB5.block w3.heap.size (blk_lt H13.out)).trans H13.out
                have h19 := (hB.block (w4.heap.size + 1) (by simp)).trans (alloc2_new w4 _ _)
                have h00 := HY0.out _ (bsp HW4.out hB5)
                have g13 := fun o => (Below.heap_alloc w5 o _ (blk_lt h13)).trans h13
                have g19 := fun o => (Below.heap_alloc w5 o _ (blk_lt h19)).trans h19
                have g00 := fun o => (Below.heap_alloc w5 o _ (blk_lt h00)).trans h00
                have HBz := Aside0.mk (bsp HB.out (bsp HW4.out hB5))
                clear c00 c01 c02 c10 c11 c12 hB hB5 h13 h19 h00
                have d130 := fun o => (kcl (g13 o) 0).trans rfl
                have d131 := fun o => (kcl (g13 o) 1).trans rfl
                have d132 := fun o => (kcl (g13 o) 2).trans rfl
                have d190 := fun o => (kcl (g19 o) 0).trans rfl
                have d191 := fun o => (kcl (g19 o) 1).trans rfl
                have d192 := fun o => (kcl (g19 o) 2).trans rfl
                have d00 := fun o => (kcl (g00 o) 0).trans rfl
                have d01 := fun o => (kcl (g00 o) 1).trans rfl
                have d02 := fun o => (kcl (g00 o) 2).trans rfl
                clear g13 g19 g00
                go_wp2
                go_ret
                exact ⟨rfl, bal HBz.out _⟩
              · have q9 : decide (n1 < n2) = false := decide_eq_false qn
                have hst : stL (seen (some a) n1 m1 s1) (seen (some b) n2 m2 s2) 0 2 = (n1, m1, s1, 0, 0) := by simp [stL, seen, qn]
                have HST := Aside0.mk hst
                clear hst qn
                have hL := stamp_Latest.calls wa.heap.size d 0 2 wa _ HI.out HV.out.r0.2 HV.out.r2.2
                rw [HV.out.r0.1, HV.out.r2.1, HST.out] at hL
                dsimp only at hL
                have hM := fun W h => stamp_Latest.calls wa.heap.size d 0 3 wa W h HV.out.r0.2 HV.out.r3.2
                rw [HV.out.r0.1, HV.out.r3.1, show stL (seen (some a) n1 m1 s1) (0, 0, ⟨#[]⟩, false, 4) 0 3 = (0, 0, ⟨#[]⟩, -1, 4) from rfl] at hM
                dsimp only at hM
                have hR := fun W h => stamp_Read.calls wa.heap.size d 0 wa W h HV.out.r0.2
                rw [HV.out.r0.1, show seen (some a) n1 m1 s1 = (n1, m1, s1, true, 0) from rfl] at hR
                dsimp only at hR
                have HM3 := Aside0.mk hM
                have HR3 := Aside0.mk hR
                clear hM hR
                go_wp2_with fail
                refine hL.mono ?_
                rintro e w3 ⟨rfl, hB⟩
                have HW3 := Aside0.mk (bsp HW.out hB)
                have HI3 := Aside0.mk (HI.out.below hB)
                clear hB hL
                go_wp2_with fail
                refine (HM3.out _ (HI3.out.below (bal (Below.refl _ _) (.cells #[.int .i64 n1, .int .u8 m1, .string s1] 23)))).mono ?_
                rintro e w4 ⟨rfl, hB⟩
                have hB4 := bsp (bal (Below.refl _ w3) (.cells #[.int .i64 n1, .int .u8 m1, .string s1] 23)) hB
                have HW4 := Aside0.mk (bsp HW3.out hB4)
                have HI4 := Aside0.mk (HI3.out.below hB4)
                have h13 := (hB.block w3.heap.size (by simp)).trans (World.alloc_heap_new w3 _)
                have H13 := Aside0.mk h13
                clear hB hB4 h13
                have b0 := fun o o2 => HY0.out _ (bal (bal HW4.out o) o2)
                have b1 := fun o o2 => HY1.out _ (bal (bal HW4.out o) o2)
                have c00 := fun o o2 => (kcl (b0 o o2) 0).trans rfl
                have c01 := fun o o2 => (kcl (b0 o o2) 1).trans rfl
                have c02 := fun o o2 => (kcl (b0 o o2) 2).trans rfl
                have c10 := fun o o2 => (kcl (b1 o o2) 0).trans rfl
                have c11 := fun o o2 => (kcl (b1 o o2) 1).trans rfl
                have c12 := fun o o2 => (kcl (b1 o o2) 2).trans rfl
                clear b0 b1
                go_wp2_with fail
                refine (HR3.out _ (HI4.out.below (bal (bal (Below.refl _ _) (.cells #[.int .i64 0, .int .u8 0, .string ⟨#[]⟩] 23)) (.cells #[.int .i64 n1, .int .u8 m1, .string s1] 23)))).mono ?_
                rintro e w5 ⟨rfl, hB⟩
                have hB5 := bsp (bal (bal (Below.refl _ w4) (.cells #[.int .i64 0, .int .u8 0, .string ⟨#[]⟩] 23)) (.cells #[.int .i64 n1, .int .u8 m1, .string s1] 23)) hB
                have h13 := (hB5.block w3.heap.size (blk_lt H13.out)).trans H13.out
                have h19 := (hB.block (w4.heap.size + 1) (by simp)).trans (alloc2_new w4 _ _)
                have h00 := HY0.out _ (bsp HW4.out hB5)
                have g13 := fun o => (Below.heap_alloc w5 o _ (blk_lt h13)).trans h13
                have g19 := fun o => (Below.heap_alloc w5 o _ (blk_lt h19)).trans h19
                have g00 := fun o => (Below.heap_alloc w5 o _ (blk_lt h00)).trans h00
                have HBz := Aside0.mk (bsp HB.out (bsp HW4.out hB5))
                clear c00 c01 c02 c10 c11 c12 hB hB5 h13 h19 h00
                have d130 := fun o => (kcl (g13 o) 0).trans rfl
                have d131 := fun o => (kcl (g13 o) 1).trans rfl
                have d132 := fun o => (kcl (g13 o) 2).trans rfl
                have d190 := fun o => (kcl (g19 o) 0).trans rfl
                have d191 := fun o => (kcl (g19 o) 1).trans rfl
                have d192 := fun o => (kcl (g19 o) 2).trans rfl
                have d00 := fun o => (kcl (g00 o) 0).trans rfl
                have d01 := fun o => (kcl (g00 o) 1).trans rfl
                have d02 := fun o => (kcl (g00 o) 2).trans rfl
                clear g13 g19 g00
                go_wp2
                go_ret
                exact ⟨rfl, bal HBz.out _⟩
end Go.Proofs.Ytodikgjanhihhaa.PA

namespace Go.Proofs.Ytodikgjanhihhaa
open Go.RowKit Go.Proofs.YtodikgjanhihhaaW.PrintWords
def Reads {H : Type} (enc : TypeId × Value → H) (P : Program) (W : World) (base : Nat) (spare : Nat → Bool) (held : Bool) {α : Type} (d : Kd α) (t : TypeId) (ok : α → Prop) : Prop :=
  P.cellsOf t = d.sz ∧ ∀ fuel cs x, DataW.trod enc P W base spare held fuel t cs = some x → ∃ y, d.K W y cs ∧ ok y
section
variable {H : Type} {enc : TypeId × Value → H} {P : Program} {W : World} {base : Nat} {spare : Nat → Bool} {held : Bool}
theorem Reads.int {k : IntKind} {t : TypeId} (hu : P.underlying t = some (.int k)) (hc : P.cellsOf t = 1) : Reads enc P W base spare held (Kd.int k) t (fun n => (Lit.int k n).wf = true) :=
  ⟨hc, fun _ _ _ h => by obtain ⟨n, rfl, _, hw⟩ := DataW.trod_int hu h; exact ⟨n, rfl, hw⟩⟩
theorem Reads.bool {t : TypeId} (hu : P.underlying t = some .bool) (hc : P.cellsOf t = 1) : Reads enc P W base spare held Kd.bool t (fun _ => True) :=
  ⟨hc, fun _ _ _ h => by obtain ⟨n, rfl, _⟩ := DataW.trod_bool hu h; exact ⟨n, rfl, trivial⟩⟩
theorem Reads.string {t : TypeId} (hu : P.underlying t = some .string) (hc : P.cellsOf t = 1) : Reads enc P W base spare held Kd.string t (fun s => s.size ≤ maxLen) :=
  ⟨hc, fun _ _ _ h => by obtain ⟨n, rfl, _, hw⟩ := DataW.trod_string hu h; exact ⟨n, rfl, hw⟩⟩
theorem list_of {α β : Type} (l : List β) (R : α → β → Prop) (h : ∀ b ∈ l, ∃ a, R a b) : ∃ xs : List α, xs.length = l.length ∧ ∀ (j : Nat) (a : α), xs[j]? = some a → ∃ b, l[j]? = some b ∧ R a b := by
  induction l with
  | nil => exact ⟨[], rfl, fun j a h => by simp at h⟩
  | cons b l ih =>
    obtain ⟨a, ha⟩ := h b List.mem_cons_self
    obtain ⟨xs, hl, hx⟩ := ih (fun b hb => h b (List.mem_cons_of_mem _ hb))
    refine ⟨a :: xs, by simp [hl], fun j a' hj => ?_⟩
    cases j with
    | zero => simp only [List.getElem?_cons_zero, Option.some.injEq] at hj; subst hj; exact ⟨b, rfl, ha⟩
    | succ j => exact hx j a' (by simpa using hj)
theorem Reads.row {α : Type} {d : Kd α} {ok : α → Prop} {t e : TypeId} (hu : P.underlying t = some (.slice e)) (he : Reads enc P W base spare held d e ok) {fuel : Nat} {cs : List Value} {x : DataW H × List MemPlace}
    (h : DataW.trod enc P W base spare held fuel t cs = some x) : ∃ A c, ∃ xs : List α, cs = [.slice A xs.length c] ∧ xs.length ≤ c ∧ Kd.C d W A xs.length xs ∧ xs.length ≤ maxLen ∧ ∀ y ∈ xs, ok y := by
  rcases DataW.trod_slice hu h with ⟨rfl, _⟩ | ⟨a, len, cap, elems, rest, n, _, rfl, _, _, hl, hm, hlen, hel, _, _⟩
  · exact ⟨none, 0, [], rfl, Nat.le_refl _, ⟨rfl, by simp, fun h => by simp at h⟩, by simp, fun y hy => by simp at hy⟩
  · have each : ∀ i ∈ List.range len, ∃ y : α, (∃ c, d.K W y c ∧ c.length = d.sz ∧ ∀ j u, c[j]? = some u → W.cell? (a.add (i * d.sz + j)) = some u) ∧ ok y := by
      intro i hi
      have hi' : i < len := by simpa using hi
      have h1 := hel i hi'
      rw [he.1] at h1
      have h2 : ∃ c, W.cells? base (a.add (i * d.sz)) d.sz = some c ∧ (DataW.trod enc P W base spare held n e c) = elems[i]? := by
        cases hc : W.cells? base (a.add (i * d.sz)) d.sz with
        | none =>
          rw [hc] at h1
          have : i < elems.length := by omega
          simp [this] at h1
        | some c =>
          rw [hc] at h1
          exact ⟨c, rfl, h1⟩
      obtain ⟨c, hc, hx⟩ := h2
      have hi2 : i < elems.length := by omega
      rw [List.getElem?_eq_getElem hi2] at hx
      obtain ⟨y, hy, hok⟩ := he.2 _ _ _ hx
      obtain ⟨_, hcl, hcc⟩ := World.cells?_some hc
      refine ⟨y, ⟨c, hy, hcl, fun j u hj => ?_⟩, hok⟩
      have hj' : j < c.length := (List.getElem?_eq_some_iff.1 hj).1
      have h3 := hcc j (by omega)
      rw [hj] at h3
      have e1 : (a.add (i * d.sz)).add j = a.add (i * d.sz + j) := by
        by_cases hi0 : i * d.sz = 0 <;> by_cases hj0 : j = 0 <;> simp [Addr.add, hi0, hj0] <;> omega
      rwa [e1] at h3
    obtain ⟨xs, hxl, hxs⟩ := list_of (List.range len) _ each
    have hxl' : xs.length = len := by simpa using hxl
    have hm' : len ≤ maxLen := Nat.le_trans hl hm
    refine ⟨some a, cap, xs, by rw [hxl'], by omega, ⟨rfl, by unfold maxLen at hm'; omega, fun _ => ⟨a, rfl, fun j p hp => ?_⟩⟩, by omega, fun y hy => ?_⟩
    · obtain ⟨i, hi, ⟨c, hk, hcl, hcc⟩, _⟩ := hxs j p hp
      have hj : j < len := by have := (List.getElem?_eq_some_iff.1 hp).1; omega
      obtain rfl : j = i := by simpa [List.getElem?_range hj] using hi
      exact ⟨c, hcl, hk, hcc⟩
    · obtain ⟨j, hj⟩ := List.mem_iff_getElem?.1 hy
      obtain ⟨i, _, _, hok⟩ := hxs j y hj
      exact hok
theorem Reads.slice {α : Type} {d : Kd α} {ok : α → Prop} {t e : TypeId} (hu : P.underlying t = some (.slice e)) (hc : P.cellsOf t = 1) (he : Reads enc P W base spare held d e ok) :
    Reads enc P W base spare held (Kd.slice e d) t (fun xs => xs.length ≤ maxLen ∧ ∀ y ∈ xs, ok y) :=
  ⟨hc, fun _ _ _ h => by
    obtain ⟨A, c, xs, rfl, h1, h2, h3, h4⟩ := Reads.row hu he h
    exact ⟨xs, ⟨A, c, rfl, h1, h2⟩, h3, h4⟩⟩
def Fields {H : Type} (enc : TypeId × Value → H) (P : Program) (W : World) (base : Nat) (spare : Nat → Bool) (held : Bool) {α : Type} (fs : List Field) (off : Nat) (d : Kd α) (ok : α → Prop) : Prop :=
  ∀ (n : Nat) (cs : List Value) (xs : List (DataW H × List MemPlace)), (∀ (i : Nat) (f : Field), fs[i]? = some f → DataW.trod enc P W base spare held n f.type ((cs.drop f.offset).take (P.cellsOf f.type)) = xs[i]?) → xs.length = fs.length → cs.length = off + d.sz →
    ∃ y, d.K W y (cs.drop off) ∧ ok y
theorem Fields.one {α : Type} {d : Kd α} {ok : α → Prop} {f : Field} {off : Nat} (ho : f.offset = off) (h : Reads enc P W base spare held d f.type ok) : Fields enc P W base spare held [f] off d ok := by
  intro n cs xs hx hl hc
  have h1 := hx 0 f rfl
  have hl' : 0 < xs.length := by rw [hl]; exact Nat.one_pos
  rw [List.getElem?_eq_getElem hl', ho, h.1, List.take_of_length_le (by rw [List.length_drop]; omega)] at h1
  exact h.2 _ _ _ h1
theorem Fields.cons {α β : Type} {d : Kd α} {d' : Kd β} {ok : α → Prop} {ok' : β → Prop} {f : Field} {fs : List Field} {off : Nat} (ho : f.offset = off) (h : Reads enc P W base spare held d f.type ok)
    (h' : Fields enc P W base spare held fs (off + d.sz) d' ok') : Fields enc P W base spare held (f :: fs) off (Kd.pair d d') (fun p => ok p.1 ∧ ok' p.2) := by
  intro n cs xs hx hl hc
  have hc2 : cs.length = off + d.sz + d'.sz := by rw [hc]; exact (Nat.add_assoc _ _ _).symm
  have h1 := hx 0 f rfl
  have hl' : 0 < xs.length := by rw [hl]; exact Nat.succ_pos _
  rw [List.getElem?_eq_getElem hl', ho, h.1] at h1
  obtain ⟨y, hy, hok⟩ := h.2 _ _ _ h1
  obtain ⟨z, hz, hok'⟩ := h' n cs (xs.drop 1) (fun i g hg => by
    have h2 := hx (i + 1) g (by simpa using hg)
    rw [h2, List.getElem?_drop, Nat.add_comm 1 i]) (by rw [List.length_drop, hl]; rfl) hc2
  refine ⟨(y, z), ⟨(cs.drop off).take d.sz, cs.drop (off + d.sz), ?_, hy, hz⟩, hok, hok'⟩
  rw [← List.drop_drop, List.take_append_drop]
theorem Reads.struct {α β : Type} {d : Kd α} {ok : α → Prop} {g : β → α} (mk : α → β) (hg : ∀ a, g (mk a) = a) {t : TypeId} {fs : Array Field} (hu : P.underlying t = some (.struct fs)) (hc : P.cellsOf t = d.sz)
    (h : Fields enc P W base spare held fs.toList 0 d ok) : Reads enc P W base spare held (Kd.iso d g) t (fun b => ok (g b)) := by
  refine ⟨hc, fun fuel cs x hx => ?_⟩
  obtain ⟨xs, n, _, _, hl, hxl, hf⟩ := DataW.trod_struct hu hx
  obtain ⟨y, hy, hok⟩ := h n cs xs (fun i f hi => hf i f (by simpa using hi)) (by simpa using hxl) (by rw [hl, hc]; exact (Nat.zero_add _).symm)
  refine ⟨mk y, ?_, by show ok (g (mk y)); rw [hg]; exact hok⟩
  show d.K W (g (mk y)) cs
  rw [hg]
  simpa using hy
end
end Go.Proofs.Ytodikgjanhihhaa

