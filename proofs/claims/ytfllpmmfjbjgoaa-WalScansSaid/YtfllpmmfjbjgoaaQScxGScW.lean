import Derived.Test.YtfllpmmfjbjgoaaQScxGMath
import Derived.Test.YtfllpmmfjbjgoaaQScxPAx6
import Derived.Test.YtfllpmmfjbjgoaaQScxPAx0
import Derived.Test.YtfllpmmfjbjgoaaQScxPAx5
namespace Go.Proofs.Ytfllpmmfjbjgoaa.PA
set_option linter.unusedSimpArgs false
open Go.RowKit Go.Proofs.YtfllpmmfjbjgoaaW.PrintWords Go.Proofs.YtfllpmmfjbjgoaaW.PrintLast Go.Proofs.YtfllpmmfjbjgoaaW.PrintMore Go.Proofs.Ytfllpmmfjbjgoaa Go.Proofs.Ytfllpmmfjbjgoaa.PL
set_option maxHeartbeats 2000000 in
theorem law_begin.calls (fr ln next : Int) (w : World) (h : openE fr ln next 24 = 0) :
    Calls Try.prog 24 #[.agg #[.int .i64 fr, .int .i64 ln], .int .i64 next] w fun e w' => ∃ g b : Nat, e = .returned (.tuple #[.pointer (some ⟨g, 0, none⟩), .pointer (some ⟨b, 0, none⟩), .bool true]) ∧ LogSt w w' g b ⟨dvNew 24, fr, ln, next, next⟩ := by
  have hb : (w.alloc (.cells #[.int .i64 fr, .int .i64 ln] 28)).heap[w.heap.size]? = _ := World.alloc_heap_new w (.cells #[.int .i64 fr, .int .i64 ln] 28)
  have HX := Aside0.mk hb
  have HB := Aside0.mk (bal (Below.refl w.heap.size w) (.cells #[.int .i64 fr, .int .i64 ln] 28))
  have hn := device_New_good 24 w (w.alloc (.cells #[.int .i64 fr, .int .i64 ln] 28)) HB.out (by decide) (by decide)
  rw [show ((24 : Nat) : Int) = 24 from rfl, show (w.alloc (.cells #[.int .i64 fr, .int .i64 ln] 28)).heap.size = w.heap.size + 1 by simp] at hn
  have hs24 : (dvNew 24).sec.length = 24 := by simp [dvNew]
  generalize dvNew 24 = dn at hn hs24 ⊢
  have HN := Aside0.mk hn
  have HS24 := Aside0.mk hs24
  have H := Aside0.mk h
  clear hb h hn hs24
  go_enter Try.func24, Try.ntmps24
  go_wp2_with fail
  refine HN.out.mono ?_
  rintro e w1 ⟨rfl, hI, hB, hB2⟩
  have HI1 := Aside0.mk hI
  have HB1 := Aside0.mk hB
  have hx1 := (hB2.block w.heap.size (by omega)).trans HX.out
  have b0 := (kcl hx1 0).trans rfl
  have b1 := (kcl hx1 1).trans rfl
  clear hI hB hB2 hx1
  go_wp2_with fail
  refine (wal_Open_ok _ dn fr ln next w w1 HI1.out HB1.out (by rw [HS24.out]; decide) (by rw [HS24.out, show ((24 : Nat) : Int) = 24 from rfl]; exact H.out)).mono ?_
  rintro e w2 ⟨b, rfl, hL, hB⟩
  have HL := Aside0.mk hL
  clear hL hB
  go_wp2
  go_ret3
  exact ⟨_, _, rfl, HL.out⟩
set_option maxRecDepth 100000 in
theorem i64_and2k (k : Nat) (m : Int) (hm : (BitVec.ofInt 64 m).toNat = 2 ^ k - 1) (hk : k ≤ 16) (n : Int) : bits .and .i64 n m = n % ((2 ^ k : Nat) : Int) := by
  have key : (BitVec.ofInt 64 n &&& BitVec.ofInt 64 m).toNat = (n % ((2 ^ 64 : Nat) : Int)).toNat % 2 ^ k := by
    rw [BitVec.toNat_and, BitVec.toNat_ofInt, hm, Nat.and_two_pow_sub_one_eq_mod]
  show IntKind.i64.wrap ((BitVec.ofInt 64 n &&& BitVec.ofInt 64 m).toNat : Nat) = n % ((2 ^ k : Nat) : Int)
  rw [key, IntKind.wrap_i64]
  have h1 : (2 ^ k : Nat) ∣ 2 ^ 64 := Nat.pow_dvd_pow 2 (by omega)
  have h2 : (2 : Nat) ^ k ≤ 2 ^ 16 := Nat.pow_le_pow_right (by omega) hk
  have h3 : 0 < (2 : Nat) ^ k := Nat.two_pow_pos k
  have h4 : ((n % ((2 ^ 64 : Nat) : Int)).toNat % 2 ^ k : Nat) = n % ((2 ^ k : Nat) : Int) := by
    rw [Int.natCast_emod, Int.toNat_of_nonneg (Int.emod_nonneg _ (by decide))]
    exact Int.emod_emod_of_dvd n (Int.natCast_dvd_natCast.2 h1)
  have h5 : (n % ((2 ^ 64 : Nat) : Int)).toNat % 2 ^ k < 2 ^ k := Nat.mod_lt _ h3
  rw [← h4]
  clear h4 key h1
  revert h5
  generalize (n % ((2 ^ 64 : Nat) : Int)).toNat % 2 ^ k = X
  intro h5
  have h6 : X < 65536 := by omega
  clear h5 h2 h3
  omega
theorem i64_and15 (n : Int) : bits .and .i64 n 15 = n % 16 := i64_and2k 4 15 (by decide) (by decide) n
theorem i64_and7 (n : Int) : bits .and .i64 n 7 = n % 8 := i64_and2k 3 7 (by decide) (by decide) n
theorem i64_and255 (n : Int) : bits .and .i64 n 255 = n % 256 := i64_and2k 8 255 (by decide) (by decide) n
def Z100 : ByteArray := ⟨(List.replicate 100 (0 : UInt8)).toArray⟩
def zObj100 : Obj := .cells (madeCells #[.int .u8 0] 100) 5
theorem str_zeros100 : strOfNums (List.replicate 100 (0 : Int)) = Z100 := by decide +kernel
theorem zeros100_make (W : World) : (Instr.makeSlice 79 (.int .i64 100) (.int .i64 100)).run Try.prog W = .ok (.slice (some ⟨W.heap.size, 0, none⟩) 100 100) (W.alloc zObj100) :=
  print_make_int (P := Try.prog) 79 5 (.int .u8 0) 1 Try.underlying79 infoU8d rfl (by decide) 100 (by decide) (by decide) W
theorem zeros100_conv (W : World) : (convert 79 9 (.slice (some ⟨W.heap.size, 0, none⟩) 100 100)).run Try.prog (W.alloc zObj100) = .ok (.string Z100) (W.alloc zObj100) := by
  have h := own_made' W 0 5 .u8 100 (Nat.zero_le _) (by decide)
  have hr := own_reads' h
  have h2 := string_of_reads (P := Try.prog) (c := 100) Try.underlying79 Try.underlying5 Try.underlying9 hr
  rw [str_zeros100] at h2
  exact h2
theorem z100_size : Z100.size = 100 := by decide +kernel
theorem aw_open : openE 1 10 7 24 = 0 := by decide
theorem lgok_mk (d : Dv) (fr ln hd nx : Int) (h1 : 2 ≤ ln ∧ ln ≤ 1000) (h2 : 0 ≤ fr ∧ fr ≤ 1000) (h3 : 1 ≤ hd ∧ hd ≤ nx) (h4 : nx ≤ hd + ln ∧ nx ≤ 1000000) : LgOk ⟨d, fr, ln, hd, nx⟩ := ⟨h1, h2, h3, h4⟩
def aw0 : Lg := ⟨dvNew 24, 1, 10, 7, 7⟩
theorem aw_ok : LgOk aw0 := ⟨⟨by decide, by decide⟩, ⟨by decide, by decide⟩, ⟨by decide, by decide⟩, ⟨by decide, by decide⟩⟩
theorem aw_cost : costN Z100.size = 3 := by rw [z100_size]; rfl
theorem aw_app : ∃ d, lgApp aw0 Z100 = (⟨7, 9, Z100⟩, 0, ⟨d, 1, 10, 7, 10⟩) ∧ DI 24 3 d ∧ stR d 8 = (7, 1, piece Z100 0, true, 0) := by
  have hc := aw_cost
  obtain ⟨d, h1, h2, h3⟩ := lgApp_up aw0 Z100 24 0 aw_ok (upn_new 24) (DI.new 24) (by decide) (by decide) (by rw [hc]; decide)
  have hr := h2.read (by rw [hc]; decide) 0 (by rw [hc]; decide)
  rw [hc] at h1 h3 hr
  refine ⟨d, h1, h3, ?_⟩
  have hf := sec_fit 7 Z100 0 3 (by decide)
  have hd : dvRead d 8 = (tx (7 + ((0 : Nat) : Int)) (markN 0 3) (piece Z100 0), 0) := by
    unfold dvRead
    have hr8 : readB d 8 = tx (7 + ((0 : Nat) : Int)) (markN 0 3) (piece Z100 0) := hr
    rw [if_neg (by rw [h3.sec]; decide), h2.up.down, if_neg (by decide), hr8]
  unfold stR
  rw [hd, if_pos rfl, pS_tx _ _ _ hf (by decide)]
  rfl
set_option maxHeartbeats 4000000 in
set_option maxRecDepth 100000 in
theorem law_awake.calls (w : World) : Calls Try.prog 11 #[] w fun e w' => e = .returned (.bool true) ∧ Below w.heap.size w w' := by
  obtain ⟨d, ha, hd, hs⟩ := aw_app
  have HA := Aside0.mk ha
  have HD := Aside0.mk hd
  have HS := Aside0.mk hs
  have m1 := zeros100_make
  have m2 := zeros100_conv
  have hc := cost_f 45 (by decide)
  rw [show (costN 45 : Int) = 2 from rfl] at hc
  have HC := Aside0.mk hc
  clear ha hd hs hc
  go_enter Try.func11, Try.ntmps11
  go_wp2_with fail
  refine (law_begin.calls 1 10 7 w aw_open).mono ?_
  rintro e w1 ⟨g, b, rfl, hL⟩
  have HL1 := Aside0.mk (hL.step (bal (Below.refl _ _) zObj100))
  clear hL
  go_wp2_with fail
  have hap := wal_Append.calls g b 24 0 aw0 Z100 w _ HL1.out aw_ok (DI.new 24) (by decide) (by rw [z100_size]; decide)
  rw [HA.out] at hap
  refine hap.mono ?_
  rintro e w2 ⟨rfl, hL, hK⟩
  have hL2 := hL.step (bal (Below.refl _ _) (.cells #[.int .i64 7, .int .i64 9, .string Z100] 59))
  have hO2 := Own.new hL #[.int .i64 7, .int .i64 9, .string Z100] 59
  have HL2 := Aside0.mk hL2
  have HO2 := Aside0.mk hO2
  clear hap hL hK hL2 hO2 m1 m2
  go_wp2_with fail
  have hrd := stamp_Read.calls g d 8 w _ HL2.out.dev (HD.out.read 8)
  rw [HS.out] at hrd
  refine hrd.mono ?_
  rintro e w3 ⟨rfl, hB⟩
  have HL3 := Aside0.mk ((HL2.out.step hB).step (bal (Below.refl _ _) (.cells #[.int .i64 7, .int .u8 1, .string (piece Z100 0)] 41)))
  have hO3 := (HO2.out.below HL2.out hB).below (HL2.out.step hB) (bal (Below.refl _ _) (.cells #[.int .i64 7, .int .u8 1, .string (piece Z100 0)] 41))
  have HO3 := Aside0.mk hO3
  have r0 := (kcl hO3.blk 0).trans rfl
  have r1 := (kcl hO3.blk 1).trans rfl
  clear hB hrd hO3
  go_wp2_with fail
  refine (wal_Next.calls g b _ w _ HL3.out).mono ?_
  rintro e w4 ⟨rfl, rfl⟩
  go_wp2_with fail
  refine (wal_Free.calls g b _ w _ HL3.out (lgok_mk _ 1 10 7 10 (by decide) (by decide) (by decide) (by decide))).mono ?_
  rintro e w5 ⟨rfl, ⟨m5, rfl⟩⟩
  go_wp2_with fail
  refine (wal_Cost.calls _ _ _ HC.out).mono ?_
  rintro e w6 ⟨rfl, hB⟩
  have HB6 := Aside0.mk (bsp (bdn HL3.out.below m5) hB)
  clear hB
  go_wp2
  go_ret
  exact ⟨rfl, HB6.out⟩
end Go.Proofs.Ytfllpmmfjbjgoaa.PA

namespace Go.Proofs.Ytfllpmmfjbjgoaa.PA
set_option linter.unusedSimpArgs false
open Go.RowKit Go.Proofs.YtfllpmmfjbjgoaaW.PrintWords Go.Proofs.YtfllpmmfjbjgoaaW.PrintLast Go.Proofs.YtfllpmmfjbjgoaaW.PrintMore Go.Proofs.Ytfllpmmfjbjgoaa Go.Proofs.Ytfllpmmfjbjgoaa.PL
def toR (x : S59) : S62 := ⟨x.f0, x.f1, x.f2⟩
def Same (v : Option (Int × ByteArray)) (at_ : Int) (x : S89) : Prop := match v with
  | some (m, s) => x.f0 = at_ ∧ x.f1 = m ∧ 0 ≤ m ∧ m ≤ 3 ∧ x.f2 = s ∧ s.size ≤ 44
  | none => ¬ (x.f0 = at_ ∧ x.f1 ≤ 3)
set_option maxHeartbeats 2000000 in
theorem refscan_l0 (V : Int → Option (Int × ByteArray)) (sl : List S89) (fm : Int) (hf : 1 ≤ fm ∧ fm ≤ 1000000) (hl : 1 ≤ sl.length ∧ sl.length ≤ 1000) (hV : ∀ j : Nat, j < sl.length → Same (V (fm + j)) (fm + j) (rd_T89 sl ((fm + j) % sl.length))) :
    ∀ (m j k : Nat) (out : List S62) (t : ByteArray) (f : Int), j + m = sl.length → 2 * m < k → t.size ≤ 44 * j → out.length ≤ j → 0 ≤ f →
      armoireref05_Scan.l0 k sl fm out t f (fm + j) = some (out ++ (scan V m (fm + j) f t).1.map toR, (scan V m (fm + j) f t).2) := by
  intro m
  induction m with
  | zero =>
    intro j k out t f h1 h2 h3 h4 h5
    obtain ⟨k, rfl⟩ : ∃ q, k = q + 1 := ⟨k - 1, by omega⟩
    rw [armoireref05_Scan.l0, wrapI _ (by omega), if_neg (by omega)]
    simp only [scan, List.map_nil, List.append_nil]
    by_cases q : f > 0
    · rw [if_pos q, if_pos q]
    · rw [if_neg q, if_neg q]; congr 2; omega
  | succ m ih =>
    intro j k out t f h1 h2 h3 h4 h5
    obtain ⟨k, rfl⟩ : ∃ q, k = q + 2 := ⟨k - 2, by omega⟩
    have hv := hV j (by omega)
    have e1 := Int.emod_nonneg (fm + j) (show (sl.length : Int) ≠ 0 by omega)
    have e2 := Int.emod_lt_of_pos (fm + j) (show (0 : Int) < sl.length by omega)
    rw [armoireref05_Scan.l0, wrapI (fm + (sl.length : Int)) (by omega), if_pos (by omega), if_neg (by omega), Int.tmod_eq_emod_of_nonneg (by omega), if_pos e1, if_pos e2]
    generalize rd_T89 sl ((fm + j) % sl.length) = x at hv ⊢
    have hw : wrap64 (fm + (j : Int) + 1) = fm + ((j + 1 : Nat) : Int) := by rw [wrapI _ (by omega)]; omega
    have hbrk : ∀ b1 : Bool, armoireref05_Scan.j1 (k + 1) sl fm out t f (fm + j) b1 true x.f0 x.f1 x.f2 = some (out, if f > 0 then f else fm + j) := fun b1 => by
      rw [armoireref05_Scan.j1, if_pos rfl]
      by_cases q : f > 0
      · rw [if_pos q, if_pos q]
      · rw [if_neg q, if_neg q]
    cases hc : V (fm + j) with
    | none =>
      rw [hc] at hv
      have hv' : ¬ (x.f0 = fm + j ∧ x.f1 ≤ 3) := hv
      rw [scan_none hc, List.map_nil, List.append_nil]
      by_cases q : x.f0 = fm + j
      · rw [if_pos q, if_pos (by omega)]; exact hbrk _
      · rw [if_neg q]; exact hbrk _
    | some y =>
      obtain ⟨mk, s⟩ := y
      rw [hc] at hv
      obtain ⟨v1, v2, v3, v4, v5, v6⟩ : x.f0 = fm + j ∧ x.f1 = mk ∧ 0 ≤ mk ∧ mk ≤ 3 ∧ x.f2 = s ∧ s.size ≤ 44 := hv
      rw [if_pos v1, if_neg (by omega)]
      have hodd : (Int.tmod x.f1 2 == 1) = decide (mk % 2 = 1) := by
        rw [v2, Int.tmod_eq_emod_of_nonneg v3]
        by_cases q : mk % 2 = 1 <;> simp [q]
      have hzero : (f == 0) = decide (f = 0) := by by_cases q : f = 0 <;> simp [q]
      rw [hodd, hzero]
      by_cases q : mk % 2 = 1 ↔ f = 0
      rotate_left
      · have hb : (decide (mk % 2 = 1) != decide (f = 0)) = true := by
          by_cases q1 : mk % 2 = 1 <;> by_cases q2 : f = 0 <;> simp [q1, q2] at q ⊢
        rw [hb, scan_odd hc q, List.map_nil, List.append_nil]
        exact hbrk _
      · have hb : (decide (mk % 2 = 1) != decide (f = 0)) = false := by
          by_cases q1 : mk % 2 = 1 <;> by_cases q2 : f = 0 <;> simp [q1, q2] at q ⊢
        rw [hb, armoireref05_Scan.j1, if_neg (by decide), v2, v5, if_pos (show t.size + s.size ≤ 9223372036854775807 by omega), hw]
        by_cases q2 : 2 ≤ mk
        · rw [scan_end hc q q2]
          have hi := fun o h => ih (j + 1) k (out ++ [o]) ⟨#[]⟩ 0 (by omega) (by omega) (Nat.zero_le _) (by simp; omega) h
          by_cases q1 : mk % 2 = 1
          · have hf0 : f = 0 := q.1 q1
            rw [if_pos (by simp [q1]), if_pos (by omega), if_pos (by omega), hi _ (Int.le_refl _), if_pos hf0, show fm + (j : Int) + 1 = fm + ((j + 1 : Nat) : Int) by omega]
            simp [toR]
          · have hf0 : ¬ f = 0 := fun h => q1 (q.2 h)
            rw [if_neg (by simp [q1]), if_pos (show t.size + s.size ≤ 9223372036854775807 by omega), if_pos (by omega), if_pos (by omega), hi _ (Int.le_refl _), if_neg hf0, show fm + (j : Int) + 1 = fm + ((j + 1 : Nat) : Int) by omega]
            simp [toR]
        · rw [scan_on hc q q2]
          have hi := fun f' h => ih (j + 1) k out (t ++ s) f' (by omega) (by omega) (by rw [ByteArray.size_append]; omega) (by omega) h
          by_cases q1 : mk % 2 = 1
          · have hf0 : f = 0 := q.1 q1
            rw [if_pos (by simp [q1]), if_neg (by omega), hi _ (by omega), if_pos hf0, show fm + (j : Int) + 1 = fm + ((j + 1 : Nat) : Int) by omega]
          · have hf0 : ¬ f = 0 := fun h => q1 (q.2 h)
            rw [if_neg (by simp [q1]), if_pos (show t.size + s.size ≤ 9223372036854775807 by omega), if_neg (by omega), hi _ h5, if_neg hf0, show fm + (j : Int) + 1 = fm + ((j + 1 : Nat) : Int) by omega]
theorem told_l0 (l : List S59) (hl : l.length ≤ 1000000) : ∀ (m j k : Nat), j + m = l.length → m < k → armoirelaw05_told.l0 k l (l.map toR) ((l.map toR).length : Int) (j : Int) = some true := by
  intro m
  induction m with
  | zero =>
    intro j k h1 h2
    obtain ⟨k, rfl⟩ : ∃ q, k = q + 1 := ⟨k - 1, by omega⟩
    rw [armoirelaw05_told.l0, if_neg (by rw [List.length_map]; omega)]
  | succ m ih =>
    intro j k h1 h2
    obtain ⟨k, rfl⟩ : ∃ q, k = q + 1 := ⟨k - 1, by omega⟩
    have hj : j < l.length := by omega
    have r1 : rd_T59 l (j : Int) = l[j] := by unfold rd_T59; rw [Int.toNat_natCast, List.getD_eq_getElem?_getD, List.getElem?_eq_getElem hj]; rfl
    have r2 : rd_T62 (l.map toR) (j : Int) = toR l[j] := by unfold rd_T62; rw [Int.toNat_natCast, List.getD_eq_getElem?_getD, List.getElem?_map, List.getElem?_eq_getElem hj]; rfl
    rw [armoirelaw05_told.l0, if_pos (by rw [List.length_map]; omega), if_pos (by omega), if_pos (by omega), if_pos (by rw [List.length_map]; omega), r1, r2, wrapI _ (by omega), if_neg (by simp [toR]), show (j : Int) + 1 = ((j + 1 : Nat) : Int) by omega]
    exact ih (j + 1) k (by omega) (by omega)
theorem told_f (l : List S59) (hl : l.length ≤ 1000000) : armoirelaw05_told.f (l.length + 1) l (l.map toR) = some true := by
  unfold armoirelaw05_told.f
  rw [if_pos (by rw [List.length_map])]
  exact told_l0 l hl l.length 0 (l.length + 1) (by omega) (by omega)
def secX (d : Dv) (a : Int) : S89 := if (pS (readB d a)).2.2.2 = 0 then ⟨(pS (readB d a)).1, (pS (readB d a)).2.1, (pS (readB d a)).2.2.1⟩ else ⟨0, 0, ⟨#[]⟩⟩
theorem same_sec {d : Dv} {fr ln s : Int} (hd : d.down = false) (h0 : 0 ≤ fr + s % ln) (h1 : fr + s % ln < d.sec.length) (hs : 1 ≤ s) : Same (secAt d fr ln s) s (secX d (fr + s % ln)) := by
  rw [secAt_gd hd h0 h1]
  have hb := pS_bounds (readB d (fr + s % ln))
  unfold gd secX
  generalize pS (readB d (fr + s % ln)) = p at hb ⊢
  obtain ⟨n, m, t, e⟩ := p
  dsimp only at hb ⊢
  by_cases q : e = 0
  · rw [if_pos q]
    by_cases q2 : n = s ∧ m ≤ 3
    · rw [if_pos ⟨by simp [q], q2.1, q2.2⟩]
      exact ⟨q2.1, rfl, hb.1, q2.2, rfl, hb.2.2⟩
    · rw [if_neg (fun h => q2 ⟨h.2.1, h.2.2⟩)]
      exact q2
  · rw [if_neg q, if_neg (fun h => q (by simpa using h.1))]
    intro h
    have h2 : (0 : Int) = s := h.1
    omega
def secsX (d : Dv) (fr : Int) (n : Nat) : List S89 := (List.range n).map fun (i : Nat) => secX d (fr + (i : Int))
theorem secsX_get (d : Dv) (fr : Int) (n : Nat) (i : Int) (h0 : 0 ≤ i) (h1 : i < n) : rd_T89 (secsX d fr n) i = secX d (fr + i) := by
  unfold rd_T89 secsX
  rw [List.getD_eq_getElem?_getD, List.getElem?_map, List.getElem?_range (by omega)]
  show secX d (fr + (i.toNat : Int)) = _
  rw [show ((i.toNat : Nat) : Int) = i by omega]
theorem secsX_succ (d : Dv) (fr : Int) (n : Nat) : secsX d fr (n + 1) = secsX d fr n ++ [secX d (fr + n)] := by unfold secsX; rw [List.range_succ, List.map_append]; rfl
theorem refscan_f (d : Dv) (fr fm : Int) (L : Nat) (hd : d.down = false) (hL : 1 ≤ L ∧ L ≤ 1000) (h0 : 0 ≤ fr) (h1 : fr + L ≤ d.sec.length) (hf : 1 ≤ fm ∧ fm ≤ 1000000) : armoireref05_Scan.f (2 * L + 1) (secsX d fr L) fm = some ((scan (secAt d fr L) L fm 0 ⟨#[]⟩).1.map toR, (scan (secAt d fr L) L fm 0 ⟨#[]⟩).2) := by
  have hlen : (secsX d fr L).length = L := by simp [secsX]
  have := refscan_l0 (secAt d fr L) (secsX d fr L) fm hf (by omega) (fun j hj => by
    rw [hlen] at hj ⊢
    have e1 := Int.emod_nonneg (fm + j) (show (L : Int) ≠ 0 by omega)
    have e2 := Int.emod_lt_of_pos (fm + j) (show (0 : Int) < L by omega)
    rw [secsX_get d fr L _ e1 e2]
    exact same_sec hd (by omega) (by omega) (by omega)) L 0 (2 * L + 1) [] ⟨#[]⟩ 0 (by omega) (by omega) (Nat.zero_le _) (Nat.le_refl _) (Int.le_refl _)
  rw [show fm + ((0 : Nat) : Int) = fm by omega, List.nil_append] at this
  exact this
theorem info_sec : (Try.prog.info? 89).map (fun i => (i.zero, i.size, i.bytes)) = some (some (.agg #[(.int .i64 0), (.int .i64 0), (.string ⟨#[]⟩)]), 3, 32) := by kernel_rfl
structure SX (w W : World) (fr ln : Int) (v : Value) (outs : List S89) : Prop where
  below : Below w.heap.size w W
  area : W.heap[w.heap.size]? = some (.cells #[.int .i64 fr, .int .i64 ln] 28 (0, 0))
  row : Kd.R k89 89 W (w.heap.size + 1) (fun _ => True) v outs
theorem SX.step {w W W1 : World} {fr ln : Int} {v : Value} {outs : List S89} (h : SX w W fr ln v outs) (hB : Below W.heap.size W W1) : SX w W1 fr ln v outs :=
  ⟨bsp h.below hB, (hB.block _ (blk_lt h.area)).trans h.area, Kd.R_below h.row hB⟩
theorem SX.grown {w W W1 : World} {fr ln : Int} {v v1 : Value} {outs o2 : List S89} (h : SX w W fr ln v outs) (hb : Below (w.heap.size + 1) W W1) (hr : Kd.R k89 89 W1 (w.heap.size + 1) (fun _ => True) v1 o2) : SX w W1 fr ln v1 o2 :=
  ⟨h.below.trans (hb.mono (by omega)), (hb.block _ (by omega)).trans h.area, hr⟩
theorem SX.put {w W : World} {fr ln : Int} {v : Value} {outs : List S89} (h : SX w W fr ln v outs) {q : Nat} (hq : w.heap.size < q) (hv : ∀ k, v.ownBlock = some k → k ≠ q) (i : Nat) (u : Value) : SX w (W.setCell ⟨q, i, none⟩ u) fr ln v outs :=
  ⟨h.below.setCell (p := ⟨q, i, none⟩) (Nat.le_of_lt hq) u, (Below.heap_setCell W ⟨q, i, none⟩ u _ (Nat.ne_of_lt hq)).trans h.area,
    Kd.R_mono (Kd.R_far (p := ⟨q, i, none⟩) (ok := fun k => v.ownBlock = some k) (R_row (fun h => h) h.row) (fun k hk => hv k hk) u) (fun _ _ => trivial)⟩
theorem pS_err (a : ByteArray) (h : ¬ (pS a).2.2.2 = 0) : pS a = (0, 0, ⟨#[]⟩, (pS a).2.2.2) := by
  revert h
  unfold pS
  dsimp only
  generalize tN (a.extract 4 a.size) 0 1099511627776 = x
  generalize tN x.2.1 x.2.2 255 = y
  generalize tS y.2.1 y.2.2 44 = z
  by_cases c1 : ¬ a.size = 64
  · rw [if_pos c1]; intro _; rfl
  rw [if_neg c1]
  by_cases c2 : ¬ (a.extract 0 4).data.toList = cB (sm (a.extract 4 a.size))
  · rw [if_pos c2]; intro _; rfl
  rw [if_neg c2]
  by_cases c3 : ¬ z.2.2 = 0
  · rw [if_pos c3]; intro _; rfl
  rw [if_neg c3]
  by_cases c4 : x.1 < 1
  · rw [if_pos c4]; intro _; rfl
  rw [if_neg c4]
  by_cases c5 : (tx x.1 y.1 z.1).data.toList = a.data.toList
  · rw [if_pos c5]; intro h; exact absurd rfl h
  · rw [if_neg c5]; intro _; rfl
set_option maxHeartbeats 16000000 in
set_option maxRecDepth 100000 in
theorem law_sectors.calls (g : Nat) (d : Dv) (fr : Int) (L k : Nat) (w0 w : World) (hI : IsDev w0 w g d) (hd : d.down = false) (hn : DI 24 k d) (hL : L ≤ 24) (h0 : 0 ≤ fr) (h1 : fr + L ≤ 24) :
    Calls Try.prog 22 #[.pointer (some ⟨g, 0, none⟩), .agg #[.int .i64 fr, .int .i64 (L : Int)]] w fun e w' => ∃ v : Value, e = .returned v ∧ Kd.R k89 89 w' w.heap.size (fun _ => True) v (secsX d fr L) ∧ Below w.heap.size w w' := by
  have hx := World.alloc_heap_new w (.cells #[.int .i64 fr, .int .i64 (L : Int)] 28)
  have HB := Aside0.mk (bal (Below.refl w.heap.size w) (.cells #[.int .i64 fr, .int .i64 (L : Int)] 28))
  obtain ⟨W1, hW1⟩ : ∃ W1, W1 = w.alloc (.cells #[.int .i64 fr, .int .i64 (L : Int)] 28) := ⟨_, rfl⟩
  have hsz : W1.heap.size = w.heap.size + 1 := by rw [hW1]; simp
  rw [← hW1] at hx HB
  have HX := Aside0.mk hx
  have HSZ := Aside0.mk hsz
  have HI := Aside0.mk hI
  have HD := Aside0.mk hd
  have HN := Aside0.mk hn
  have HL := Aside0.mk (show L ≤ 24 ∧ 0 ≤ fr ∧ fr + L ≤ 24 from ⟨hL, h0, h1⟩)
  have hL9 : L ≤ 9223372036854775807 := by omega
  clear hx hsz hI hd hn hL h0 h1
  go_enter Try.func22, Try.ntmps22
  go_wp2_with (first
    | ((with_reducible refine gds (N := 11) rfl ?_); refine Kd.R_lit k89 _ 89 ?hg (N := 11) ?hd (xs := ([] : List S89)) (inner := []) (ok := fun _ => True) (okp := fun _ => True) ?hr ?hp (fun _ hk => hk) trivial (Below.refl _ _) (Nat.le_refl _) (by simp) ?_; (case hd => rfl); (case hg => rfl); (case hr => first | (go_simp; done) | (go_simp; rfl)); (case hp => exact (Reps.none _ _)); intro v5 w4 ho5 hb hg_ hnew_; clear hg_ hnew_; rw [← hW1] at ho5 hb; rw [HSZ.out] at ho5; have HS := Aside0.mk (show SX w w4 fr L v5 [] from ⟨bsp HB.out hb, (hb.block _ (blk_lt HX.out)).trans HX.out, ho5⟩); have b1 := (kcl HS.out.area 1).trans rfl; clear ho5 hb))
  go_loopw [14, 5] (fun v14 v5 wr => ∃ j : Nat, v14 = .int .i64 j ∧ j ≤ L ∧ Aside0 (SX w wr fr L v5 (secsX d fr j))) (fun v14 _ _ => L - (intOf v14).toNat)
  case atStart => exact ⟨0, rfl, Nat.zero_le _, HS⟩
  case round =>
    clear HS b1
    obtain ⟨j, rfl, hj, HS⟩ := hrel
    have b0 := (kcl HS.out.area 0).trans rfl
    by_cases q : j < L
    rotate_left
    · obtain rfl : j = L := by omega
      go_wp2
      go_ret
      exact ⟨_, rfl, Kd.R_lower HS.out.row (Nat.le_succ _), HS.out.below⟩
    have hlb := HL.out
    have hrd : dvRead d (fr + j) = (readB d (fr + j), 0) := by
      unfold dvRead
      rw [if_neg (by rw [HN.out.sec]; omega), HD.out]; rfl
    have hsu := secsX_succ d fr j
    have hrz := HN.out.read (fr + j)
    rw [hrd] at hrz
    have hpr := rparse_f (readB d (fr + j)) hrz
    have hpe := pS_err (readB d (fr + j))
    have hsx : secX d (fr + j) = if (pS (readB d (fr + j))).2.2.2 = 0 then ⟨(pS (readB d (fr + j))).1, (pS (readB d (fr + j))).2.1, (pS (readB d (fr + j))).2.2.1⟩ else ⟨0, 0, ⟨#[]⟩⟩ := rfl
    have hcal := fun W hI => device_Read.calls g d (fr + j) w0 W hI
    rw [hrd] at hcal
    generalize readB d (fr + j) = x at hpr hpe hsx hcal
    generalize pS x = y at hpr hpe hsx
    obtain ⟨sn, sm, st, er⟩ := y
    dsimp only at hpr hpe hsx
    obtain ⟨kp, hp⟩ := Ev.rounds hpr
    have HP := Aside0.mk hp
    have HCAL := Aside0.mk hcal
    have HSU := Aside0.mk hsu
    have HPE := Aside0.mk hpe
    have HSX := Aside0.mk hsx
    have E1 := Aside0.mk (wrapI (fr + (j : Int)) (by omega))
    clear hrd hsu hrz hpr hpe hsx hcal hp hlb
    have e1 := E1.out
    go_wp2_with fail
    refine (HCAL.out _ (HI.out.below HS.out.below)).mono ?_
    rintro e w5 ⟨rfl, hB⟩
    have HS5 := Aside0.mk (HS.out.step hB)
    clear hB b0 e1
    go_wp2_with fail
    refine (armoireref04_Parse.calls kp x sn sm st er w5 HP.out).mono ?_
    rintro e w6 ⟨rfl, hB⟩
    have HS5b := Aside0.mk (HS5.out.step hB)
    clear hB
    by_cases q9 : er = 0
    · have Q9 := Aside0.mk q9
      subst q9
      have HS6 := Aside0.mk (HS5b.out.step (bal (Below.refl _ _) (.cells #[.int .i64 sn, .int .i64 sm, .string st] 89)))
      obtain ⟨W9, hW9⟩ : ∃ W9, W9 = (w6.alloc (.cells #[.int .i64 sn, .int .i64 sm, .string st] 89)) := ⟨_, rfl⟩
      rw [← hW9] at HS6
      go_wp2_with (first
        | ((with_reducible refine gate_builtin (b := .append) (xs := #[.tmp 38, .tmp 40]) rfl ?_); at_builtin; refine Kd.R_append k89 (w0 := W9) (w.heap.size + 1) rfl (.tmp 38) (.tmp 40) 49 89 (.agg #[(.int .i64 0), (.int .i64 0), (.string ⟨#[]⟩)]) 32 rfl Try.underlying49 info_sec rfl (by decide) (by omega) _ (secsX d fr j) (⟨sn, sm, st⟩ : S89) [.int .i64 sn, .int .i64 sm, .string st] (fun _ => True) (fun _ => False) rfl (by first | rfl | (simp [Act.eval]; done)) ?aP (fun _ hk => hk.elim) ?aF ?aO ?aB ?aS ?aL ?_; (case aP => exact k89_mkM _ _ _ (⟨sn, sm, st⟩ : S89)); (case aF => exact (fun _ _ => trivial)); (case aO => rw [← hW9]; exact HS6.out.row); (case aB => rw [← hW9]; exact Below.refl _ _); (case aS => rw [← hW9]; have := blk_lt HS6.out.area; omega); (case aL => have := HL.out; simp only [secsX, List.length_map, List.length_range]; omega); intro v1 w9 ho hb hg hat; have HS9 := Aside0.mk (HS6.out.grown hb ho); clear ho hb hg hat))
      go_roundw
      case rel => exact ⟨j + 1, by go_num, by omega, ⟨by rw [HSU.out, HSX.out, if_pos trivial]; exact HS9.out⟩⟩
      case measure => simp [intOf]; omega
    · have q10 : (er != 0) = true := bne_iff_ne.2 q9
      have Q9 := Aside0.mk q9
      obtain ⟨rfl, rfl, rfl⟩ : sn = 0 ∧ sm = 0 ∧ st = ⟨#[]⟩ := by
        have h := HPE.out q9
        injection h with a h
        injection h with b h
        injection h with c _
        exact ⟨a, b, c⟩
      have hbx := World.alloc_heap_new w6 (.cells #[.int .i64 0, .int .i64 0, .string ⟨#[]⟩] 89)
      have r0 := (kcl hbx 0).trans rfl
      have r1 := (kcl hbx 1).trans rfl
      have r2 := (kcl hbx 2).trans rfl
      have f0 := kfr hbx 0
      have f1 := kfr hbx 1
      have f2 := kfr hbx 2
      have HS6 := Aside0.mk (HS5b.out.step (bal (Below.refl _ _) (.cells #[.int .i64 0, .int .i64 0, .string ⟨#[]⟩] 89)))
      clear q9 hbx
      obtain ⟨W9, hW9⟩ : ∃ W9, W9 = (w6.alloc (.cells #[.int .i64 0, .int .i64 0, .string ⟨#[]⟩] 89)) := ⟨_, rfl⟩
      rw [← hW9] at HS6
      go_wp2_with (first
        | ((with_reducible refine gate_builtin (b := .append) (xs := #[.tmp 38, .tmp 40]) rfl ?_); at_builtin; refine Kd.R_append k89 (w0 := W9) (w.heap.size + 1) rfl (.tmp 38) (.tmp 40) 49 89 (.agg #[(.int .i64 0), (.int .i64 0), (.string ⟨#[]⟩)]) 32 rfl Try.underlying49 info_sec rfl (by decide) (by omega) _ (secsX d fr j) (⟨0, 0, ⟨#[]⟩⟩ : S89) [.int .i64 0, .int .i64 0, .string ⟨#[]⟩] (fun _ => True) (fun _ => False) rfl (by first | rfl | (simp [Act.eval]; done)) ?aP (fun _ hk => hk.elim) ?aF ?aO ?aB ?aS ?aL ?_; (case aP => exact k89_mkM _ _ _ (⟨0, 0, ⟨#[]⟩⟩ : S89)); (case aF => exact (fun _ _ => trivial)); (case aO => rw [← hW9]; exact HS6.out.row); (case aB => rw [← hW9]; exact Below.refl _ _); (case aS => rw [← hW9]; have := blk_lt HS6.out.area; omega); (case aL => have := HL.out; simp only [secsX, List.length_map, List.length_range]; omega); intro v1 w9 ho hb hg hat; have HS9 := Aside0.mk (HS6.out.grown hb ho); clear ho hb hg hat))
      go_roundw
      case rel => exact ⟨j + 1, by go_num, by omega, ⟨by rw [HSU.out, HSX.out, if_neg Q9.out]; exact HS9.out⟩⟩
      case measure => simp [intOf]; omega
end Go.Proofs.Ytfllpmmfjbjgoaa.PA

namespace Go.Proofs.Ytfllpmmfjbjgoaa.PA
set_option linter.unusedSimpArgs false
open Go.RowKit Go.Proofs.YtfllpmmfjbjgoaaW.PrintWords Go.Proofs.YtfllpmmfjbjgoaaW.PrintLast Go.Proofs.YtfllpmmfjbjgoaaW.PrintMore Go.Proofs.Ytfllpmmfjbjgoaa Go.Proofs.Ytfllpmmfjbjgoaa.PL
theorem upn_write {d : Dv} (h : UpN d) (a : Int) (s : ByteArray) : UpN (dvWrite d a s).2 := by
  obtain ⟨e, e1, e2⟩ := h.call
  unfold dvWrite
  split
  · exact h
  · rw [if_neg (by rw [e]; decide)]
    exact ⟨e2, by have := h.left; simp only; omega⟩
theorem upn_stW {d : Dv} (h : UpN d) (a s m : Int) (t : ByteArray) : UpN (stW d a s m t).2 := by
  unfold stW
  split
  · exact upn_write h _ _
  · exact h
theorem upn_spoil {d : Dv} (h : UpN d) (a : Int) (s : ByteArray) : UpN (dvSpoil d a s) := by
  unfold dvSpoil
  split
  · exact ⟨h.down, h.left⟩
  · exact h
structure DS (w1 W : World) (g k : Nat) (d : Dv) : Prop where
  dev : IsDev w1 W g d
  below : Below w1.heap.size w1 W
  di : DI 24 k d
  up : UpN d
theorem DS.step {w1 W W1 : World} {g k : Nat} {d : Dv} (h : DS w1 W g k d) (hB : Below W.heap.size W W1) : DS w1 W1 g k d := ⟨h.dev.below hB, bsp h.below hB, h.di, h.up⟩
theorem scan_len (v : Int → Option (Int × ByteArray)) : ∀ (n : Nat) (at_ f : Int) (t : ByteArray), (scan v n at_ f t).1.length ≤ n := by
  intro n
  induction n with
  | zero => intro at_ f t; exact Nat.le_refl _
  | succ n ih =>
    intro at_ f t
    cases hv : v at_ with
    | none => rw [scan_none hv]; exact Nat.zero_le _
    | some x =>
      obtain ⟨m, s⟩ := x
      by_cases q : m % 2 = 1 ↔ f = 0
      · by_cases q2 : 2 ≤ m
        · rw [scan_end hv q q2]; exact Nat.succ_le_succ (ih _ _ _)
        · rw [scan_on hv q q2]; exact Nat.le_succ_of_le (ih _ _ _)
      · rw [scan_odd hv q]; exact Nat.zero_le _
structure St1 where
  f0 : Int
  f1 : Int
  f2 : ByteArray
def kSt : Kd St1 := Kd.iso (Kd.pair (Kd.int .i64) (Kd.pair (Kd.int .u8) Kd.string)) (fun x => (x.f0, x.f1, x.f2))
theorem kSt_open {w : World} {x : St1} {cs : List Value} (h : kSt.K w x cs) : cs = [.int .i64 x.f0, .int .u8 x.f1, .string x.f2] := by
  obtain ⟨c1, c2, rfl, h1, c3, c4, rfl, h2, h3⟩ := h
  obtain rfl := h1
  obtain rfl := h2
  obtain rfl := h3
  rfl
def zSt : St1 := ⟨0, 0, ByteArray.empty⟩
theorem at_St {w : World} {A : Option Addr} {n : Nat} {xs : List St1} (h : Kd.C kSt w A n xs) (i : Int) (h0 : 0 ≤ i) (h1 : i < n) : ∃ ad, A = some ad ∧ w.cell? (ad.add (i.toNat * 3)) = some (.int .i64 (xs.getD i.toNat zSt).f0) ∧ w.cell? ⟨(ad.add (i.toNat * 3)).block, (ad.add (i.toNat * 3)).off + 1, none⟩ = some (.int .u8 (xs.getD i.toNat zSt).f1) ∧
    w.cell? ⟨(ad.add (i.toNat * 3)).block, (ad.add (i.toNat * 3)).off + 2, none⟩ = some (.string (xs.getD i.toNat zSt).f2) := by
  obtain ⟨ad, cs, e, _, hK, hc0⟩ := Kd.C_get h zSt i h0 h1
  have hc : ∀ j u, cs[j]? = some u → w.cell? (ad.add (i.toNat * 3 + j)) = some u := hc0
  obtain rfl := kSt_open hK
  exact ⟨ad, e, hc 0 _ rfl, by rw [← add_field _ _ 1 (by omega)]; exact hc 1 _ rfl, by rw [← add_field _ _ 2 (by omega)]; exact hc 2 _ rfl⟩
set_option maxHeartbeats 32000000 in
set_option maxRecDepth 100000 in
theorem WalScans.walk (w : World) (a0 : Int) (_ : (Lit.int .i64 a0).wf = true) (a1 : Int) (_ : (Lit.int .i64 a1).wf = true) (A2 : Option Addr) (c2 : Nat) (l2 : List St1) (hr2 : Kd.C kSt w A2 l2.length l2) (_ : l2.length ≤ c2) (hw2 : ∀ x ∈ l2, (Lit.int .i64 x.f0).wf = true ∧ (Lit.int .u8 x.f1).wf = true ∧ x.f2.size ≤ maxLen) (A3 : Option Addr) (c3 : Nat) (l3 : List Int) (hr3 : Kd.C (Kd.int .i64) w A3 l3.length l3) (_ : l3.length ≤ c3) (a4 : Int) (_ : (Lit.int .i64 a4).wf = true) :
    Calls Try.prog 4 #[.int .i64 a0, .int .i64 a1, .slice A2 l2.length c2, .slice A3 l3.length c3, .int .i64 a4] w fun e w' => e = .returned (.bool true) ∧ Below w.heap.size w w' := by
  have hwm : ∀ x ∈ l2, 0 ≤ x.f1 ∧ x.f1 ≤ 255 := fun x hx => by
    have h := (hw2 x hx).2.1
    simp [Lit.wf, IntKind.min, IntKind.max, IntKind.signed, IntKind.bits] at h
    omega
  have m1 := i64_and7 a0
  have m2 := i64_and15 a1
  have m3 := i64_and255 a4
  obtain ⟨fr, hfr⟩ : ∃ fr : Nat, a0 % 8 = fr := ⟨(a0 % 8).toNat, by omega⟩
  obtain ⟨q1, hq1⟩ : ∃ q1 : Nat, a1 % 16 = q1 := ⟨(a1 % 16).toNat, by omega⟩
  obtain ⟨q4, hq4⟩ : ∃ q4 : Nat, a4 % 256 = q4 := ⟨(a4 % 256).toNat, by omega⟩
  rw [hfr] at m1
  rw [hq1] at m2
  rw [hq4] at m3
  obtain ⟨L, hL⟩ : ∃ L : Nat, L = q1 + 2 := ⟨_, rfl⟩
  obtain ⟨nn, hnn⟩ : ∃ nn : Nat, nn = q4 + 1 := ⟨_, rfl⟩
  have HQ := Aside0.mk (show fr ≤ 7 ∧ 2 ≤ L ∧ L ≤ 17 ∧ 1 ≤ nn ∧ nn ≤ 256 by omega)
  have HAR := Aside0.mk (show armoirelaw05_area.f a0 a1 = some ((fr : Int), (L : Int)) by unfold armoirelaw05_area.f; rw [m1, m2, wrapI _ (by omega)]; congr 2; omega)
  have E4 := Aside0.mk (show wrap64 (1 + (q4 : Int)) = (nn : Int) by rw [wrapI _ (by omega)]; omega)
  have HWM := Aside0.mk hwm
  have HR2 := Aside0.mk hr2
  have HR3 := Aside0.mk hr3
  have hm2 : l2.length ≤ 9223372036854775807 := Kd.C_max hr2
  have hm3 : l3.length ≤ 9223372036854775807 := Kd.C_max hr3
  clear hfr hq1 hq4 hL hnn hwm hw2 hr2 hr3 m1 m2
  go_enter Try.func4, Try.ntmps4
  go_wp2_with fail
  refine (law_awake.calls _).mono ?_
  rintro e w0 ⟨rfl, hB⟩
  have HB0 := Aside0.mk hB
  clear hB
  go_wp2_with fail
  refine (armoirelaw05_area.calls a0 a1 fr L _ HAR.out).mono ?_
  rintro e w00 ⟨rfl, hB⟩
  have HB1 := Aside0.mk (bal (bsp HB0.out hB) (.cells #[.int .i64 (fr : Int), .int .i64 (L : Int)] 28))
  have HX := Aside0.mk (World.alloc_heap_new w00 (.cells #[.int .i64 (fr : Int), .int .i64 (L : Int)] 28))
  obtain ⟨w1, hw1⟩ : ∃ w1, w1 = w00.alloc (.cells #[.int .i64 (fr : Int), .int .i64 (L : Int)] 28) := ⟨_, rfl⟩
  rw [← hw1] at HX HB1
  have hn := device_New_good 24 w1 w1 (Below.refl _ _) (by decide) (by decide)
  rw [show ((24 : Nat) : Int) = 24 from rfl] at hn
  have HN := Aside0.mk hn
  clear hB hn
  have e4 := E4.out
  go_wp2_with fail
  rw [← hw1]
  clear e4 hw1
  refine HN.out.mono ?_
  rintro e w2 ⟨rfl, hI, hB, -⟩
  have HS := Aside0.mk (show DS w1 w2 w1.heap.size 0 (dvNew 24) from ⟨hI, hB, DI.new 24, upn_new 24⟩)
  clear hI hB
  go_upto_block 0 with fail
  go_cut [] (fun wc => ∃ (i : Nat) (d : Dv), i ≤ 17 ∧ Aside0 (DS w1 wc w1.heap.size i d))
  case first =>
    go_wp2_with fail
    go_loopw [14] (fun v14 wr => ∃ (i : Nat) (d : Dv), v14 = .int .i64 i ∧ (i ≤ l2.length ∧ i ≤ L) ∧ Aside0 (DS w1 wr w1.heap.size i d)) (fun v14 _ => L - (intOf v14).toNat)
    case atStart => exact ⟨0, _, rfl, ⟨Nat.zero_le _, Nat.zero_le _⟩, HS⟩
    case round =>
      clear HS
      obtain ⟨i, d, rfl, ⟨hi, hi2⟩, HS⟩ := hrel
      have hxa := (HS.out.below.block w00.heap.size (blk_lt HX.out)).trans HX.out
      have b0 := (kcl hxa 0).trans rfl
      have b1 := (kcl hxa 1).trans rfl
      clear hxa
      by_cases q1 : i < l2.length ∧ i < L
      rotate_left
      · have q2 : (l2.length : Int) ≤ (i : Int) ∨ ((i : Int) < (l2.length : Int) ∧ (L : Int) ≤ (i : Int)) := by omega
        clear q1
        have hq := HQ.out
        rcases q2 with q3 | ⟨q3, q4⟩
        all_goals
          go_wp2
          go_meet
          exact ⟨i, d, by have := HQ.out; omega, HS⟩
      obtain ⟨q1, q2⟩ := q1
      have q2' : (i : Int) < (L : Int) := by omega
      have hC0 := Kd.C_below HR2.out (bsp HB1.out HS.out.below)
      have hp : (0 : Int) ≤ (i : Int) := by omega
      have hq : (i : Int) < (l2.length : Int) := by omega
      have hm : i ≤ 9223372036854775806 := by omega
      obtain ⟨ad0, e0, y0, y1, y2⟩ := at_St hC0 (i : Int) hp hq
      cases e0
      clear hC0
      rw [Int.toNat_natCast] at y0 y1 y2
      have HMK := Aside0.mk (show 0 ≤ (l2.getD i zSt).f1 ∧ (l2.getD i zSt).f1 ≤ 255 by rw [List.getD_eq_getElem?_getD, List.getElem?_eq_getElem q1]; exact HWM.out _ (List.getElem_mem q1))
      generalize l2.getD i zSt = x at y0 y1 y2 HMK
      obtain ⟨x0, x1, x2⟩ := x
      dsimp only at y0 y1 y2 HMK
      obtain ⟨s1, hs1⟩ : ∃ s1, s1 = x2.extract 0 (min 44 x2.size) := ⟨_, rfl⟩
      have HS1 := Aside0.mk (show armoirelaw01_Cut.f x2 ((44 : Nat) : Int) = some s1 by rw [hs1]; exact cut_f x2 44)
      clear hs1
      go_wp2_with fail
      refine (armoirelaw01_Cut.calls x2 44 s1 _ HS1.out).mono ?_
      rintro e w5 ⟨rfl, hB⟩
      have hbx := World.alloc_heap_new wr (.cells #[.int .i64 x0, .int .u8 x1, .string x2] 41)
      have hB5 := bsp (bal (Below.refl wr.heap.size wr) (.cells #[.int .i64 x0, .int .u8 x1, .string x2] 41)) hB.below
      have hb5 := (hB.below.block wr.heap.size (blk_lt hbx)).trans hbx
      have c0 := (kcl hb5 0).trans rfl
      have c1 := (kcl hb5 1).trans rfl
      have c2 := (kcl hb5 2).trans rfl
      have f2 := kfr hb5 2
      have HS6 := Aside0.mk (HS.out.step (hB5.setCell (p := ⟨wr.heap.size, 2, none⟩) (Nat.le_refl _) (.string s1)))
      have hxa := (hB5.block w00.heap.size (by have h1 := (HS.out.below.block w00.heap.size (blk_lt HX.out)).trans HX.out; exact blk_lt h1)).trans ((HS.out.below.block w00.heap.size (blk_lt HX.out)).trans HX.out)
      have HNE := Aside0.mk (show w00.heap.size ≠ wr.heap.size from fun e => by have h1 := blk_lt ((HS.out.below.block w00.heap.size (blk_lt HX.out)).trans HX.out); omega)
      clear b0 b1 y0 y1 y2 hbx
      have b0 := (kcl hxa 0).trans rfl
      have hne := HNE.out
      have e1 := wrapI ((fr : Int) + (i : Int)) (by have := HQ.out; omega)
      clear hB hB5 hb5 hxa
      go_wp2_with fail
      refine (stamp_Write.calls w1.heap.size d ((fr : Int) + (i : Int)) x0 x1 s1 w1 _ HMK.out HS6.out.dev HS6.out.below HS.out.di.left (by have := HS.out.di.cache; have := HQ.out; omega)).mono ?_
      rintro e w6 ⟨rfl, hI, hB, -⟩
      have HS7 := Aside0.mk (show DS w1 w6 w1.heap.size (i + 1) (stW d ((fr : Int) + (i : Int)) x0 x1 s1).2 from ⟨hI, hB, HS.out.di.stamp _ _ _ _, upn_stW HS.out.up _ _ _ _⟩)
      generalize stW d ((fr : Int) + (i : Int)) x0 x1 s1 = X at HS7 ⊢
      obtain ⟨xe, d7⟩ := X
      dsimp only at HS7 ⊢
      clear hI hB b0 hne e1 c0 c1 c2 f2
      go_wp2
      go_roundw
      case rel => exact ⟨i + 1, d7, by go_num, ⟨by omega, by omega⟩, HS7⟩
      case measure => simp [intOf]; omega
  case rest =>
    obtain ⟨i0, d0, hi0, HS⟩ := hcut
    go_wp2_with fail
    refine (device_Flush.calls w1.heap.size d0 w1 _ HS.out.dev HS.out.below HS.out.di.left HS.out.di.ok).mono ?_
    rintro e w5 ⟨rfl, hI, hB, -⟩
    have HS5 := Aside0.mk (show DS w1 w5 w1.heap.size 17 (dvFlush d0).2 from ⟨hI, hB, HS.out.di.flush.later (by omega), HS.out.up.flush.2.1⟩)
    generalize dvFlush d0 = X at HS5 ⊢
    obtain ⟨xe, d5⟩ := X
    dsimp only at HS5 ⊢
    clear hI hB
    go_upto_block 2 with fail
    go_cut [] (fun wc => ∃ (d : Dv), Aside0 (DS w1 wc w1.heap.size 17 d))
    case first =>
      go_wp2_with fail
      go_loopw [16] (fun v16 wr => ∃ (i : Nat) (d : Dv), v16 = .int .i64 i ∧ (i ≤ l3.length ∧ i ≤ 4) ∧ Aside0 (DS w1 wr w1.heap.size 17 d)) (fun v16 _ => 4 - (intOf v16).toNat)
      case atStart => exact ⟨0, _, rfl, ⟨Nat.zero_le _, Nat.zero_le _⟩, HS5⟩
      case round =>
        clear HS5
        obtain ⟨i, d, rfl, ⟨hi, hi2⟩, HS⟩ := hrel
        by_cases q1 : i < l3.length ∧ i < 4
        rotate_left
        · have q2 : (l3.length : Int) ≤ (i : Int) ∨ ((i : Int) < (l3.length : Int) ∧ (4 : Int) ≤ (i : Int)) := by omega
          clear q1
          rcases q2 with q3 | ⟨q3, q4⟩
          all_goals
            go_wp2
            go_meet
            exact ⟨d, HS⟩
        obtain ⟨q1, q2⟩ := q1
        have hp : (0 : Int) ≤ (i : Int) := by omega
        have hq : (i : Int) < (l3.length : Int) := by omega
        have hm : i ≤ 9223372036854775806 := by omega
        obtain ⟨ad0, e0, yw⟩ := Kd.at_int HR3.out (i : Int) hp hq
        cases e0
        rw [Int.toNat_natCast] at yw
        generalize rd l3 (i : Int) = x at yw
        have HYW := Aside0.mk yw
        obtain ⟨qk, hqk⟩ : ∃ qk : Nat, x % 256 = qk := ⟨(x % 256).toNat, by omega⟩
        have mx := i64_and255 x
        rw [hqk] at mx
        obtain ⟨p, hpp⟩ : ∃ p : Int, p = (fr : Int) + (qk : Int) % (L : Int) := ⟨_, rfl⟩
        have hL0 : ¬ ((L : Int) = 0) := by have := HQ.out; omega
        have hL1 : ((L : Int) == 0) = false := beq_eq_false_iff_ne.2 hL0
        have hL2 : ¬ (L = 0) := by have := HQ.out; omega
        have hL3 : (L == 0) = false := beq_eq_false_iff_ne.2 hL2
        have htm : 0 ≤ (qk : Int) % (L : Int) ∧ (qk : Int) % (L : Int) < (L : Int) := ⟨Int.emod_nonneg _ hL0, Int.emod_lt_of_pos _ (by have := HQ.out; omega)⟩
        have K1 := Aside0.mk (show IntKind.i64.wrap ((fr : Int) + (qk : Int) % (L : Int)) = p by rw [wrapK _ (by have := HQ.out; omega), hpp])
        obtain ⟨rr, hrr⟩ : ∃ rr : Nat, (qk : Int) % (L : Int) = rr := ⟨((qk : Int) % (L : Int)).toNat, by omega⟩
        have hz2 : Int.tmod (qk : Int) (L : Int) = (rr : Int) := by rw [Int.tmod_eq_emod_of_nonneg (by omega), hrr]
        have hz3 : IntKind.i64.wrap (rr : Int) = (rr : Int) := wrapK _ (by have := HQ.out; omega)
        rw [hrr] at K1
        have HSd := Aside0.mk (HS.out.step (below_drew (Below.refl _ wr)))
        have hxa := (HSd.out.below.block w00.heap.size (blk_lt HX.out)).trans HX.out
        have b0 := (kcl hxa 0).trans rfl
        have b1 := (kcl hxa 1).trans rfl
        have y0 := pw_cell_below (bsp HB1.out HSd.out.below) yw
        clear yw hqk hpp htm hxa hrr
        go_upto_region 18 with fail
        have k1 := K1.out
        go_region_held3 (fun w' => w'.cell? ⟨w00.heap.size, 0, none⟩ = some (.int .i64 (fr : Int)) ∧ w'.cell? ⟨w00.heap.size, 1, none⟩ = some (.int .i64 (L : Int)) ∧ w'.cell? (ad0.add i) = some (.int .i64 x)) (first | exact ⟨b0, b1, y0⟩) (first
          | (go_simp; go_at_call 20; (with_reducible refine (device_Spoil.calls w1.heap.size d p ⟨#[110, 111, 110, 101]⟩ w1 _ HSd.out.dev HSd.out.below (by decide)).mono ?_); rintro e w7 ⟨rfl, hI, hB, hK⟩; have HS7 := Aside0.mk (show DS w1 w7 w1.heap.size 17 (dvSpoil d p ⟨#[110, 111, 110, 101]⟩) from ⟨hI, hB, HSd.out.di.spoil _ _, upn_spoil HSd.out.up _ _⟩); have hxa := (hB.block w00.heap.size (blk_lt HX.out)).trans HX.out; have b0 := (kcl hxa 0).trans rfl; have b1 := (kcl hxa 1).trans rfl; have y0 := pw_cell_below (bsp HB1.out hB) HYW.out; clear hI hB hK hxa))
        all_goals
          clear b0 b1 y0 k1 hL0 hL1 hz2 hz3 hL2 hL3
          go_wp2
          go_roundw
          case rel => exact ⟨i + 1, _, by go_num, ⟨by omega, by omega⟩, HS7⟩
          case measure => simp [intOf]; omega
    case rest =>
      obtain ⟨d, HS⟩ := hcut
      have hxa := (HS.out.below.block w00.heap.size (blk_lt HX.out)).trans HX.out
      have b0 := (kcl hxa 0).trans rfl
      have b1 := (kcl hxa 1).trans rfl
      clear hxa
      have hq := HQ.out
      have hck : chkA (fr : Int) (L : Int) ((24 : Nat) : Int) = 0 := by unfold chkA; rw [if_neg (by omega)]
      have hlen := HS.out.di.sec
      have hrf := refscan_f d fr nn L HS.out.up.down (by omega) (by omega) (by omega) (by omega)
      have hsc := wal_Scan.calls w1.heap.size d fr L nn w1 wc 24 17 HS.out.dev HS.out.up.down HS.out.di hck (by decide) (by omega)
      rw [Int.toNat_natCast] at hsc
      have hln := scan_len (secAt d fr L) L nn 0 ⟨#[]⟩
      obtain ⟨R, hR⟩ : ∃ R, R = scan (secAt d fr L) L nn 0 ⟨#[]⟩ := ⟨_, rfl⟩
      rw [← hR] at hsc hrf hln
      obtain ⟨R1, R2⟩ := R
      dsimp only at hsc hrf hln
      have HRF := Aside0.mk hrf
      have HTF := Aside0.mk (told_f R1 (by omega))
      have HSE := Aside0.mk (fun W h => law_sectors.calls w1.heap.size d fr L 17 w1 W h HS.out.up.down HS.out.di (by omega) (by omega) (by omega))
      clear hq hck hlen hrf hln hR
      go_wp2_with fail
      rw [E4.out]
      refine hsc.mono ?_
      rintro e w5 ⟨v, rfl, hRw, hB⟩
      clear hsc
      have HS5 := Aside0.mk (HS.out.step hB)
      obtain ⟨A5, c5, rfl⟩ := Kd.R_slice hRw
      have HG := Aside0.mk (Kd.R_reads' hRw)
      have hxa := (HS5.out.below.block w00.heap.size (blk_lt HX.out)).trans HX.out
      clear b0 b1
      have b0 := (kcl hxa 0).trans rfl
      have b1 := (kcl hxa 1).trans rfl
      clear hB hRw hxa
      go_wp2_with fail
      refine (HSE.out w5 HS5.out.dev).mono ?_
      rintro e w6 ⟨v6, rfl, hRw, hB⟩
      obtain ⟨A6, c6, rfl⟩ := Kd.R_slice hRw
      have HG6 := Aside0.mk (Kd.R_reads' hRw)
      have HB6 := Aside0.mk hB
      clear hB hRw b0 b1
      go_wp2_with fail
      refine (armoireref05_Scan.calls (2 * L + 1) A6 c6 (secsX d fr L) nn _ _ w6 HG6.out.2.2 HG6.out.2.1 HRF.out).mono ?_
      rintro e w7 ⟨v7, rfl, hRw, hB⟩
      obtain ⟨A7, c7, rfl⟩ := Kd.R_slice hRw
      have HG7 := Aside0.mk (Kd.R_reads' hRw)
      have HB7 := Aside0.mk (bsp HB6.out hB)
      clear hB hRw
      go_wp2_with fail
      have htd := armoirelaw05_told.calls (R1.length + 1) A5 c5 R1 A7 c7 (R1.map toR) true w7 (Kd.C_below HG.out.2.2 HB7.out) HG.out.2.1 HG7.out.2.2 HG7.out.2.1 HTF.out
      rw [List.length_map] at htd
      refine htd.mono ?_
      rintro e w8 ⟨rfl, hdr⟩
      have HB8 := Aside0.mk (bsp (bsp (bsp HB1.out HS5.out.below) HB7.out) hdr.below)
      clear hdr htd
      go_wp2
      go_ret
      exact ⟨rfl, HB8.out⟩
end Go.Proofs.Ytfllpmmfjbjgoaa.PA

