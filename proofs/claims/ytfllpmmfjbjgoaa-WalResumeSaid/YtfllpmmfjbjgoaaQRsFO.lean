import Derived.Test.YtfllpmmfjbjgoaaQRsFCB
import Derived.Test.YtfllpmmfjbjgoaaQRsPAx2
import Derived.Test.YtfllpmmfjbjgoaaQRsPAx3
import Derived.Test.YtfllpmmfjbjgoaaQRsPAx0
namespace Go.Proofs.Ytfllpmmfjbjgoaa.PA
open Go.RowKit Go.Proofs.YtfllpmmfjbjgoaaW.PrintWords Go.Proofs.YtfllpmmfjbjgoaaW.PrintLast Go.Proofs.YtfllpmmfjbjgoaaW.PrintMore Go.Proofs.Ytfllpmmfjbjgoaa Go.Proofs.Ytfllpmmfjbjgoaa.PL
theorem fl_f (s : ByteArray) (e x : Int) : codec_In_Fail.f s e x = some (fl s e x) := by
  unfold codec_In_Fail.f fl
  by_cases h : e = 0
  · by_cases h2 : x = 0
    · rw [if_pos h, if_pos h2, if_pos h, if_pos h2]
    · rw [if_pos h, if_neg h2, if_pos h, if_neg h2]
  · rw [if_neg h, if_neg h]
theorem tk_f (s : ByteArray) (e : Int) (n : Nat) : codec_In_take.f s e (n : Int) = some (tk s e n) := by
  unfold codec_In_take.f tk
  by_cases h : n > s.size
  · rw [if_pos (by omega), if_pos h, fl_f]; rfl
  · rw [if_neg (by omega), if_neg h, if_pos (by omega), if_pos (by omega), Int.toNat_natCast]
theorem tU_f (s : ByteArray) (e : Int) (_hv : Val s e) : codec_In_U.f s e = some (tU s e) := by
  have h1 := tk_f s e 1
  rw [show ((1 : Nat) : Int) = 1 from rfl] at h1
  unfold codec_In_U.f tU
  rw [h1, Option.bind_some]
  by_cases c : (tk s e 1).2.2 ≠ 0
  · rw [if_pos c, if_pos c]
  · rw [if_neg c, if_neg c]
    have hz : (tk s e 1).1.size = 1 := by
      have h3 : ¬ 1 > s.size := by
        intro h3
        have e2 : (tk s e 1).2.2 = (fl s e 1).2 := by unfold tk; rw [if_pos h3]
        rw [e2] at c
        unfold fl at c
        by_cases he : e = 0
        · rw [if_pos he, if_neg (by decide)] at c; exact c (by decide)
        · rw [if_neg he] at c; exact c he
      unfold tk
      rw [if_neg h3]
      show (s.extract 0 1).size = 1
      rw [ba_size, ba_extract, List.length_take, List.length_drop, ← ba_size]; omega
    rw [if_neg (by omega)]
    by_cases c2 : ((tk s e 1).1.data.toList.getD 0 0).toNat > 8
    · rw [if_pos c2, if_pos c2, fl_f]; rfl
    · rw [if_neg c2, if_neg c2, tk_f, Option.bind_some]
      dsimp only
      split
      · rw [fl_f]; rfl
      · rw [if_pos (by
          have h4 := (tk_size (s := (tk s e 1).2.1) (e := (tk s e 1).2.2) (n := ((tk s e 1).1.data.toList.getD 0 0).toNat) (by omega)).2.1
          omega)]
theorem tN_f (s : ByteArray) (e m : Int) (hv : Val s e) : codec_In_N.f s e m = some (tN s e m) := by
  unfold codec_In_N.f tN
  rw [tU_f s e hv, Option.bind_some]
  by_cases c : (tU s e).1 > IntKind.u64.wrap (mx m 0)
  · rw [if_pos c, if_pos c, fl_f]; rfl
  · rw [if_neg c, if_neg c]
theorem tN_nonneg (s : ByteArray) (e m : Int) (hm : m < 9223372036854775808) : 0 ≤ (tN s e m).1 ∧ (tN s e m).1 ≤ mx m 0 := by
  have h := tU_range s e
  have hw : IntKind.u64.wrap (mx m 0) = mx m 0 := by rw [wrap_u64]; unfold mx; split <;> omega
  have hm0 : 0 ≤ mx m 0 ∧ mx m 0 < 9223372036854775808 := by unfold mx; split <;> omega
  unfold tN
  rw [hw]
  split
  · exact ⟨Int.le_refl 0, hm0.1⟩
  · rename_i c
    show 0 ≤ wrap64 (tU s e).1 ∧ wrap64 (tU s e).1 ≤ mx m 0
    have : wrap64 (tU s e).1 = (tU s e).1 := by unfold wrap64; omega
    rw [this]
    exact ⟨h.1, by omega⟩
theorem tS_f (s : ByteArray) (e m : Int) (hv : Val s e) (hm : m < 9223372036854775808) : codec_In_S.f s e m = some (tS s e m) := by
  have h := (tN_nonneg s e m hm).1
  have e1 : (((tN s e m).1.toNat : Nat) : Int) = (tN s e m).1 := by omega
  have h2 := tk_f (tN s e m).2.1 (tN s e m).2.2 (tN s e m).1.toNat
  rw [e1] at h2
  unfold codec_In_S.f tS
  rw [tN_f s e m hv, Option.bind_some, h2]
  rfl
end Go.Proofs.Ytfllpmmfjbjgoaa.PA

namespace Go.Proofs.Ytfllpmmfjbjgoaa.PA
open Go.RowKit Go.Proofs.YtfllpmmfjbjgoaaW.PrintWords Go.Proofs.YtfllpmmfjbjgoaaW.PrintLast Go.Proofs.YtfllpmmfjbjgoaaW.PrintMore Go.Proofs.Ytfllpmmfjbjgoaa
theorem wN2 (s : ByteArray) (a b : Int) (hs : s.size ≤ 1000000) (ha : a < 9223372036854775808) (hb : b < 9223372036854775808) : codec_Out_N.f s [a, b] = some ⟨(s.data.toList ++ numB a.toNat ++ numB b.toNat).toArray⟩ := by
  unfold codec_Out_N.f
  rw [if_pos ⟨by simp only [List.length_cons, List.length_nil]; omega, by intro n hn; simp only [List.mem_cons, List.not_mem_nil, or_false] at hn; rcases hn with rfl | rfl <;> assumption⟩]
  simp
theorem wS1 (s a : ByteArray) (hs : s.size ≤ 1000000) (ha : a.size ≤ 1000000) : codec_Out_S.f s [a] = some ⟨(s.data.toList ++ strB a).toArray⟩ := by
  unfold codec_Out_S.f
  rw [if_pos (by simp only [List.map_cons, List.map_nil, List.sum_cons, List.sum_nil]; omega)]
  simp
end Go.Proofs.Ytfllpmmfjbjgoaa.PA

