import Derived.Test.YtndekeigagjfiaaDoorQPtMOutText
import Derived.Test.YtndekeigagjfiaaDoorQPtMFold
import Derived.Lib.Strings
import Derived.Laws.BitsLemmas
import Derived.Test.YtndekeigagjfiaaDoorQPtPAx3
import Derived.Test.YtndekeigagjfiaaDoorQPtMOutN
import Derived.Test.YtndekeigagjfiaaDoorQPtPAx5
namespace Go.Proofs.YtndekeigagjfiaaDoor
open Go.RowKit Go.Proofs.YtndekeigagjfiaaDoorW.PrintWords Go.Proofs.YtndekeigagjfiaaDoorW.PrintLast Go.Proofs.YtndekeigagjfiaaDoorW.PrintMore
theorem bytes_ext {s t : ByteArray} (h : s.data.toList = t.data.toList) : s = t := ByteArray.ext (Array.ext' h)
theorem ba_mk (l : List UInt8) : (⟨l.toArray⟩ : ByteArray).data.toList = l := rfl
theorem ba_size (s : ByteArray) : s.size = s.data.toList.length := by rw [Array.length_toList]; rfl
theorem ba_mk_size (l : List UInt8) : (⟨l.toArray⟩ : ByteArray).size = l.length := by rw [ba_size]
theorem ba_toList (s : ByteArray) : s.toList = s.data.toList := ByteArray.toList_eq s
theorem ba_append (s t : ByteArray) : (s ++ t).data.toList = s.data.toList ++ t.data.toList := by simp [ByteArray.data_append]
theorem ba_extract (s : ByteArray) (a b : Nat) : (s.extract a b).data.toList = (s.data.toList.drop a).take (b - a) := Lib.extract_data s a b
theorem ba_mk_append (l m : List UInt8) : (⟨l.toArray⟩ : ByteArray) ++ ⟨m.toArray⟩ = ⟨(l ++ m).toArray⟩ := bytes_ext (by rw [ba_append])
theorem digs_last (n : Nat) (j : Nat) : digs n (j + 1) = digs (n / 256) j ++ [UInt8.ofNat (n % 256)] := by
  induction j with
  | zero => simp [digs, dig]
  | succ j ih =>
    rw [digs, ih, digs]
    rw [List.cons_append]
    congr 1
    unfold dig
    rw [Nat.pow_succ, Nat.mul_comm, ← Nat.div_div_eq_div_mul]
theorem pow_nlen (n : Nat) : n < 256 ^ nlen n := by
  induction n using nlen.induct with
  | case1 => rw [nlen_zero]; decide
  | case2 n h ih =>
    rw [nlen_pos n h, Nat.pow_succ]
    omega
theorem nlen_pow (n : Nat) (h : n ≠ 0) : 256 ^ (nlen n - 1) ≤ n := by
  induction n using nlen.induct with
  | case1 => exact absurd rfl h
  | case2 n h0 ih =>
    rw [nlen_pos n h, Nat.add_sub_cancel]
    by_cases hz : n / 256 = 0
    · rw [hz, nlen_zero]; simp; omega
    · have h1 := ih hz
      have h2 : 0 < nlen (n / 256) := by rw [nlen_pos _ hz]; omega
      obtain ⟨m, hm⟩ : ∃ m, nlen (n / 256) = m + 1 := ⟨nlen (n / 256) - 1, by omega⟩
      rw [hm] at h1 ⊢
      rw [Nat.add_sub_cancel] at h1
      rw [Nat.pow_succ]
      omega
theorem beN_digs (n : Nat) (hn : n < 18446744073709551616) (m : Nat) : beN (n / 256 ^ m) (digs n m) = n := by
  induction m with
  | zero => simp [beN, digs]
  | succ m ih =>
    have e : (n / 256 ^ (m + 1) * 256 + (dig n m).toNat) % 18446744073709551616 = n / 256 ^ m := by
      have h1 : (dig n m).toNat = n / 256 ^ m % 256 := by rw [dig, UInt8.toNat_ofNat']; omega
      rw [h1, Nat.pow_succ, ← Nat.div_div_eq_div_mul]
      have h2 : n / 256 ^ m ≤ n := Nat.div_le_self _ _
      omega
    rw [digs]
    unfold beN at ih ⊢
    rw [List.foldl_cons, e]
    exact ih
theorem beN_num (n : Nat) (hn : n < 18446744073709551616) : beN 0 (digs n (nlen n)) = n := by
  have h := beN_digs n hn (nlen n)
  rwa [Nat.div_eq_of_lt (pow_nlen n)] at h
theorem digs_head (n : Nat) (h : n ≠ 0) : (digs n (nlen n)).getD 0 0 ≠ 0 := by
  obtain ⟨m, hm⟩ : ∃ m, nlen n = m + 1 := ⟨nlen n - 1, by rw [nlen_pos n h]; omega⟩
  have h1 := nlen_pow n h
  have h2 := pow_nlen n
  rw [hm] at h1 h2 ⊢
  rw [Nat.add_sub_cancel] at h1
  rw [digs]
  show dig n m ≠ 0
  intro h3
  have h4 : (dig n m).toNat = n / 256 ^ m % 256 := by rw [dig, UInt8.toNat_ofNat']; omega
  rw [h3] at h4
  have h5 : n / 256 ^ m < 256 := by rw [Nat.div_lt_iff_lt_mul (Nat.pow_pos (by decide)), Nat.mul_comm, ← Nat.pow_succ]; exact h2
  have h6 : 1 ≤ n / 256 ^ m := by rw [Nat.le_div_iff_mul_le (Nat.pow_pos (by decide))]; omega
  have h7 : (0 : UInt8).toNat = 0 := rfl
  omega
theorem beN_lt (l : List UInt8) : beN 0 l < 18446744073709551616 := by
  suffices h : ∀ n, n < 18446744073709551616 → beN n l < 18446744073709551616 from h 0 (by decide)
  induction l with
  | nil => intro n h; exact h
  | cons c l ih => intro n h; exact ih _ (Nat.mod_lt _ (by decide))
def fl (s : ByteArray) (e x : Int) : ByteArray × Int := if e = 0 then (if x = 0 then (s, e) else (⟨#[]⟩, x)) else (s, e)
def tk (s : ByteArray) (e : Int) (n : Nat) : ByteArray × ByteArray × Int := if n > s.size then (⟨#[]⟩, fl s e 1) else (s.extract 0 n, s.extract n s.size, e)
def tU (s : ByteArray) (e : Int) : Int × ByteArray × Int :=
  if (tk s e 1).2.2 ≠ 0 then (0, (tk s e 1).2)
  else if ((tk s e 1).1.data.toList.getD 0 0).toNat > 8 then (0, fl (tk s e 1).2.1 (tk s e 1).2.2 2)
  else
    let b := tk (tk s e 1).2.1 (tk s e 1).2.2 ((tk s e 1).1.data.toList.getD 0 0).toNat
    if b.1.size ≠ 0 ∧ b.1.data.toList.getD 0 0 = 0 then (0, fl b.2.1 b.2.2 2) else ((beN 0 b.1.data.toList : Nat), b.2)
def tN (s : ByteArray) (e m : Int) : Int × ByteArray × Int := if (tU s e).1 > IntKind.u64.wrap (mx m 0) then (0, fl (tU s e).2.1 (tU s e).2.2 3) else (wrap64 (tU s e).1, (tU s e).2)
def tS (s : ByteArray) (e m : Int) : ByteArray × ByteArray × Int := tk (tN s e m).2.1 (tN s e m).2.2 (tN s e m).1.toNat
def uns (n : Int) : Int := if n % 2 = 1 then -(n / 2) - 1 else n / 2
def tI (s : ByteArray) (e : Int) : Int × ByteArray × Int := (uns (tU s e).1, (tU s e).2)
def Val (s : ByteArray) (e : Int) : Prop := s.size ≤ 140737488351232 ∧ (e ≠ 0 → s = ⟨#[]⟩)
theorem tk_size {s : ByteArray} {e : Int} {n : Nat} (hn : n < 9223372036854775808) : (tk s e n).1.size ≤ s.size ∧ (tk s e n).1.size ≤ n ∧ (tk s e n).2.1.size ≤ s.size := by
  unfold tk
  split
  · refine ⟨Nat.zero_le _, Nat.zero_le _, ?_⟩
    show (fl s e 1).1.size ≤ _
    unfold fl
    split
    · split
      · exact Nat.le_refl _
      · exact Nat.zero_le _
    · exact Nat.le_refl _
  · refine ⟨?_, ?_, ?_⟩
    · show (s.extract 0 n).size ≤ _
      rw [ba_size, ba_extract, List.length_take, List.length_drop, ba_size]; omega
    · show (s.extract 0 n).size ≤ _
      rw [ba_size, ba_extract, List.length_take, List.length_drop]; omega
    · show (s.extract n s.size).size ≤ _
      rw [ba_size, ba_extract, List.length_take, List.length_drop, ba_size]; omega
theorem tU_range (s : ByteArray) (e : Int) : 0 ≤ (tU s e).1 ∧ (tU s e).1 < 18446744073709551616 := by
  unfold tU
  split
  · exact ⟨Int.le_refl 0, (by decide : (0 : Int) < 18446744073709551616)⟩
  · split
    · exact ⟨Int.le_refl 0, (by decide : (0 : Int) < 18446744073709551616)⟩
    · dsimp only
      split
      · exact ⟨Int.le_refl 0, (by decide : (0 : Int) < 18446744073709551616)⟩
      · have := beN_lt (tk (tk s e 1).2.1 (tk s e 1).2.2 ((tk s e 1).1.data.toList.getD 0 0).toNat).1.data.toList
        exact ⟨by omega, by omega⟩
theorem tU_num (n : Nat) (hn : n < 18446744073709551616) (r : List UInt8) : tU ⟨(numB n ++ r).toArray⟩ 0 = ((n : Int), ⟨r.toArray⟩, 0) := by
  have hl8 := nlen_le 8 n (by simpa using hn)
  have e1 : tk ⟨(numB n ++ r).toArray⟩ 0 1 = (⟨#[UInt8.ofNat (nlen n)]⟩, ⟨(digs n (nlen n) ++ r).toArray⟩, 0) := by
    unfold tk
    rw [if_neg (by rw [ba_mk_size, numB]; simp)]
    congr 1
    · exact bytes_ext (by rw [ba_extract, ba_mk, numB]; simp)
    · congr 1
      exact bytes_ext (by rw [ba_extract, ba_mk, ba_mk_size, numB, ba_mk, List.cons_append, List.drop_one, List.tail_cons, List.length_cons, Nat.add_sub_cancel, List.take_length])
  have hb : (UInt8.ofNat (nlen n)).toNat = nlen n := by rw [UInt8.toNat_ofNat']; omega
  have e2 : tk ⟨(digs n (nlen n) ++ r).toArray⟩ 0 (nlen n) = (⟨(digs n (nlen n)).toArray⟩, ⟨r.toArray⟩, 0) := by
    unfold tk
    have hlen := digs_length n (nlen n)
    rw [if_neg (by rw [ba_mk_size, List.length_append, hlen]; omega)]
    congr 1
    · refine bytes_ext ?_
      rw [ba_extract, ba_mk, List.drop_zero, Nat.sub_zero, List.take_append_of_le_length (by omega), List.take_of_length_le (by omega)]
    · congr 1
      refine bytes_ext ?_
      rw [ba_extract, ba_mk, ba_mk, ba_mk_size, List.drop_append_of_le_length (by omega), List.drop_of_length_le (by omega), List.nil_append, List.length_append, List.take_of_length_le (by omega)]
  unfold tU
  rw [e1]
  have e0 : ((#[UInt8.ofNat (nlen n)] : Array UInt8).toList.getD 0 0) = UInt8.ofNat (nlen n) := rfl
  simp only [e0, hb, e2]
  rw [if_neg (by decide), if_neg (by omega), ba_mk_size, digs_length]
  rw [if_neg (by
    intro h
    by_cases hz : n = 0
    · rw [hz, nlen_zero] at h; exact h.1 rfl
    · exact digs_head n hz h.2)]
  rw [beN_num n hn]
theorem tN_num (n : Nat) (m : Int) (hn : (n : Int) ≤ m) (hm : m < 9223372036854775808) (r : List UInt8) : tN ⟨(numB n ++ r).toArray⟩ 0 m = ((n : Int), ⟨r.toArray⟩, 0) := by
  unfold tN
  have hw : IntKind.u64.wrap (mx m 0) = m := by
    rw [wrap_u64]; unfold mx; rw [if_neg (by omega)]; omega
  rw [tU_num n (by omega), hw, if_neg (by show ¬ (n : Int) > m; omega)]
  show (wrap64 (n : Int), _) = _
  rw [show wrap64 (n : Int) = n by unfold wrap64; omega]
theorem tS_str (s : ByteArray) (m : Int) (hn : (s.size : Int) ≤ m) (hm : m < 9223372036854775808) (r : List UInt8) : tS ⟨(strB s ++ r).toArray⟩ 0 m = (s, ⟨r.toArray⟩, 0) := by
  unfold tS strB
  rw [List.append_assoc, tN_num s.size m hn hm]
  show tk ⟨(s.data.toList ++ r).toArray⟩ 0 (s.size : Int).toNat = _
  rw [Int.toNat_natCast]
  unfold tk
  have hz := ba_size s
  rw [if_neg (by rw [ba_mk_size (s.data.toList ++ r), List.length_append]; omega)]
  congr 1
  · refine bytes_ext ?_
    rw [ba_extract, ba_mk (s.data.toList ++ r), List.drop_zero, Nat.sub_zero, List.take_append_of_le_length (by omega), List.take_of_length_le (by omega)]
  · congr 1
    refine bytes_ext ?_
    rw [ba_extract, ba_mk (s.data.toList ++ r), ba_mk r, ba_mk_size (s.data.toList ++ r), List.drop_append_of_le_length (by omega), List.drop_of_length_le (by omega), List.nil_append, List.length_append, List.take_of_length_le (by omega)]
end Go.Proofs.YtndekeigagjfiaaDoor

namespace Go.Proofs.YtndekeigagjfiaaDoor.PA
set_option linter.unusedSimpArgs false
open Go.RowKit Go.Proofs.YtndekeigagjfiaaDoorW.PrintWords Go.Proofs.YtndekeigagjfiaaDoorW.PrintLast Go.Proofs.YtndekeigagjfiaaDoorW.PrintMore Go.Proofs.YtndekeigagjfiaaDoor
theorem cut_f (s : ByteArray) (n : Nat) : armoirelaw01_Cut.f s (n : Int) = some (s.extract 0 (min n s.size)) := by
  unfold armoirelaw01_Cut.f
  by_cases h : (s.size : Int) > n
  · rw [if_pos h, if_pos (by omega), if_pos (by omega), show min n s.size = n by omega]
    rfl
  · rw [if_neg h, show min n s.size = s.size by omega]
    simp
theorem cut_size (s : ByteArray) (n : Nat) : (s.extract 0 (min n s.size)).size ≤ n := by
  rw [ba_size, ba_extract, List.length_take]; omega
end Go.Proofs.YtndekeigagjfiaaDoor.PA

namespace Go.Proofs.YtndekeigagjfiaaDoor.PA
open Go.RowKit Go.Proofs.YtndekeigagjfiaaDoorW.PrintWords Go.Proofs.YtndekeigagjfiaaDoorW.PrintLast Go.Proofs.YtndekeigagjfiaaDoorW.PrintMore Go.Proofs.YtndekeigagjfiaaDoor Go.Proofs.YtndekeigagjfiaaDoor.PL
theorem fl_f (s : ByteArray) (e x : Int) : codec_In_Fail.f s e x = some (fl s e x) := by
  unfold codec_In_Fail.f fl
  by_cases h : e = 0
  · by_cases h2 : x = 0
    · rw [if_pos h, if_pos h2, if_pos h, if_pos h2]
    · rw [if_pos h, if_neg h2, if_pos h, if_neg h2]
  · rw [if_neg h, if_neg h]
theorem tk_f (s : ByteArray) (e : Int) (n : Nat) : codec_In_take.f s e (n : Int) = some (tk s e n) := by
  unfold codec_In_take.f tk
  by_cases h : n > s.size
  · rw [if_pos (by omega), if_pos h, fl_f]; rfl
  · rw [if_neg (by omega), if_neg h, if_pos (by omega), if_pos (by omega), Int.toNat_natCast]
theorem tU_f (s : ByteArray) (e : Int) (_hv : Val s e) : codec_In_U.f s e = some (tU s e) := by
  have h1 := tk_f s e 1
  rw [show ((1 : Nat) : Int) = 1 from rfl] at h1
  unfold codec_In_U.f tU
  rw [h1, Option.bind_some]
  by_cases c : (tk s e 1).2.2 ≠ 0
  · rw [if_pos c, if_pos c]
  · rw [if_neg c, if_neg c]
    have hz : (tk s e 1).1.size = 1 := by
      have h3 : ¬ 1 > s.size := by
        intro h3
        have e2 : (tk s e 1).2.2 = (fl s e 1).2 := by unfold tk; rw [if_pos h3]
        rw [e2] at c
        unfold fl at c
        by_cases he : e = 0
        · rw [if_pos he, if_neg (by decide)] at c; exact c (by decide)
        · rw [if_neg he] at c; exact c he
      unfold tk
      rw [if_neg h3]
      show (s.extract 0 1).size = 1
      rw [ba_size, ba_extract, List.length_take, List.length_drop, ← ba_size]; omega
    rw [if_neg (by omega)]
    by_cases c2 : ((tk s e 1).1.data.toList.getD 0 0).toNat > 8
    · rw [if_pos c2, if_pos c2, fl_f]; rfl
    · rw [if_neg c2, if_neg c2, tk_f, Option.bind_some]
      dsimp only
      split
      · rw [fl_f]; rfl
      · rw [if_pos (by
          have h4 := (tk_size (s := (tk s e 1).2.1) (e := (tk s e 1).2.2) (n := ((tk s e 1).1.data.toList.getD 0 0).toNat) (by omega)).2.1
          omega)]
theorem tN_f (s : ByteArray) (e m : Int) (hv : Val s e) : codec_In_N.f s e m = some (tN s e m) := by
  unfold codec_In_N.f tN
  rw [tU_f s e hv, Option.bind_some]
  by_cases c : (tU s e).1 > IntKind.u64.wrap (mx m 0)
  · rw [if_pos c, if_pos c, fl_f]; rfl
  · rw [if_neg c, if_neg c]
theorem tN_nonneg (s : ByteArray) (e m : Int) (hm : m < 9223372036854775808) : 0 ≤ (tN s e m).1 ∧ (tN s e m).1 ≤ mx m 0 := by
  have h := tU_range s e
  have hw : IntKind.u64.wrap (mx m 0) = mx m 0 := by rw [wrap_u64]; unfold mx; split <;> omega
  have hm0 : 0 ≤ mx m 0 ∧ mx m 0 < 9223372036854775808 := by unfold mx; split <;> omega
  unfold tN
  rw [hw]
  split
  · exact ⟨Int.le_refl 0, hm0.1⟩
  · rename_i c
    show 0 ≤ wrap64 (tU s e).1 ∧ wrap64 (tU s e).1 ≤ mx m 0
    have : wrap64 (tU s e).1 = (tU s e).1 := by unfold wrap64; omega
    rw [this]
    exact ⟨h.1, by omega⟩
theorem tS_f (s : ByteArray) (e m : Int) (hv : Val s e) (hm : m < 9223372036854775808) : codec_In_S.f s e m = some (tS s e m) := by
  have h := (tN_nonneg s e m hm).1
  have e1 : (((tN s e m).1.toNat : Nat) : Int) = (tN s e m).1 := by omega
  have h2 := tk_f (tN s e m).2.1 (tN s e m).2.2 (tN s e m).1.toNat
  rw [e1] at h2
  unfold codec_In_S.f tS
  rw [tN_f s e m hv, Option.bind_some, h2]
  rfl
end Go.Proofs.YtndekeigagjfiaaDoor.PA

namespace Go.Proofs.YtndekeigagjfiaaDoor
open Go.RowKit Go.Proofs.YtndekeigagjfiaaDoorW.PrintWords Go.Proofs.YtndekeigagjfiaaDoorW.PrintLast Go.Proofs.YtndekeigagjfiaaDoorW.PrintMore
theorem zig_lt (n : Int) (h0 : -9223372036854775808 ≤ n) (h1 : n < 9223372036854775808) : zig n < 18446744073709551616 := by unfold zig; split <;> omega
theorem uns_zig (n : Int) : uns (zig n : Nat) = n := by unfold uns zig; split <;> split <;> omega
theorem tI_num (n : Int) (h0 : -9223372036854775808 ≤ n) (h1 : n < 9223372036854775808) (r : List UInt8) : tI ⟨(numB (zig n) ++ r).toArray⟩ 0 = (n, ⟨r.toArray⟩, 0) := by
  unfold tI
  rw [tU_num _ (zig_lt n h0 h1)]
  show (uns (zig n : Nat), _) = _
  rw [uns_zig]
end Go.Proofs.YtndekeigagjfiaaDoor

namespace Go.Proofs.YtndekeigagjfiaaDoor.PA
open Go.RowKit Go.Proofs.YtndekeigagjfiaaDoorW.PrintWords Go.Proofs.YtndekeigagjfiaaDoorW.PrintLast Go.Proofs.YtndekeigagjfiaaDoorW.PrintMore Go.Proofs.YtndekeigagjfiaaDoor Go.Proofs.YtndekeigagjfiaaDoor.PL
theorem u64_and_1 (n : Int) (h0 : 0 ≤ n) (h1 : n < 18446744073709551616) : Go.bits .and .u64 n 1 = n % 2 := by
  have h := (bits_nat .u64 64 (by decide) (fun n h0 h1 => by rw [wrap_u64]; omega) n.toNat 1 (by omega) (by decide)).1
  rw [Nat.and_one_is_mod, show ((n.toNat : Nat) : Int) = n by omega] at h
  refine h.trans ?_
  omega
theorem uns_wrap (n : Int) (h0 : 0 ≤ n) (h1 : n < 18446744073709551616) : wrap64 ((wrap64 (-(wrap64 (n / 2)))) - 1) = -(n / 2) - 1 ∧ wrap64 (n / 2) = n / 2 ∧ wrap64 ((wrap64 (-(n / 2))) - 1) = -(n / 2) - 1 := by
  unfold wrap64; omega
theorem tI_f (s : ByteArray) (e : Int) (hv : Val s e) : codec_In_I.f s e = some (tI s e) := by
  have h := tU_range s e
  have h2 := uns_wrap _ h.1 h.2
  unfold codec_In_I.f tI uns
  rw [tU_f s e hv, Option.bind_some, u64_and_1 _ h.1 h.2, h2.1, h2.2.1]
  by_cases c : (tU s e).1 % 2 = 1
  · rw [if_pos c, if_pos c]
  · rw [if_neg c, if_neg c]
end Go.Proofs.YtndekeigagjfiaaDoor.PA

namespace Go.Proofs.YtndekeigagjfiaaDoor.PA
open Go.RowKit Go.Proofs.YtndekeigagjfiaaDoorW.PrintWords Go.Proofs.YtndekeigagjfiaaDoorW.PrintLast Go.Proofs.YtndekeigagjfiaaDoorW.PrintMore Go.Proofs.YtndekeigagjfiaaDoor
theorem one_byte (n : Nat) (_h : n < 256) : strOfNums [(n : Int)] = ⟨#[UInt8.ofNat n]⟩ := by
  refine bytes_ext ?_
  rw [strOfNums_data]
  simp
theorem rw_l0 (d : Nat) : ∀ (i m : Nat) (t : List UInt8), i + d = 8 → nlen m ≤ d → t.length = i → m < 18446744073709551616 →
    Ev (fun k => armoireref02_U.l0 k (m : Int) ⟨t.toArray⟩ (i : Int)) ⟨(UInt8.ofNat (nlen m + i) :: (digs m (nlen m) ++ t)).toArray⟩ := by
  induction d with
  | zero =>
    intro i m t hi hm ht hlt
    obtain rfl : i = 8 := by omega
    obtain rfl : m = 0 := by
      by_cases h : m = 0
      · exact h
      · rw [nlen_pos m h] at hm; omega
    refine Ev.step (f := fun _ => some ⟨(UInt8.ofNat (nlen 0 + 8) :: (digs 0 (nlen 0) ++ t)).toArray⟩) (fun k => ?_) (Ev.now _)
    have e1 : (((⟨t.toArray⟩ : ByteArray).size : Int)) % 256 = ((8 : Nat) : Int) := by rw [ba_mk_size, ht]; rfl
    have hs : (strOfNums [((8 : Nat) : Int)]).size = 1 := by rw [one_byte 8 (by decide)]; rfl
    simp only [armoireref02_U.l0]
    rw [if_neg (by omega)]
    simp only [Option.bind_some, e1]
    rw [if_pos (by rw [hs, ba_mk_size]; omega), one_byte 8 (by decide), nlen_zero]
    rfl
  | succ d ih =>
    intro i m t hi hm ht hlt
    have hi8 : (i : Int) < 8 := by omega
    by_cases h : m = 0
    · subst h
      refine Ev.step (f := fun _ => some ⟨(UInt8.ofNat (nlen 0 + i) :: (digs 0 (nlen 0) ++ t)).toArray⟩) (fun k => ?_) (Ev.now _)
      have e1 : (((⟨t.toArray⟩ : ByteArray).size : Int)) % 256 = (i : Int) := by rw [ba_mk_size, ht]; omega
      have hs : (strOfNums [(i : Int)]).size = 1 := by rw [one_byte i (by omega)]; rfl
      simp only [armoireref02_U.l0]
      rw [if_pos hi8, if_neg (by omega)]
      simp only [Option.bind_some, e1]
      rw [if_pos (by rw [hs, ba_mk_size]; omega), one_byte i (by omega), nlen_zero, Nat.zero_add]
      rfl
    · have hp := nlen_pos m h
      have hs : (strOfNums [((m % 256 : Nat) : Int)]).size = 1 := by rw [one_byte _ (Nat.mod_lt _ (by decide))]; rfl
      have htz : (⟨t.toArray⟩ : ByteArray).size = i := (ba_mk_size t).trans ht
      have hm0 : (m : Int) > 0 := by omega
      have hl : nlen m + i = nlen (m / 256) + (i + 1) := by omega
      have hi9 : 1 + i ≤ 9223372036854775807 := by omega
      have hsz : (strOfNums [((m % 256 : Nat) : Int)]).size + (⟨t.toArray⟩ : ByteArray).size ≤ 9223372036854775807 := by rw [hs, htz]; exact hi9
      have h1 := ih (i + 1) (m / 256) (UInt8.ofNat (m % 256) :: t) (by omega) (by omega) (by simp [ht]) (by omega)
      have e1 : Int.tmod (m : Int) 256 % 256 = ((m % 256 : Nat) : Int) := by rw [Int.tmod_eq_emod_of_nonneg (by omega)]; omega
      have e2 : IntKind.u64.wrap (Int.tdiv (m : Int) 256) = ((m / 256 : Nat) : Int) := by rw [Int.tdiv_eq_ediv_of_nonneg (by omega), wrap_u64]; omega
      have e3 : wrap64 ((i : Int) + 1) = ((i + 1 : Nat) : Int) := by unfold wrap64; omega
      have e4 : (⟨#[UInt8.ofNat (m % 256)]⟩ : ByteArray) ++ ⟨t.toArray⟩ = ⟨(UInt8.ofNat (m % 256) :: t).toArray⟩ := by
        refine bytes_ext ?_
        rw [ba_append]
        rfl
      have hd : digs m (nlen m) ++ t = digs (m / 256) (nlen (m / 256)) ++ (UInt8.ofNat (m % 256) :: t) := by
        rw [hp, digs_last, List.append_assoc]; rfl
      rw [hd, hl]
      refine Ev.step (fun k => ?_) h1
      simp only [armoireref02_U.l0]
      rw [if_pos hi8, if_pos hm0]
      simp only [Option.bind_some, e1, e2, e3]
      rw [if_pos hsz, one_byte _ (Nat.mod_lt _ (by decide)), e4]
theorem rw_f (n : Nat) (hn : n < 18446744073709551616) : Ev (fun k => armoireref02_U.f k (n : Int)) ⟨(numB n).toArray⟩ := by
  have h := rw_l0 8 0 n [] rfl (nlen_le 8 n (by simpa using hn)) rfl hn
  rw [List.append_nil, Nat.add_zero] at h
  exact h
theorem rwN_f (a : Int) (ha : a < 9223372036854775808) : Ev (fun k => armoireref02_N.f k a) ⟨(numB a.toNat).toArray⟩ := by
  have e : IntKind.u64.wrap (mx a 0) = (a.toNat : Int) := by rw [wrap_u64]; unfold mx; split <;> omega
  unfold armoireref02_N.f
  rw [e]
  exact Ev.bind (f := fun _ t => some t) (rw_f a.toNat (by omega)) (Ev.now _)
theorem rwS_f (s : ByteArray) (hs : s.size ≤ 140737488351232) : Ev (fun k => armoireref02_S.f k s) ⟨(strB s).toArray⟩ := by
  have hl := numB_length s.size (by omega)
  have e : (⟨(numB s.size).toArray⟩ : ByteArray) ++ s = ⟨(strB s).toArray⟩ := bytes_ext (by rw [ba_append]; rfl)
  have hz : (⟨(numB s.size).toArray⟩ : ByteArray).size + s.size ≤ 9223372036854775807 := by rw [ba_mk_size]; omega
  unfold armoireref02_S.f
  refine Ev.bind (rw_f s.size (by omega)) ?_
  simp only [if_pos hz, e]
  exact Ev.now _
theorem strB_length (s : ByteArray) (hs : s.size ≤ 140737488351232) : (strB s).length ≤ s.size + 9 := by
  have hl := numB_length s.size (by omega)
  unfold strB
  rw [List.length_append, ← ba_size]; omega
theorem wN1 (s : ByteArray) (a : Int) (hs : s.size ≤ 1000000) (ha : a < 9223372036854775808) : codec_Out_N.f s [a] = some ⟨(s.data.toList ++ numB a.toNat).toArray⟩ := by
  unfold codec_Out_N.f
  rw [if_pos ⟨by simp only [List.length_cons, List.length_nil]; omega, by intro n hn; rw [List.mem_singleton.1 hn]; exact ha⟩]
  simp
theorem wS2 (s a b : ByteArray) (hs : s.size ≤ 1000000) (ha : a.size ≤ 1000000) (hb : b.size ≤ 1000000) : codec_Out_S.f s [a, b] = some ⟨(s.data.toList ++ strB a ++ strB b).toArray⟩ := by
  unfold codec_Out_S.f
  rw [if_pos (by simp only [List.map_cons, List.map_nil, List.sum_cons, List.sum_nil]; omega)]
  simp
end Go.Proofs.YtndekeigagjfiaaDoor.PA

namespace Go.Proofs.YtndekeigagjfiaaDoor.PA
open Go.RowKit Go.Proofs.YtndekeigagjfiaaDoorW.PrintWords Go.Proofs.YtndekeigagjfiaaDoorW.PrintLast Go.Proofs.YtndekeigagjfiaaDoorW.PrintMore Go.Proofs.YtndekeigagjfiaaDoor
theorem rwI_f (a : Int) (h0 : -9223372036854775808 ≤ a) (h1 : a < 9223372036854775808) : Ev (fun k => armoireref02_I.f k a) ⟨(numB (zig a)).toArray⟩ := by
  have hz := zig_lt a h0 h1
  unfold armoireref02_I.f
  by_cases c : a ≥ 0
  · have e : IntKind.u64.wrap (2 * (IntKind.u64.wrap (a))) = (zig a : Int) := by unfold zig; simp only [wrap_u64]; rw [if_neg (by omega)]; omega
    simp only [if_pos c, e]
    exact Ev.bind (f := fun _ t => some t) (rw_f _ hz) (Ev.now _)
  · have e : IntKind.u64.wrap ((IntKind.u64.wrap (2 * (IntKind.u64.wrap (wrap64 (-(wrap64 (a + 1))))))) + 1) = (zig a : Int) := by
      have e1 : wrap64 (a + 1) = a + 1 := by unfold wrap64; omega
      have e2 : wrap64 (-(a + 1)) = -(a + 1) := by unfold wrap64; omega
      rw [e1, e2]
      unfold zig; simp only [wrap_u64]; rw [if_pos (by omega)]; omega
    simp only [if_neg c, e]
    exact Ev.bind (f := fun _ t => some t) (rw_f _ hz) (Ev.now _)
end Go.Proofs.YtndekeigagjfiaaDoor.PA

