import Derived.Test.YtodikgjanhihhaaSUxMOutS
import Derived.Test.YtodikgjanhihhaaSUxMInU
import Derived.Lib.Strings
import Derived.Laws.BitsLemmas
namespace Go.Proofs.Ytodikgjanhihhaa
open Go.RowKit Go.Proofs.YtodikgjanhihhaaW.PrintWords Go.Proofs.YtodikgjanhihhaaW.PrintLast Go.Proofs.YtodikgjanhihhaaW.PrintMore
theorem bytes_ext {s t : ByteArray} (h : s.data.toList = t.data.toList) : s = t := ByteArray.ext (Array.ext' h)
theorem ba_mk (l : List UInt8) : (⟨l.toArray⟩ : ByteArray).data.toList = l := rfl
theorem ba_size (s : ByteArray) : s.size = s.data.toList.length := by rw [Array.length_toList]; rfl
theorem ba_mk_size (l : List UInt8) : (⟨l.toArray⟩ : ByteArray).size = l.length := by rw [ba_size]
theorem ba_toList (s : ByteArray) : s.toList = s.data.toList := ByteArray.toList_eq s
theorem ba_append (s t : ByteArray) : (s ++ t).data.toList = s.data.toList ++ t.data.toList := by simp [ByteArray.data_append]
theorem ba_extract (s : ByteArray) (a b : Nat) : (s.extract a b).data.toList = (s.data.toList.drop a).take (b - a) := Lib.extract_data s a b
theorem ba_mk_append (l m : List UInt8) : (⟨l.toArray⟩ : ByteArray) ++ ⟨m.toArray⟩ = ⟨(l ++ m).toArray⟩ := bytes_ext (by rw [ba_append])
theorem ba_empty_extract (a b : Nat) : (⟨#[]⟩ : ByteArray).extract a b = ⟨#[]⟩ := bytes_ext (by rw [ba_extract]; simp)
theorem i64_mask (j : Nat) (hj : j ≤ 62) (x : Int) : 0 ≤ Go.bits .and .i64 x (((2 ^ j - 1 : Nat) : Int)) ∧ Go.bits .and .i64 x (((2 ^ j - 1 : Nat) : Int)) < 2 ^ j := by
  have hp : (2 : Nat) ^ j ≤ 2 ^ 62 := Nat.pow_le_pow_right (by decide) hj
  have hp1 : 0 < 2 ^ j := Nat.pow_pos (by decide)
  have hc : ((2 ^ j : Nat) : Int) = (2 : Int) ^ j := by simp
  have e : (2 ^ j - 1) % 2 ^ 64 = 2 ^ j - 1 := Nat.mod_eq_of_lt (by omega)
  have hle : (BitVec.ofInt 64 x &&& BitVec.ofInt 64 ((2 ^ j - 1 : Nat) : Int)).toNat ≤ 2 ^ j - 1 := by
    rw [BitVec.ofInt_natCast, BitVec.toNat_and, BitVec.toNat_ofNat, e]
    exact Nat.and_le_right
  simp only [Go.bits]
  show 0 ≤ IntKind.i64.wrap _ ∧ IntKind.i64.wrap _ < _
  rw [IntKind.wrap_i64]
  generalize hq : (BitVec.ofInt 64 x &&& BitVec.ofInt 64 ((2 ^ j - 1 : Nat) : Int)).toNat = q at hle
  have hq2 : (BitVec.ofInt IntKind.i64.bits x &&& BitVec.ofInt IntKind.i64.bits ((2 ^ j - 1 : Nat) : Int)).toNat = q := hq
  rw [hq2, ← hc]
  omega
theorem pow_nlen (n : Nat) : n < 256 ^ nlen n := by
  induction n using nlen.induct with
  | case1 => rw [nlen_zero]; decide
  | case2 n h ih =>
    rw [nlen_pos n h, Nat.pow_succ]
    omega
theorem nlen_pow (n : Nat) (h : n ≠ 0) : 256 ^ (nlen n - 1) ≤ n := by
  induction n using nlen.induct with
  | case1 => exact absurd rfl h
  | case2 n h0 ih =>
    rw [nlen_pos n h, Nat.add_sub_cancel]
    by_cases hz : n / 256 = 0
    · rw [hz, nlen_zero]; simp; omega
    · have h1 := ih hz
      have h2 : 0 < nlen (n / 256) := by rw [nlen_pos _ hz]; omega
      obtain ⟨m, hm⟩ : ∃ m, nlen (n / 256) = m + 1 := ⟨nlen (n / 256) - 1, by omega⟩
      rw [hm] at h1 ⊢
      rw [Nat.add_sub_cancel] at h1
      rw [Nat.pow_succ]
      omega
theorem beN_digs (n : Nat) (hn : n < 18446744073709551616) (m : Nat) : beN (n / 256 ^ m) (digs n m) = n := by
  induction m with
  | zero => simp [beN, digs]
  | succ m ih =>
    have e : (n / 256 ^ (m + 1) * 256 + (dig n m).toNat) % 18446744073709551616 = n / 256 ^ m := by
      have h1 : (dig n m).toNat = n / 256 ^ m % 256 := by rw [dig, UInt8.toNat_ofNat']; omega
      rw [h1, Nat.pow_succ, ← Nat.div_div_eq_div_mul]
      have h2 : n / 256 ^ m ≤ n := Nat.div_le_self _ _
      omega
    rw [digs]
    unfold beN at ih ⊢
    rw [List.foldl_cons, e]
    exact ih
theorem beN_num (n : Nat) (hn : n < 18446744073709551616) : beN 0 (digs n (nlen n)) = n := by
  have h := beN_digs n hn (nlen n)
  rwa [Nat.div_eq_of_lt (pow_nlen n)] at h
theorem digs_head (n : Nat) (h : n ≠ 0) : (digs n (nlen n)).getD 0 0 ≠ 0 := by
  obtain ⟨m, hm⟩ : ∃ m, nlen n = m + 1 := ⟨nlen n - 1, by rw [nlen_pos n h]; omega⟩
  have h1 := nlen_pow n h
  have h2 := pow_nlen n
  rw [hm] at h1 h2 ⊢
  rw [Nat.add_sub_cancel] at h1
  rw [digs]
  show dig n m ≠ 0
  intro h3
  have h4 : (dig n m).toNat = n / 256 ^ m % 256 := by rw [dig, UInt8.toNat_ofNat']; omega
  rw [h3] at h4
  have h5 : n / 256 ^ m < 256 := by rw [Nat.div_lt_iff_lt_mul (Nat.pow_pos (by decide)), Nat.mul_comm, ← Nat.pow_succ]; exact h2
  have h6 : 1 ≤ n / 256 ^ m := by rw [Nat.le_div_iff_mul_le (Nat.pow_pos (by decide))]; omega
  have h7 : (0 : UInt8).toNat = 0 := rfl
  omega
theorem beN_lt (l : List UInt8) : beN 0 l < 18446744073709551616 := by
  suffices h : ∀ n, n < 18446744073709551616 → beN n l < 18446744073709551616 from h 0 (by decide)
  induction l with
  | nil => intro n h; exact h
  | cons c l ih => intro n h; exact ih _ (Nat.mod_lt _ (by decide))
def fl (s : ByteArray) (e x : Int) : ByteArray × Int := if e = 0 then (if x = 0 then (s, e) else (⟨#[]⟩, x)) else (s, e)
def tk (s : ByteArray) (e : Int) (n : Nat) : ByteArray × ByteArray × Int := if n > s.size then (⟨#[]⟩, fl s e 1) else (s.extract 0 n, s.extract n s.size, e)
def tU (s : ByteArray) (e : Int) : Int × ByteArray × Int :=
  if (tk s e 1).2.2 ≠ 0 then (0, (tk s e 1).2)
  else if ((tk s e 1).1.data.toList.getD 0 0).toNat > 8 then (0, fl (tk s e 1).2.1 (tk s e 1).2.2 2)
  else
    let b := tk (tk s e 1).2.1 (tk s e 1).2.2 ((tk s e 1).1.data.toList.getD 0 0).toNat
    if b.1.size ≠ 0 ∧ b.1.data.toList.getD 0 0 = 0 then (0, fl b.2.1 b.2.2 2) else ((beN 0 b.1.data.toList : Nat), b.2)
def tN (s : ByteArray) (e m : Int) : Int × ByteArray × Int := if (tU s e).1 > IntKind.u64.wrap (mx m 0) then (0, fl (tU s e).2.1 (tU s e).2.2 3) else (wrap64 (tU s e).1, (tU s e).2)
def tS (s : ByteArray) (e m : Int) : ByteArray × ByteArray × Int := tk (tN s e m).2.1 (tN s e m).2.2 (tN s e m).1.toNat
def Val (s : ByteArray) (e : Int) : Prop := s.size ≤ 140737488351232 ∧ (e ≠ 0 → s = ⟨#[]⟩)
theorem Val.fl {s : ByteArray} {e : Int} (h : Val s e) (x : Int) : Val (fl s e x).1 (fl s e x).2 := by
  unfold Go.Proofs.Ytodikgjanhihhaa.fl
  split
  · split
    · exact h
    · exact ⟨Nat.zero_le _, fun _ => rfl⟩
  · exact h
theorem Val.tk {s : ByteArray} {e : Int} (h : Val s e) (n : Nat) : Val (tk s e n).2.1 (tk s e n).2.2 := by
  unfold Go.Proofs.Ytodikgjanhihhaa.tk
  split
  · exact h.fl 1
  · refine ⟨?_, fun he => ?_⟩
    · show (s.extract n s.size).size ≤ _
      have := h.1
      rw [ba_size] at this
      rw [ba_size, ba_extract, List.length_take, List.length_drop]; omega
    · show s.extract n s.size = _
      rw [h.2 he, ba_empty_extract]
theorem tk_size {s : ByteArray} {e : Int} {n : Nat} (hn : n < 9223372036854775808) : (tk s e n).1.size ≤ s.size ∧ (tk s e n).1.size ≤ n ∧ (tk s e n).2.1.size ≤ s.size := by
  unfold tk
  split
  · refine ⟨Nat.zero_le _, Nat.zero_le _, ?_⟩
    show (fl s e 1).1.size ≤ _
    unfold fl
    split
    · split
      · exact Nat.le_refl _
      · exact Nat.zero_le _
    · exact Nat.le_refl _
  · refine ⟨?_, ?_, ?_⟩
    · show (s.extract 0 n).size ≤ _
      rw [ba_size, ba_extract, List.length_take, List.length_drop, ba_size]; omega
    · show (s.extract 0 n).size ≤ _
      rw [ba_size, ba_extract, List.length_take, List.length_drop]; omega
    · show (s.extract n s.size).size ≤ _
      rw [ba_size, ba_extract, List.length_take, List.length_drop, ba_size]; omega
theorem Val.tU {s : ByteArray} {e : Int} (h : Val s e) : Val (tU s e).2.1 (tU s e).2.2 := by
  unfold Go.Proofs.Ytodikgjanhihhaa.tU
  split
  · exact h.tk 1
  · split
    · exact (h.tk 1).fl 2
    · dsimp only
      split
      · exact ((h.tk 1).tk _).fl 2
      · exact (h.tk 1).tk _
theorem Val.tN {s : ByteArray} {e : Int} (h : Val s e) (m : Int) : Val (tN s e m).2.1 (tN s e m).2.2 := by
  unfold Go.Proofs.Ytodikgjanhihhaa.tN
  split
  · exact h.tU.fl 3
  · exact h.tU
theorem tU_range (s : ByteArray) (e : Int) : 0 ≤ (tU s e).1 ∧ (tU s e).1 < 18446744073709551616 := by
  unfold tU
  split
  · exact ⟨Int.le_refl 0, (by decide : (0 : Int) < 18446744073709551616)⟩
  · split
    · exact ⟨Int.le_refl 0, (by decide : (0 : Int) < 18446744073709551616)⟩
    · dsimp only
      split
      · exact ⟨Int.le_refl 0, (by decide : (0 : Int) < 18446744073709551616)⟩
      · have := beN_lt (tk (tk s e 1).2.1 (tk s e 1).2.2 ((tk s e 1).1.data.toList.getD 0 0).toNat).1.data.toList
        exact ⟨by omega, by omega⟩
theorem tU_num (n : Nat) (hn : n < 18446744073709551616) (r : List UInt8) : tU ⟨(numB n ++ r).toArray⟩ 0 = ((n : Int), ⟨r.toArray⟩, 0) := by
  have hl8 := nlen_le 8 n (by simpa using hn)
  have e1 : tk ⟨(numB n ++ r).toArray⟩ 0 1 = (⟨#[UInt8.ofNat (nlen n)]⟩, ⟨(digs n (nlen n) ++ r).toArray⟩, 0) := by
    unfold tk
    rw [if_neg (by rw [ba_mk_size, numB]; simp)]
    congr 1
    · exact bytes_ext (by rw [ba_extract, ba_mk, numB]; simp)
    · congr 1
      exact bytes_ext (by rw [ba_extract, ba_mk, ba_mk_size, numB, ba_mk, List.cons_append, List.drop_one, List.tail_cons, List.length_cons, Nat.add_sub_cancel, List.take_length])
  have hb : (UInt8.ofNat (nlen n)).toNat = nlen n := by rw [UInt8.toNat_ofNat']; omega
  have e2 : tk ⟨(digs n (nlen n) ++ r).toArray⟩ 0 (nlen n) = (⟨(digs n (nlen n)).toArray⟩, ⟨r.toArray⟩, 0) := by
    unfold tk
    have hlen := digs_length n (nlen n)
    rw [if_neg (by rw [ba_mk_size, List.length_append, hlen]; omega)]
    congr 1
    · refine bytes_ext ?_
      rw [ba_extract, ba_mk, List.drop_zero, Nat.sub_zero, List.take_append_of_le_length (by omega), List.take_of_length_le (by omega)]
    · congr 1
      refine bytes_ext ?_
      rw [ba_extract, ba_mk, ba_mk, ba_mk_size, List.drop_append_of_le_length (by omega), List.drop_of_length_le (by omega), List.nil_append, List.length_append, List.take_of_length_le (by omega)]
  unfold tU
  rw [e1]
  have e0 : ((#[UInt8.ofNat (nlen n)] : Array UInt8).toList.getD 0 0) = UInt8.ofNat (nlen n) := rfl
  simp only [e0, hb, e2]
  rw [if_neg (by decide), if_neg (by omega), ba_mk_size, digs_length]
  rw [if_neg (by
    intro h
    by_cases hz : n = 0
    · rw [hz, nlen_zero] at h; exact h.1 rfl
    · exact digs_head n hz h.2)]
  rw [beN_num n hn]
theorem tN_num (n : Nat) (m : Int) (hn : (n : Int) ≤ m) (hm : m < 9223372036854775808) (r : List UInt8) : tN ⟨(numB n ++ r).toArray⟩ 0 m = ((n : Int), ⟨r.toArray⟩, 0) := by
  unfold tN
  have hw : IntKind.u64.wrap (mx m 0) = m := by
    rw [wrap_u64]; unfold mx; rw [if_neg (by omega)]; omega
  rw [tU_num n (by omega), hw, if_neg (by show ¬ (n : Int) > m; omega)]
  show (wrap64 (n : Int), _) = _
  rw [show wrap64 (n : Int) = n by unfold wrap64; omega]
theorem tS_str (s : ByteArray) (m : Int) (hn : (s.size : Int) ≤ m) (hm : m < 9223372036854775808) (r : List UInt8) : tS ⟨(strB s ++ r).toArray⟩ 0 m = (s, ⟨r.toArray⟩, 0) := by
  unfold tS strB
  rw [List.append_assoc, tN_num s.size m hn hm]
  show tk ⟨(s.data.toList ++ r).toArray⟩ 0 (s.size : Int).toNat = _
  rw [Int.toNat_natCast]
  unfold tk
  have hz := ba_size s
  rw [if_neg (by rw [ba_mk_size (s.data.toList ++ r), List.length_append]; omega)]
  congr 1
  · refine bytes_ext ?_
    rw [ba_extract, ba_mk (s.data.toList ++ r), List.drop_zero, Nat.sub_zero, List.take_append_of_le_length (by omega), List.take_of_length_le (by omega)]
  · congr 1
    refine bytes_ext ?_
    rw [ba_extract, ba_mk (s.data.toList ++ r), ba_mk r, ba_mk_size (s.data.toList ++ r), List.drop_append_of_le_length (by omega), List.drop_of_length_le (by omega), List.nil_append, List.length_append, List.take_of_length_le (by omega)]
end Go.Proofs.Ytodikgjanhihhaa

