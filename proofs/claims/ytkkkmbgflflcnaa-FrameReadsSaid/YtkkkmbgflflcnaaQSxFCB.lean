import Derived.Test.YtkkkmbgflflcnaaQSxMOutText
import Derived.Test.YtkkkmbgflflcnaaQSxMFold
import Derived.Lib.Strings
import Derived.Laws.BitsLemmas
import Derived.Test.YtkkkmbgflflcnaaQSxMOutN
import Derived.Test.YtkkkmbgflflcnaaQSxPSx6
import Derived.Test.YtkkkmbgflflcnaaQSxPSx8
namespace Go.Proofs.Ytkkkmbgflflcnaa
open Go.RowKit Go.Proofs.YtkkkmbgflflcnaaW.PrintWords Go.Proofs.YtkkkmbgflflcnaaW.PrintLast Go.Proofs.YtkkkmbgflflcnaaW.PrintMore
theorem bytes_ext {s t : ByteArray} (h : s.data.toList = t.data.toList) : s = t := ByteArray.ext (Array.ext' h)
theorem ba_mk (l : List UInt8) : (⟨l.toArray⟩ : ByteArray).data.toList = l := rfl
theorem ba_size (s : ByteArray) : s.size = s.data.toList.length := by rw [Array.length_toList]; rfl
theorem ba_mk_size (l : List UInt8) : (⟨l.toArray⟩ : ByteArray).size = l.length := by rw [ba_size]
theorem ba_toList (s : ByteArray) : s.toList = s.data.toList := ByteArray.toList_eq s
theorem ba_append (s t : ByteArray) : (s ++ t).data.toList = s.data.toList ++ t.data.toList := by simp [ByteArray.data_append]
theorem ba_extract (s : ByteArray) (a b : Nat) : (s.extract a b).data.toList = (s.data.toList.drop a).take (b - a) := Lib.extract_data s a b
theorem ba_empty_extract (a b : Nat) : (⟨#[]⟩ : ByteArray).extract a b = ⟨#[]⟩ := bytes_ext (by rw [ba_extract]; simp)
theorem digs_last (n : Nat) (j : Nat) : digs n (j + 1) = digs (n / 256) j ++ [UInt8.ofNat (n % 256)] := by
  induction j with
  | zero => simp [digs, dig]
  | succ j ih =>
    rw [digs, ih, digs]
    rw [List.cons_append]
    congr 1
    unfold dig
    rw [Nat.pow_succ, Nat.mul_comm, ← Nat.div_div_eq_div_mul]
theorem pow_nlen (n : Nat) : n < 256 ^ nlen n := by
  induction n using nlen.induct with
  | case1 => rw [nlen_zero]; decide
  | case2 n h ih =>
    rw [nlen_pos n h, Nat.pow_succ]
    omega
theorem nlen_pow (n : Nat) (h : n ≠ 0) : 256 ^ (nlen n - 1) ≤ n := by
  induction n using nlen.induct with
  | case1 => exact absurd rfl h
  | case2 n h0 ih =>
    rw [nlen_pos n h, Nat.add_sub_cancel]
    by_cases hz : n / 256 = 0
    · rw [hz, nlen_zero]; simp; omega
    · have h1 := ih hz
      have h2 : 0 < nlen (n / 256) := by rw [nlen_pos _ hz]; omega
      obtain ⟨m, hm⟩ : ∃ m, nlen (n / 256) = m + 1 := ⟨nlen (n / 256) - 1, by omega⟩
      rw [hm] at h1 ⊢
      rw [Nat.add_sub_cancel] at h1
      rw [Nat.pow_succ]
      omega
theorem beN_digs (n : Nat) (hn : n < 18446744073709551616) (m : Nat) : beN (n / 256 ^ m) (digs n m) = n := by
  induction m with
  | zero => simp [beN, digs]
  | succ m ih =>
    have e : (n / 256 ^ (m + 1) * 256 + (dig n m).toNat) % 18446744073709551616 = n / 256 ^ m := by
      have h1 : (dig n m).toNat = n / 256 ^ m % 256 := by rw [dig, UInt8.toNat_ofNat']; omega
      rw [h1, Nat.pow_succ, ← Nat.div_div_eq_div_mul]
      have h2 : n / 256 ^ m ≤ n := Nat.div_le_self _ _
      omega
    rw [digs]
    unfold beN at ih ⊢
    rw [List.foldl_cons, e]
    exact ih
theorem beN_num (n : Nat) (hn : n < 18446744073709551616) : beN 0 (digs n (nlen n)) = n := by
  have h := beN_digs n hn (nlen n)
  rwa [Nat.div_eq_of_lt (pow_nlen n)] at h
theorem digs_head (n : Nat) (h : n ≠ 0) : (digs n (nlen n)).getD 0 0 ≠ 0 := by
  obtain ⟨m, hm⟩ : ∃ m, nlen n = m + 1 := ⟨nlen n - 1, by rw [nlen_pos n h]; omega⟩
  have h1 := nlen_pow n h
  have h2 := pow_nlen n
  rw [hm] at h1 h2 ⊢
  rw [Nat.add_sub_cancel] at h1
  rw [digs]
  show dig n m ≠ 0
  intro h3
  have h4 : (dig n m).toNat = n / 256 ^ m % 256 := by rw [dig, UInt8.toNat_ofNat']; omega
  rw [h3] at h4
  have h5 : n / 256 ^ m < 256 := by rw [Nat.div_lt_iff_lt_mul (Nat.pow_pos (by decide)), Nat.mul_comm, ← Nat.pow_succ]; exact h2
  have h6 : 1 ≤ n / 256 ^ m := by rw [Nat.le_div_iff_mul_le (Nat.pow_pos (by decide))]; omega
  have h7 : (0 : UInt8).toNat = 0 := rfl
  omega
theorem beN_lt (l : List UInt8) : beN 0 l < 18446744073709551616 := by
  suffices h : ∀ n, n < 18446744073709551616 → beN n l < 18446744073709551616 from h 0 (by decide)
  induction l with
  | nil => intro n h; exact h
  | cons c l ih => intro n h; exact ih _ (Nat.mod_lt _ (by decide))
theorem beN_snoc (l : List UInt8) (c : UInt8) : beN 0 (l ++ [c]) = (beN 0 l * 256 + c.toNat) % 18446744073709551616 := by
  unfold beN; rw [List.foldl_append]; rfl
theorem beN_small (l : List UInt8) (k : Nat) (h : l.length = k) (hk : k ≤ 8) : beN 0 l < 256 ^ k := by
  induction k generalizing l with
  | zero => obtain rfl := List.eq_nil_of_length_eq_zero h; decide
  | succ k ih =>
    obtain ⟨l', c, rfl⟩ : ∃ l' c, l = l' ++ [c] := ⟨l.dropLast, l.getLast (by intro e; rw [e] at h; simp at h), (List.dropLast_concat_getLast _).symm⟩
    have hl : l'.length = k := by simpa using h
    have h1 := ih l' hl (by omega)
    rw [beN_snoc, Nat.pow_succ]
    have := UInt8.toNat_lt c
    exact Nat.lt_of_le_of_lt (Nat.mod_le _ _) (by omega)
theorem digs_beN (l : List UInt8) (k : Nat) (h : l.length = k) (hk : k ≤ 8) : digs (beN 0 l) k = l := by
  induction k generalizing l with
  | zero => obtain rfl := List.eq_nil_of_length_eq_zero h; rfl
  | succ k ih =>
    obtain ⟨l', c, rfl⟩ : ∃ l' c, l = l' ++ [c] := ⟨l.dropLast, l.getLast (by intro e; rw [e] at h; simp at h), (List.dropLast_concat_getLast _).symm⟩
    have hl : l'.length = k := by simpa using h
    have h1 := beN_small l' k hl (by omega)
    have h2 : 256 ^ k ≤ 256 ^ 7 := Nat.pow_le_pow_right (by decide) (by omega)
    have hc := UInt8.toNat_lt c
    rw [beN_snoc, Nat.mod_eq_of_lt (by have : (256 : Nat) ^ 7 = 72057594037927936 := by decide
                                       omega), digs_last]
    rw [show (beN 0 l' * 256 + c.toNat) / 256 = beN 0 l' by omega, show (beN 0 l' * 256 + c.toNat) % 256 = c.toNat by omega, ih l' hl (by omega)]
    simp
theorem nlen_beN (l : List UInt8) (h : l.length ≤ 8) (h0 : l = [] ∨ l.getD 0 0 ≠ 0) : nlen (beN 0 l) = l.length := by
  rcases h0 with rfl | h0
  · exact nlen_zero
  · have hle : nlen (beN 0 l) ≤ l.length := nlen_le _ _ (beN_small l _ rfl h)
    have hd := digs_beN l _ rfl h
    by_cases he : nlen (beN 0 l) = l.length
    · exact he
    · exfalso
      obtain ⟨m, hm⟩ : ∃ m, l.length = m + 1 := ⟨l.length - 1, by omega⟩
      rw [hm, digs] at hd
      have hlt : beN 0 l < 256 ^ m := Nat.lt_of_lt_of_le (pow_nlen _) (Nat.pow_le_pow_right (by decide) (by omega))
      have : dig (beN 0 l) m = 0 := by
        unfold dig
        rw [Nat.div_eq_of_lt hlt]; rfl
      rw [← hd] at h0
      exact h0 this
theorem numB_beN (l : List UInt8) (h : l.length ≤ 8) (h0 : l = [] ∨ l.getD 0 0 ≠ 0) : numB (beN 0 l) = UInt8.ofNat l.length :: l := by
  unfold numB
  rw [nlen_beN l h h0, digs_beN l _ rfl h]
def fl (s : ByteArray) (e x : Int) : ByteArray × Int := if e = 0 then (if x = 0 then (s, e) else (⟨#[]⟩, x)) else (s, e)
def tk (s : ByteArray) (e : Int) (n : Nat) : ByteArray × ByteArray × Int := if n > s.size then (⟨#[]⟩, fl s e 1) else (s.extract 0 n, s.extract n s.size, e)
def tU (s : ByteArray) (e : Int) : Int × ByteArray × Int :=
  if (tk s e 1).2.2 ≠ 0 then (0, (tk s e 1).2)
  else if ((tk s e 1).1.data.toList.getD 0 0).toNat > 8 then (0, fl (tk s e 1).2.1 (tk s e 1).2.2 2)
  else
    let b := tk (tk s e 1).2.1 (tk s e 1).2.2 ((tk s e 1).1.data.toList.getD 0 0).toNat
    if b.1.size ≠ 0 ∧ b.1.data.toList.getD 0 0 = 0 then (0, fl b.2.1 b.2.2 2) else ((beN 0 b.1.data.toList : Nat), b.2)
def tN (s : ByteArray) (e m : Int) : Int × ByteArray × Int := if (tU s e).1 > IntKind.u64.wrap (mx m 0) then (0, fl (tU s e).2.1 (tU s e).2.2 3) else (wrap64 (tU s e).1, (tU s e).2)
def tS (s : ByteArray) (e m : Int) : ByteArray × ByteArray × Int := tk (tN s e m).2.1 (tN s e m).2.2 (tN s e m).1.toNat
def uns (n : Int) : Int := if n % 2 = 1 then -(n / 2) - 1 else n / 2
def tI (s : ByteArray) (e : Int) : Int × ByteArray × Int := (uns (tU s e).1, (tU s e).2)
def Val (s : ByteArray) (e : Int) : Prop := s.size ≤ 140737488351232 ∧ (e ≠ 0 → s = ⟨#[]⟩)
theorem Val.fl {s : ByteArray} {e : Int} (h : Val s e) (x : Int) : Val (fl s e x).1 (fl s e x).2 := by
  unfold Go.Proofs.Ytkkkmbgflflcnaa.fl
  split
  · split
    · exact h
    · exact ⟨Nat.zero_le _, fun _ => rfl⟩
  · exact h
theorem Val.tk {s : ByteArray} {e : Int} (h : Val s e) (n : Nat) : Val (tk s e n).2.1 (tk s e n).2.2 := by
  unfold Go.Proofs.Ytkkkmbgflflcnaa.tk
  split
  · exact h.fl 1
  · refine ⟨?_, fun he => ?_⟩
    · show (s.extract n s.size).size ≤ _
      have := h.1
      rw [ba_size] at this
      rw [ba_size, ba_extract, List.length_take, List.length_drop]; omega
    · show s.extract n s.size = _
      rw [h.2 he, ba_empty_extract]
theorem tk_size {s : ByteArray} {e : Int} {n : Nat} (hn : n < 9223372036854775808) : (tk s e n).1.size ≤ s.size ∧ (tk s e n).1.size ≤ n ∧ (tk s e n).2.1.size ≤ s.size := by
  unfold tk
  split
  · refine ⟨Nat.zero_le _, Nat.zero_le _, ?_⟩
    show (fl s e 1).1.size ≤ _
    unfold fl
    split
    · split
      · exact Nat.le_refl _
      · exact Nat.zero_le _
    · exact Nat.le_refl _
  · refine ⟨?_, ?_, ?_⟩
    · show (s.extract 0 n).size ≤ _
      rw [ba_size, ba_extract, List.length_take, List.length_drop, ba_size]; omega
    · show (s.extract 0 n).size ≤ _
      rw [ba_size, ba_extract, List.length_take, List.length_drop]; omega
    · show (s.extract n s.size).size ≤ _
      rw [ba_size, ba_extract, List.length_take, List.length_drop, ba_size]; omega
theorem Val.tU {s : ByteArray} {e : Int} (h : Val s e) : Val (tU s e).2.1 (tU s e).2.2 := by
  unfold Go.Proofs.Ytkkkmbgflflcnaa.tU
  split
  · exact h.tk 1
  · split
    · exact (h.tk 1).fl 2
    · dsimp only
      split
      · exact ((h.tk 1).tk _).fl 2
      · exact (h.tk 1).tk _
theorem Val.tN {s : ByteArray} {e : Int} (h : Val s e) (m : Int) : Val (tN s e m).2.1 (tN s e m).2.2 := by
  unfold Go.Proofs.Ytkkkmbgflflcnaa.tN
  split
  · exact h.tU.fl 3
  · exact h.tU
theorem Val.tS {s : ByteArray} {e : Int} (h : Val s e) (m : Int) : Val (tS s e m).2.1 (tS s e m).2.2 := (h.tN m).tk _
theorem Val.tI {s : ByteArray} {e : Int} (h : Val s e) : Val (tI s e).2.1 (tI s e).2.2 := h.tU
theorem tU_range (s : ByteArray) (e : Int) : 0 ≤ (tU s e).1 ∧ (tU s e).1 < 18446744073709551616 := by
  unfold tU
  split
  · exact ⟨Int.le_refl 0, (by decide : (0 : Int) < 18446744073709551616)⟩
  · split
    · exact ⟨Int.le_refl 0, (by decide : (0 : Int) < 18446744073709551616)⟩
    · dsimp only
      split
      · exact ⟨Int.le_refl 0, (by decide : (0 : Int) < 18446744073709551616)⟩
      · have := beN_lt (tk (tk s e 1).2.1 (tk s e 1).2.2 ((tk s e 1).1.data.toList.getD 0 0).toNat).1.data.toList
        exact ⟨by omega, by omega⟩
theorem tU_num (n : Nat) (hn : n < 18446744073709551616) (r : List UInt8) : tU ⟨(numB n ++ r).toArray⟩ 0 = ((n : Int), ⟨r.toArray⟩, 0) := by
  have hl8 := nlen_le 8 n (by simpa using hn)
  have e1 : tk ⟨(numB n ++ r).toArray⟩ 0 1 = (⟨#[UInt8.ofNat (nlen n)]⟩, ⟨(digs n (nlen n) ++ r).toArray⟩, 0) := by
    unfold tk
    rw [if_neg (by rw [ba_mk_size, numB]; simp)]
    congr 1
    · exact bytes_ext (by rw [ba_extract, ba_mk, numB]; simp)
    · congr 1
      exact bytes_ext (by rw [ba_extract, ba_mk, ba_mk_size, numB, ba_mk, List.cons_append, List.drop_one, List.tail_cons, List.length_cons, Nat.add_sub_cancel, List.take_length])
  have hb : (UInt8.ofNat (nlen n)).toNat = nlen n := by rw [UInt8.toNat_ofNat']; omega
  have e2 : tk ⟨(digs n (nlen n) ++ r).toArray⟩ 0 (nlen n) = (⟨(digs n (nlen n)).toArray⟩, ⟨r.toArray⟩, 0) := by
    unfold tk
    have hlen := digs_length n (nlen n)
    rw [if_neg (by rw [ba_mk_size, List.length_append, hlen]; omega)]
    congr 1
    · refine bytes_ext ?_
      rw [ba_extract, ba_mk, List.drop_zero, Nat.sub_zero, List.take_append_of_le_length (by omega), List.take_of_length_le (by omega)]
    · congr 1
      refine bytes_ext ?_
      rw [ba_extract, ba_mk, ba_mk, ba_mk_size, List.drop_append_of_le_length (by omega), List.drop_of_length_le (by omega), List.nil_append, List.length_append, List.take_of_length_le (by omega)]
  unfold tU
  rw [e1]
  have e0 : ((#[UInt8.ofNat (nlen n)] : Array UInt8).toList.getD 0 0) = UInt8.ofNat (nlen n) := rfl
  simp only [e0, hb, e2]
  rw [if_neg (by decide), if_neg (by omega), ba_mk_size, digs_length]
  rw [if_neg (by
    intro h
    by_cases hz : n = 0
    · rw [hz, nlen_zero] at h; exact h.1 rfl
    · exact digs_head n hz h.2)]
  rw [beN_num n hn]
theorem tN_num (n : Nat) (m : Int) (hn : (n : Int) ≤ m) (hm : m < 9223372036854775808) (r : List UInt8) : tN ⟨(numB n ++ r).toArray⟩ 0 m = ((n : Int), ⟨r.toArray⟩, 0) := by
  unfold tN
  have hw : IntKind.u64.wrap (mx m 0) = m := by
    rw [wrap_u64]; unfold mx; rw [if_neg (by omega)]; omega
  rw [tU_num n (by omega), hw, if_neg (by show ¬ (n : Int) > m; omega)]
  show (wrap64 (n : Int), _) = _
  rw [show wrap64 (n : Int) = n by unfold wrap64; omega]
theorem tS_str (s : ByteArray) (m : Int) (hn : (s.size : Int) ≤ m) (hm : m < 9223372036854775808) (r : List UInt8) : tS ⟨(strB s ++ r).toArray⟩ 0 m = (s, ⟨r.toArray⟩, 0) := by
  unfold tS strB
  rw [List.append_assoc, tN_num s.size m hn hm]
  show tk ⟨(s.data.toList ++ r).toArray⟩ 0 (s.size : Int).toNat = _
  rw [Int.toNat_natCast]
  unfold tk
  have hz := ba_size s
  rw [if_neg (by rw [ba_mk_size (s.data.toList ++ r), List.length_append]; omega)]
  congr 1
  · refine bytes_ext ?_
    rw [ba_extract, ba_mk (s.data.toList ++ r), List.drop_zero, Nat.sub_zero, List.take_append_of_le_length (by omega), List.take_of_length_le (by omega)]
  · congr 1
    refine bytes_ext ?_
    rw [ba_extract, ba_mk (s.data.toList ++ r), ba_mk r, ba_mk_size (s.data.toList ++ r), List.drop_append_of_le_length (by omega), List.drop_of_length_le (by omega), List.nil_append, List.length_append, List.take_of_length_le (by omega)]
end Go.Proofs.Ytkkkmbgflflcnaa

namespace Go.Proofs.Ytkkkmbgflflcnaa
open Go.RowKit Go.Proofs.YtkkkmbgflflcnaaW.PrintWords Go.Proofs.YtkkkmbgflflcnaaW.PrintLast Go.Proofs.YtkkkmbgflflcnaaW.PrintMore
theorem zig_lt (n : Int) (h0 : -9223372036854775808 ≤ n) (h1 : n < 9223372036854775808) : zig n < 18446744073709551616 := by unfold zig; split <;> omega
theorem uns_zig (n : Int) : uns (zig n : Nat) = n := by unfold uns zig; split <;> split <;> omega
theorem tI_num (n : Int) (h0 : -9223372036854775808 ≤ n) (h1 : n < 9223372036854775808) (r : List UInt8) : tI ⟨(numB (zig n) ++ r).toArray⟩ 0 = (n, ⟨r.toArray⟩, 0) := by
  unfold tI
  rw [tU_num _ (zig_lt n h0 h1)]
  show (uns (zig n : Nat), _) = _
  rw [uns_zig]
end Go.Proofs.Ytkkkmbgflflcnaa

namespace Go.Proofs.Ytkkkmbgflflcnaa
open Go.RowKit Go.Proofs.YtkkkmbgflflcnaaW.PrintWords Go.Proofs.YtkkkmbgflflcnaaW.PrintLast Go.Proofs.YtkkkmbgflflcnaaW.PrintMore
theorem fl_err (s : ByteArray) (e x : Int) (h : ¬ e = 0) : (fl s e x).2 = e := by unfold fl; rw [if_neg h]
theorem fl_ne (s : ByteArray) (e x : Int) (hx : ¬ x = 0) : ¬ (fl s e x).2 = 0 := by
  unfold fl
  by_cases h : e = 0
  · rw [if_pos h, if_neg hx]; exact hx
  · rw [if_neg h]; exact h
theorem tk_err (s : ByteArray) (e : Int) (n : Nat) (h : ¬ e = 0) : (tk s e n).2.2 = e := by
  unfold tk
  split
  · exact fl_err s e 1 h
  · rfl
theorem tk_ok (s : ByteArray) (n : Nat) (h : (tk s 0 n).2.2 = 0) : (tk s 0 n).1.data.toList.length = n ∧ s.data.toList = (tk s 0 n).1.data.toList ++ (tk s 0 n).2.1.data.toList := by
  unfold tk at h ⊢
  have hz := ba_size s
  by_cases c : n > s.size
  · rw [if_pos c] at h; exact absurd h (fl_ne s 0 1 (by decide))
  · rw [if_neg c]
    dsimp only
    rw [ba_extract, ba_extract, List.drop_zero, Nat.sub_zero]
    refine ⟨by rw [List.length_take]; omega, ?_⟩
    have hd : List.take (s.size - n) (List.drop n s.data.toList) = List.drop n s.data.toList := List.take_of_length_le (by rw [List.length_drop]; omega)
    rw [hd, List.take_append_drop]
theorem tU_err (s : ByteArray) (e : Int) (h : ¬ e = 0) : ¬ (tU s e).2.2 = 0 := by
  have hk := tk_err s e 1 h
  unfold tU
  rw [if_pos (by rw [hk]; exact h)]
  show ¬ (tk s e 1).2.2 = 0
  rw [hk]; exact h
theorem tN_err (s : ByteArray) (e m : Int) (h : ¬ e = 0) : ¬ (tN s e m).2.2 = 0 := by
  have hk := tU_err s e h
  unfold tN
  split
  · exact fl_ne _ _ 3 (by decide)
  · exact hk
theorem tN_ok0 {s : ByteArray} {e m : Int} (h : (tN s e m).2.2 = 0) : e = 0 := Classical.byContradiction fun x => tN_err s e m x h
theorem tS_okN {s : ByteArray} {e m : Int} (h : (tS s e m).2.2 = 0) : (tN s e m).2.2 = 0 := Classical.byContradiction fun x => x ((tk_err _ _ _ x).symm.trans h)
theorem tS_ok0 {s : ByteArray} {e m : Int} (h : (tS s e m).2.2 = 0) : e = 0 := tN_ok0 (tS_okN h)
theorem tI_ok0 {s : ByteArray} {e : Int} (h : (tI s e).2.2 = 0) : e = 0 := Classical.byContradiction fun x => tU_err s e x h
theorem tU_canon (s : ByteArray) (h : (tU s 0).2.2 = 0) : ∃ n : Nat, n < 18446744073709551616 ∧ (tU s 0).1 = (n : Int) ∧ s.data.toList = numB n ++ (tU s 0).2.1.data.toList := by
  unfold tU at h ⊢
  by_cases c1 : (tk s 0 1).2.2 = 0
  rotate_left
  · rw [if_pos c1] at h; exact absurd h c1
  obtain ⟨l1, e1⟩ := tk_ok s 1 c1
  generalize tk s 0 1 = p at c1 l1 e1 h ⊢
  obtain ⟨p1, p2, p3⟩ := p
  dsimp only at c1 l1 e1 h ⊢
  subst c1
  obtain ⟨c, hc⟩ := List.length_eq_one_iff.1 l1
  rw [hc] at e1 h ⊢
  rw [if_neg (by simp)] at h ⊢
  have hcd : ([c] : List UInt8).getD 0 0 = c := rfl
  rw [hcd] at h ⊢
  by_cases c2 : c.toNat > 8
  · rw [if_pos c2] at h; exact absurd h (fl_ne _ _ 2 (by decide))
  rw [if_neg c2] at h ⊢
  by_cases c3 : (tk p2 0 c.toNat).2.2 = 0
  rotate_left
  · by_cases c4 : (tk p2 0 c.toNat).1.size ≠ 0 ∧ (tk p2 0 c.toNat).1.data.toList.getD 0 0 = 0
    · rw [if_pos c4] at h; exact absurd h (fl_ne _ _ 2 (by decide))
    · rw [if_neg c4] at h; exact absurd h c3
  obtain ⟨l2, e2⟩ := tk_ok p2 c.toNat c3
  generalize tk p2 0 c.toNat = b at c3 l2 e2 h ⊢
  obtain ⟨b1, b2, b3⟩ := b
  dsimp only at c3 l2 e2 h ⊢
  by_cases c4 : b1.size ≠ 0 ∧ b1.data.toList.getD 0 0 = 0
  · rw [if_pos c4] at h; exact absurd h (fl_ne _ _ 2 (by decide))
  rw [if_neg c4]
  have hz := ba_size b1
  have hn := numB_beN b1.data.toList (by omega) (by
    by_cases x : b1.size = 0
    · left; exact List.eq_nil_of_length_eq_zero (by omega)
    · right; exact fun y => c4 ⟨x, y⟩)
  refine ⟨beN 0 b1.data.toList, beN_lt _, rfl, ?_⟩
  rw [hn, l2, e1, e2]
  have hcc : UInt8.ofNat c.toNat = c := by simp
  rw [hcc]
  simp
theorem tN_canon (s : ByteArray) (m : Int) (hm0 : 0 ≤ m) (hm : m < 9223372036854775808) (h : (tN s 0 m).2.2 = 0) : s.data.toList = numB (tN s 0 m).1.toNat ++ (tN s 0 m).2.1.data.toList ∧ 0 ≤ (tN s 0 m).1 ∧ (tN s 0 m).1 ≤ m := by
  have hw : IntKind.u64.wrap (mx m 0) = m := by
    rw [wrap_u64]; unfold mx; split <;> omega
  unfold tN at h ⊢
  rw [hw] at h ⊢
  by_cases c : (tU s 0).1 > m
  · rw [if_pos c] at h; exact absurd h (fl_ne _ _ 3 (by decide))
  rw [if_neg c] at h ⊢
  obtain ⟨n, hn, e1, e2⟩ := tU_canon s h
  dsimp only
  rw [e1] at c ⊢
  have hww : wrap64 (n : Int) = n := by unfold wrap64; omega
  rw [hww, Int.toNat_natCast]
  exact ⟨e2, by omega, by omega⟩
theorem tS_canon (s : ByteArray) (m : Int) (hm0 : 0 ≤ m) (hm : m < 9223372036854775808) (h : (tS s 0 m).2.2 = 0) : s.data.toList = strB (tS s 0 m).1 ++ (tS s 0 m).2.1.data.toList ∧ ((tS s 0 m).1.size : Int) ≤ m := by
  have hN := tS_okN h
  obtain ⟨e1, h0, h1⟩ := tN_canon s m hm0 hm hN
  unfold tS at h ⊢
  generalize tN s 0 m = p at hN e1 h0 h1 h ⊢
  obtain ⟨p1, p2, p3⟩ := p
  dsimp only at hN e1 h0 h1 h ⊢
  subst hN
  obtain ⟨l2, e2⟩ := tk_ok p2 p1.toNat h
  have hz := ba_size (tk p2 0 p1.toNat).1
  refine ⟨?_, by omega⟩
  unfold strB
  rw [e1, hz, l2, List.append_assoc, ← e2]
theorem tU_zero (s : ByteArray) (h : ¬ (tU s 0).2.2 = 0) : (tU s 0).1 = 0 := by
  unfold tU at h ⊢
  by_cases c1 : (tk s 0 1).2.2 = 0
  rotate_left
  · rw [if_pos c1]
  generalize tk s 0 1 = p at c1 h ⊢
  obtain ⟨p1, p2, p3⟩ := p
  dsimp only at c1 h ⊢
  subst c1
  rw [if_neg (by simp)] at h ⊢
  generalize (p1.data.toList.getD 0 0).toNat = n at h ⊢
  by_cases c2 : n > 8
  · rw [if_pos c2]
  rw [if_neg c2] at h ⊢
  by_cases c4 : (tk p2 0 n).1.size ≠ 0 ∧ (tk p2 0 n).1.data.toList.getD 0 0 = 0
  · rw [if_pos c4]
  rw [if_neg c4] at h ⊢
  have hk : (tk p2 0 n).1 = ⟨#[]⟩ := by
    dsimp only at h
    unfold tk at h ⊢
    by_cases c5 : n > p2.size
    · rw [if_pos c5]
    · rw [if_neg c5] at h; exact absurd rfl h
  rw [hk]
  rfl
theorem tN_zero (s : ByteArray) (m : Int) (h : ¬ (tN s 0 m).2.2 = 0) : (tN s 0 m).1 = 0 := by
  unfold tN at h ⊢
  by_cases c : (tU s 0).1 > IntKind.u64.wrap (mx m 0)
  · rw [if_pos c]
  rw [if_neg c] at h ⊢
  have e := tU_zero s h
  dsimp only
  rw [e]
  unfold wrap64; omega
theorem zig_uns (n : Nat) : zig (uns (n : Int)) = n := by unfold zig uns; split <;> split <;> omega
theorem tI_canon (s : ByteArray) (h : (tI s 0).2.2 = 0) : s.data.toList = numB (zig (tI s 0).1) ++ (tI s 0).2.1.data.toList ∧ -9223372036854775808 ≤ (tI s 0).1 ∧ (tI s 0).1 < 9223372036854775808 := by
  unfold tI at h ⊢
  obtain ⟨n, hn, e1, e2⟩ := tU_canon s h
  dsimp only
  rw [e1, zig_uns]
  exact ⟨e2, by unfold uns; split <;> omega, by unfold uns; split <;> omega⟩
end Go.Proofs.Ytkkkmbgflflcnaa

namespace Go.Proofs.Ytkkkmbgflflcnaa.CrcM
def poly : Nat := 3988292384
def bstep (n : Nat) : Nat := n / 2 ^^^ (if n % 2 = 1 then poly else 0)
def iter : Nat → Nat → Nat
  | 0, n => n
  | k + 1, n => iter k (bstep n)
def byteStep (n c : Nat) : Nat := iter 8 (n ^^^ c)
def run (n : Nat) (l : List UInt8) : Nat := l.foldl (fun n c => byteStep n c.toNat) n
def sum (l : List UInt8) : Nat := 4294967295 ^^^ run 4294967295 l
theorem div2_xor (a b : Nat) : (a ^^^ b) / 2 = a / 2 ^^^ b / 2 := by
  have := Nat.shiftRight_xor_distrib (a := a) (b := b) (i := 1)
  simpa [Nat.shiftRight_eq_div_pow] using this
theorem mod2_xor (a b : Nat) : (a ^^^ b) % 2 = (a % 2 + b % 2) % 2 := by
  have := Nat.xor_mod_two_pow (a := a) (b := b) (n := 1)
  simp only [Nat.pow_one] at this
  rw [this]
  rcases Nat.mod_two_eq_zero_or_one a with ha | ha <;> rcases Nat.mod_two_eq_zero_or_one b with hb | hb <;> simp [ha, hb]
theorem poly_lt : poly < 2 ^ 32 := by decide
theorem poly_lt32 : poly < 4294967296 := by decide
theorem xor_lt32 {a b : Nat} (ha : a < 4294967296) (hb : b < 4294967296) : a ^^^ b < 4294967296 := by
  rw [show 4294967296 = 2 ^ 32 by decide] at *
  exact Nat.xor_lt_two_pow ha hb
theorem bstep_lt (x : Nat) (h : x < 2 ^ 32) : bstep x < 2 ^ 32 := by
  unfold bstep
  refine Nat.xor_lt_two_pow (by omega) ?_
  split
  · exact poly_lt
  · decide
theorem iter_lt (k : Nat) : ∀ x, x < 2 ^ 32 → iter k x < 2 ^ 32 := by
  induction k with
  | zero => intro x h; exact h
  | succ k ih => intro x h; exact ih _ (bstep_lt x h)
theorem run_lt (n : Nat) (l : List UInt8) (h : n < 2 ^ 32) : run n l < 2 ^ 32 := by
  induction l generalizing n with
  | nil => exact h
  | cons c l ih => exact ih _ (iter_lt 8 _ (Nat.xor_lt_two_pow h (Nat.lt_trans c.toNat_lt (by decide))))
theorem sum_lt (l : List UInt8) : sum l < 2 ^ 32 := Nat.xor_lt_two_pow (by decide) (run_lt _ l (by decide))
theorem run_append (n : Nat) (l m : List UInt8) : run n (l ++ m) = run (run n l) m := by simp [run, List.foldl_append]
end Go.Proofs.Ytkkkmbgflflcnaa.CrcM

namespace Go.Proofs.Ytkkkmbgflflcnaa.PS
open Go.RowKit Go.Proofs.YtkkkmbgflflcnaaW.PrintWords Go.Proofs.YtkkkmbgflflcnaaW.PrintLast CrcM
theorem xor_ff (n : Nat) (h : n < 4294967296) : 4294967295 ^^^ n = 4294967295 - n := by
  apply Nat.eq_of_testBit_eq
  intro i
  rw [show 4294967295 - n = 2 ^ 32 - (n + 1) by omega, Nat.testBit_two_pow_sub_succ (by omega), Nat.testBit_xor, show 4294967295 = 2 ^ 32 - 1 by decide, Nat.testBit_two_pow_sub_one]
  by_cases hi : i < 32
  · simp [hi]
  · have : n.testBit i = false := Nat.testBit_lt_two_pow (Nat.lt_of_lt_of_le h (by rw [show 4294967296 = 2 ^ 32 by decide]; exact Nat.pow_le_pow_right (by decide) (by omega)))
    simp [hi, this]
theorem bits_round (n : Nat) (h : n < 4294967296) : Go.bits .xor .u32 ((n : Int) / 2) (Go.bits .and .u32 3988292384 ((-(Go.bits .and .u32 n 1)) % 4294967296)) = (bstep n : Int) := by
  have e1 : Go.bits .and .u32 n 1 = ((n % 2 : Nat) : Int) := by
    have := bits_and_32 n 1 h (by decide)
    rw [Nat.and_one_is_mod] at this
    exact this
  rw [e1]
  have e3 : ((n : Int) / 2) = ((n / 2 : Nat) : Int) := by simp
  rcases Nat.mod_two_eq_zero_or_one n with hn | hn
  · rw [hn]
    have e2 : Go.bits .and .u32 3988292384 ((-((0 : Nat) : Int)) % 4294967296) = ((0 : Nat) : Int) := bits_and_32 3988292384 0 (by decide) (by decide)
    rw [e2, e3, bits_xor_32 _ _ (by omega) (by decide)]
    unfold bstep
    rw [if_neg (by omega)]
  · rw [hn]
    have e2 : Go.bits .and .u32 3988292384 ((-((1 : Nat) : Int)) % 4294967296) = ((3988292384 : Nat) : Int) := bits_and_32 3988292384 4294967295 (by decide) (by decide)
    rw [e2, e3, bits_xor_32 _ _ (by omega) (by decide)]
    unfold bstep
    rw [if_pos hn]
    rfl
theorem wrap_in (n : Int) (h0 : 0 ≤ n) (h1 : n ≤ 4611686018427387904) : wrap64 n = n := by unfold wrap64; omega
theorem step_l0 (d : Nat) : ∀ i n : Nat, i + d = 8 → n < 4294967296 → Ev (fun k => crc_step.l0 k (n : Int) (i : Int)) (iter d n : Int) := by
  induction d with
  | zero =>
    intro i n hi hn
    refine Ev.step (f := fun _ => some ((n : Nat) : Int)) (fun k => ?_) (Ev.now _)
    simp only [crc_step.l0]
    rw [if_neg (by omega)]
  | succ d ih =>
    intro i n hi hn
    refine Ev.step (fun k => ?_) (ih (i + 1) (bstep n) (by omega) (bstep_lt n hn))
    simp only [crc_step.l0]
    rw [if_pos (by omega), bits_round n hn, wrap_in _ (by omega) (by omega)]
    rfl
theorem step_f (n c : Nat) (hn : n < 4294967296) (hc : c < 256) : Ev (fun k => crc_step.f k (n : Int) (c : Int)) (byteStep n c : Int) := by
  have e : Go.bits .xor .u32 (n : Int) ((c : Int) % 4294967296) = ((n ^^^ c : Nat) : Int) := by
    rw [show (c : Int) % 4294967296 = c by omega]
    exact bits_xor_32 n c hn (by omega)
  refine Ev.congr (fun k => ?_) (step_l0 8 0 (n ^^^ c) (by omega) (Nat.xor_lt_two_pow (n := 32) hn (by omega)))
  simp only [crc_step.f, e]
  rfl
theorem bt_get (s : ByteArray) (i : Nat) (h : i < s.size) : bt s (i : Int) = ((s.data.toList.getD i 0).toNat : Int) := by
  have hi : ((i : Int)).toNat < s.size := by simpa using h
  simp [bt, h, List.getD_eq_getElem?_getD]
  rfl
theorem drop_cons (l : List UInt8) (i : Nat) (h : i < l.length) : l.drop i = l.getD i 0 :: l.drop (i + 1) := by
  rw [List.drop_eq_getElem_cons h]
  simp [List.getD_eq_getElem?_getD, h]
theorem add_l0 (s : ByteArray) (hs : s.size ≤ 140737488351232) (d : Nat) : ∀ i n : Nat, i + d = s.size → n < 4294967296 →
    Ev (fun k => crc_Sum_Add.l0 k s (n : Int) (s.size : Int) (i : Int)) ((4294967295 ^^^ run n (s.data.toList.drop i) : Nat) : Int) := by
  induction d with
  | zero =>
    intro i n hi hn
    refine Ev.step (f := fun _ => some ((4294967295 ^^^ n : Nat) : Int)) (fun k => ?_) ?_
    · simp only [crc_Sum_Add.l0]
      rw [if_neg (by omega)]
      exact congrArg some (bits_xor_32 4294967295 n (by decide) hn)
    · rw [List.drop_eq_nil_of_le (by simp; omega)]
      exact Ev.now _
  | succ d ih =>
    intro i n hi hn
    have hc : s.data.toList.getD i 0 = s.data.toList.getD i 0 := rfl
    refine Ev.step (f := fun k => (crc_step.f k (n : Int) ((s.data.toList.getD i 0).toNat : Int)).bind fun t => crc_Sum_Add.l0 k s t (s.size : Int) ((i + 1 : Nat) : Int)) (fun k => ?_) ?_
    · simp only [crc_Sum_Add.l0]
      rw [if_pos (by omega), if_pos (by omega), if_pos (by omega), bt_get s i (by omega), wrap_in _ (by omega) (by omega)]
      rfl
    · have h1 := ih (i + 1) (byteStep n (s.data.toList.getD i 0).toNat) (by omega) (iter_lt 8 _ (Nat.xor_lt_two_pow hn (Nat.lt_trans (UInt8.toNat_lt _) (by decide))))
      have e : run n (s.data.toList.drop i) = run (byteStep n (s.data.toList.getD i 0).toNat) (s.data.toList.drop (i + 1)) := by
        rw [drop_cons _ _ (by simp; omega)]
        rfl
      rw [e]
      exact Ev.bind (f := fun k t => crc_Sum_Add.l0 k s t (s.size : Int) ((i + 1 : Nat) : Int)) (step_f n _ hn (UInt8.toNat_lt _)) h1
theorem ff_ff (n : Nat) : 4294967295 ^^^ (4294967295 ^^^ n) = n := by rw [← Nat.xor_assoc, Nat.xor_self, Nat.zero_xor]
theorem add_f (l : List UInt8) (s : ByteArray) (hs : s.size ≤ 140737488351232) : Ev (fun k => crc_Sum_Add.f k (sum l : Int) s) ((sum (l ++ s.data.toList) : Nat) : Int) := by
  refine Ev.congr (f := fun k => crc_Sum_Add.l0 k s ((run 4294967295 l : Nat) : Int) (s.size : Int) ((0 : Nat) : Int)) (fun k => ?_) ?_
  · simp only [crc_Sum_Add.f]
    have e := bits_xor_32 4294967295 (sum l) (by decide) (sum_lt l)
    rw [show ((4294967295 : Nat) : Int) = 4294967295 from rfl] at e
    rw [e]
    unfold sum
    rw [ff_ff]
    rfl
  · have h := add_l0 s hs s.size 0 (run 4294967295 l) (by omega) (run_lt _ l (by decide))
    rw [List.drop_zero, ← run_append] at h
    exact h
def flat (l : List ByteArray) : List UInt8 := (l.map fun s => s.data.toList).flatten
theorem of_l0 (l : List ByteArray) (hl : l.length ≤ 140737488351232) (hs : ∀ s ∈ l, s.size ≤ 140737488351232) (d : Nat) : ∀ (i : Nat) (a : List UInt8), i + d = l.length →
    Ev (fun k => crc_Of.l0 k l (l.length : Int) (i : Int) (sum a : Int)) ((sum (a ++ flat (l.drop i)) : Nat) : Int) := by
  induction d with
  | zero =>
    intro i a hi
    refine Ev.step (f := fun _ => some ((sum a : Nat) : Int)) (fun k => ?_) ?_
    · simp only [crc_Of.l0, crc_Sum_Value.f]
      rw [if_neg (by omega)]
      rfl
    · rw [List.drop_eq_nil_of_le (by omega), flat, List.map_nil, List.flatten_nil, List.append_nil]
      exact Ev.now _
  | succ d ih =>
    intro i a hi
    have hi' : i < l.length := by omega
    have hr : rdOf ByteArray.empty l (i : Int) = l[i] := by simp [rdOf, List.getD_eq_getElem?_getD, hi']
    refine Ev.step (f := fun k => (crc_Sum_Add.f k (sum a : Int) l[i]).bind fun t => crc_Of.l0 k l (l.length : Int) ((i + 1 : Nat) : Int) t) (fun k => ?_) ?_
    · simp only [crc_Of.l0]
      rw [if_pos (by omega), if_pos (by omega), if_pos (by omega), hr, wrap_in _ (by omega) (by omega)]
      rfl
    · have e : a ++ flat (l.drop i) = (a ++ l[i].data.toList) ++ flat (l.drop (i + 1)) := by
        rw [List.drop_eq_getElem_cons hi']
        simp only [flat, List.map_cons, List.flatten_cons, List.append_assoc]
      rw [e]
      exact Ev.bind (f := fun k t => crc_Of.l0 k l (l.length : Int) ((i + 1 : Nat) : Int) t) (add_f a l[i] (hs _ (List.getElem_mem hi'))) (ih (i + 1) (a ++ l[i].data.toList) (by omega))
theorem of_f (l : List ByteArray) (hl : l.length ≤ 140737488351232) (hs : ∀ s ∈ l, s.size ≤ 140737488351232) : Ev (fun k => crc_Of.f k l) ((sum (flat l) : Nat) : Int) := by
  have h := of_l0 l hl hs l.length 0 [] (by omega)
  rw [List.drop_zero, List.nil_append] at h
  exact h
theorem of_one (s : ByteArray) (hs : s.size ≤ 140737488351232) : Ev (fun k => crc_Of.f k [s]) ((sum s.data.toList : Nat) : Int) := by
  have h := of_f [s] (by simp) (by simpa using hs)
  rwa [show flat [s] = s.data.toList by simp [flat]] at h
end Go.Proofs.Ytkkkmbgflflcnaa.PS

namespace Go.Proofs.Ytkkkmbgflflcnaa.PS
open Go.RowKit Go.Proofs.YtkkkmbgflflcnaaW.PrintWords Go.Proofs.YtkkkmbgflflcnaaW.PrintLast Go.Proofs.YtkkkmbgflflcnaaW.PrintMore Go.Proofs.Ytkkkmbgflflcnaa CrcM
def cB (n : Nat) : List UInt8 := [UInt8.ofNat (n % 256), UInt8.ofNat (n / 256 % 256), UInt8.ofNat (n / 65536 % 256), UInt8.ofNat (n / 16777216 % 256)]
theorem cB_length (n : Nat) : (cB n).length = 4 := rfl
theorem cB_f (n : Nat) (_hn : n < 4294967296) : crc_Bytes.f (n : Int) = some ⟨(cB n).toArray⟩ := by
  unfold crc_Bytes.f
  refine congrArg some (bytes_ext ?_)
  rw [strOfNums_data]
  simp only [List.map_cons, List.map_nil, cB]
  rw [show ((n : Int) % 256).toNat = n % 256 by omega, show ((n : Int) / 256 % 256).toNat = n / 256 % 256 by omega, show ((n : Int) / 65536 % 256).toNat = n / 65536 % 256 by omega, show ((n : Int) / 16777216 % 256).toNat = n / 16777216 % 256 by omega]
def sm (s : ByteArray) : Nat := sum s.data.toList
theorem sm_lt (s : ByteArray) : sm s < 4294967296 := sum_lt _
def sealB (s : ByteArray) : ByteArray := ⟨(cB (sm s) ++ s.data.toList).toArray⟩
theorem sealB_size (s : ByteArray) : (sealB s).size = 4 + s.size := by
  unfold sealB
  rw [ba_mk_size, List.length_append, cB_length, ← ba_size]
theorem sealB_head (s : ByteArray) : (sealB s).extract 0 4 = ⟨(cB (sm s)).toArray⟩ := by
  refine bytes_ext ?_
  rw [ba_extract]
  show ((cB (sm s) ++ s.data.toList).drop 0).take 4 = cB (sm s)
  rw [List.drop_zero, List.take_append_of_le_length (by rw [cB_length]; omega), List.take_of_length_le (by rw [cB_length]; omega)]
theorem sealB_tail (s : ByteArray) : (sealB s).extract 4 (sealB s).size = s := by
  refine bytes_ext ?_
  rw [ba_extract, sealB_size]
  show ((cB (sm s) ++ s.data.toList).drop 4).take (4 + s.size - 4) = s.data.toList
  rw [List.drop_append_of_le_length (by rw [cB_length]; omega), List.drop_of_length_le (by rw [cB_length]; omega), List.nil_append, List.take_of_length_le (by rw [← ba_size]; omega)]
theorem sum_f (s : ByteArray) (hs : s.size ≤ 1000000) : Ev (fun k => crc_Of.f k [s]) ((sm s : Nat) : Int) := of_one s (by omega)
end Go.Proofs.Ytkkkmbgflflcnaa.PS

