import Derived.Test.YtfllpmmfjbjgoaaQRsMCrcMath
import Derived.Test.YtfllpmmfjbjgoaaQRsPAx2
import Derived.Test.YtfllpmmfjbjgoaaQRsMOutText
import Derived.Test.YtfllpmmfjbjgoaaQRsMFold
import Derived.Lib.Strings
import Derived.Laws.BitsLemmas
namespace Go.Proofs.Ytfllpmmfjbjgoaa.PA
open Go.RowKit Go.Proofs.YtfllpmmfjbjgoaaW.PrintWords Go.Proofs.YtfllpmmfjbjgoaaW.PrintLast CrcM
theorem bits_round (n : Nat) (h : n < 4294967296) : Go.bits .xor .u32 ((n : Int) / 2) (Go.bits .and .u32 3988292384 ((-(Go.bits .and .u32 n 1)) % 4294967296)) = (bstep n : Int) := by
  have e1 : Go.bits .and .u32 n 1 = ((n % 2 : Nat) : Int) := by
    have := bits_and_32 n 1 h (by decide)
    rw [Nat.and_one_is_mod] at this
    exact this
  rw [e1]
  have e3 : ((n : Int) / 2) = ((n / 2 : Nat) : Int) := by simp
  rcases Nat.mod_two_eq_zero_or_one n with hn | hn
  · rw [hn]
    have e2 : Go.bits .and .u32 3988292384 ((-((0 : Nat) : Int)) % 4294967296) = ((0 : Nat) : Int) := bits_and_32 3988292384 0 (by decide) (by decide)
    rw [e2, e3, bits_xor_32 _ _ (by omega) (by decide)]
    unfold bstep
    rw [if_neg (by omega)]
  · rw [hn]
    have e2 : Go.bits .and .u32 3988292384 ((-((1 : Nat) : Int)) % 4294967296) = ((3988292384 : Nat) : Int) := bits_and_32 3988292384 4294967295 (by decide) (by decide)
    rw [e2, e3, bits_xor_32 _ _ (by omega) (by decide)]
    unfold bstep
    rw [if_pos hn]
    rfl
theorem wrap_in (n : Int) (h0 : 0 ≤ n) (h1 : n ≤ 4611686018427387904) : wrap64 n = n := by unfold wrap64; omega
theorem step_l0 (d : Nat) : ∀ i n : Nat, i + d = 8 → n < 4294967296 → Ev (fun k => crc_step.l0 k (n : Int) (i : Int)) (iter d n : Int) := by
  induction d with
  | zero =>
    intro i n hi hn
    refine Ev.step (f := fun _ => some ((n : Nat) : Int)) (fun k => ?_) (Ev.now _)
    simp only [crc_step.l0]
    rw [if_neg (by omega)]
  | succ d ih =>
    intro i n hi hn
    refine Ev.step (fun k => ?_) (ih (i + 1) (bstep n) (by omega) (bstep_lt n hn))
    simp only [crc_step.l0]
    rw [if_pos (by omega), bits_round n hn, wrap_in _ (by omega) (by omega)]
    rfl
theorem step_f (n c : Nat) (hn : n < 4294967296) (hc : c < 256) : Ev (fun k => crc_step.f k (n : Int) (c : Int)) (byteStep n c : Int) := by
  have e : Go.bits .xor .u32 (n : Int) ((c : Int) % 4294967296) = ((n ^^^ c : Nat) : Int) := by
    rw [show (c : Int) % 4294967296 = c by omega]
    exact bits_xor_32 n c hn (by omega)
  refine Ev.congr (fun k => ?_) (step_l0 8 0 (n ^^^ c) (by omega) (Nat.xor_lt_two_pow (n := 32) hn (by omega)))
  simp only [crc_step.f, e]
  rfl
theorem bt_get (s : ByteArray) (i : Nat) (h : i < s.size) : bt s (i : Int) = ((s.data.toList.getD i 0).toNat : Int) := by
  have hi : ((i : Int)).toNat < s.size := by simpa using h
  simp [bt, h, List.getD_eq_getElem?_getD]
  rfl
theorem drop_cons (l : List UInt8) (i : Nat) (h : i < l.length) : l.drop i = l.getD i 0 :: l.drop (i + 1) := by
  rw [List.drop_eq_getElem_cons h]
  simp [List.getD_eq_getElem?_getD, h]
theorem add_l0 (s : ByteArray) (hs : s.size ≤ 140737488351232) (d : Nat) : ∀ i n : Nat, i + d = s.size → n < 4294967296 →
    Ev (fun k => crc_Sum_Add.l0 k s (n : Int) (s.size : Int) (i : Int)) ((4294967295 ^^^ run n (s.data.toList.drop i) : Nat) : Int) := by
  induction d with
  | zero =>
    intro i n hi hn
    refine Ev.step (f := fun _ => some ((4294967295 ^^^ n : Nat) : Int)) (fun k => ?_) ?_
    · simp only [crc_Sum_Add.l0]
      rw [if_neg (by omega)]
      exact congrArg some (bits_xor_32 4294967295 n (by decide) hn)
    · rw [List.drop_eq_nil_of_le (by simp; omega)]
      exact Ev.now _
  | succ d ih =>
    intro i n hi hn
    have hc : s.data.toList.getD i 0 = s.data.toList.getD i 0 := rfl
    refine Ev.step (f := fun k => (crc_step.f k (n : Int) ((s.data.toList.getD i 0).toNat : Int)).bind fun t => crc_Sum_Add.l0 k s t (s.size : Int) ((i + 1 : Nat) : Int)) (fun k => ?_) ?_
    · simp only [crc_Sum_Add.l0]
      rw [if_pos (by omega), if_pos (by omega), if_pos (by omega), bt_get s i (by omega), wrap_in _ (by omega) (by omega)]
      rfl
    · have h1 := ih (i + 1) (byteStep n (s.data.toList.getD i 0).toNat) (by omega) (iter_lt 8 _ (Nat.xor_lt_two_pow hn (Nat.lt_trans (UInt8.toNat_lt _) (by decide))))
      have e : run n (s.data.toList.drop i) = run (byteStep n (s.data.toList.getD i 0).toNat) (s.data.toList.drop (i + 1)) := by
        rw [drop_cons _ _ (by simp; omega)]
        rfl
      rw [e]
      exact Ev.bind (f := fun k t => crc_Sum_Add.l0 k s t (s.size : Int) ((i + 1 : Nat) : Int)) (step_f n _ hn (UInt8.toNat_lt _)) h1
theorem ff_ff (n : Nat) : 4294967295 ^^^ (4294967295 ^^^ n) = n := by rw [← Nat.xor_assoc, Nat.xor_self, Nat.zero_xor]
theorem add_f (l : List UInt8) (s : ByteArray) (hs : s.size ≤ 140737488351232) : Ev (fun k => crc_Sum_Add.f k (sum l : Int) s) ((sum (l ++ s.data.toList) : Nat) : Int) := by
  refine Ev.congr (f := fun k => crc_Sum_Add.l0 k s ((run 4294967295 l : Nat) : Int) (s.size : Int) ((0 : Nat) : Int)) (fun k => ?_) ?_
  · simp only [crc_Sum_Add.f]
    have e := bits_xor_32 4294967295 (sum l) (by decide) (sum_lt l)
    rw [show ((4294967295 : Nat) : Int) = 4294967295 from rfl] at e
    rw [e]
    unfold sum
    rw [ff_ff]
    rfl
  · have h := add_l0 s hs s.size 0 (run 4294967295 l) (by omega) (run_lt _ l (by decide))
    rw [List.drop_zero, ← run_append] at h
    exact h
def flat (l : List ByteArray) : List UInt8 := (l.map fun s => s.data.toList).flatten
theorem of_l0 (l : List ByteArray) (hl : l.length ≤ 140737488351232) (hs : ∀ s ∈ l, s.size ≤ 140737488351232) (d : Nat) : ∀ (i : Nat) (a : List UInt8), i + d = l.length →
    Ev (fun k => crc_Of.l0 k l (l.length : Int) (i : Int) (sum a : Int)) ((sum (a ++ flat (l.drop i)) : Nat) : Int) := by
  induction d with
  | zero =>
    intro i a hi
    refine Ev.step (f := fun _ => some ((sum a : Nat) : Int)) (fun k => ?_) ?_
    · simp only [crc_Of.l0, crc_Sum_Value.f]
      rw [if_neg (by omega)]
      rfl
    · rw [List.drop_eq_nil_of_le (by omega), flat, List.map_nil, List.flatten_nil, List.append_nil]
      exact Ev.now _
  | succ d ih =>
    intro i a hi
    have hi' : i < l.length := by omega
    have hr : rdOf ByteArray.empty l (i : Int) = l[i] := by simp [rdOf, List.getD_eq_getElem?_getD, hi']
    refine Ev.step (f := fun k => (crc_Sum_Add.f k (sum a : Int) l[i]).bind fun t => crc_Of.l0 k l (l.length : Int) ((i + 1 : Nat) : Int) t) (fun k => ?_) ?_
    · simp only [crc_Of.l0]
      rw [if_pos (by omega), if_pos (by omega), if_pos (by omega), hr, wrap_in _ (by omega) (by omega)]
      rfl
    · have e : a ++ flat (l.drop i) = (a ++ l[i].data.toList) ++ flat (l.drop (i + 1)) := by
        rw [List.drop_eq_getElem_cons hi']
        simp only [flat, List.map_cons, List.flatten_cons, List.append_assoc]
      rw [e]
      exact Ev.bind (f := fun k t => crc_Of.l0 k l (l.length : Int) ((i + 1 : Nat) : Int) t) (add_f a l[i] (hs _ (List.getElem_mem hi'))) (ih (i + 1) (a ++ l[i].data.toList) (by omega))
theorem of_f (l : List ByteArray) (hl : l.length ≤ 140737488351232) (hs : ∀ s ∈ l, s.size ≤ 140737488351232) : Ev (fun k => crc_Of.f k l) ((sum (flat l) : Nat) : Int) := by
  have h := of_l0 l hl hs l.length 0 [] (by omega)
  rw [List.drop_zero, List.nil_append] at h
  exact h
theorem of_one (s : ByteArray) (hs : s.size ≤ 140737488351232) : Ev (fun k => crc_Of.f k [s]) ((sum s.data.toList : Nat) : Int) := by
  have h := of_f [s] (by simp) (by simpa using hs)
  rwa [show flat [s] = s.data.toList by simp [flat]] at h
end Go.Proofs.Ytfllpmmfjbjgoaa.PA

namespace Go.Proofs.Ytfllpmmfjbjgoaa
open Go.RowKit Go.Proofs.YtfllpmmfjbjgoaaW.PrintWords Go.Proofs.YtfllpmmfjbjgoaaW.PrintLast Go.Proofs.YtfllpmmfjbjgoaaW.PrintMore
theorem bytes_ext {s t : ByteArray} (h : s.data.toList = t.data.toList) : s = t := ByteArray.ext (Array.ext' h)
theorem ba_mk (l : List UInt8) : (⟨l.toArray⟩ : ByteArray).data.toList = l := rfl
theorem ba_size (s : ByteArray) : s.size = s.data.toList.length := by rw [Array.length_toList]; rfl
theorem ba_mk_size (l : List UInt8) : (⟨l.toArray⟩ : ByteArray).size = l.length := by rw [ba_size]
theorem ba_toList (s : ByteArray) : s.toList = s.data.toList := ByteArray.toList_eq s
theorem ba_append (s t : ByteArray) : (s ++ t).data.toList = s.data.toList ++ t.data.toList := by simp [ByteArray.data_append]
theorem ba_extract (s : ByteArray) (a b : Nat) : (s.extract a b).data.toList = (s.data.toList.drop a).take (b - a) := Lib.extract_data s a b
theorem ba_mk_append (l m : List UInt8) : (⟨l.toArray⟩ : ByteArray) ++ ⟨m.toArray⟩ = ⟨(l ++ m).toArray⟩ := bytes_ext (by rw [ba_append])
theorem ba_empty_extract (a b : Nat) : (⟨#[]⟩ : ByteArray).extract a b = ⟨#[]⟩ := bytes_ext (by rw [ba_extract]; simp)
theorem pow_nlen (n : Nat) : n < 256 ^ nlen n := by
  induction n using nlen.induct with
  | case1 => rw [nlen_zero]; decide
  | case2 n h ih =>
    rw [nlen_pos n h, Nat.pow_succ]
    omega
theorem nlen_pow (n : Nat) (h : n ≠ 0) : 256 ^ (nlen n - 1) ≤ n := by
  induction n using nlen.induct with
  | case1 => exact absurd rfl h
  | case2 n h0 ih =>
    rw [nlen_pos n h, Nat.add_sub_cancel]
    by_cases hz : n / 256 = 0
    · rw [hz, nlen_zero]; simp; omega
    · have h1 := ih hz
      have h2 : 0 < nlen (n / 256) := by rw [nlen_pos _ hz]; omega
      obtain ⟨m, hm⟩ : ∃ m, nlen (n / 256) = m + 1 := ⟨nlen (n / 256) - 1, by omega⟩
      rw [hm] at h1 ⊢
      rw [Nat.add_sub_cancel] at h1
      rw [Nat.pow_succ]
      omega
theorem beN_digs (n : Nat) (hn : n < 18446744073709551616) (m : Nat) : beN (n / 256 ^ m) (digs n m) = n := by
  induction m with
  | zero => simp [beN, digs]
  | succ m ih =>
    have e : (n / 256 ^ (m + 1) * 256 + (dig n m).toNat) % 18446744073709551616 = n / 256 ^ m := by
      have h1 : (dig n m).toNat = n / 256 ^ m % 256 := by rw [dig, UInt8.toNat_ofNat']; omega
      rw [h1, Nat.pow_succ, ← Nat.div_div_eq_div_mul]
      have h2 : n / 256 ^ m ≤ n := Nat.div_le_self _ _
      omega
    rw [digs]
    unfold beN at ih ⊢
    rw [List.foldl_cons, e]
    exact ih
theorem beN_num (n : Nat) (hn : n < 18446744073709551616) : beN 0 (digs n (nlen n)) = n := by
  have h := beN_digs n hn (nlen n)
  rwa [Nat.div_eq_of_lt (pow_nlen n)] at h
theorem digs_head (n : Nat) (h : n ≠ 0) : (digs n (nlen n)).getD 0 0 ≠ 0 := by
  obtain ⟨m, hm⟩ : ∃ m, nlen n = m + 1 := ⟨nlen n - 1, by rw [nlen_pos n h]; omega⟩
  have h1 := nlen_pow n h
  have h2 := pow_nlen n
  rw [hm] at h1 h2 ⊢
  rw [Nat.add_sub_cancel] at h1
  rw [digs]
  show dig n m ≠ 0
  intro h3
  have h4 : (dig n m).toNat = n / 256 ^ m % 256 := by rw [dig, UInt8.toNat_ofNat']; omega
  rw [h3] at h4
  have h5 : n / 256 ^ m < 256 := by rw [Nat.div_lt_iff_lt_mul (Nat.pow_pos (by decide)), Nat.mul_comm, ← Nat.pow_succ]; exact h2
  have h6 : 1 ≤ n / 256 ^ m := by rw [Nat.le_div_iff_mul_le (Nat.pow_pos (by decide))]; omega
  have h7 : (0 : UInt8).toNat = 0 := rfl
  omega
theorem beN_lt (l : List UInt8) : beN 0 l < 18446744073709551616 := by
  suffices h : ∀ n, n < 18446744073709551616 → beN n l < 18446744073709551616 from h 0 (by decide)
  induction l with
  | nil => intro n h; exact h
  | cons c l ih => intro n h; exact ih _ (Nat.mod_lt _ (by decide))
def fl (s : ByteArray) (e x : Int) : ByteArray × Int := if e = 0 then (if x = 0 then (s, e) else (⟨#[]⟩, x)) else (s, e)
def tk (s : ByteArray) (e : Int) (n : Nat) : ByteArray × ByteArray × Int := if n > s.size then (⟨#[]⟩, fl s e 1) else (s.extract 0 n, s.extract n s.size, e)
def tU (s : ByteArray) (e : Int) : Int × ByteArray × Int :=
  if (tk s e 1).2.2 ≠ 0 then (0, (tk s e 1).2)
  else if ((tk s e 1).1.data.toList.getD 0 0).toNat > 8 then (0, fl (tk s e 1).2.1 (tk s e 1).2.2 2)
  else
    let b := tk (tk s e 1).2.1 (tk s e 1).2.2 ((tk s e 1).1.data.toList.getD 0 0).toNat
    if b.1.size ≠ 0 ∧ b.1.data.toList.getD 0 0 = 0 then (0, fl b.2.1 b.2.2 2) else ((beN 0 b.1.data.toList : Nat), b.2)
def tN (s : ByteArray) (e m : Int) : Int × ByteArray × Int := if (tU s e).1 > IntKind.u64.wrap (mx m 0) then (0, fl (tU s e).2.1 (tU s e).2.2 3) else (wrap64 (tU s e).1, (tU s e).2)
def tS (s : ByteArray) (e m : Int) : ByteArray × ByteArray × Int := tk (tN s e m).2.1 (tN s e m).2.2 (tN s e m).1.toNat
def Val (s : ByteArray) (e : Int) : Prop := s.size ≤ 140737488351232 ∧ (e ≠ 0 → s = ⟨#[]⟩)
theorem Val.fl {s : ByteArray} {e : Int} (h : Val s e) (x : Int) : Val (fl s e x).1 (fl s e x).2 := by
  unfold Go.Proofs.Ytfllpmmfjbjgoaa.fl
  split
  · split
    · exact h
    · exact ⟨Nat.zero_le _, fun _ => rfl⟩
  · exact h
theorem Val.tk {s : ByteArray} {e : Int} (h : Val s e) (n : Nat) : Val (tk s e n).2.1 (tk s e n).2.2 := by
  unfold Go.Proofs.Ytfllpmmfjbjgoaa.tk
  split
  · exact h.fl 1
  · refine ⟨?_, fun he => ?_⟩
    · show (s.extract n s.size).size ≤ _
      have := h.1
      rw [ba_size] at this
      rw [ba_size, ba_extract, List.length_take, List.length_drop]; omega
    · show s.extract n s.size = _
      rw [h.2 he, ba_empty_extract]
theorem tk_size {s : ByteArray} {e : Int} {n : Nat} (hn : n < 9223372036854775808) : (tk s e n).1.size ≤ s.size ∧ (tk s e n).1.size ≤ n ∧ (tk s e n).2.1.size ≤ s.size := by
  unfold tk
  split
  · refine ⟨Nat.zero_le _, Nat.zero_le _, ?_⟩
    show (fl s e 1).1.size ≤ _
    unfold fl
    split
    · split
      · exact Nat.le_refl _
      · exact Nat.zero_le _
    · exact Nat.le_refl _
  · refine ⟨?_, ?_, ?_⟩
    · show (s.extract 0 n).size ≤ _
      rw [ba_size, ba_extract, List.length_take, List.length_drop, ba_size]; omega
    · show (s.extract 0 n).size ≤ _
      rw [ba_size, ba_extract, List.length_take, List.length_drop]; omega
    · show (s.extract n s.size).size ≤ _
      rw [ba_size, ba_extract, List.length_take, List.length_drop, ba_size]; omega
theorem Val.tU {s : ByteArray} {e : Int} (h : Val s e) : Val (tU s e).2.1 (tU s e).2.2 := by
  unfold Go.Proofs.Ytfllpmmfjbjgoaa.tU
  split
  · exact h.tk 1
  · split
    · exact (h.tk 1).fl 2
    · dsimp only
      split
      · exact ((h.tk 1).tk _).fl 2
      · exact (h.tk 1).tk _
theorem Val.tN {s : ByteArray} {e : Int} (h : Val s e) (m : Int) : Val (tN s e m).2.1 (tN s e m).2.2 := by
  unfold Go.Proofs.Ytfllpmmfjbjgoaa.tN
  split
  · exact h.tU.fl 3
  · exact h.tU
theorem tU_range (s : ByteArray) (e : Int) : 0 ≤ (tU s e).1 ∧ (tU s e).1 < 18446744073709551616 := by
  unfold tU
  split
  · exact ⟨Int.le_refl 0, (by decide : (0 : Int) < 18446744073709551616)⟩
  · split
    · exact ⟨Int.le_refl 0, (by decide : (0 : Int) < 18446744073709551616)⟩
    · dsimp only
      split
      · exact ⟨Int.le_refl 0, (by decide : (0 : Int) < 18446744073709551616)⟩
      · have := beN_lt (tk (tk s e 1).2.1 (tk s e 1).2.2 ((tk s e 1).1.data.toList.getD 0 0).toNat).1.data.toList
        exact ⟨by omega, by omega⟩
theorem tU_num (n : Nat) (hn : n < 18446744073709551616) (r : List UInt8) : tU ⟨(numB n ++ r).toArray⟩ 0 = ((n : Int), ⟨r.toArray⟩, 0) := by
  have hl8 := nlen_le 8 n (by simpa using hn)
  have e1 : tk ⟨(numB n ++ r).toArray⟩ 0 1 = (⟨#[UInt8.ofNat (nlen n)]⟩, ⟨(digs n (nlen n) ++ r).toArray⟩, 0) := by
    unfold tk
    rw [if_neg (by rw [ba_mk_size, numB]; simp)]
    congr 1
    · exact bytes_ext (by rw [ba_extract, ba_mk, numB]; simp)
    · congr 1
      exact bytes_ext (by rw [ba_extract, ba_mk, ba_mk_size, numB, ba_mk, List.cons_append, List.drop_one, List.tail_cons, List.length_cons, Nat.add_sub_cancel, List.take_length])
  have hb : (UInt8.ofNat (nlen n)).toNat = nlen n := by rw [UInt8.toNat_ofNat']; omega
  have e2 : tk ⟨(digs n (nlen n) ++ r).toArray⟩ 0 (nlen n) = (⟨(digs n (nlen n)).toArray⟩, ⟨r.toArray⟩, 0) := by
    unfold tk
    have hlen := digs_length n (nlen n)
    rw [if_neg (by rw [ba_mk_size, List.length_append, hlen]; omega)]
    congr 1
    · refine bytes_ext ?_
      rw [ba_extract, ba_mk, List.drop_zero, Nat.sub_zero, List.take_append_of_le_length (by omega), List.take_of_length_le (by omega)]
    · congr 1
      refine bytes_ext ?_
      rw [ba_extract, ba_mk, ba_mk, ba_mk_size, List.drop_append_of_le_length (by omega), List.drop_of_length_le (by omega), List.nil_append, List.length_append, List.take_of_length_le (by omega)]
  unfold tU
  rw [e1]
  have e0 : ((#[UInt8.ofNat (nlen n)] : Array UInt8).toList.getD 0 0) = UInt8.ofNat (nlen n) := rfl
  simp only [e0, hb, e2]
  rw [if_neg (by decide), if_neg (by omega), ba_mk_size, digs_length]
  rw [if_neg (by
    intro h
    by_cases hz : n = 0
    · rw [hz, nlen_zero] at h; exact h.1 rfl
    · exact digs_head n hz h.2)]
  rw [beN_num n hn]
theorem tN_num (n : Nat) (m : Int) (hn : (n : Int) ≤ m) (hm : m < 9223372036854775808) (r : List UInt8) : tN ⟨(numB n ++ r).toArray⟩ 0 m = ((n : Int), ⟨r.toArray⟩, 0) := by
  unfold tN
  have hw : IntKind.u64.wrap (mx m 0) = m := by
    rw [wrap_u64]; unfold mx; rw [if_neg (by omega)]; omega
  rw [tU_num n (by omega), hw, if_neg (by show ¬ (n : Int) > m; omega)]
  show (wrap64 (n : Int), _) = _
  rw [show wrap64 (n : Int) = n by unfold wrap64; omega]
theorem tS_str (s : ByteArray) (m : Int) (hn : (s.size : Int) ≤ m) (hm : m < 9223372036854775808) (r : List UInt8) : tS ⟨(strB s ++ r).toArray⟩ 0 m = (s, ⟨r.toArray⟩, 0) := by
  unfold tS strB
  rw [List.append_assoc, tN_num s.size m hn hm]
  show tk ⟨(s.data.toList ++ r).toArray⟩ 0 (s.size : Int).toNat = _
  rw [Int.toNat_natCast]
  unfold tk
  have hz := ba_size s
  rw [if_neg (by rw [ba_mk_size (s.data.toList ++ r), List.length_append]; omega)]
  congr 1
  · refine bytes_ext ?_
    rw [ba_extract, ba_mk (s.data.toList ++ r), List.drop_zero, Nat.sub_zero, List.take_append_of_le_length (by omega), List.take_of_length_le (by omega)]
  · congr 1
    refine bytes_ext ?_
    rw [ba_extract, ba_mk (s.data.toList ++ r), ba_mk r, ba_mk_size (s.data.toList ++ r), List.drop_append_of_le_length (by omega), List.drop_of_length_le (by omega), List.nil_append, List.length_append, List.take_of_length_le (by omega)]
end Go.Proofs.Ytfllpmmfjbjgoaa

namespace Go.Proofs.Ytfllpmmfjbjgoaa.PA
open Go.RowKit Go.Proofs.YtfllpmmfjbjgoaaW.PrintWords Go.Proofs.YtfllpmmfjbjgoaaW.PrintLast Go.Proofs.YtfllpmmfjbjgoaaW.PrintMore Go.Proofs.Ytfllpmmfjbjgoaa CrcM
def cB (n : Nat) : List UInt8 := [UInt8.ofNat (n % 256), UInt8.ofNat (n / 256 % 256), UInt8.ofNat (n / 65536 % 256), UInt8.ofNat (n / 16777216 % 256)]
theorem cB_length (n : Nat) : (cB n).length = 4 := rfl
theorem cB_f (n : Nat) (_hn : n < 4294967296) : crc_Bytes.f (n : Int) = some ⟨(cB n).toArray⟩ := by
  unfold crc_Bytes.f
  refine congrArg some (bytes_ext ?_)
  rw [strOfNums_data]
  simp only [List.map_cons, List.map_nil, cB]
  rw [show ((n : Int) % 256).toNat = n % 256 by omega, show ((n : Int) / 256 % 256).toNat = n / 256 % 256 by omega, show ((n : Int) / 65536 % 256).toNat = n / 65536 % 256 by omega, show ((n : Int) / 16777216 % 256).toNat = n / 16777216 % 256 by omega]
def sm (s : ByteArray) : Nat := sum s.data.toList
theorem sm_lt (s : ByteArray) : sm s < 4294967296 := sum_lt _
def sealB (s : ByteArray) : ByteArray := ⟨(cB (sm s) ++ s.data.toList).toArray⟩
theorem sealB_size (s : ByteArray) : (sealB s).size = 4 + s.size := by
  unfold sealB
  rw [ba_mk_size, List.length_append, cB_length, ← ba_size]
theorem sealB_head (s : ByteArray) : (sealB s).extract 0 4 = ⟨(cB (sm s)).toArray⟩ := by
  refine bytes_ext ?_
  rw [ba_extract]
  show ((cB (sm s) ++ s.data.toList).drop 0).take 4 = cB (sm s)
  rw [List.drop_zero, List.take_append_of_le_length (by rw [cB_length]; omega), List.take_of_length_le (by rw [cB_length]; omega)]
theorem sealB_tail (s : ByteArray) : (sealB s).extract 4 (sealB s).size = s := by
  refine bytes_ext ?_
  rw [ba_extract, sealB_size]
  show ((cB (sm s) ++ s.data.toList).drop 4).take (4 + s.size - 4) = s.data.toList
  rw [List.drop_append_of_le_length (by rw [cB_length]; omega), List.drop_of_length_le (by rw [cB_length]; omega), List.nil_append, List.take_of_length_le (by rw [← ba_size]; omega)]
theorem sum_f (s : ByteArray) (hs : s.size ≤ 1000000) : Ev (fun k => crc_Of.f k [s]) ((sm s : Nat) : Int) := of_one s (by omega)
end Go.Proofs.Ytfllpmmfjbjgoaa.PA

