import Derived.Test.YtodikgjanhihhaaSPxMCodecMath
import Derived.Test.YtodikgjanhihhaaSPxPAx6
namespace Go.Proofs.Ytodikgjanhihhaa.PA
open Go.RowKit Go.Proofs.YtodikgjanhihhaaW.PrintWords Go.Proofs.YtodikgjanhihhaaW.PrintLast Go.Proofs.YtodikgjanhihhaaW.PrintMore Go.Proofs.Ytodikgjanhihhaa
theorem one_byte (n : Nat) (_h : n < 256) : strOfNums [(n : Int)] = ⟨#[UInt8.ofNat n]⟩ := by
  refine bytes_ext ?_
  rw [strOfNums_data]
  simp
theorem rw_l0 (d : Nat) : ∀ (i m : Nat) (t : List UInt8), i + d = 8 → nlen m ≤ d → t.length = i → m < 18446744073709551616 →
    Ev (fun k => armoireref02_U.l0 k (m : Int) ⟨t.toArray⟩ (i : Int)) ⟨(UInt8.ofNat (nlen m + i) :: (digs m (nlen m) ++ t)).toArray⟩ := by
  induction d with
  | zero =>
    intro i m t hi hm ht hlt
    obtain rfl : i = 8 := by omega
    obtain rfl : m = 0 := by
      by_cases h : m = 0
      · exact h
      · rw [nlen_pos m h] at hm; omega
    refine Ev.step (f := fun _ => some ⟨(UInt8.ofNat (nlen 0 + 8) :: (digs 0 (nlen 0) ++ t)).toArray⟩) (fun k => ?_) (Ev.now _)
    have e1 : (((⟨t.toArray⟩ : ByteArray).size : Int)) % 256 = ((8 : Nat) : Int) := by rw [ba_mk_size, ht]; rfl
    have hs : (strOfNums [((8 : Nat) : Int)]).size = 1 := by rw [one_byte 8 (by decide)]; rfl
    simp only [armoireref02_U.l0]
    rw [if_neg (by omega)]
    simp only [Option.bind_some, e1]
    rw [if_pos (by rw [hs, ba_mk_size]; omega), one_byte 8 (by decide), nlen_zero]
    rfl
  | succ d ih =>
    intro i m t hi hm ht hlt
    have hi8 : (i : Int) < 8 := by omega
    by_cases h : m = 0
    · subst h
      refine Ev.step (f := fun _ => some ⟨(UInt8.ofNat (nlen 0 + i) :: (digs 0 (nlen 0) ++ t)).toArray⟩) (fun k => ?_) (Ev.now _)
      have e1 : (((⟨t.toArray⟩ : ByteArray).size : Int)) % 256 = (i : Int) := by rw [ba_mk_size, ht]; omega
      have hs : (strOfNums [(i : Int)]).size = 1 := by rw [one_byte i (by omega)]; rfl
      simp only [armoireref02_U.l0]
      rw [if_pos hi8, if_neg (by omega)]
      simp only [Option.bind_some, e1]
      rw [if_pos (by rw [hs, ba_mk_size]; omega), one_byte i (by omega), nlen_zero, Nat.zero_add]
      rfl
    · have hp := nlen_pos m h
      have hs : (strOfNums [((m % 256 : Nat) : Int)]).size = 1 := by rw [one_byte _ (Nat.mod_lt _ (by decide))]; rfl
      have htz : (⟨t.toArray⟩ : ByteArray).size = i := (ba_mk_size t).trans ht
      have hm0 : (m : Int) > 0 := by omega
      have hl : nlen m + i = nlen (m / 256) + (i + 1) := by omega
      have hi9 : 1 + i ≤ 9223372036854775807 := by omega
      have hsz : (strOfNums [((m % 256 : Nat) : Int)]).size + (⟨t.toArray⟩ : ByteArray).size ≤ 9223372036854775807 := by rw [hs, htz]; exact hi9
      have h1 := ih (i + 1) (m / 256) (UInt8.ofNat (m % 256) :: t) (by omega) (by omega) (by simp [ht]) (by omega)
      have e1 : Int.tmod (m : Int) 256 % 256 = ((m % 256 : Nat) : Int) := by rw [Int.tmod_eq_emod_of_nonneg (by omega)]; omega
      have e2 : IntKind.u64.wrap (Int.tdiv (m : Int) 256) = ((m / 256 : Nat) : Int) := by rw [Int.tdiv_eq_ediv_of_nonneg (by omega), wrap_u64]; omega
      have e3 : wrap64 ((i : Int) + 1) = ((i + 1 : Nat) : Int) := by unfold wrap64; omega
      have e4 : (⟨#[UInt8.ofNat (m % 256)]⟩ : ByteArray) ++ ⟨t.toArray⟩ = ⟨(UInt8.ofNat (m % 256) :: t).toArray⟩ := by
        refine bytes_ext ?_
        rw [ba_append]
        rfl
      have hd : digs m (nlen m) ++ t = digs (m / 256) (nlen (m / 256)) ++ (UInt8.ofNat (m % 256) :: t) := by
        rw [hp, digs_last, List.append_assoc]; rfl
      rw [hd, hl]
      refine Ev.step (fun k => ?_) h1
      simp only [armoireref02_U.l0]
      rw [if_pos hi8, if_pos hm0]
      simp only [Option.bind_some, e1, e2, e3]
      rw [if_pos hsz, one_byte _ (Nat.mod_lt _ (by decide)), e4]
theorem rw_f (n : Nat) (hn : n < 18446744073709551616) : Ev (fun k => armoireref02_U.f k (n : Int)) ⟨(numB n).toArray⟩ := by
  have h := rw_l0 8 0 n [] rfl (nlen_le 8 n (by simpa using hn)) rfl hn
  rw [List.append_nil, Nat.add_zero] at h
  exact h
theorem rwN_f (a : Int) (ha : a < 9223372036854775808) : Ev (fun k => armoireref02_N.f k a) ⟨(numB a.toNat).toArray⟩ := by
  have e : IntKind.u64.wrap (mx a 0) = (a.toNat : Int) := by rw [wrap_u64]; unfold mx; split <;> omega
  unfold armoireref02_N.f
  rw [e]
  exact Ev.bind (f := fun _ t => some t) (rw_f a.toNat (by omega)) (Ev.now _)
theorem rwS_f (s : ByteArray) (hs : s.size ≤ 140737488351232) : Ev (fun k => armoireref02_S.f k s) ⟨(strB s).toArray⟩ := by
  have hl := numB_length s.size (by omega)
  have e : (⟨(numB s.size).toArray⟩ : ByteArray) ++ s = ⟨(strB s).toArray⟩ := bytes_ext (by rw [ba_append]; rfl)
  have hz : (⟨(numB s.size).toArray⟩ : ByteArray).size + s.size ≤ 9223372036854775807 := by rw [ba_mk_size]; omega
  unfold armoireref02_S.f
  refine Ev.bind (rw_f s.size (by omega)) ?_
  simp only [if_pos hz, e]
  exact Ev.now _
theorem wN2 (s : ByteArray) (a b : Int) (hs : s.size ≤ 1000000) (ha : a < 9223372036854775808) (hb : b < 9223372036854775808) : codec_Out_N.f s [a, b] = some ⟨(s.data.toList ++ numB a.toNat ++ numB b.toNat).toArray⟩ := by
  unfold codec_Out_N.f
  rw [if_pos ⟨by simp only [List.length_cons, List.length_nil]; omega, by intro n hn; simp only [List.mem_cons, List.not_mem_nil, or_false] at hn; rcases hn with rfl | rfl <;> assumption⟩]
  simp
theorem wS1 (s a : ByteArray) (hs : s.size ≤ 1000000) (ha : a.size ≤ 1000000) : codec_Out_S.f s [a] = some ⟨(s.data.toList ++ strB a).toArray⟩ := by
  unfold codec_Out_S.f
  rw [if_pos (by simp only [List.map_cons, List.map_nil, List.sum_cons, List.sum_nil]; omega)]
  simp
end Go.Proofs.Ytodikgjanhihhaa.PA

