import Derived.Test.YtndekeigagjfiaaDoorQOnMOutText
import Derived.Test.YtndekeigagjfiaaDoorQOnMFold
import Derived.Lib.Strings
import Derived.Laws.BitsLemmas
import Derived.Test.YtndekeigagjfiaaDoorQOnPAx1
namespace Go.Proofs.YtndekeigagjfiaaDoor
open Go.RowKit Go.Proofs.YtndekeigagjfiaaDoorW.PrintWords Go.Proofs.YtndekeigagjfiaaDoorW.PrintLast Go.Proofs.YtndekeigagjfiaaDoorW.PrintMore
theorem bytes_ext {s t : ByteArray} (h : s.data.toList = t.data.toList) : s = t := ByteArray.ext (Array.ext' h)
theorem ba_size (s : ByteArray) : s.size = s.data.toList.length := by rw [Array.length_toList]; rfl
theorem ba_mk_size (l : List UInt8) : (⟨l.toArray⟩ : ByteArray).size = l.length := by rw [ba_size]
theorem ba_toList (s : ByteArray) : s.toList = s.data.toList := ByteArray.toList_eq s
theorem ba_append (s t : ByteArray) : (s ++ t).data.toList = s.data.toList ++ t.data.toList := by simp [ByteArray.data_append]
theorem ba_extract (s : ByteArray) (a b : Nat) : (s.extract a b).data.toList = (s.data.toList.drop a).take (b - a) := Lib.extract_data s a b
theorem digs_last (n : Nat) (j : Nat) : digs n (j + 1) = digs (n / 256) j ++ [UInt8.ofNat (n % 256)] := by
  induction j with
  | zero => simp [digs, dig]
  | succ j ih =>
    rw [digs, ih, digs]
    rw [List.cons_append]
    congr 1
    unfold dig
    rw [Nat.pow_succ, Nat.mul_comm, ← Nat.div_div_eq_div_mul]
theorem pow_nlen (n : Nat) : n < 256 ^ nlen n := by
  induction n using nlen.induct with
  | case1 => rw [nlen_zero]; decide
  | case2 n h ih =>
    rw [nlen_pos n h, Nat.pow_succ]
    omega
theorem beN_lt (l : List UInt8) : beN 0 l < 18446744073709551616 := by
  suffices h : ∀ n, n < 18446744073709551616 → beN n l < 18446744073709551616 from h 0 (by decide)
  induction l with
  | nil => intro n h; exact h
  | cons c l ih => intro n h; exact ih _ (Nat.mod_lt _ (by decide))
theorem beN_snoc (l : List UInt8) (c : UInt8) : beN 0 (l ++ [c]) = (beN 0 l * 256 + c.toNat) % 18446744073709551616 := by
  unfold beN; rw [List.foldl_append]; rfl
theorem beN_small (l : List UInt8) (k : Nat) (h : l.length = k) (hk : k ≤ 8) : beN 0 l < 256 ^ k := by
  induction k generalizing l with
  | zero => obtain rfl := List.eq_nil_of_length_eq_zero h; decide
  | succ k ih =>
    obtain ⟨l', c, rfl⟩ : ∃ l' c, l = l' ++ [c] := ⟨l.dropLast, l.getLast (by intro e; rw [e] at h; simp at h), (List.dropLast_concat_getLast _).symm⟩
    have hl : l'.length = k := by simpa using h
    have h1 := ih l' hl (by omega)
    rw [beN_snoc, Nat.pow_succ]
    have := UInt8.toNat_lt c
    exact Nat.lt_of_le_of_lt (Nat.mod_le _ _) (by omega)
theorem digs_beN (l : List UInt8) (k : Nat) (h : l.length = k) (hk : k ≤ 8) : digs (beN 0 l) k = l := by
  induction k generalizing l with
  | zero => obtain rfl := List.eq_nil_of_length_eq_zero h; rfl
  | succ k ih =>
    obtain ⟨l', c, rfl⟩ : ∃ l' c, l = l' ++ [c] := ⟨l.dropLast, l.getLast (by intro e; rw [e] at h; simp at h), (List.dropLast_concat_getLast _).symm⟩
    have hl : l'.length = k := by simpa using h
    have h1 := beN_small l' k hl (by omega)
    have h2 : 256 ^ k ≤ 256 ^ 7 := Nat.pow_le_pow_right (by decide) (by omega)
    have hc := UInt8.toNat_lt c
    rw [beN_snoc, Nat.mod_eq_of_lt (by have : (256 : Nat) ^ 7 = 72057594037927936 := by decide
                                       omega), digs_last]
    rw [show (beN 0 l' * 256 + c.toNat) / 256 = beN 0 l' by omega, show (beN 0 l' * 256 + c.toNat) % 256 = c.toNat by omega, ih l' hl (by omega)]
    simp
theorem nlen_beN (l : List UInt8) (h : l.length ≤ 8) (h0 : l = [] ∨ l.getD 0 0 ≠ 0) : nlen (beN 0 l) = l.length := by
  rcases h0 with rfl | h0
  · exact nlen_zero
  · have hle : nlen (beN 0 l) ≤ l.length := nlen_le _ _ (beN_small l _ rfl h)
    have hd := digs_beN l _ rfl h
    by_cases he : nlen (beN 0 l) = l.length
    · exact he
    · exfalso
      obtain ⟨m, hm⟩ : ∃ m, l.length = m + 1 := ⟨l.length - 1, by omega⟩
      rw [hm, digs] at hd
      have hlt : beN 0 l < 256 ^ m := Nat.lt_of_lt_of_le (pow_nlen _) (Nat.pow_le_pow_right (by decide) (by omega))
      have : dig (beN 0 l) m = 0 := by
        unfold dig
        rw [Nat.div_eq_of_lt hlt]; rfl
      rw [← hd] at h0
      exact h0 this
theorem numB_beN (l : List UInt8) (h : l.length ≤ 8) (h0 : l = [] ∨ l.getD 0 0 ≠ 0) : numB (beN 0 l) = UInt8.ofNat l.length :: l := by
  unfold numB
  rw [nlen_beN l h h0, digs_beN l _ rfl h]
def fl (s : ByteArray) (e x : Int) : ByteArray × Int := if e = 0 then (if x = 0 then (s, e) else (⟨#[]⟩, x)) else (s, e)
def tk (s : ByteArray) (e : Int) (n : Nat) : ByteArray × ByteArray × Int := if n > s.size then (⟨#[]⟩, fl s e 1) else (s.extract 0 n, s.extract n s.size, e)
def tU (s : ByteArray) (e : Int) : Int × ByteArray × Int :=
  if (tk s e 1).2.2 ≠ 0 then (0, (tk s e 1).2)
  else if ((tk s e 1).1.data.toList.getD 0 0).toNat > 8 then (0, fl (tk s e 1).2.1 (tk s e 1).2.2 2)
  else
    let b := tk (tk s e 1).2.1 (tk s e 1).2.2 ((tk s e 1).1.data.toList.getD 0 0).toNat
    if b.1.size ≠ 0 ∧ b.1.data.toList.getD 0 0 = 0 then (0, fl b.2.1 b.2.2 2) else ((beN 0 b.1.data.toList : Nat), b.2)
def Val (s : ByteArray) (e : Int) : Prop := s.size ≤ 140737488351232 ∧ (e ≠ 0 → s = ⟨#[]⟩)
theorem tk_size {s : ByteArray} {e : Int} {n : Nat} (hn : n < 9223372036854775808) : (tk s e n).1.size ≤ s.size ∧ (tk s e n).1.size ≤ n ∧ (tk s e n).2.1.size ≤ s.size := by
  unfold tk
  split
  · refine ⟨Nat.zero_le _, Nat.zero_le _, ?_⟩
    show (fl s e 1).1.size ≤ _
    unfold fl
    split
    · split
      · exact Nat.le_refl _
      · exact Nat.zero_le _
    · exact Nat.le_refl _
  · refine ⟨?_, ?_, ?_⟩
    · show (s.extract 0 n).size ≤ _
      rw [ba_size, ba_extract, List.length_take, List.length_drop, ba_size]; omega
    · show (s.extract 0 n).size ≤ _
      rw [ba_size, ba_extract, List.length_take, List.length_drop]; omega
    · show (s.extract n s.size).size ≤ _
      rw [ba_size, ba_extract, List.length_take, List.length_drop, ba_size]; omega
end Go.Proofs.YtndekeigagjfiaaDoor

namespace Go.Proofs.YtndekeigagjfiaaDoor.PA
set_option linter.unusedSimpArgs false
open Go.RowKit Go.Proofs.YtndekeigagjfiaaDoorW.PrintWords Go.Proofs.YtndekeigagjfiaaDoorW.PrintLast Go.Proofs.YtndekeigagjfiaaDoorW.PrintMore Go.Proofs.YtndekeigagjfiaaDoor
theorem cut_f (s : ByteArray) (n : Nat) : armoirelaw01_Cut.f s (n : Int) = some (s.extract 0 (min n s.size)) := by
  unfold armoirelaw01_Cut.f
  by_cases h : (s.size : Int) > n
  · rw [if_pos h, if_pos (by omega), if_pos (by omega), show min n s.size = n by omega]
    rfl
  · rw [if_neg h, show min n s.size = s.size by omega]
    simp
theorem cut_size (s : ByteArray) (n : Nat) : (s.extract 0 (min n s.size)).size ≤ n := by
  rw [ba_size, ba_extract, List.length_take]; omega
end Go.Proofs.YtndekeigagjfiaaDoor.PA

namespace Go.Proofs.YtndekeigagjfiaaDoor.PA
open Go.RowKit Go.Proofs.YtndekeigagjfiaaDoorW.PrintWords Go.Proofs.YtndekeigagjfiaaDoorW.PrintLast Go.Proofs.YtndekeigagjfiaaDoorW.PrintMore Go.Proofs.YtndekeigagjfiaaDoor Go.Proofs.YtndekeigagjfiaaDoor.PL
theorem fl_f (s : ByteArray) (e x : Int) : codec_In_Fail.f s e x = some (fl s e x) := by
  unfold codec_In_Fail.f fl
  by_cases h : e = 0
  · by_cases h2 : x = 0
    · rw [if_pos h, if_pos h2, if_pos h, if_pos h2]
    · rw [if_pos h, if_neg h2, if_pos h, if_neg h2]
  · rw [if_neg h, if_neg h]
theorem tk_f (s : ByteArray) (e : Int) (n : Nat) : codec_In_take.f s e (n : Int) = some (tk s e n) := by
  unfold codec_In_take.f tk
  by_cases h : n > s.size
  · rw [if_pos (by omega), if_pos h, fl_f]; rfl
  · rw [if_neg (by omega), if_neg h, if_pos (by omega), if_pos (by omega), Int.toNat_natCast]
theorem tU_f (s : ByteArray) (e : Int) (_hv : Val s e) : codec_In_U.f s e = some (tU s e) := by
  have h1 := tk_f s e 1
  rw [show ((1 : Nat) : Int) = 1 from rfl] at h1
  unfold codec_In_U.f tU
  rw [h1, Option.bind_some]
  by_cases c : (tk s e 1).2.2 ≠ 0
  · rw [if_pos c, if_pos c]
  · rw [if_neg c, if_neg c]
    have hz : (tk s e 1).1.size = 1 := by
      have h3 : ¬ 1 > s.size := by
        intro h3
        have e2 : (tk s e 1).2.2 = (fl s e 1).2 := by unfold tk; rw [if_pos h3]
        rw [e2] at c
        unfold fl at c
        by_cases he : e = 0
        · rw [if_pos he, if_neg (by decide)] at c; exact c (by decide)
        · rw [if_neg he] at c; exact c he
      unfold tk
      rw [if_neg h3]
      show (s.extract 0 1).size = 1
      rw [ba_size, ba_extract, List.length_take, List.length_drop, ← ba_size]; omega
    rw [if_neg (by omega)]
    by_cases c2 : ((tk s e 1).1.data.toList.getD 0 0).toNat > 8
    · rw [if_pos c2, if_pos c2, fl_f]; rfl
    · rw [if_neg c2, if_neg c2, tk_f, Option.bind_some]
      dsimp only
      split
      · rw [fl_f]; rfl
      · rw [if_pos (by
          have h4 := (tk_size (s := (tk s e 1).2.1) (e := (tk s e 1).2.2) (n := ((tk s e 1).1.data.toList.getD 0 0).toNat) (by omega)).2.1
          omega)]
end Go.Proofs.YtndekeigagjfiaaDoor.PA

namespace Go.Proofs.YtndekeigagjfiaaDoor.PA
open Go.RowKit Go.Proofs.YtndekeigagjfiaaDoorW.PrintWords Go.Proofs.YtndekeigagjfiaaDoorW.PrintLast Go.Proofs.YtndekeigagjfiaaDoorW.PrintMore Go.Proofs.YtndekeigagjfiaaDoor
theorem one_byte (n : Nat) (_h : n < 256) : strOfNums [(n : Int)] = ⟨#[UInt8.ofNat n]⟩ := by
  refine bytes_ext ?_
  rw [strOfNums_data]
  simp
theorem rw_l0 (d : Nat) : ∀ (i m : Nat) (t : List UInt8), i + d = 8 → nlen m ≤ d → t.length = i → m < 18446744073709551616 →
    Ev (fun k => armoireref02_U.l0 k (m : Int) ⟨t.toArray⟩ (i : Int)) ⟨(UInt8.ofNat (nlen m + i) :: (digs m (nlen m) ++ t)).toArray⟩ := by
  induction d with
  | zero =>
    intro i m t hi hm ht hlt
    obtain rfl : i = 8 := by omega
    obtain rfl : m = 0 := by
      by_cases h : m = 0
      · exact h
      · rw [nlen_pos m h] at hm; omega
    refine Ev.step (f := fun _ => some ⟨(UInt8.ofNat (nlen 0 + 8) :: (digs 0 (nlen 0) ++ t)).toArray⟩) (fun k => ?_) (Ev.now _)
    have e1 : (((⟨t.toArray⟩ : ByteArray).size : Int)) % 256 = ((8 : Nat) : Int) := by rw [ba_mk_size, ht]; rfl
    have hs : (strOfNums [((8 : Nat) : Int)]).size = 1 := by rw [one_byte 8 (by decide)]; rfl
    simp only [armoireref02_U.l0]
    rw [if_neg (by omega)]
    simp only [Option.bind_some, e1]
    rw [if_pos (by rw [hs, ba_mk_size]; omega), one_byte 8 (by decide), nlen_zero]
    rfl
  | succ d ih =>
    intro i m t hi hm ht hlt
    have hi8 : (i : Int) < 8 := by omega
    by_cases h : m = 0
    · subst h
      refine Ev.step (f := fun _ => some ⟨(UInt8.ofNat (nlen 0 + i) :: (digs 0 (nlen 0) ++ t)).toArray⟩) (fun k => ?_) (Ev.now _)
      have e1 : (((⟨t.toArray⟩ : ByteArray).size : Int)) % 256 = (i : Int) := by rw [ba_mk_size, ht]; omega
      have hs : (strOfNums [(i : Int)]).size = 1 := by rw [one_byte i (by omega)]; rfl
      simp only [armoireref02_U.l0]
      rw [if_pos hi8, if_neg (by omega)]
      simp only [Option.bind_some, e1]
      rw [if_pos (by rw [hs, ba_mk_size]; omega), one_byte i (by omega), nlen_zero, Nat.zero_add]
      rfl
    · have hp := nlen_pos m h
      have hs : (strOfNums [((m % 256 : Nat) : Int)]).size = 1 := by rw [one_byte _ (Nat.mod_lt _ (by decide))]; rfl
      have htz : (⟨t.toArray⟩ : ByteArray).size = i := (ba_mk_size t).trans ht
      have hm0 : (m : Int) > 0 := by omega
      have hl : nlen m + i = nlen (m / 256) + (i + 1) := by omega
      have hi9 : 1 + i ≤ 9223372036854775807 := by omega
      have hsz : (strOfNums [((m % 256 : Nat) : Int)]).size + (⟨t.toArray⟩ : ByteArray).size ≤ 9223372036854775807 := by rw [hs, htz]; exact hi9
      have h1 := ih (i + 1) (m / 256) (UInt8.ofNat (m % 256) :: t) (by omega) (by omega) (by simp [ht]) (by omega)
      have e1 : Int.tmod (m : Int) 256 % 256 = ((m % 256 : Nat) : Int) := by rw [Int.tmod_eq_emod_of_nonneg (by omega)]; omega
      have e2 : IntKind.u64.wrap (Int.tdiv (m : Int) 256) = ((m / 256 : Nat) : Int) := by rw [Int.tdiv_eq_ediv_of_nonneg (by omega), wrap_u64]; omega
      have e3 : wrap64 ((i : Int) + 1) = ((i + 1 : Nat) : Int) := by unfold wrap64; omega
      have e4 : (⟨#[UInt8.ofNat (m % 256)]⟩ : ByteArray) ++ ⟨t.toArray⟩ = ⟨(UInt8.ofNat (m % 256) :: t).toArray⟩ := by
        refine bytes_ext ?_
        rw [ba_append]
        rfl
      have hd : digs m (nlen m) ++ t = digs (m / 256) (nlen (m / 256)) ++ (UInt8.ofNat (m % 256) :: t) := by
        rw [hp, digs_last, List.append_assoc]; rfl
      rw [hd, hl]
      refine Ev.step (fun k => ?_) h1
      simp only [armoireref02_U.l0]
      rw [if_pos hi8, if_pos hm0]
      simp only [Option.bind_some, e1, e2, e3]
      rw [if_pos hsz, one_byte _ (Nat.mod_lt _ (by decide)), e4]
theorem rw_f (n : Nat) (hn : n < 18446744073709551616) : Ev (fun k => armoireref02_U.f k (n : Int)) ⟨(numB n).toArray⟩ := by
  have h := rw_l0 8 0 n [] rfl (nlen_le 8 n (by simpa using hn)) rfl hn
  rw [List.append_nil, Nat.add_zero] at h
  exact h
end Go.Proofs.YtndekeigagjfiaaDoor.PA

namespace Go.Proofs.YtndekeigagjfiaaDoor
open Go.RowKit Go.Proofs.YtndekeigagjfiaaDoorW.PrintWords Go.Proofs.YtndekeigagjfiaaDoorW.PrintLast Go.Proofs.YtndekeigagjfiaaDoorW.PrintMore
theorem fl_ne (s : ByteArray) (e x : Int) (hx : ¬ x = 0) : ¬ (fl s e x).2 = 0 := by
  unfold fl
  by_cases h : e = 0
  · rw [if_pos h, if_neg hx]; exact hx
  · rw [if_neg h]; exact h
theorem tk_ok (s : ByteArray) (n : Nat) (h : (tk s 0 n).2.2 = 0) : (tk s 0 n).1.data.toList.length = n ∧ s.data.toList = (tk s 0 n).1.data.toList ++ (tk s 0 n).2.1.data.toList := by
  unfold tk at h ⊢
  have hz := ba_size s
  by_cases c : n > s.size
  · rw [if_pos c] at h; exact absurd h (fl_ne s 0 1 (by decide))
  · rw [if_neg c]
    dsimp only
    rw [ba_extract, ba_extract, List.drop_zero, Nat.sub_zero]
    refine ⟨by rw [List.length_take]; omega, ?_⟩
    have hd : List.take (s.size - n) (List.drop n s.data.toList) = List.drop n s.data.toList := List.take_of_length_le (by rw [List.length_drop]; omega)
    rw [hd, List.take_append_drop]
theorem tU_canon (s : ByteArray) (h : (tU s 0).2.2 = 0) : ∃ n : Nat, n < 18446744073709551616 ∧ (tU s 0).1 = (n : Int) ∧ s.data.toList = numB n ++ (tU s 0).2.1.data.toList := by
  unfold tU at h ⊢
  by_cases c1 : (tk s 0 1).2.2 = 0
  rotate_left
  · rw [if_pos c1] at h; exact absurd h c1
  obtain ⟨l1, e1⟩ := tk_ok s 1 c1
  generalize tk s 0 1 = p at c1 l1 e1 h ⊢
  obtain ⟨p1, p2, p3⟩ := p
  dsimp only at c1 l1 e1 h ⊢
  subst c1
  obtain ⟨c, hc⟩ := List.length_eq_one_iff.1 l1
  rw [hc] at e1 h ⊢
  rw [if_neg (by simp)] at h ⊢
  have hcd : ([c] : List UInt8).getD 0 0 = c := rfl
  rw [hcd] at h ⊢
  by_cases c2 : c.toNat > 8
  · rw [if_pos c2] at h; exact absurd h (fl_ne _ _ 2 (by decide))
  rw [if_neg c2] at h ⊢
  by_cases c3 : (tk p2 0 c.toNat).2.2 = 0
  rotate_left
  · by_cases c4 : (tk p2 0 c.toNat).1.size ≠ 0 ∧ (tk p2 0 c.toNat).1.data.toList.getD 0 0 = 0
    · rw [if_pos c4] at h; exact absurd h (fl_ne _ _ 2 (by decide))
    · rw [if_neg c4] at h; exact absurd h c3
  obtain ⟨l2, e2⟩ := tk_ok p2 c.toNat c3
  generalize tk p2 0 c.toNat = b at c3 l2 e2 h ⊢
  obtain ⟨b1, b2, b3⟩ := b
  dsimp only at c3 l2 e2 h ⊢
  by_cases c4 : b1.size ≠ 0 ∧ b1.data.toList.getD 0 0 = 0
  · rw [if_pos c4] at h; exact absurd h (fl_ne _ _ 2 (by decide))
  rw [if_neg c4]
  have hz := ba_size b1
  have hn := numB_beN b1.data.toList (by omega) (by
    by_cases x : b1.size = 0
    · left; exact List.eq_nil_of_length_eq_zero (by omega)
    · right; exact fun y => c4 ⟨x, y⟩)
  refine ⟨beN 0 b1.data.toList, beN_lt _, rfl, ?_⟩
  rw [hn, l2, e1, e2]
  have hcc : UInt8.ofNat c.toNat = c := by simp
  rw [hcc]
  simp
theorem tU_zero (s : ByteArray) (h : ¬ (tU s 0).2.2 = 0) : (tU s 0).1 = 0 := by
  unfold tU at h ⊢
  by_cases c1 : (tk s 0 1).2.2 = 0
  rotate_left
  · rw [if_pos c1]
  generalize tk s 0 1 = p at c1 h ⊢
  obtain ⟨p1, p2, p3⟩ := p
  dsimp only at c1 h ⊢
  subst c1
  rw [if_neg (by simp)] at h ⊢
  generalize (p1.data.toList.getD 0 0).toNat = n at h ⊢
  by_cases c2 : n > 8
  · rw [if_pos c2]
  rw [if_neg c2] at h ⊢
  by_cases c4 : (tk p2 0 n).1.size ≠ 0 ∧ (tk p2 0 n).1.data.toList.getD 0 0 = 0
  · rw [if_pos c4]
  rw [if_neg c4] at h ⊢
  have hk : (tk p2 0 n).1 = ⟨#[]⟩ := by
    dsimp only at h
    unfold tk at h ⊢
    by_cases c5 : n > p2.size
    · rw [if_pos c5]
    · rw [if_neg c5] at h; exact absurd rfl h
  rw [hk]
  rfl
end Go.Proofs.YtndekeigagjfiaaDoor

