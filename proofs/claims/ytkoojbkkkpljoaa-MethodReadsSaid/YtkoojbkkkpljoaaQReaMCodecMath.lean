import Derived.Test.YtkoojbkkkpljoaaQReaMOutS
import Derived.Test.YtkoojbkkkpljoaaQReaMOutI
import Derived.Test.YtkoojbkkkpljoaaQReaMInU
import Derived.Lib.Strings
import Derived.Laws.BitsLemmas
namespace Go.Proofs.Ytkoojbkkkpljoaa
open Go.RowKit Go.Proofs.YtkoojbkkkpljoaaW.PrintWords Go.Proofs.YtkoojbkkkpljoaaW.PrintLast Go.Proofs.YtkoojbkkkpljoaaW.PrintMore
theorem bytes_ext {s t : ByteArray} (h : s.data.toList = t.data.toList) : s = t := ByteArray.ext (Array.ext' h)
theorem ba_mk (l : List UInt8) : (⟨l.toArray⟩ : ByteArray).data.toList = l := rfl
theorem ba_size (s : ByteArray) : s.size = s.data.toList.length := by rw [Array.length_toList]; rfl
theorem ba_mk_size (l : List UInt8) : (⟨l.toArray⟩ : ByteArray).size = l.length := by rw [ba_size]
theorem ba_toList (s : ByteArray) : s.toList = s.data.toList := ByteArray.toList_eq s
theorem ba_extract (s : ByteArray) (a b : Nat) : (s.extract a b).data.toList = (s.data.toList.drop a).take (b - a) := Lib.extract_data s a b
theorem ba_empty_extract (a b : Nat) : (⟨#[]⟩ : ByteArray).extract a b = ⟨#[]⟩ := bytes_ext (by rw [ba_extract]; simp)
theorem beN_lt (l : List UInt8) : beN 0 l < 18446744073709551616 := by
  suffices h : ∀ n, n < 18446744073709551616 → beN n l < 18446744073709551616 from h 0 (by decide)
  induction l with
  | nil => intro n h; exact h
  | cons c l ih => intro n h; exact ih _ (Nat.mod_lt _ (by decide))
def fl (s : ByteArray) (e x : Int) : ByteArray × Int := if e = 0 then (if x = 0 then (s, e) else (⟨#[]⟩, x)) else (s, e)
def tk (s : ByteArray) (e : Int) (n : Nat) : ByteArray × ByteArray × Int := if n > s.size then (⟨#[]⟩, fl s e 1) else (s.extract 0 n, s.extract n s.size, e)
def tU (s : ByteArray) (e : Int) : Int × ByteArray × Int :=
  if (tk s e 1).2.2 ≠ 0 then (0, (tk s e 1).2)
  else if ((tk s e 1).1.data.toList.getD 0 0).toNat > 8 then (0, fl (tk s e 1).2.1 (tk s e 1).2.2 2)
  else
    let b := tk (tk s e 1).2.1 (tk s e 1).2.2 ((tk s e 1).1.data.toList.getD 0 0).toNat
    if b.1.size ≠ 0 ∧ b.1.data.toList.getD 0 0 = 0 then (0, fl b.2.1 b.2.2 2) else ((beN 0 b.1.data.toList : Nat), b.2)
def tN (s : ByteArray) (e m : Int) : Int × ByteArray × Int := if (tU s e).1 > IntKind.u64.wrap (mx m 0) then (0, fl (tU s e).2.1 (tU s e).2.2 3) else (wrap64 (tU s e).1, (tU s e).2)
def tS (s : ByteArray) (e m : Int) : ByteArray × ByteArray × Int := tk (tN s e m).2.1 (tN s e m).2.2 (tN s e m).1.toNat
def uns (n : Int) : Int := if n % 2 = 1 then -(n / 2) - 1 else n / 2
def tI (s : ByteArray) (e : Int) : Int × ByteArray × Int := (uns (tU s e).1, (tU s e).2)
def Val (s : ByteArray) (e : Int) : Prop := s.size ≤ 140737488351232 ∧ (e ≠ 0 → s = ⟨#[]⟩)
theorem Val.fl {s : ByteArray} {e : Int} (h : Val s e) (x : Int) : Val (fl s e x).1 (fl s e x).2 := by
  unfold Go.Proofs.Ytkoojbkkkpljoaa.fl
  split
  · split
    · exact h
    · exact ⟨Nat.zero_le _, fun _ => rfl⟩
  · exact h
theorem Val.tk {s : ByteArray} {e : Int} (h : Val s e) (n : Nat) : Val (tk s e n).2.1 (tk s e n).2.2 := by
  unfold Go.Proofs.Ytkoojbkkkpljoaa.tk
  split
  · exact h.fl 1
  · refine ⟨?_, fun he => ?_⟩
    · show (s.extract n s.size).size ≤ _
      have := h.1
      rw [ba_size] at this
      rw [ba_size, ba_extract, List.length_take, List.length_drop]; omega
    · show s.extract n s.size = _
      rw [h.2 he, ba_empty_extract]
theorem tk_size {s : ByteArray} {e : Int} {n : Nat} (hn : n < 9223372036854775808) : (tk s e n).1.size ≤ s.size ∧ (tk s e n).1.size ≤ n ∧ (tk s e n).2.1.size ≤ s.size := by
  unfold tk
  split
  · refine ⟨Nat.zero_le _, Nat.zero_le _, ?_⟩
    show (fl s e 1).1.size ≤ _
    unfold fl
    split
    · split
      · exact Nat.le_refl _
      · exact Nat.zero_le _
    · exact Nat.le_refl _
  · refine ⟨?_, ?_, ?_⟩
    · show (s.extract 0 n).size ≤ _
      rw [ba_size, ba_extract, List.length_take, List.length_drop, ba_size]; omega
    · show (s.extract 0 n).size ≤ _
      rw [ba_size, ba_extract, List.length_take, List.length_drop]; omega
    · show (s.extract n s.size).size ≤ _
      rw [ba_size, ba_extract, List.length_take, List.length_drop, ba_size]; omega
theorem Val.tU {s : ByteArray} {e : Int} (h : Val s e) : Val (tU s e).2.1 (tU s e).2.2 := by
  unfold Go.Proofs.Ytkoojbkkkpljoaa.tU
  split
  · exact h.tk 1
  · split
    · exact (h.tk 1).fl 2
    · dsimp only
      split
      · exact ((h.tk 1).tk _).fl 2
      · exact (h.tk 1).tk _
theorem Val.tN {s : ByteArray} {e : Int} (h : Val s e) (m : Int) : Val (tN s e m).2.1 (tN s e m).2.2 := by
  unfold Go.Proofs.Ytkoojbkkkpljoaa.tN
  split
  · exact h.tU.fl 3
  · exact h.tU
theorem Val.tS {s : ByteArray} {e : Int} (h : Val s e) (m : Int) : Val (tS s e m).2.1 (tS s e m).2.2 := (h.tN m).tk _
theorem tU_range (s : ByteArray) (e : Int) : 0 ≤ (tU s e).1 ∧ (tU s e).1 < 18446744073709551616 := by
  unfold tU
  split
  · exact ⟨Int.le_refl 0, (by decide : (0 : Int) < 18446744073709551616)⟩
  · split
    · exact ⟨Int.le_refl 0, (by decide : (0 : Int) < 18446744073709551616)⟩
    · dsimp only
      split
      · exact ⟨Int.le_refl 0, (by decide : (0 : Int) < 18446744073709551616)⟩
      · have := beN_lt (tk (tk s e 1).2.1 (tk s e 1).2.2 ((tk s e 1).1.data.toList.getD 0 0).toNat).1.data.toList
        exact ⟨by omega, by omega⟩
end Go.Proofs.Ytkoojbkkkpljoaa

