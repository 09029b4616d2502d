import Derived.Test.YtodikgjanhihhaaSUxMTurn
import Derived.Test.YtodikgjanhihhaaSUxMCrcMath
namespace Go.Proofs.Ytodikgjanhihhaa
open CrcM
theorem turn_num (k : Nat) : ∀ (l : List UInt8) (p n : Nat), ∃ e, e < 2 ^ k ∧ num (turnL k l p n) = num l ^^^ (e <<< p) := by
  induction k with
  | zero => intro l p n; exact ⟨0, by decide, by simp [turnL]⟩
  | succ k ih =>
    intro l p n
    obtain ⟨b, hb, hl⟩ : ∃ b, b < 2 ∧ num (if n % 2 = 1 ∧ p < 8 * l.length then l.set (p / 8) (l.getD (p / 8) 0 ^^^ UInt8.ofNat (2 ^ (p % 8))) else l) = num l ^^^ (b <<< p) := by
      by_cases c : n % 2 = 1 ∧ p < 8 * l.length
      · refine ⟨1, by decide, ?_⟩
        rw [if_pos c, num_set l (p / 8) _ (by omega)]
        congr 1
        have h1 : 2 ^ (p % 8) < 256 := Nat.lt_of_le_of_lt (pow_small (p % 8) (by omega)) (by decide)
        rw [UInt8.toNat_ofNat', Nat.mod_eq_of_lt h1, Nat.shiftLeft_eq, Nat.shiftLeft_eq, Nat.one_mul, ← Nat.pow_add, show p % 8 + 8 * (p / 8) = p by omega]
      · exact ⟨0, by decide, by rw [if_neg c]; simp⟩
    obtain ⟨e, he, hx⟩ := ih (if n % 2 = 1 ∧ p < 8 * l.length then l.set (p / 8) (l.getD (p / 8) 0 ^^^ UInt8.ofNat (2 ^ (p % 8))) else l) (p + 1) (n / 2)
    refine ⟨b ^^^ (e <<< 1), ?_, ?_⟩
    · refine Nat.xor_lt_two_pow (Nat.lt_of_lt_of_le hb ?_) ?_
      · rw [Nat.pow_succ]; have := Nat.two_pow_pos k; omega
      · rw [Nat.shiftLeft_eq, Nat.pow_succ]; omega
    · rw [turnL, hx, hl, Nat.shiftLeft_xor_distrib, ← Nat.shiftLeft_add, Nat.add_comm 1 p, Nat.xor_assoc]
theorem turn_sum (l : List UInt8) (p n : Nat) (hp : p ≤ 8 * l.length) : sum (turnL 32 l p n) = sum l ↔ turnL 32 l p n = l := by
  obtain ⟨e, he, hx⟩ := turn_num 32 l p n
  exact sum_burst l _ p e (turnL_length 32 l p n).symm hp he hx
end Go.Proofs.Ytodikgjanhihhaa

