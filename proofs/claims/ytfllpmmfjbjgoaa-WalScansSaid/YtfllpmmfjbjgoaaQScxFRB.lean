import Derived.Test.YtfllpmmfjbjgoaaQScxFCB
import Derived.Test.YtfllpmmfjbjgoaaQScxPAx3
namespace Go.Proofs.Ytfllpmmfjbjgoaa.PA
open Go.RowKit Go.Proofs.YtfllpmmfjbjgoaaW.PrintWords Go.Proofs.YtfllpmmfjbjgoaaW.PrintLast CrcM
theorem odd_sum (n c : Nat) : ((((n : Int) + (c : Int)) % 4294967296) % 2 = 1) ↔ (n ^^^ c) % 2 = 1 := by
  rw [mod2_xor]
  omega
theorem ref_l1 (s : ByteArray) (i : Nat) (d : Nat) : ∀ (j n c : Nat) (r : Int), j + d = 8 → n < 4294967296 → c < 2 ^ d →
    Ev (fun k => armoireref01_Of.l0 k s ((iter d (n ^^^ c) : Nat) : Int) (wrap64 ((i : Int) + 1))) r → Ev (fun k => armoireref01_Of.l1 k s (n : Int) (i : Int) (c : Int) (j : Int)) r := by
  induction d with
  | zero =>
    intro j n c r hj hn hc h
    obtain rfl : c = 0 := by simpa using hc
    rw [Nat.xor_zero] at h
    refine Ev.step (fun k => ?_) h
    simp only [armoireref01_Of.l1]
    rw [if_neg (by omega)]
    rfl
  | succ d ih =>
    intro j n c r hj hn hc h
    have hc8 : c < 256 := Nat.lt_of_lt_of_le hc (Nat.le_trans (Nat.pow_le_pow_right (by decide) (show d + 1 ≤ 8 by omega)) (Nat.le_refl 256))
    have e1 : (Int.tdiv (n : Int) 2) % 4294967296 = ((n / 2 : Nat) : Int) := by
      rw [Int.tdiv_eq_ediv_of_nonneg (by omega)]; omega
    have e2 : (Int.tdiv (c : Int) 2) % 4294967296 = ((c / 2 : Nat) : Int) := by
      rw [Int.tdiv_eq_ediv_of_nonneg (by omega)]; omega
    have hc2 : c / 2 < 2 ^ d := by rw [Nat.pow_succ] at hc; omega
    have hj8 : (j : Int) < 8 := by omega
    have hj9 : j + 1 + d = 8 := by omega
    have hn2 : n / 2 < 4294967296 := by omega
    have e3 : wrap64 ((j : Int) + 1) = ((j + 1 : Nat) : Int) := by unfold wrap64; omega
    by_cases ho : (n ^^^ c) % 2 = 1
    · have hb : bstep (n ^^^ c) = (n / 2 ^^^ poly) ^^^ (c / 2) := by
        unfold bstep
        rw [if_pos ho, div2_xor, Nat.xor_assoc, Nat.xor_comm (c / 2), ← Nat.xor_assoc]
      have ex := bits_xor_32 (n / 2) poly hn2 poly_lt32
      rw [show ((poly : Nat) : Int) = 3988292384 from rfl] at ex
      refine Ev.step (fun k => ?_) (ih (j + 1) (n / 2 ^^^ poly) (c / 2) r hj9 (xor_lt32 hn2 poly_lt32) hc2 (by rw [iter, hb] at h; exact h))
      simp only [armoireref01_Of.l1]
      rw [if_pos hj8, if_pos ((odd_sum n c).2 ho), e1, e2, e3, ex]
    · have hb : bstep (n ^^^ c) = (n / 2) ^^^ (c / 2) := by
        unfold bstep
        rw [if_neg ho, div2_xor, Nat.xor_zero]
      refine Ev.step (fun k => ?_) (ih (j + 1) (n / 2) (c / 2) r hj9 hn2 hc2 (by rw [iter, hb] at h; exact h))
      simp only [armoireref01_Of.l1]
      rw [if_pos hj8, if_neg (fun h => ho ((odd_sum n c).1 h)), e1, e2, e3]
theorem ref_l0 (s : ByteArray) (hs : s.size ≤ 140737488351232) (d : Nat) : ∀ i n : Nat, i + d = s.size → n < 4294967296 →
    Ev (fun k => armoireref01_Of.l0 k s (n : Int) (i : Int)) ((4294967295 ^^^ run n (s.data.toList.drop i) : Nat) : Int) := by
  induction d with
  | zero =>
    intro i n hi hn
    refine Ev.step (f := fun _ => some ((4294967295 ^^^ n : Nat) : Int)) (fun k => ?_) ?_
    · simp only [armoireref01_Of.l0]
      rw [if_neg (by omega), xor_ff n hn]
      congr 1
      omega
    · rw [List.drop_eq_nil_of_le (by simp; omega)]
      exact Ev.now _
  | succ d ih =>
    intro i n hi hn
    have h1 := ih (i + 1) (byteStep n (s.data.toList.getD i 0).toNat) (by omega) (iter_lt 8 _ (Nat.xor_lt_two_pow hn (Nat.lt_trans (UInt8.toNat_lt _) (by decide))))
    have e : run n (s.data.toList.drop i) = run (byteStep n (s.data.toList.getD i 0).toNat) (s.data.toList.drop (i + 1)) := by
      rw [drop_cons _ _ (by simp; omega)]
      rfl
    rw [e]
    have hb : (((s.data.toList.getD i 0).toNat : Int)) % 4294967296 = ((s.data.toList.getD i 0).toNat : Int) := by
      have := UInt8.toNat_lt (s.data.toList.getD i 0); omega
    refine Ev.step (fun k => ?_) (ref_l1 s i 8 0 n (s.data.toList.getD i 0).toNat _ (by omega) hn (UInt8.toNat_lt _) (by rw [wrap_in _ (by omega) (by omega)]; exact h1))
    simp only [armoireref01_Of.l0]
    rw [if_pos (by omega), if_pos (by omega), bt_get s i (by omega), hb]
    rfl
theorem ref_f (s : ByteArray) (hs : s.size ≤ 140737488351232) : Ev (fun k => armoireref01_Of.f k s) ((sum s.data.toList : Nat) : Int) := by
  have h := ref_l0 s hs s.size 0 4294967295 (by omega) (by decide)
  rw [List.drop_zero] at h
  exact h
end Go.Proofs.Ytfllpmmfjbjgoaa.PA

namespace Go.Proofs.Ytfllpmmfjbjgoaa.PA
open Go.RowKit Go.Proofs.YtfllpmmfjbjgoaaW.PrintWords Go.Proofs.YtfllpmmfjbjgoaaW.PrintLast Go.Proofs.YtfllpmmfjbjgoaaW.PrintMore Go.Proofs.Ytfllpmmfjbjgoaa CrcM
theorem rcB_f (n : Nat) (hn : n < 4294967296) : armoireref01_Bytes.f (n : Int) = some ⟨(cB n).toArray⟩ := by
  unfold armoireref01_Bytes.f
  refine congrArg some (bytes_ext ?_)
  rw [strOfNums_data]
  simp only [List.map_cons, List.map_nil, cB]
  have h0 : (0 : Int) ≤ (n : Int) := by omega
  rw [Int.tmod_eq_emod_of_nonneg h0, Int.tdiv_eq_ediv_of_nonneg h0, Int.tdiv_eq_ediv_of_nonneg h0, Int.tdiv_eq_ediv_of_nonneg h0]
  rw [show ((n : Int) % 256 % 256).toNat = n % 256 by omega, show ((n : Int) / 256 % 4294967296 % 256).toNat = n / 256 % 256 by omega, show ((n : Int) / 65536 % 4294967296 % 256).toNat = n / 65536 % 256 by omega, show ((n : Int) / 16777216 % 4294967296 % 256).toNat = n / 16777216 % 256 by omega]
theorem rsum_f (s : ByteArray) (hs : s.size ≤ 1000000) : Ev (fun k => armoireref01_Of.f k s) ((sm s : Nat) : Int) := ref_f s (by omega)
end Go.Proofs.Ytfllpmmfjbjgoaa.PA

