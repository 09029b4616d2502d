/- The sum of no bytes is 0, in whatever parts they come; that of up to 31 bytes 0 is 0 just if there is none. No condition. -/
import Derived.Test.YtbakghjgflcfaaaFN
namespace Go.Proofs.Ytbakghjgflcfaaa.Pure
open Go.RowKit Go.Proofs.Ytbakghjgflcfaaa.PN Go.Proofs.YtbakghjgflcfaaaW.PrintWords Go.Proofs.YtbakghjgflcfaaaW.PrintLast CrcM

theorem awake_true : Ev (fun k => armoirelaw01_awake.f k) true := by
  refine Ev.bind (f := fun _ t => some (t == 3421780262)) (of_one _ (by decide)) ?_
  rw [show sum (⟨#[49, 50, 51, 52, 53, 54, 55, 56, 57]⟩ : ByteArray).data.toList = 3421780262 from check_sum]
  exact Ev.now _
theorem and_31 (x : Int) : ∃ m : Nat, m < 32 ∧ Go.bits .and .i64 x 31 = m := by
  refine ⟨(BitVec.ofInt 64 x).toNat &&& 31, Nat.lt_of_le_of_lt Nat.and_le_right (by decide), ?_⟩
  have h : (BitVec.ofInt 64 x).toNat &&& 31 ≤ 31 := Nat.and_le_right
  show IntKind.i64.wrap (((BitVec.ofInt 64 x &&& BitVec.ofInt 64 31 : BitVec 64).toNat : Nat) : Int) = _
  rw [BitVec.toNat_and, show (BitVec.ofInt 64 31).toNat = 31 by decide, IntKind.wrap_i64]
  generalize (BitVec.ofInt 64 x).toNat &&& 31 = y at h ⊢
  omega
theorem zeros_sum : ∀ m : Fin 32, ((sum (List.replicate m.val 0) == 0) == (m.val == 0)) = true := by decide +kernel
theorem flat_empty (m : Nat) : flat (List.replicate m (⟨#[]⟩ : ByteArray)) = [] := by
  simp [flat]
theorem sum_nil : sum [] = 0 := by decide
theorem CrcNone : armoirelaw01_CrcNone.Pure := by
  intro x _
  refine Ev.rounds ?_
  obtain ⟨m, hm, e⟩ := and_31 x
  have h0 := of_f [] (by simp) (by simp)
  have h1 := of_f (List.replicate m (⟨#[]⟩ : ByteArray)) (by simp; omega) (by intro s hs; rw [(List.mem_replicate.1 hs).2]; exact Nat.zero_le _)
  rw [show flat [] = [] from rfl, sum_nil] at h0
  rw [flat_empty, sum_nil] at h1
  have hd : (strOfNums (List.replicate m 0)).data.toList = List.replicate m 0 := by simp [strOfNums_data]
  have h2 := of_one (strOfNums (List.replicate m 0)) (by rw [strOfNums_size]; simp; omega)
  rw [hd] at h2
  have hz := zeros_sum ⟨m, hm⟩
  simp only at hz
  unfold armoirelaw01_CrcNone.f
  rw [e]
  refine Ev.bind awake_true ?_
  simp only [if_true]
  refine Ev.bind h0 ?_
  have a1 : ((0 : Nat) : Int) = 0 := rfl
  have a2 : (0 : Int) ≤ m := by omega
  have a3 : m ≤ 17592186044416 := by omega
  have a4 : m ≤ 281474976710656 := by omega
  simp only [Int.toNat_natCast, if_pos a1, if_pos a2, if_pos a3]
  refine Ev.bind h1 ?_
  simp only [if_pos a1, if_pos a4]
  refine Ev.bind h2 ?_
  have e2 : ((((sum (List.replicate m 0) : Nat) : Int) == 0) == ((m : Int) == 0)) = true := by
    have c1 : (((sum (List.replicate m 0) : Nat) : Int) == 0) = (sum (List.replicate m 0) == 0) := by
      rw [Bool.eq_iff_iff]; simp
    have c2 : ((m : Int) == 0) = (m == 0) := by
      rw [Bool.eq_iff_iff]; simp
    rw [c1, c2]
    exact hz
  rw [e2]
  exact Ev.now _
end Go.Proofs.Ytbakghjgflcfaaa.Pure
