/- Any bytes of at most 100, of which up to 32 bits side by side are turned: the sums are alike just if the bytes are. No condition. -/
import Derived.OpenShut
import Derived.Test.YtbakghjgflcfaaaFT
import Derived.Test.YtbakghjgflcfaaaMTurnMath
namespace Go.Proofs.Ytbakghjgflcfaaa.Pure
open Go.RowKit Go.Proofs.Ytbakghjgflcfaaa.PT Go.Proofs.YtbakghjgflcfaaaW.PrintWords Go.Proofs.YtbakghjgflcfaaaW.PrintLast CrcM

theorem awake_true : Ev (fun k => armoirelaw01_awake.f k) true := by
  refine Ev.bind (f := fun _ t => some (t == 3421780262)) (of_one _ (by decide)) ?_
  rw [show sum (⟨#[49, 50, 51, 52, 53, 54, 55, 56, 57]⟩ : ByteArray).data.toList = 3421780262 from check_sum]
  exact Ev.now _
theorem cut_f (s : ByteArray) (n : Nat) : armoirelaw01_Cut.f s (n : Int) = some (s.extract 0 (min n s.size)) := by
  unfold armoirelaw01_Cut.f
  by_cases h : (s.size : Int) > n
  · rw [if_pos h, if_pos (by omega), if_pos (by omega), show min n s.size = n by omega]
    rfl
  · rw [if_neg h, show min n s.size = s.size by omega]
    simp
theorem j0_true (s : ByteArray) (p n : Int) : Ev (fun k => armoirelaw01_CrcTells.j0 k s p n true) true := by
  refine Ev.step (f := fun k => (armoirelaw01_awake.f k).bind fun t => some t) (fun k => ?_) (Ev.bind (f := fun _ t => some t) awake_true (Ev.now _))
  simp only [armoirelaw01_CrcTells.j0]
  rw [if_pos trivial]
theorem beq_of_iff {a b : Bool} (h : a = true ↔ b = true) : (a == b) = true := by
  cases a <;> cases b <;> simp_all
theorem j0_false (s : ByteArray) (p n : Nat) (hs : s.size ≤ 140737488351232) (hp : p < 8 * s.size) (hn : n < 4294967296) : Ev (fun k => armoirelaw01_CrcTells.j0 k s (p : Int) (n : Int) false) true := by
  obtain ⟨t, ht⟩ : ∃ t : ByteArray, t = ⟨(turnL 32 s.data.toList p n).toArray⟩ := ⟨_, rfl⟩
  have hT : armoireref01_Turn.f s (p : Int) (n : Int) = some t := by
    unfold armoireref01_Turn.f
    rw [if_pos ⟨hs, by omega, by omega, by omega, by omega⟩, ht]
    rfl
  have hd : t.data.toList = turnL 32 s.data.toList p n := by rw [ht]
  have hz : t.size = s.size := by
    have := turnL_length 32 s.data.toList p n
    rw [← hd] at this
    simpa using this
  refine Ev.step (f := fun k => (crc_Of.f k [t]).bind fun a => (crc_Of.f k [s]).bind fun b => some ((a == b) == (t.toList == s.toList))) (fun k => ?_) ?_
  · simp only [armoirelaw01_CrcTells.j0, hT]
    rw [if_neg (by decide)]
    rfl
  · refine Ev.bind (f := fun k a => (crc_Of.f k [s]).bind fun b => some ((a == b) == (t.toList == s.toList))) (of_one t (by omega)) ?_
    refine Ev.bind (f := fun _ b => some ((((sum t.data.toList : Nat) : Int) == b) == (t.toList == s.toList))) (of_one s hs) ?_
    have h := turn_sum s.data.toList p n (by simp; omega)
    rw [← hd] at h
    have e : ((((sum t.data.toList : Nat) : Int) == ((sum s.data.toList : Nat) : Int)) == (t.toList == s.toList)) = true := by
      apply beq_of_iff
      rw [beq_iff_eq, beq_iff_eq, Int.ofNat_inj]
      rw [h]
      have k1 : ∀ x : ByteArray, x.toList = x.data.toList := ByteArray.toList_eq
      rw [k1, k1]
    rw [e]
    exact Ev.now _
theorem CrcTells : armoirelaw01_CrcTells.Pure := by
  intro s p n hs hp hn
  have hn' := bounds_u32 hn
  refine Ev.rounds ?_
  have hc := cut_f s 100
  have hz : (s.extract 0 (min 100 s.size)).size ≤ 140737488351232 := by simp; omega
  generalize s.extract 0 (min 100 s.size) = t at *
  rw [show ((100 : Nat) : Int) = 100 from rfl] at hc
  by_cases c1 : p < 0
  · refine Ev.congr (f := fun k => (armoirelaw01_awake.f k).bind fun b => if b = true then armoirelaw01_CrcTells.j0 k t p n true else armoirelaw01_CrcTells.j0 k t p n true) (fun k => ?_) ?_
    · unfold armoirelaw01_CrcTells.f
      rw [hc]
      simp only [Option.bind_some, if_pos c1]
    · refine Ev.bind awake_true ?_
      simp only [if_true]
      exact j0_true t p n
  · refine Ev.congr (f := fun k => (armoirelaw01_awake.f k).bind fun b => if b = true then armoirelaw01_CrcTells.j0 k t p n (decide (p ≥ wrap64 (8 * (t.size : Int)))) else armoirelaw01_CrcTells.j0 k t p n true) (fun k => ?_) ?_
    · unfold armoirelaw01_CrcTells.f
      rw [hc]
      simp only [Option.bind_some, if_neg c1]
    · refine Ev.bind awake_true ?_
      simp only [if_true]
      rw [wrap_in _ (by omega) (by omega)]
      by_cases c2 : p ≥ 8 * (t.size : Int)
      · rw [decide_eq_true c2]
        exact j0_true t p n
      · rw [decide_eq_false c2]
        obtain ⟨q, rfl⟩ := Int.eq_ofNat_of_zero_le (show 0 ≤ p by omega)
        obtain ⟨m, rfl⟩ := Int.eq_ofNat_of_zero_le hn'.1
        exact j0_false t q m hz (by omega) (by omega)
end Go.Proofs.Ytbakghjgflcfaaa.Pure
