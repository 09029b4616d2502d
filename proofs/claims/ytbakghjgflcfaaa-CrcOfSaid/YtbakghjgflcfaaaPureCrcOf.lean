/- Any bytes of at most 200: the program's sum is the reference's, and so are its four bytes. No condition. -/
import Derived.Test.YtbakghjgflcfaaaFRA
import Derived.Test.YtbakghjgflcfaaaPAx
namespace Go.Proofs.Ytbakghjgflcfaaa.Pure
open Go.RowKit Go.Proofs.Ytbakghjgflcfaaa.PA Go.Proofs.YtbakghjgflcfaaaW.PrintWords Go.Proofs.YtbakghjgflcfaaaW.PrintLast CrcM

theorem awake_true : Ev (fun k => armoirelaw01_awake.f k) true := by
  refine Ev.bind (f := fun _ t => some (t == 3421780262)) (of_one _ (by decide)) ?_
  rw [show sum (⟨#[49, 50, 51, 52, 53, 54, 55, 56, 57]⟩ : ByteArray).data.toList = 3421780262 from check_sum]
  exact Ev.now _
theorem cut_f (s : ByteArray) (n : Nat) : armoirelaw01_Cut.f s (n : Int) = some (s.extract 0 (min n s.size)) := by
  unfold armoirelaw01_Cut.f
  by_cases h : (s.size : Int) > n
  · rw [if_pos h, if_pos (by omega), if_pos (by omega), show min n s.size = n by omega]
    rfl
  · rw [if_neg h, show min n s.size = s.size by omega]
    simp
theorem bytes_same (n : Nat) (h : n < 4294967296) : crc_Bytes.f (n : Int) = armoireref01_Bytes.f (n : Int) := by
  have e1 : Int.tmod (n : Int) 256 % 256 = (n : Int) % 256 := by rw [Int.tmod_eq_emod_of_nonneg (by omega)]; omega
  have e2 : (Int.tdiv (n : Int) 256 % 4294967296) % 256 = (n : Int) / 256 % 256 := by rw [Int.tdiv_eq_ediv_of_nonneg (by omega)]; omega
  have e3 : (Int.tdiv (n : Int) 65536 % 4294967296) % 256 = (n : Int) / 65536 % 256 := by rw [Int.tdiv_eq_ediv_of_nonneg (by omega)]; omega
  have e4 : (Int.tdiv (n : Int) 16777216 % 4294967296) % 256 = (n : Int) / 16777216 % 256 := by rw [Int.tdiv_eq_ediv_of_nonneg (by omega)]; omega
  unfold crc_Bytes.f armoireref01_Bytes.f
  rw [e1, e2, e3, e4]
theorem CrcOf : armoirelaw01_CrcOf.Pure := by
  intro s hs
  refine Ev.rounds ?_
  have hc := cut_f s 200
  have hz : (s.extract 0 (min 200 s.size)).size ≤ 140737488351232 := by simp; omega
  generalize s.extract 0 (min 200 s.size) = t at *
  have h1 := of_one t hz
  have h2 := ref_f t hz
  have hl := sum_lt t.data.toList
  refine Ev.congr (f := fun k => (armoirelaw01_awake.f k).bind fun b => if b = true then ((crc_Of.f k [t]).bind fun a => (armoireref01_Of.f k t).bind fun c => if a = c then ((crc_Of.f k [t]).bind fun a2 => (crc_Bytes.f a2).bind fun x => (armoireref01_Bytes.f c).bind fun y => some (x.toList == y.toList)) else some false) else some false) (fun k => ?_) ?_
  · unfold armoirelaw01_CrcOf.f
    rw [show ((200 : Nat) : Int) = 200 from rfl] at hc
    rw [hc]
    rfl
  · refine Ev.bind awake_true ?_
    simp only [if_true]
    refine Ev.bind h1 (Ev.bind h2 ?_)
    simp only [if_true]
    refine Ev.bind h1 ?_
    have e := bytes_same (sum t.data.toList) hl
    rw [e]
    unfold armoireref01_Bytes.f
    simp only [Option.bind_some, beq_self_eq_true]
    exact Ev.now _
end Go.Proofs.Ytbakghjgflcfaaa.Pure
