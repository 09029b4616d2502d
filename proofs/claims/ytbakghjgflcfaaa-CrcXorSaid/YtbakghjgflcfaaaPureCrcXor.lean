/- Three texts of one length (of any three, their first bytes, as many as the shortest has, at most 40): the sum of what they are xored is what their sums are, xored. No condition. -/
import Derived.Test.YtbakghjgflcfaaaFX
namespace Go.Proofs.Ytbakghjgflcfaaa.Pure
open Go.RowKit Go.Proofs.Ytbakghjgflcfaaa.PX Go.Proofs.YtbakghjgflcfaaaW.PrintWords Go.Proofs.YtbakghjgflcfaaaW.PrintLast CrcM

theorem awake_true : Ev (fun k => armoirelaw01_awake.f k) true := by
  refine Ev.bind (f := fun _ t => some (t == 3421780262)) (of_one _ (by decide)) ?_
  rw [show sum (⟨#[49, 50, 51, 52, 53, 54, 55, 56, 57]⟩ : ByteArray).data.toList = 3421780262 from check_sum]
  exact Ev.now _
theorem three (a b c : ByteArray) (hz : a.size ≤ 140737488351232) (h1 : a.size = b.size) (h2 : a.size = c.size) :
    Ev (fun k => (armoirelaw01_awake.f k).bind fun t => if t = true then ((armoireref01_Xor.f a b).bind fun x => (armoireref01_Xor.f x c).bind fun y => (crc_Of.f k [y]).bind fun t0 => (crc_Of.f k [a]).bind fun t1 => (crc_Of.f k [b]).bind fun t2 => (crc_Of.f k [c]).bind fun t3 => some (t0 == Go.bits .xor .u32 (Go.bits .xor .u32 t1 t2) t3)) else some false) true := by
  obtain ⟨x, hx⟩ : ∃ x : ByteArray, x = ⟨(xorL a.data.toList b.data.toList).toArray⟩ := ⟨_, rfl⟩
  obtain ⟨y, hy⟩ : ∃ y : ByteArray, y = ⟨(xorL x.data.toList c.data.toList).toArray⟩ := ⟨_, rfl⟩
  have hxd : x.data.toList = xorL a.data.toList b.data.toList := by rw [hx]
  have hyd : y.data.toList = xorL x.data.toList c.data.toList := by rw [hy]
  have hxs : x.size = a.size := by
    have := xorL_length a.data.toList b.data.toList
    rw [← hxd] at this
    simpa using this
  have hys : y.size = x.size := by
    have := xorL_length x.data.toList c.data.toList
    rw [← hyd] at this
    simpa using this
  have e1 : armoireref01_Xor.f a b = some x := by unfold armoireref01_Xor.f; rw [if_pos hz, hx]
  have e2 : armoireref01_Xor.f x c = some y := by unfold armoireref01_Xor.f; rw [if_pos (by omega), hy]
  refine Ev.bind awake_true ?_
  simp only [if_true, e1, e2, Option.bind_some]
  refine Ev.bind (f := fun k t0 => (crc_Of.f k [a]).bind fun t1 => (crc_Of.f k [b]).bind fun t2 => (crc_Of.f k [c]).bind fun t3 => some (t0 == Go.bits .xor .u32 (Go.bits .xor .u32 t1 t2) t3)) (of_one y (by omega)) ?_
  refine Ev.bind (f := fun k t1 => (crc_Of.f k [b]).bind fun t2 => (crc_Of.f k [c]).bind fun t3 => some (((sum y.data.toList : Nat) : Int) == Go.bits .xor .u32 (Go.bits .xor .u32 t1 t2) t3)) (of_one a hz) ?_
  refine Ev.bind (f := fun k t2 => (crc_Of.f k [c]).bind fun t3 => some (((sum y.data.toList : Nat) : Int) == Go.bits .xor .u32 (Go.bits .xor .u32 ((sum a.data.toList : Nat) : Int) t2) t3)) (of_one b (by omega)) ?_
  refine Ev.bind (f := fun _ t3 => some (((sum y.data.toList : Nat) : Int) == Go.bits .xor .u32 (Go.bits .xor .u32 ((sum a.data.toList : Nat) : Int) ((sum b.data.toList : Nat) : Int)) t3)) (of_one c (by omega)) ?_
  have e : (((sum y.data.toList : Nat) : Int) == Go.bits .xor .u32 (Go.bits .xor .u32 ((sum a.data.toList : Nat) : Int) ((sum b.data.toList : Nat) : Int)) ((sum c.data.toList : Nat) : Int)) = true := by
    have ha := sum_lt a.data.toList
    have hb := sum_lt b.data.toList
    have hc := sum_lt c.data.toList
    rw [bits_xor_32 _ _ ha hb, bits_xor_32 _ _ (xor_lt32 ha hb) hc, hyd, hxd, sum_xor3 _ _ _ (by simpa using h1) (by simpa using h2)]
    exact beq_self_eq_true _
  rw [e]
  exact Ev.now _
theorem CrcXor : armoirelaw01_CrcXor.Pure := by
  intro a b c ha hb hc
  refine Ev.rounds ?_
  obtain ⟨n, hn, h1, h2, h3⟩ : ∃ n : Nat, mn (mn (mn (a.size : Int) (b.size : Int)) (c.size : Int)) 40 = (n : Int) ∧ n ≤ a.size ∧ n ≤ b.size ∧ n ≤ c.size := by
    refine ⟨min (min (min a.size b.size) c.size) 40, ?_, by omega, by omega, by omega⟩
    unfold mn
    (repeat' split) <;> omega
  unfold armoirelaw01_CrcXor.f
  rw [hn]
  have a1 : (0 : Int) ≤ n := by omega
  have a2 : (n : Int) ≤ a.size := by omega
  have a3 : (n : Int) ≤ b.size := by omega
  have a4 : (n : Int) ≤ c.size := by omega
  simp only [if_pos a1, if_pos a2, if_pos a3, if_pos a4, Int.toNat_natCast]
  exact three (a.extract 0 n) (b.extract 0 n) (c.extract 0 n) (by simp; omega) (by simp; omega) (by simp; omega)
end Go.Proofs.Ytbakghjgflcfaaa.Pure
