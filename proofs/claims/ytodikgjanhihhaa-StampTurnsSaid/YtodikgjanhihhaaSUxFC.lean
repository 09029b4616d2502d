import Derived.Test.YtodikgjanhihhaaSUxMBytes
import Derived.Test.YtodikgjanhihhaaSUxMCrcMath
import Derived.Test.YtodikgjanhihhaaSUxPAx3
namespace Go.Proofs.Ytodikgjanhihhaa.PA
open Go.RowKit Go.Proofs.YtodikgjanhihhaaW.PrintWords Go.Proofs.YtodikgjanhihhaaW.PrintLast CrcM
theorem bits_round (n : Nat) (h : n < 4294967296) : Go.bits .xor .u32 ((n : Int) / 2) (Go.bits .and .u32 3988292384 ((-(Go.bits .and .u32 n 1)) % 4294967296)) = (bstep n : Int) := by
  have e1 : Go.bits .and .u32 n 1 = ((n % 2 : Nat) : Int) := by
    have := bits_and_32 n 1 h (by decide)
    rw [Nat.and_one_is_mod] at this
    exact this
  rw [e1]
  have e3 : ((n : Int) / 2) = ((n / 2 : Nat) : Int) := by simp
  rcases Nat.mod_two_eq_zero_or_one n with hn | hn
  · rw [hn]
    have e2 : Go.bits .and .u32 3988292384 ((-((0 : Nat) : Int)) % 4294967296) = ((0 : Nat) : Int) := bits_and_32 3988292384 0 (by decide) (by decide)
    rw [e2, e3, bits_xor_32 _ _ (by omega) (by decide)]
    unfold bstep
    rw [if_neg (by omega)]
  · rw [hn]
    have e2 : Go.bits .and .u32 3988292384 ((-((1 : Nat) : Int)) % 4294967296) = ((3988292384 : Nat) : Int) := bits_and_32 3988292384 4294967295 (by decide) (by decide)
    rw [e2, e3, bits_xor_32 _ _ (by omega) (by decide)]
    unfold bstep
    rw [if_pos hn]
    rfl
theorem wrap_in (n : Int) (h0 : 0 ≤ n) (h1 : n ≤ 4611686018427387904) : wrap64 n = n := by unfold wrap64; omega
theorem step_l0 (d : Nat) : ∀ i n : Nat, i + d = 8 → n < 4294967296 → Ev (fun k => crc_step.l0 k (n : Int) (i : Int)) (iter d n : Int) := by
  induction d with
  | zero =>
    intro i n hi hn
    refine Ev.step (f := fun _ => some ((n : Nat) : Int)) (fun k => ?_) (Ev.now _)
    simp only [crc_step.l0]
    rw [if_neg (by omega)]
  | succ d ih =>
    intro i n hi hn
    refine Ev.step (fun k => ?_) (ih (i + 1) (bstep n) (by omega) (bstep_lt n hn))
    simp only [crc_step.l0]
    rw [if_pos (by omega), bits_round n hn, wrap_in _ (by omega) (by omega)]
    rfl
theorem step_f (n c : Nat) (hn : n < 4294967296) (hc : c < 256) : Ev (fun k => crc_step.f k (n : Int) (c : Int)) (byteStep n c : Int) := by
  have e : Go.bits .xor .u32 (n : Int) ((c : Int) % 4294967296) = ((n ^^^ c : Nat) : Int) := by
    rw [show (c : Int) % 4294967296 = c by omega]
    exact bits_xor_32 n c hn (by omega)
  refine Ev.congr (fun k => ?_) (step_l0 8 0 (n ^^^ c) (by omega) (Nat.xor_lt_two_pow (n := 32) hn (by omega)))
  simp only [crc_step.f, e]
  rfl
theorem bt_get (s : ByteArray) (i : Nat) (h : i < s.size) : bt s (i : Int) = ((s.data.toList.getD i 0).toNat : Int) := by
  have hi : ((i : Int)).toNat < s.size := by simpa using h
  simp [bt, h, List.getD_eq_getElem?_getD]
  rfl
theorem drop_cons (l : List UInt8) (i : Nat) (h : i < l.length) : l.drop i = l.getD i 0 :: l.drop (i + 1) := by
  rw [List.drop_eq_getElem_cons h]
  simp [List.getD_eq_getElem?_getD, h]
theorem add_l0 (s : ByteArray) (hs : s.size ≤ 140737488351232) (d : Nat) : ∀ i n : Nat, i + d = s.size → n < 4294967296 →
    Ev (fun k => crc_Sum_Add.l0 k s (n : Int) (s.size : Int) (i : Int)) ((4294967295 ^^^ run n (s.data.toList.drop i) : Nat) : Int) := by
  induction d with
  | zero =>
    intro i n hi hn
    refine Ev.step (f := fun _ => some ((4294967295 ^^^ n : Nat) : Int)) (fun k => ?_) ?_
    · simp only [crc_Sum_Add.l0]
      rw [if_neg (by omega)]
      exact congrArg some (bits_xor_32 4294967295 n (by decide) hn)
    · rw [List.drop_eq_nil_of_le (by simp; omega)]
      exact Ev.now _
  | succ d ih =>
    intro i n hi hn
    have hc : s.data.toList.getD i 0 = s.data.toList.getD i 0 := rfl
    refine Ev.step (f := fun k => (crc_step.f k (n : Int) ((s.data.toList.getD i 0).toNat : Int)).bind fun t => crc_Sum_Add.l0 k s t (s.size : Int) ((i + 1 : Nat) : Int)) (fun k => ?_) ?_
    · simp only [crc_Sum_Add.l0]
      rw [if_pos (by omega), if_pos (by omega), if_pos (by omega), bt_get s i (by omega), wrap_in _ (by omega) (by omega)]
      rfl
    · have h1 := ih (i + 1) (byteStep n (s.data.toList.getD i 0).toNat) (by omega) (iter_lt 8 _ (Nat.xor_lt_two_pow hn (Nat.lt_trans (UInt8.toNat_lt _) (by decide))))
      have e : run n (s.data.toList.drop i) = run (byteStep n (s.data.toList.getD i 0).toNat) (s.data.toList.drop (i + 1)) := by
        rw [drop_cons _ _ (by simp; omega)]
        rfl
      rw [e]
      exact Ev.bind (f := fun k t => crc_Sum_Add.l0 k s t (s.size : Int) ((i + 1 : Nat) : Int)) (step_f n _ hn (UInt8.toNat_lt _)) h1
theorem ff_ff (n : Nat) : 4294967295 ^^^ (4294967295 ^^^ n) = n := by rw [← Nat.xor_assoc, Nat.xor_self, Nat.zero_xor]
theorem add_f (l : List UInt8) (s : ByteArray) (hs : s.size ≤ 140737488351232) : Ev (fun k => crc_Sum_Add.f k (sum l : Int) s) ((sum (l ++ s.data.toList) : Nat) : Int) := by
  refine Ev.congr (f := fun k => crc_Sum_Add.l0 k s ((run 4294967295 l : Nat) : Int) (s.size : Int) ((0 : Nat) : Int)) (fun k => ?_) ?_
  · simp only [crc_Sum_Add.f]
    have e := bits_xor_32 4294967295 (sum l) (by decide) (sum_lt l)
    rw [show ((4294967295 : Nat) : Int) = 4294967295 from rfl] at e
    rw [e]
    unfold sum
    rw [ff_ff]
    rfl
  · have h := add_l0 s hs s.size 0 (run 4294967295 l) (by omega) (run_lt _ l (by decide))
    rw [List.drop_zero, ← run_append] at h
    exact h
def flat (l : List ByteArray) : List UInt8 := (l.map fun s => s.data.toList).flatten
theorem of_l0 (l : List ByteArray) (hl : l.length ≤ 140737488351232) (hs : ∀ s ∈ l, s.size ≤ 140737488351232) (d : Nat) : ∀ (i : Nat) (a : List UInt8), i + d = l.length →
    Ev (fun k => crc_Of.l0 k l (l.length : Int) (i : Int) (sum a : Int)) ((sum (a ++ flat (l.drop i)) : Nat) : Int) := by
  induction d with
  | zero =>
    intro i a hi
    refine Ev.step (f := fun _ => some ((sum a : Nat) : Int)) (fun k => ?_) ?_
    · simp only [crc_Of.l0, crc_Sum_Value.f]
      rw [if_neg (by omega)]
      rfl
    · rw [List.drop_eq_nil_of_le (by omega), flat, List.map_nil, List.flatten_nil, List.append_nil]
      exact Ev.now _
  | succ d ih =>
    intro i a hi
    have hi' : i < l.length := by omega
    have hr : rdOf ByteArray.empty l (i : Int) = l[i] := by simp [rdOf, List.getD_eq_getElem?_getD, hi']
    refine Ev.step (f := fun k => (crc_Sum_Add.f k (sum a : Int) l[i]).bind fun t => crc_Of.l0 k l (l.length : Int) ((i + 1 : Nat) : Int) t) (fun k => ?_) ?_
    · simp only [crc_Of.l0]
      rw [if_pos (by omega), if_pos (by omega), if_pos (by omega), hr, wrap_in _ (by omega) (by omega)]
      rfl
    · have e : a ++ flat (l.drop i) = (a ++ l[i].data.toList) ++ flat (l.drop (i + 1)) := by
        rw [List.drop_eq_getElem_cons hi']
        simp only [flat, List.map_cons, List.flatten_cons, List.append_assoc]
      rw [e]
      exact Ev.bind (f := fun k t => crc_Of.l0 k l (l.length : Int) ((i + 1 : Nat) : Int) t) (add_f a l[i] (hs _ (List.getElem_mem hi'))) (ih (i + 1) (a ++ l[i].data.toList) (by omega))
theorem of_f (l : List ByteArray) (hl : l.length ≤ 140737488351232) (hs : ∀ s ∈ l, s.size ≤ 140737488351232) : Ev (fun k => crc_Of.f k l) ((sum (flat l) : Nat) : Int) := by
  have h := of_l0 l hl hs l.length 0 [] (by omega)
  rw [List.drop_zero, List.nil_append] at h
  exact h
theorem of_one (s : ByteArray) (hs : s.size ≤ 140737488351232) : Ev (fun k => crc_Of.f k [s]) ((sum s.data.toList : Nat) : Int) := by
  have h := of_f [s] (by simp) (by simpa using hs)
  rwa [show flat [s] = s.data.toList by simp [flat]] at h
end Go.Proofs.Ytodikgjanhihhaa.PA

