import Derived.Test.YtkkkmbgflflcnaaQQxFOI
import Derived.Test.YtkkkmbgflflcnaaQQxPAx18
import Derived.Test.YtkkkmbgflflcnaaQQxFBk
import Derived.Test.YtkkkmbgflflcnaaQQxPAx17
import Derived.Test.YtkkkmbgflflcnaaQQxPAx19
namespace Go.Proofs.Ytkkkmbgflflcnaa.PA
open Go.RowKit Go.Proofs.YtkkkmbgflflcnaaW.PrintWords Go.Proofs.YtkkkmbgflflcnaaW.PrintLast CrcM
theorem odd_sum (n c : Nat) : ((((n : Int) + (c : Int)) % 4294967296) % 2 = 1) ↔ (n ^^^ c) % 2 = 1 := by
  rw [mod2_xor]
  omega
theorem ref_l1 (s : ByteArray) (i : Nat) (d : Nat) : ∀ (j n c : Nat) (r : Int), j + d = 8 → n < 4294967296 → c < 2 ^ d →
    Ev (fun k => armoireref01_Of.l0 k s ((iter d (n ^^^ c) : Nat) : Int) (wrap64 ((i : Int) + 1))) r → Ev (fun k => armoireref01_Of.l1 k s (n : Int) (i : Int) (c : Int) (j : Int)) r := by
  induction d with
  | zero =>
    intro j n c r hj hn hc h
    obtain rfl : c = 0 := by simpa using hc
    rw [Nat.xor_zero] at h
    refine Ev.step (fun k => ?_) h
    simp only [armoireref01_Of.l1]
    rw [if_neg (by omega)]
    rfl
  | succ d ih =>
    intro j n c r hj hn hc h
    have hc8 : c < 256 := Nat.lt_of_lt_of_le hc (Nat.le_trans (Nat.pow_le_pow_right (by decide) (show d + 1 ≤ 8 by omega)) (Nat.le_refl 256))
    have e1 : (Int.tdiv (n : Int) 2) % 4294967296 = ((n / 2 : Nat) : Int) := by
      rw [Int.tdiv_eq_ediv_of_nonneg (by omega)]; omega
    have e2 : (Int.tdiv (c : Int) 2) % 4294967296 = ((c / 2 : Nat) : Int) := by
      rw [Int.tdiv_eq_ediv_of_nonneg (by omega)]; omega
    have hc2 : c / 2 < 2 ^ d := by rw [Nat.pow_succ] at hc; omega
    have hj8 : (j : Int) < 8 := by omega
    have hj9 : j + 1 + d = 8 := by omega
    have hn2 : n / 2 < 4294967296 := by omega
    have e3 : wrap64 ((j : Int) + 1) = ((j + 1 : Nat) : Int) := by unfold wrap64; omega
    by_cases ho : (n ^^^ c) % 2 = 1
    · have hb : bstep (n ^^^ c) = (n / 2 ^^^ poly) ^^^ (c / 2) := by
        unfold bstep
        rw [if_pos ho, div2_xor, Nat.xor_assoc, Nat.xor_comm (c / 2), ← Nat.xor_assoc]
      have ex := bits_xor_32 (n / 2) poly hn2 poly_lt32
      rw [show ((poly : Nat) : Int) = 3988292384 from rfl] at ex
      refine Ev.step (fun k => ?_) (ih (j + 1) (n / 2 ^^^ poly) (c / 2) r hj9 (xor_lt32 hn2 poly_lt32) hc2 (by rw [iter, hb] at h; exact h))
      simp only [armoireref01_Of.l1]
      rw [if_pos hj8, if_pos ((odd_sum n c).2 ho), e1, e2, e3, ex]
    · have hb : bstep (n ^^^ c) = (n / 2) ^^^ (c / 2) := by
        unfold bstep
        rw [if_neg ho, div2_xor, Nat.xor_zero]
      refine Ev.step (fun k => ?_) (ih (j + 1) (n / 2) (c / 2) r hj9 hn2 hc2 (by rw [iter, hb] at h; exact h))
      simp only [armoireref01_Of.l1]
      rw [if_pos hj8, if_neg (fun h => ho ((odd_sum n c).1 h)), e1, e2, e3]
theorem ref_l0 (s : ByteArray) (hs : s.size ≤ 140737488351232) (d : Nat) : ∀ i n : Nat, i + d = s.size → n < 4294967296 →
    Ev (fun k => armoireref01_Of.l0 k s (n : Int) (i : Int)) ((4294967295 ^^^ run n (s.data.toList.drop i) : Nat) : Int) := by
  induction d with
  | zero =>
    intro i n hi hn
    refine Ev.step (f := fun _ => some ((4294967295 ^^^ n : Nat) : Int)) (fun k => ?_) ?_
    · simp only [armoireref01_Of.l0]
      rw [if_neg (by omega), xor_ff n hn]
      congr 1
      omega
    · rw [List.drop_eq_nil_of_le (by simp; omega)]
      exact Ev.now _
  | succ d ih =>
    intro i n hi hn
    have h1 := ih (i + 1) (byteStep n (s.data.toList.getD i 0).toNat) (by omega) (iter_lt 8 _ (Nat.xor_lt_two_pow hn (Nat.lt_trans (UInt8.toNat_lt _) (by decide))))
    have e : run n (s.data.toList.drop i) = run (byteStep n (s.data.toList.getD i 0).toNat) (s.data.toList.drop (i + 1)) := by
      rw [drop_cons _ _ (by simp; omega)]
      rfl
    rw [e]
    have hb : (((s.data.toList.getD i 0).toNat : Int)) % 4294967296 = ((s.data.toList.getD i 0).toNat : Int) := by
      have := UInt8.toNat_lt (s.data.toList.getD i 0); omega
    refine Ev.step (fun k => ?_) (ref_l1 s i 8 0 n (s.data.toList.getD i 0).toNat _ (by omega) hn (UInt8.toNat_lt _) (by rw [wrap_in _ (by omega) (by omega)]; exact h1))
    simp only [armoireref01_Of.l0]
    rw [if_pos (by omega), if_pos (by omega), bt_get s i (by omega), hb]
    rfl
theorem ref_f (s : ByteArray) (hs : s.size ≤ 140737488351232) : Ev (fun k => armoireref01_Of.f k s) ((sum s.data.toList : Nat) : Int) := by
  have h := ref_l0 s hs s.size 0 4294967295 (by omega) (by decide)
  rw [List.drop_zero] at h
  exact h
end Go.Proofs.Ytkkkmbgflflcnaa.PA

namespace Go.Proofs.Ytkkkmbgflflcnaa.PA
open Go.RowKit Go.Proofs.YtkkkmbgflflcnaaW.PrintWords Go.Proofs.YtkkkmbgflflcnaaW.PrintLast Go.Proofs.YtkkkmbgflflcnaaW.PrintMore Go.Proofs.Ytkkkmbgflflcnaa CrcM
theorem rcB_f (n : Nat) (hn : n < 4294967296) : armoireref01_Bytes.f (n : Int) = some ⟨(cB n).toArray⟩ := by
  unfold armoireref01_Bytes.f
  refine congrArg some (bytes_ext ?_)
  rw [strOfNums_data]
  simp only [List.map_cons, List.map_nil, cB]
  have h0 : (0 : Int) ≤ (n : Int) := by omega
  rw [Int.tmod_eq_emod_of_nonneg h0, Int.tdiv_eq_ediv_of_nonneg h0, Int.tdiv_eq_ediv_of_nonneg h0, Int.tdiv_eq_ediv_of_nonneg h0]
  rw [show ((n : Int) % 256 % 256).toNat = n % 256 by omega, show ((n : Int) / 256 % 4294967296 % 256).toNat = n / 256 % 256 by omega, show ((n : Int) / 65536 % 4294967296 % 256).toNat = n / 65536 % 256 by omega, show ((n : Int) / 16777216 % 4294967296 % 256).toNat = n / 16777216 % 256 by omega]
theorem rsum_f (s : ByteArray) (hs : s.size ≤ 1000000) : Ev (fun k => armoireref01_Of.f k s) ((sm s : Nat) : Int) := ref_f s (by omega)
theorem rseal_f (x : ByteArray) (hx : x.size ≤ 1000000) : Ev (fun k => (armoireref01_Of.f k x).bind fun t => (armoireref01_Bytes.f t).bind fun u => if u.size + x.size ≤ 9223372036854775807 then some (u ++ x) else none) (sealB x) := by
  have c3 : (⟨(cB (sm x)).toArray⟩ : ByteArray).size + x.size ≤ 9223372036854775807 := by rw [ba_mk_size, cB_length]; omega
  have e : (⟨(cB (sm x)).toArray⟩ : ByteArray) ++ x = sealB x := bytes_ext (by rw [ba_append]; rfl)
  refine Ev.bind (rsum_f x hx) ?_
  simp only [rcB_f _ (sm_lt x), Option.bind_some, if_pos c3, e]
  exact Ev.now _
end Go.Proofs.Ytkkkmbgflflcnaa.PA

namespace Go.Proofs.Ytkkkmbgflflcnaa.PA
set_option linter.unusedSimpArgs false
open Go.RowKit Go.Proofs.YtkkkmbgflflcnaaW.PrintWords Go.Proofs.YtkkkmbgflflcnaaW.PrintLast Go.Proofs.YtkkkmbgflflcnaaW.PrintMore Go.Proofs.Ytkkkmbgflflcnaa Go.Proofs.Ytkkkmbgflflcnaa.PL CrcM
theorem rk2 (x : Bool) (q : Q) : Ev (fun k => armoireref24_Check.j2 k x q.1 q.2.1 q.2.2.1 q.2.2.2.1 q.2.2.2.2.1 q.2.2.2.2.2.1 q.2.2.2.2.2.2) (if x = true then 4 else if q.1 = 2 then chk q.2.2.2.1 q.2.2.2.2.1 q.2.2.2.2.2.1 q.2.2.2.2.2.2 else 0) := by
  refine Ev.step (fun k => by simp only [armoireref24_Check.j2]; rfl) ?_
  cases x with
  | true => simp only [if_true]; exact Ev.now _
  | false =>
    simp only [Bool.false_eq_true, if_false]
    by_cases c : q.1 = 2
    · simp only [if_pos c]
      exact Ev.bind (f := fun _ t => some t) (rcheck_f _ _ _ _) (Ev.now _)
    · simp only [if_neg c]; exact Ev.now _
theorem rk1 (x : Bool) (q : Q) : Ev (fun k => armoireref24_Check.j1 k x q.1 q.2.1 q.2.2.1 q.2.2.2.1 q.2.2.2.2.1 q.2.2.2.2.2.1 q.2.2.2.2.2.2) (if x = true then 2 else if q.2.2.1.size > 16 then 3 else if q.2.1 < 0 ∨ q.2.1 > 1099511627776 then 4 else if q.1 = 2 then chk q.2.2.2.1 q.2.2.2.2.1 q.2.2.2.2.2.1 q.2.2.2.2.2.2 else 0) := by
  refine Ev.step (fun k => by simp only [armoireref24_Check.j1]; rfl) ?_
  cases x with
  | true => simp only [if_true]; exact Ev.now _
  | false =>
    simp only [Bool.false_eq_true, if_false]
    by_cases c : q.2.2.1.size > 16
    · have c' : (q.2.2.1.size : Int) > 16 := by omega
      simp only [if_pos c, if_pos c']; exact Ev.now _
    · have c' : ¬ (q.2.2.1.size : Int) > 16 := by omega
      simp only [if_neg c, if_neg c']
      by_cases c1 : q.2.1 < 0
      · have h := rk2 true q
        simp only [if_true] at h
        simp only [if_pos c1, c1, true_or, if_true]; exact h
      · by_cases c2 : q.2.1 > 1099511627776
        · have h := rk2 true q
          simp only [if_true] at h
          simp only [if_neg c1, c1, false_or, if_pos c2, decide_eq_true c2]; exact h
        · have h := rk2 false q
          simp only [Bool.false_eq_true, if_false] at h
          simp only [if_neg c1, c1, false_or, if_neg c2, decide_eq_false c2]; exact h
def tlQ (q : Q) : Int := if q.2.2.1.size > 16 then 3 else if q.2.1 < 0 ∨ q.2.1 > 1099511627776 then 4 else if q.1 = 2 then chk q.2.2.2.1 q.2.2.2.2.1 q.2.2.2.2.2.1 q.2.2.2.2.2.2 else 0
theorem rk_t (q : Q) : Ev (fun k => armoireref24_Check.j1 k true q.1 q.2.1 q.2.2.1 q.2.2.2.1 q.2.2.2.2.1 q.2.2.2.2.2.1 q.2.2.2.2.2.2) 2 := by
  have h := rk1 true q
  rwa [if_pos rfl] at h
theorem rk_n (q : Q) : Ev (fun k => armoireref24_Check.j1 k false q.1 q.2.1 q.2.2.1 q.2.2.2.1 q.2.2.2.2.1 q.2.2.2.2.2.1 q.2.2.2.2.2.2) (tlQ q) := by
  have h := rk1 false q
  rw [if_neg (by decide)] at h
  exact h
theorem rk_k (q : Q) : Ev (fun k => if q.1 = 4 then armoireref24_Check.j1 k false q.1 q.2.1 q.2.2.1 q.2.2.2.1 q.2.2.2.2.1 q.2.2.2.2.2.1 q.2.2.2.2.2.2 else if q.1 = 7 then armoireref24_Check.j1 k false q.1 q.2.1 q.2.2.1 q.2.2.2.1 q.2.2.2.2.1 q.2.2.2.2.2.1 q.2.2.2.2.2.2 else armoireref24_Check.j1 k (q.2.1 != 0) q.1 q.2.1 q.2.2.1 q.2.2.2.1 q.2.2.2.2.1 q.2.2.2.2.2.1 q.2.2.2.2.2.2) (if (¬ q.1 = 4 ∧ ¬ q.1 = 7 ∧ ¬ q.2.1 = 0) then 2 else tlQ q) := by
  by_cases c4 : q.1 = 4
  · rw [if_neg (fun h : (¬ q.1 = 4 ∧ ¬ q.1 = 7 ∧ ¬ q.2.1 = 0) => h.1 c4)]
    simp only [if_pos c4]
    exact rk_n q
  by_cases c7 : q.1 = 7
  · rw [if_neg (fun h : (¬ q.1 = 4 ∧ ¬ q.1 = 7 ∧ ¬ q.2.1 = 0) => h.2.1 c7)]
    simp only [if_neg c4, if_pos c7]
    exact rk_n q
  by_cases c0 : q.2.1 = 0
  · rw [if_neg (fun h : (¬ q.1 = 4 ∧ ¬ q.1 = 7 ∧ ¬ q.2.1 = 0) => h.2.2 c0)]
    have e : (q.2.1 != 0) = false := bne_eq_false_iff_eq.mpr c0
    simp only [if_neg c4, if_neg c7, e]
    exact rk_n q
  · rw [if_pos (⟨c4, c7, c0⟩ : (¬ q.1 = 4 ∧ ¬ q.1 = 7 ∧ ¬ q.2.1 = 0))]
    have e : (q.2.1 != 0) = true := bne_iff_ne.mpr c0
    simp only [if_neg c4, if_neg c7, e]
    exact rk_t q
theorem rreqCheck_f (q : Q) : Ev (fun k => armoireref24_Check.f k q.1 q.2.1 q.2.2.1 q.2.2.2.1 q.2.2.2.2.1 q.2.2.2.2.2.1 q.2.2.2.2.2.2) (chkQ q) := by
  by_cases c1 : q.1 < 1 ∨ 7 < q.1
  · have h6 : chkQ q = 6 := by unfold chkQ; rw [if_pos c1]
    rw [h6]
    unfold armoireref24_Check.f
    have h : Ev (fun k => armoireref24_Check.j0 k true q.1 q.2.1 q.2.2.1 q.2.2.2.1 q.2.2.2.2.1 q.2.2.2.2.2.1 q.2.2.2.2.2.2) 6 := by
      refine Ev.step (f := fun _ => some 6) (fun k => by simp only [armoireref24_Check.j0, if_true]) (Ev.now _)
    by_cases c2 : q.1 < 1
    · simp only [if_pos c2]; exact h
    · simp only [if_neg c2, decide_eq_true (show q.1 > 7 by omega)]; exact h
  · have c2 : ¬ q.1 < 1 := fun h => c1 (.inl h)
    have hk := rk_k q
    have hv : chkQ q = if (¬ q.1 = 2 ∧ (¬ q.2.2.1.toList = [] ∨ ¬ q.2.2.2.1 = 0 ∨ ¬ q.2.2.2.2.1.toList = [] ∨ ¬ q.2.2.2.2.2.1.toList = [] ∨ ¬ q.2.2.2.2.2.2 = 0)) ∨ (¬ q.1 = 4 ∧ ¬ q.1 = 7 ∧ ¬ q.2.1 = 0) then 2 else tlQ q := by unfold chkQ; rw [if_neg c1]; rfl
    rw [hv]
    unfold armoireref24_Check.f
    simp only [if_neg c2, decide_eq_false (show ¬ q.1 > 7 by omega)]
    refine Ev.step (fun k => by simp only [armoireref24_Check.j0, Bool.false_eq_true, if_false]; rfl) ?_
    have same : ¬ (¬ q.1 = 2 ∧ (¬ q.2.2.1.toList = [] ∨ ¬ q.2.2.2.1 = 0 ∨ ¬ q.2.2.2.2.1.toList = [] ∨ ¬ q.2.2.2.2.2.1.toList = [] ∨ ¬ q.2.2.2.2.2.2 = 0)) → Ev (fun k => if q.1 = 4 then armoireref24_Check.j1 k false q.1 q.2.1 q.2.2.1 q.2.2.2.1 q.2.2.2.2.1 q.2.2.2.2.2.1 q.2.2.2.2.2.2 else if q.1 = 7 then armoireref24_Check.j1 k false q.1 q.2.1 q.2.2.1 q.2.2.2.1 q.2.2.2.2.1 q.2.2.2.2.2.1 q.2.2.2.2.2.2 else armoireref24_Check.j1 k (q.2.1 != 0) q.1 q.2.1 q.2.2.1 q.2.2.2.1 q.2.2.2.2.1 q.2.2.2.2.2.1 q.2.2.2.2.2.2) (if (¬ q.1 = 2 ∧ (¬ q.2.2.1.toList = [] ∨ ¬ q.2.2.2.1 = 0 ∨ ¬ q.2.2.2.2.1.toList = [] ∨ ¬ q.2.2.2.2.2.1.toList = [] ∨ ¬ q.2.2.2.2.2.2 = 0)) ∨ (¬ q.1 = 4 ∧ ¬ q.1 = 7 ∧ ¬ q.2.1 = 0) then 2 else tlQ q) := by
      intro hno
      by_cases hK : (¬ q.1 = 4 ∧ ¬ q.1 = 7 ∧ ¬ q.2.1 = 0)
      · rw [if_pos hK] at hk; rw [if_pos (Or.inr hK)]; exact hk
      · rw [if_neg hK] at hk; rw [if_neg (fun h => h.elim hno hK)]; exact hk
    by_cases k2 : q.1 = 2
    · simp only [if_pos k2]
      exact same (fun h => h.1 k2)
    · simp only [if_neg k2]
      by_cases e1 : q.2.2.1.toList = []
      · simp only [if_pos e1]
        by_cases e2 : (!(q.2.2.2.1 == 0) || (!(q.2.2.2.2.1.toList == ([] : List UInt8)) || (!(q.2.2.2.2.2.1.toList == ([] : List UInt8)) || (!(q.2.2.2.2.2.2 == 0))))) = true
        · have e3 : ¬ q.2.2.2.1 = 0 ∨ ¬ q.2.2.2.2.1.toList = [] ∨ ¬ q.2.2.2.2.2.1.toList = [] ∨ ¬ q.2.2.2.2.2.2 = 0 := by
            simpa [Bool.or_eq_true, Bool.not_eq_true', beq_eq_false_iff_ne] using e2
          rw [if_pos (Or.inl ⟨k2, Or.inr e3⟩)]
          simp only [if_pos e2]
          exact rk_t q
        · have e3 : ¬ (¬ q.2.2.2.1 = 0 ∨ ¬ q.2.2.2.2.1.toList = [] ∨ ¬ q.2.2.2.2.2.1.toList = [] ∨ ¬ q.2.2.2.2.2.2 = 0) := by
            intro h; exact e2 (by simpa [Bool.or_eq_true, Bool.not_eq_true', beq_eq_false_iff_ne] using h)
          simp only [if_neg e2]
          exact same (fun h => h.2.elim (fun x => x e1) e3)
      · rw [if_pos (Or.inl ⟨k2, Or.inl e1⟩)]
        simp only [if_neg e1]
        exact rk_t q
theorem told_f (q : Q) : armoirelaw24_Told.f q.1 q.2.1 q.2.2.1 q.2.2.2.1 q.2.2.2.2.1 q.2.2.2.2.2.1 q.2.2.2.2.2.2 = some q := rfl
theorem rtextC_f (op : Int) (a b : ByteArray) (n : Int) (ho : op < 9223372036854775808) (ha : a.size ≤ 1000) (hb : b.size ≤ 1000) (h0 : -9223372036854775808 ≤ n) (h1 : n < 9223372036854775808) :
    Ev (fun k => armoireref12_Text.f k op a b n) ⟨(callB op a b n).toArray⟩ := by
  have l1 : (numB op.toNat).length ≤ 9 := numB_length _ (by omega)
  have l2 := strB_length a (by omega)
  have l3 := strB_length b (by omega)
  have l4 : (numB (zig n)).length ≤ 9 := numB_length _ (zig_lt n h0 h1)
  have c1 : (⟨(numB op.toNat).toArray⟩ : ByteArray).size + (⟨(strB a).toArray⟩ : ByteArray).size ≤ 9223372036854775807 := by rw [ba_mk_size, ba_mk_size]; omega
  have c2 : (⟨(numB op.toNat ++ strB a).toArray⟩ : ByteArray).size + (⟨(strB b).toArray⟩ : ByteArray).size ≤ 9223372036854775807 := by rw [ba_mk_size, ba_mk_size, List.length_append]; omega
  have c3 : (⟨(numB op.toNat ++ strB a ++ strB b).toArray⟩ : ByteArray).size + (⟨(numB (zig n)).toArray⟩ : ByteArray).size ≤ 9223372036854775807 := by rw [ba_mk_size, ba_mk_size, List.length_append, List.length_append]; omega
  unfold armoireref12_Text.f callB
  refine Ev.bind (rwN_f op ho) ?_
  refine Ev.bind (rwS_f a (by omega)) ?_
  simp only [if_pos c1, ba_mk_append]
  refine Ev.bind (rwS_f b (by omega)) ?_
  simp only [if_pos c2, ba_mk_append]
  refine Ev.bind (rwI_f n h0 h1) ?_
  simp only [if_pos c3, ba_mk_append]
  exact Ev.now _
theorem rt1t (l : List UInt8) (hl : l.length ≤ 100000) (kind nn : Int) (hn : nn < 9223372036854775808) (obj : ByteArray) (op : Int) (a b : ByteArray) (n : Int) : Ev (fun k => armoireref24_Text.j1 k ⟨l.toArray⟩ true kind nn obj op a b n) (sealB ⟨(l ++ numB nn.toNat).toArray⟩) := by
  have l1 : (numB nn.toNat).length ≤ 9 := numB_length _ (by omega)
  refine Ev.step (fun k => by simp only [armoireref24_Text.j1, if_true]; rfl) ?_
  refine Ev.bind (rwN_f nn hn) ?_
  have s1 : (⟨l.toArray⟩ : ByteArray).size + (⟨(numB nn.toNat).toArray⟩ : ByteArray).size ≤ 9223372036854775807 := by rw [ba_mk_size, ba_mk_size]; omega
  simp only [if_pos s1, ba_mk_append]
  exact rseal_f _ (by rw [ba_mk_size, List.length_append]; omega)
theorem rt1f (l : List UInt8) (hl : l.length ≤ 100000) (kind nn : Int) (obj : ByteArray) (op : Int) (a b : ByteArray) (n : Int) : Ev (fun k => armoireref24_Text.j1 k ⟨l.toArray⟩ false kind nn obj op a b n) (sealB ⟨l.toArray⟩) :=
  Ev.step (fun k => by simp only [armoireref24_Text.j1, Bool.false_eq_true, if_false]) (rseal_f _ (by rw [ba_mk_size]; omega))
theorem rt0 (l : List UInt8) (hl : l.length ≤ 100000) (kind nn : Int) (hn : nn < 9223372036854775808) (obj : ByteArray) (op : Int) (a b : ByteArray) (n : Int) : Ev (fun k => armoireref24_Text.j0 k ⟨l.toArray⟩ kind nn obj op a b n) (sealB ⟨(l ++ (if kind = 4 ∨ kind = 7 then numB nn.toNat else [])).toArray⟩) := by
  refine Ev.step (fun k => by simp only [armoireref24_Text.j0]; rfl) ?_
  by_cases c4 : kind = 4
  · rw [if_pos (Or.inl c4)]
    simp only [if_pos c4]
    exact rt1t l hl kind nn hn obj op a b n
  simp only [if_neg c4]
  by_cases c7 : kind = 7
  · rw [if_pos (Or.inr c7), beq_iff_eq.mpr c7]
    exact rt1t l hl kind nn hn obj op a b n
  · rw [if_neg (fun h => h.elim c4 c7), beq_eq_false_iff_ne.mpr c7, List.append_nil]
    exact rt1f l hl kind nn obj op a b n
theorem rreqText_f (q : Q) (h : FitQ q) : Ev (fun k => armoireref24_Text.f k q.1 q.2.1 q.2.2.1 q.2.2.2.1 q.2.2.2.2.1 q.2.2.2.2.2.1 q.2.2.2.2.2.2) (sealB ⟨(bodyQ q).toArray⟩) := by
  obtain ⟨h1, h2, h3, h4, h5, h6, h7, h8⟩ := h
  obtain ⟨kind, nn, obj, op, a, b, n⟩ := q
  dsimp only at *
  have l1 : (numB kind.toNat).length ≤ 9 := numB_length _ (by omega)
  have l3 := strB_length obj (by omega)
  have l4 := callB_length op a b n h4 h5 h6 h7 h8
  unfold armoireref24_Text.f bodyQ
  dsimp only
  refine Ev.bind (rwN_f kind h1) ?_
  by_cases c2 : kind = 2
  · rw [if_pos c2]
    simp only [if_pos c2]
    refine Ev.bind (rwS_f obj (by omega)) ?_
    refine Ev.bind (rtextC_f op a b n h4 h5 h6 h7 h8) ?_
    have s1 : (⟨(strB obj).toArray⟩ : ByteArray).size + (⟨(callB op a b n).toArray⟩ : ByteArray).size ≤ 9223372036854775807 := by rw [ba_mk_size, ba_mk_size]; omega
    have s2 : (⟨(numB kind.toNat).toArray⟩ : ByteArray).size + (⟨(strB obj ++ callB op a b n).toArray⟩ : ByteArray).size ≤ 9223372036854775807 := by rw [ba_mk_size, ba_mk_size, List.length_append]; omega
    simp only [ba_mk_append, if_pos s1, if_pos s2]
    have hr := rt0 (numB kind.toNat ++ (strB obj ++ callB op a b n)) (by rw [List.length_append, List.length_append]; omega) kind nn h2 obj op a b n
    rw [if_neg (by omega), List.append_nil, ← List.append_assoc] at hr
    rw [← List.append_assoc]
    exact hr
  · rw [if_neg c2]
    simp only [if_neg c2]
    have hr := rt0 (numB kind.toNat) (by omega) kind nn h2 obj op a b n
    by_cases c4 : kind = 4 ∨ kind = 7
    · rw [if_pos c4] at hr ⊢; exact hr
    · rw [if_neg c4, List.append_nil] at hr; rw [if_neg c4]; exact hr
end Go.Proofs.Ytkkkmbgflflcnaa.PA

