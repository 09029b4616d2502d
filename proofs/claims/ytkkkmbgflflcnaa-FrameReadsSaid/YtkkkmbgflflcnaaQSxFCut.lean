import Derived.Test.YtkkkmbgflflcnaaQSxFFr
import Derived.Test.YtkkkmbgflflcnaaQSxPSx10
import Derived.Test.YtkkkmbgflflcnaaQSxPSx8
import Derived.Test.YtkkkmbgflflcnaaQSxFCB
import Derived.Test.YtkkkmbgflflcnaaQSxPSx6
namespace Go.Proofs.Ytkkkmbgflflcnaa.PS
set_option linter.unusedSimpArgs false
open Go.RowKit Go.Proofs.YtkkkmbgflflcnaaW.PrintWords Go.Proofs.YtkkkmbgflflcnaaW.PrintLast Go.Proofs.YtkkkmbgflflcnaaW.PrintMore Go.Proofs.Ytkkkmbgflflcnaa Go.Proofs.Ytkkkmbgflflcnaa.PL CrcM
theorem rC_back (op : Int) (a b : ByteArray) (n : Int) (hc : chk op a b n = 0) (h0 : -9223372036854775808 ≤ n) (h1 : n < 9223372036854775808) :
    rC ⟨(numB op.toNat ++ strB a ++ strB b ++ numB (zig n)).toArray⟩ 0 = (op, a, b, n, ⟨#[]⟩, 0) := by
  have ho : 1 ≤ op ∧ op ≤ 17 := by
    by_cases c : op < 1 ∨ 17 < op
    · unfold chk at hc; rw [if_pos c] at hc; exact absurd hc (by decide)
    · omega
  have hab : a.size ≤ 24 ∧ b.size ≤ 24 := by
    by_cases c : a.size > 24 ∨ b.size > 24
    · unfold chk at hc; rw [if_neg (by omega)] at hc
      split at hc <;> first | exact absurd hc (by decide) | (rw [if_pos c] at hc; exact absurd hc (by decide))
    · omega
  have e1 := tN_num op.toNat 17 (by omega) (by decide) (strB a ++ (strB b ++ (numB (zig n) ++ [])))
  have e2 := tS_str a 24 (by omega) (by decide) (strB b ++ (numB (zig n) ++ []))
  have e3 := tS_str b 24 (by omega) (by decide) (numB (zig n) ++ [])
  have e4 := tI_num n h0 h1 []
  rw [show ((op.toNat : Nat) : Int) = op by omega] at e1
  unfold rC
  rw [show numB op.toNat ++ strB a ++ strB b ++ numB (zig n) = numB op.toNat ++ (strB a ++ (strB b ++ (numB (zig n) ++ []))) by simp only [List.append_assoc, List.append_nil]]
  rw [e1]
  dsimp only
  rw [e2]
  dsimp only
  rw [e3]
  dsimp only
  rw [e4]
  dsimp only
  rw [if_pos ⟨rfl, hc⟩]
theorem nil_of {s : ByteArray} (h : s.toList = []) : s = ⟨#[]⟩ := bytes_ext (by rw [ba_toList] at h; rw [h])
theorem chkQ_ok (q : Q) (h : chkQ q = 0) : 1 ≤ q.1 ∧ q.1 ≤ 7 ∧ (q.1 = 2 ∨ (q.2.2.1 = ⟨#[]⟩ ∧ q.2.2.2.1 = 0 ∧ q.2.2.2.2.1 = ⟨#[]⟩ ∧ q.2.2.2.2.2.1 = ⟨#[]⟩ ∧ q.2.2.2.2.2.2 = 0)) ∧ (q.1 = 4 ∨ q.1 = 7 ∨ q.2.1 = 0) ∧ q.2.2.1.size ≤ 16 ∧ 0 ≤ q.2.1 ∧ q.2.1 ≤ 1099511627776 ∧ (q.1 = 2 → chk q.2.2.2.1 q.2.2.2.2.1 q.2.2.2.2.2.1 q.2.2.2.2.2.2 = 0) := by
  unfold chkQ at h
  by_cases c1 : q.1 < 1 ∨ 7 < q.1
  · rw [if_pos c1] at h; exact absurd h (by decide)
  rw [if_neg c1] at h
  by_cases c2 : (¬ q.1 = 2 ∧ (¬ q.2.2.1.toList = [] ∨ ¬ q.2.2.2.1 = 0 ∨ ¬ q.2.2.2.2.1.toList = [] ∨ ¬ q.2.2.2.2.2.1.toList = [] ∨ ¬ q.2.2.2.2.2.2 = 0)) ∨ (¬ q.1 = 4 ∧ ¬ q.1 = 7 ∧ ¬ q.2.1 = 0)
  · rw [if_pos c2] at h; exact absurd h (by decide)
  rw [if_neg c2] at h
  by_cases c3 : q.2.2.1.size > 16
  · rw [if_pos c3] at h; exact absurd h (by decide)
  rw [if_neg c3] at h
  by_cases c4 : q.2.1 < 0 ∨ q.2.1 > 1099511627776
  · rw [if_pos c4] at h; exact absurd h (by decide)
  rw [if_neg c4] at h
  refine ⟨by omega, by omega, ?_, by omega, by omega, by omega, by omega, fun h2 => by rwa [if_pos h2] at h⟩
  by_cases c5 : q.1 = 2
  · exact .inl c5
  · right
    have c6 := fun x => c2 (.inl ⟨c5, x⟩)
    refine ⟨nil_of (Classical.byContradiction fun x => c6 (.inl x)), Classical.byContradiction fun x => c6 (.inr (.inl x)), nil_of (Classical.byContradiction fun x => c6 (.inr (.inr (.inl x)))), nil_of (Classical.byContradiction fun x => c6 (.inr (.inr (.inr (.inl x))))), Classical.byContradiction fun x => c6 (.inr (.inr (.inr (.inr x))))⟩
theorem en_empty : (en ⟨#[]⟩ 0).2 = 0 := rfl
theorem pQ_back (q : Q) (hf : FitQ q) (h : chkQ q = 0) : pQ (sealB ⟨(bodyQ q).toArray⟩) = (q, 0) := by
  obtain ⟨h1, h7, hc, hN, ho, n0, n1, hcall⟩ := chkQ_ok q h
  obtain ⟨f1, f2, f3, f4, f5, f6, f7, f8⟩ := hf
  obtain ⟨kind, nn, obj, op, a, b, n⟩ := q
  dsimp only at *
  unfold pQ
  rw [op4_seal]
  rw [if_neg (by simp)]
  dsimp only
  have hk0 : ¬ kind = 0 := by omega
  have ek : ((kind.toNat : Nat) : Int) = kind := by omega
  have en0 : ((nn.toNat : Nat) : Int) = nn := by omega
  by_cases c2 : kind = 2
  · have hN0 : nn = 0 := by omega
    have hb : bodyQ (kind, nn, obj, op, a, b, n) = numB kind.toNat ++ (strB obj ++ callB op a b n) := by
      unfold bodyQ; rw [if_pos c2, List.append_assoc]
    have e1 := tN_num kind.toNat 7 (by omega) (by decide) (strB obj ++ callB op a b n)
    have e2 := tS_str obj 16 (by omega) (by decide) (callB op a b n)
    have e3 := rC_back op a b n (hcall c2) f7 f8
    rw [ek] at e1
    rw [hb, e1]
    dsimp only
    rw [if_neg hk0, if_pos c2, e2]
    dsimp only
    rw [show numB op.toNat ++ strB a ++ strB b ++ numB (zig n) = callB op a b n from rfl] at e3
    rw [e3]
    dsimp only
    rw [if_pos en_empty, hN0]
  · obtain ⟨o1, o2, o3, o4, o5⟩ := hc.resolve_left c2
    subst o1 o2 o3 o4 o5
    by_cases c4 : kind = 4 ∨ kind = 7
    · have hb : bodyQ (kind, nn, ⟨#[]⟩, 0, ⟨#[]⟩, ⟨#[]⟩, 0) = numB kind.toNat ++ (numB nn.toNat ++ []) := by
        unfold bodyQ; rw [if_neg c2, if_pos c4, List.append_nil]
      have e1 := tN_num kind.toNat 7 (by omega) (by decide) (numB nn.toNat ++ [])
      have e2 := tN_num nn.toNat 1099511627776 (by omega) (by decide) []
      rw [ek] at e1
      rw [en0] at e2
      rw [hb, e1]
      dsimp only
      rw [if_neg hk0, if_neg c2, if_pos c4, e2]
      dsimp only
      rw [if_pos en_empty]
    · have hN0 : nn = 0 := by omega
      have hb : bodyQ (kind, nn, ⟨#[]⟩, 0, ⟨#[]⟩, ⟨#[]⟩, 0) = numB kind.toNat ++ [] := by
        unfold bodyQ; rw [if_neg c2, if_neg c4, List.append_nil]
      have e1 := tN_num kind.toNat 7 (by omega) (by decide) []
      rw [ek] at e1
      rw [hb, e1]
      dsimp only
      rw [if_neg hk0, if_neg c2, if_neg c4]
      dsimp only
      rw [if_pos en_empty, hN0]
theorem rq3 (x : Bool) (q : Q) : Ev (fun k => frame_Request_Check.j3 k x q.1 q.2.1 q.2.2.1 q.2.2.2.1 q.2.2.2.2.1 q.2.2.2.2.2.1 q.2.2.2.2.2.2) (if x = true then 4 else if q.1 = 2 then chk q.2.2.2.1 q.2.2.2.2.1 q.2.2.2.2.2.1 q.2.2.2.2.2.2 else 0) := by
  refine Ev.step (fun k => by simp only [frame_Request_Check.j3]; rfl) ?_
  cases x with
  | true => simp only [if_true]; exact Ev.now _
  | false =>
    simp only [Bool.false_eq_true, if_false]
    by_cases c : q.1 = 2
    · simp only [if_pos c]
      exact Ev.bind (f := fun _ t => some t) (check_f _ _ _ _) (Ev.now _)
    · simp only [if_neg c]; exact Ev.now _
theorem rq2 (x : Bool) (q : Q) : Ev (fun k => frame_Request_Check.j2 k x q.1 q.2.1 q.2.2.1 q.2.2.2.1 q.2.2.2.2.1 q.2.2.2.2.2.1 q.2.2.2.2.2.2) (if x = true then 2 else if q.2.2.1.size > 16 then 3 else if q.2.1 < 0 ∨ q.2.1 > 1099511627776 then 4 else if q.1 = 2 then chk q.2.2.2.1 q.2.2.2.2.1 q.2.2.2.2.2.1 q.2.2.2.2.2.2 else 0) := by
  refine Ev.step (fun k => by simp only [frame_Request_Check.j2]; rfl) ?_
  cases x with
  | true => simp only [if_true]; exact Ev.now _
  | false =>
    simp only [Bool.false_eq_true, if_false]
    by_cases c : q.2.2.1.size > 16
    · have c' : (q.2.2.1.size : Int) > 16 := by omega
      simp only [if_pos c, if_pos c']; exact Ev.now _
    · have c' : ¬ (q.2.2.1.size : Int) > 16 := by omega
      simp only [if_neg c, if_neg c']
      by_cases c1 : q.2.1 < 0
      · have h := rq3 true q
        simp only [if_true] at h
        simp only [if_pos c1, c1, true_or, if_true]; exact h
      · by_cases c2 : q.2.1 > 1099511627776
        · have h := rq3 true q
          simp only [if_true] at h
          simp only [if_neg c1, c1, false_or, if_pos c2, decide_eq_true c2]; exact h
        · have h := rq3 false q
          simp only [Bool.false_eq_true, if_false] at h
          simp only [if_neg c1, c1, false_or, if_neg c2, decide_eq_false c2]; exact h
theorem rq1 (x : Bool) (q : Q) : Ev (fun k => frame_Request_Check.j1 k x q.1 q.2.1 q.2.2.1 q.2.2.2.1 q.2.2.2.2.1 q.2.2.2.2.2.1 q.2.2.2.2.2.2) (if x = true ∨ (¬ q.1 = 4 ∧ ¬ q.1 = 7 ∧ ¬ q.2.1 = 0) then 2 else if q.2.2.1.size > 16 then 3 else if q.2.1 < 0 ∨ q.2.1 > 1099511627776 then 4 else if q.1 = 2 then chk q.2.2.2.1 q.2.2.2.2.1 q.2.2.2.2.2.1 q.2.2.2.2.2.2 else 0) := by
  refine Ev.step (fun k => by simp only [frame_Request_Check.j1]; rfl) ?_
  have ht := rq2 true q
  have hf := rq2 false q
  simp only [if_true] at ht
  simp only [Bool.false_eq_true, if_false] at hf
  cases x with
  | true => simp only [if_true, true_or]; exact ht
  | false =>
    simp only [Bool.false_eq_true, if_false, false_or]
    by_cases c4 : q.1 = 4
    · simp only [if_pos c4, c4, not_true, false_and, if_false] at hf ⊢
      exact hf
    · by_cases c7 : q.1 = 7
      · simp only [if_neg c4, if_pos c7, c7, not_true, false_and, and_false, if_false] at hf ⊢
        exact hf
      · by_cases c0 : q.2.1 = 0
        · simp only [if_neg c4, if_neg c7, c0, not_true, and_false, if_false, bne_self_eq_false] at hf ⊢
          exact hf
        · have e : (q.2.1 != 0) = true := bne_iff_ne.mpr c0
          simp only [if_neg c4, if_neg c7, e, c4, c7, c0, not_false_iff, and_self, if_true]
          exact ht
theorem reqCheck_f (q : Q) : Ev (fun k => frame_Request_Check.f k q.1 q.2.1 q.2.2.1 q.2.2.2.1 q.2.2.2.2.1 q.2.2.2.2.2.1 q.2.2.2.2.2.2) (chkQ q) := by
  have ht := rq1 true q
  have hf := rq1 false q
  simp only [true_or, if_true] at ht
  simp only [Bool.false_eq_true, false_or] at hf
  by_cases c1 : q.1 < 1 ∨ 7 < q.1
  · have h6 : chkQ q = 6 := by unfold chkQ; rw [if_pos c1]
    rw [h6]
    unfold frame_Request_Check.f
    have h : Ev (fun k => frame_Request_Check.j0 k true q.1 q.2.1 q.2.2.1 q.2.2.2.1 q.2.2.2.2.1 q.2.2.2.2.2.1 q.2.2.2.2.2.2) 6 := by
      refine Ev.step (f := fun _ => some 6) (fun k => by simp only [frame_Request_Check.j0, if_true]) (Ev.now _)
    by_cases c2 : q.1 < 1
    · simp only [if_pos c2]; exact h
    · simp only [if_neg c2, decide_eq_true (show q.1 > 7 by omega)]; exact h
  · have c2 : ¬ q.1 < 1 := fun h => c1 (.inl h)
    unfold frame_Request_Check.f chkQ
    simp only [if_neg c1, if_neg c2, decide_eq_false (show ¬ q.1 > 7 by omega)]
    refine Ev.step (fun k => by simp only [frame_Request_Check.j0, Bool.false_eq_true, if_false]; rfl) ?_
    by_cases k2 : q.1 = 2
    · simp only [if_pos k2, k2, not_true, false_and, false_or] at hf ⊢
      exact hf
    · simp only [if_neg k2, k2, not_false_iff, true_and] at hf ht ⊢
      by_cases e1 : q.2.2.1.toList = []
      · by_cases e2 : (!(q.2.2.2.1 == 0) || (!(q.2.2.2.2.1.toList == ([] : List UInt8)) || (!(q.2.2.2.2.2.1.toList == ([] : List UInt8)) || (!(q.2.2.2.2.2.2 == 0))))) = true
        · have e3 : ¬ q.2.2.2.1 = 0 ∨ ¬ q.2.2.2.2.1.toList = [] ∨ ¬ q.2.2.2.2.2.1.toList = [] ∨ ¬ q.2.2.2.2.2.2 = 0 := by
            simpa [Bool.or_eq_true, Bool.not_eq_true', beq_eq_false_iff_ne] using e2
          simp only [if_pos e1, e2, e1, not_true, false_or, e3, true_or, if_true]
          exact ht
        · have e2' : (!(q.2.2.2.1 == 0) || (!(q.2.2.2.2.1.toList == ([] : List UInt8)) || (!(q.2.2.2.2.2.1.toList == ([] : List UInt8)) || (!(q.2.2.2.2.2.2 == 0))))) = false := by simpa using e2
          have e3 : ¬ (¬ q.2.2.2.1 = 0 ∨ ¬ q.2.2.2.2.1.toList = [] ∨ ¬ q.2.2.2.2.2.1.toList = [] ∨ ¬ q.2.2.2.2.2.2 = 0) := by
            intro h; exact e2 (by simpa [Bool.or_eq_true, Bool.not_eq_true', beq_eq_false_iff_ne] using h)
          simp only [if_pos e1, e2', e1, not_true, false_or, e3] at hf ⊢
          exact hf
      · simp only [if_neg e1, e1, not_false_iff, true_or, if_true]
        exact ht
theorem awake_true : Ev (fun k => armoirelaw24_awake.f k) true := by
  have hf : FitQ ((1, 0, ⟨#[]⟩, 0, ⟨#[]⟩, ⟨#[]⟩, 0) : Q) := by refine ⟨?_, ?_, ?_, ?_, ?_, ?_, ?_, ?_⟩ <;> decide
  have e0 : ((⟨#[]⟩ : ByteArray).toList) = [] := ba_toList _
  have hc : chkQ ((1, 0, ⟨#[]⟩, 0, ⟨#[]⟩, ⟨#[]⟩, 0) : Q) = 0 := by
    unfold chkQ
    dsimp only
    rw [if_neg (by decide), if_neg (by simp [e0]), if_neg (by decide), if_neg (by decide), if_neg (by decide)]
  have ht := reqText_f (1, 0, ⟨#[]⟩, 0, ⟨#[]⟩, ⟨#[]⟩, 0) hf
  have hb : bodyQ ((1, 0, ⟨#[]⟩, 0, ⟨#[]⟩, ⟨#[]⟩, 0) : Q) = [1, 1] := by
    unfold bodyQ
    dsimp only
    rw [if_neg (by decide), if_neg (by decide)]
    simp [numB, nlen, digs, dig]
  have hp := pQ_back (1, 0, ⟨#[]⟩, 0, ⟨#[]⟩, ⟨#[]⟩, 0) hf hc
  rw [hb] at ht hp
  have hz : (sealB ⟨[1, 1].toArray⟩).size = 6 := by rw [sealB_size]; rfl
  have hz' : ((sealB ⟨[1, 1].toArray⟩).size : Int) = 6 := by omega
  have c4 : (4 : Int) ≤ ((sealB ⟨[1, 1].toArray⟩).size : Int) := by omega
  have hx : ((sealB ⟨[1, 1].toArray⟩).extract 4 (sealB ⟨[1, 1].toArray⟩).size).toList = [1, 1] := by rw [sealB_tail, ba_toList]
  have hpf := parse_f (sealB ⟨[1, 1].toArray⟩) (by omega)
  rw [hp] at hpf
  unfold armoirelaw24_awake.f
  refine Ev.bind ht ?_
  refine Ev.bind hpf ?_
  simp only [flat8, if_pos hz', if_pos c4, hx, if_true]
  refine Ev.bind (reqCheck_f (0, 0, ⟨#[]⟩, 0, ⟨#[]⟩, ⟨#[]⟩, 0)) ?_
  rw [show chkQ ((0, 0, ⟨#[]⟩, 0, ⟨#[]⟩, ⟨#[]⟩, 0) : Q) = 6 from by unfold chkQ; rw [if_pos (by decide)]]
  refine Ev.step (f := fun _ => some true) (fun k => by simp only [armoirelaw24_awake.j0]; rfl) (Ev.now _)
end Go.Proofs.Ytkkkmbgflflcnaa.PS

namespace Go.Proofs.Ytkkkmbgflflcnaa.PS
set_option linter.unusedSimpArgs false
open Go.RowKit Go.Proofs.YtkkkmbgflflcnaaW.PrintWords Go.Proofs.YtkkkmbgflflcnaaW.PrintLast Go.Proofs.YtkkkmbgflflcnaaW.PrintMore Go.Proofs.Ytkkkmbgflflcnaa
theorem cut_f (s : ByteArray) (n : Nat) : armoirelaw01_Cut.f s (n : Int) = some (s.extract 0 (min n s.size)) := by
  unfold armoirelaw01_Cut.f
  by_cases h : (s.size : Int) > n
  · rw [if_pos h, if_pos (by omega), if_pos (by omega), show min n s.size = n by omega]
    rfl
  · rw [if_neg h, show min n s.size = s.size by omega]
    simp
theorem cut_size (s : ByteArray) (n : Nat) : (s.extract 0 (min n s.size)).size ≤ n := by
  rw [ba_size, ba_extract, List.length_take]; omega
end Go.Proofs.Ytkkkmbgflflcnaa.PS

