import Derived.Test.YtkoojbkkkpljoaaQReaFA
import Derived.Test.YtkoojbkkkpljoaaQReaFO
import Derived.Test.YtkoojbkkkpljoaaQReaPAx10
import Derived.Test.YtkoojbkkkpljoaaQReaPAx12
import Derived.Test.YtkoojbkkkpljoaaQReaPAx13
import Derived.Test.YtkoojbkkkpljoaaQReaPAx19
import Derived.Test.YtkoojbkkkpljoaaQReaPAx20
import Derived.Test.YtkoojbkkkpljoaaQReaPAx5
import Derived.Test.YtkoojbkkkpljoaaQReaPAx6
import Derived.Test.YtkoojbkkkpljoaaQReaPAx7
import Derived.Test.YtkoojbkkkpljoaaQReaPAx9
namespace Go.Proofs.Ytkoojbkkkpljoaa.PA
set_option linter.unusedSimpArgs false
open Go.RowKit Go.Proofs.YtkoojbkkkpljoaaW.PrintWords Go.Proofs.YtkoojbkkkpljoaaW.PrintLast Go.Proofs.YtkoojbkkkpljoaaW.PrintMore Go.Proofs.Ytkoojbkkkpljoaa Go.Proofs.Ytkoojbkkkpljoaa.PL
def hasA (op : Int) : Bool := op == 2 || (decide (8 ≤ op) && decide (op ≤ 14)) || op == 16
def hasN (op : Int) : Bool := op == 3 || op == 5 || op == 6
def chk (op : Int) (a b : ByteArray) (n : Int) : Int :=
  if op < 1 ∨ 17 < op then 6
  else if (hasA op = false ∧ ¬ a.toList = []) ∨ (¬ op = 11 ∧ ¬ b.toList = []) ∨ (hasN op = false ∧ ¬ n = 0) then 2
  else if a.size > 24 ∨ b.size > 24 then 3
  else if (op = 5 ∨ op = 6) ∧ (n < 1 ∨ n > 1048576) then 4 else 0
theorem ops17 (op : Int) (h0 : 1 ≤ op) (h1 : op ≤ 17) : op = 1 ∨ op = 2 ∨ op = 3 ∨ op = 4 ∨ op = 5 ∨ op = 6 ∨ op = 7 ∨ op = 8 ∨ op = 9 ∨ op = 10 ∨ op = 11 ∨ op = 12 ∨ op = 13 ∨ op = 14 ∨ op = 15 ∨ op = 16 ∨ op = 17 := by omega
theorem shape_f (op : Int) (h0 : 1 ≤ op) (h1 : op ≤ 17) : ∃ kd w, ¬ kd = 0 ∧ method_Op_shape.f op = some (kd, w, hasA op, op == 11, hasN op) := by
  have h : (method_Op_shape.f op).map (fun r => (r.1 != 0, r.2.2)) = some (true, hasA op, op == 11, hasN op) := by
    rcases ops17 op h0 h1 with rfl | rfl | rfl | rfl | rfl | rfl | rfl | rfl | rfl | rfl | rfl | rfl | rfl | rfl | rfl | rfl | rfl <;> decide +kernel
  obtain ⟨⟨kd, w, x⟩, hx, he⟩ := Option.map_eq_some_iff.1 h
  simp only [Prod.mk.injEq, bne_iff_ne] at he
  exact ⟨kd, w, he.1, by rw [hx, he.2]⟩
theorem shape_out (op : Int) (h : op < 1 ∨ 17 < op) : method_Op_shape.f op = some (0, ⟨#[]⟩, false, false, false) := by
  unfold method_Op_shape.f
  by_cases c : op < 1
  · rw [if_pos c]
  · rw [if_neg c, if_pos (by omega)]
theorem j2_tail (k : Nat) (op : Int) (a b : ByteArray) (n : Int) (hh : 1 ≤ op ∧ op ≤ 17) (c2 : ¬ ((hasA op = false ∧ ¬ a.toList = []) ∨ (¬ op = 11 ∧ ¬ b.toList = []) ∨ (hasN op = false ∧ ¬ n = 0))) :
    method_Call_Check.j1 (k + 2) false op a b n = some (chk op a b n) ∧ armoireref12_Check.j1 (k + 2) false op a b n = some (chk op a b n) := by
  unfold chk
  rw [if_neg (by omega), if_neg c2]
  simp only [method_Call_Check.j1, method_Call_Check.j2, armoireref12_Check.j1, armoireref12_Check.j2]
  by_cases ha : a.size > 24
  · have ha' : (a.size : Int) > 24 := by omega
    simp [ha, ha']
  · have ha' : ¬ (a.size : Int) > 24 := by omega
    by_cases hb : b.size > 24
    · have hb' : (b.size : Int) > 24 := by omega
      simp [ha, ha', hb, hb']
    · have hb' : ¬ (b.size : Int) > 24 := by omega
      by_cases h5 : op = 5 <;> by_cases h6 : op = 6 <;> by_cases h7 : n < 1 <;> by_cases h8 : n > 1048576 <;> simp [ha, ha', hb, hb', h5, h6, h7, h8] <;> omega
theorem j1_true (k : Nat) (op : Int) (a b : ByteArray) (n : Int) : method_Call_Check.j1 (k + 2) true op a b n = some 2 ∧ armoireref12_Check.j1 (k + 2) true op a b n = some 2 := by
  simp [method_Call_Check.j1, armoireref12_Check.j1]
theorem check_k (k : Nat) (op : Int) (a b : ByteArray) (n : Int) : method_Call_Check.f (k + 3) op a b n = some (chk op a b n) := by
  by_cases ho : op < 1 ∨ 17 < op
  · unfold method_Call_Check.f chk
    rw [shape_out op ho, if_pos ho]
    rfl
  · have hh : 1 ≤ op ∧ op ≤ 17 := by omega
    obtain ⟨kd, w, hk, hs⟩ := shape_f op hh.1 hh.2
    unfold method_Call_Check.f
    rw [hs, Option.bind_some]
    dsimp only
    rw [if_neg hk]
    have h2 : ((hasA op = false ∧ ¬ a.toList = []) ∨ (¬ op = 11 ∧ ¬ b.toList = []) ∨ (hasN op = false ∧ ¬ n = 0)) → chk op a b n = 2 := by
      intro c; unfold chk; rw [if_neg ho, if_pos c]
    have h1 := (j1_true k op a b n).1
    have h3 := fun c => (j2_tail k op a b n hh c).1
    cases hA : hasA op <;> cases hN : hasN op <;> by_cases h11 : op = 11 <;> by_cases ha : a.toList = [] <;> by_cases hb : b.toList = [] <;> by_cases hn : n = 0 <;>
      ((first | have qn : (n != 0) = true := bne_iff_ne.mpr hn | have qn : (n != 0) = false := bne_eq_false_iff_eq.mpr hn)
       (first | have qa : (a.toList != []) = true := bne_iff_ne.mpr ha | have qa : (a.toList != []) = false := bne_eq_false_iff_eq.mpr ha)
       (first | have qb : (b.toList != []) = true := bne_iff_ne.mpr hb | have qb : (b.toList != []) = false := bne_eq_false_iff_eq.mpr hb)
       simp only [method_Call_Check.j0, qn, qa, qb]
       simp_all)
theorem hasA_f (op : Int) : armoireref12_HasA.f op = some (hasA op) := by
  unfold armoireref12_HasA.f hasA
  by_cases h2 : op = 2
  · simp [h2]
  · by_cases h8 : op ≥ 8
    · by_cases h14 : op ≤ 14
      · simp [h2, h8, h14]
      · simp [h2, h8, h14]
    · simp [h2, h8]
theorem hasN_f (op : Int) : armoireref12_HasN.f op = some (hasN op) := by
  unfold armoireref12_HasN.f hasN
  by_cases h3 : op = 3
  · simp [h3]
  · by_cases h5 : op = 5
    · simp [h5]
    · simp [h3, h5]
theorem rcheck_k (k : Nat) (op : Int) (a b : ByteArray) (n : Int) : armoireref12_Check.f (k + 3) op a b n = some (chk op a b n) := by
  by_cases ho : op < 1 ∨ 17 < op
  · unfold armoireref12_Check.f chk
    rw [if_pos ho]
    by_cases c : op < 1
    · rw [if_pos c]
      simp [armoireref12_Check.j0]
    · rw [if_neg c, decide_eq_true (by omega)]
      simp [armoireref12_Check.j0]
  · have hh : 1 ≤ op ∧ op ≤ 17 := by omega
    unfold armoireref12_Check.f
    rw [if_neg (by omega), decide_eq_false (by omega)]
    have h2 : ((hasA op = false ∧ ¬ a.toList = []) ∨ (¬ op = 11 ∧ ¬ b.toList = []) ∨ (hasN op = false ∧ ¬ n = 0)) → chk op a b n = 2 := by
      intro c; unfold chk; rw [if_neg ho, if_pos c]
    have h1 := (j1_true k op a b n).2
    have h3 := fun c => (j2_tail k op a b n hh c).2
    cases hA : hasA op <;> cases hN : hasN op <;> by_cases h11 : op = 11 <;> by_cases ha : a.toList = [] <;> by_cases hb : b.toList = [] <;> by_cases hn : n = 0 <;>
      ((first | have qn : (n != 0) = true := bne_iff_ne.mpr hn | have qn : (n != 0) = false := bne_eq_false_iff_eq.mpr hn)
       (first | have qa : (a.toList != []) = true := bne_iff_ne.mpr ha | have qa : (a.toList != []) = false := bne_eq_false_iff_eq.mpr ha)
       (first | have qb : (b.toList != []) = true := bne_iff_ne.mpr hb | have qb : (b.toList != []) = false := bne_eq_false_iff_eq.mpr hb)
       simp only [armoireref12_Check.j0, hasA_f, hasN_f, Option.bind_some, qn, qa, qb]
       simp_all)
theorem check_f (op : Int) (a b : ByteArray) (n : Int) : Ev (fun k => method_Call_Check.f k op a b n) (chk op a b n) :=
  ⟨3, fun k hk => by obtain ⟨m, rfl⟩ : ∃ m, k = m + 3 := ⟨k - 3, by omega⟩
                     exact check_k m op a b n⟩
theorem rcheck_f (op : Int) (a b : ByteArray) (n : Int) : Ev (fun k => armoireref12_Check.f k op a b n) (chk op a b n) :=
  ⟨3, fun k hk => by obtain ⟨m, rfl⟩ : ∃ m, k = m + 3 := ⟨k - 3, by omega⟩
                     exact rcheck_k m op a b n⟩
def chkR (c : Int) (t : ByteArray) (n : Int) : Int :=
  if ¬ c = 1 ∧ ¬ c = 2 then 6 else if t.size > 24 then 3 else if ¬ t.toList = [] ∧ ¬ n = 0 then 2 else 0
theorem checkR_k (k : Nat) (c : Int) (t : ByteArray) (n : Int) : method_Result_Check.f (k + 1) c t n = some (chkR c t n) ∧ armoireref12_CheckResult.f (k + 1) c t n = some (chkR c t n) := by
  unfold method_Result_Check.f armoireref12_CheckResult.f chkR
  simp only [method_Result_Check.j0, armoireref12_CheckResult.j0]
  have e : (t.size > 24) = ((t.size : Int) > 24) := propext (by omega)
  simp only [e]
  by_cases h1 : c = 1 <;> by_cases h2 : c = 2 <;> by_cases h3 : (t.size : Int) > 24 <;> by_cases h4 : t.toList = [] <;> by_cases h5 : n = 0 <;>
    ((first | have q2 : (c != 2) = true := bne_iff_ne.mpr h2 | have q2 : (c != 2) = false := bne_eq_false_iff_eq.mpr h2)
     simp only [q2, h1, h2, h3, h4, h5, if_true, if_false, and_true, and_self, not_true, not_false_iff, and_false, false_and, Bool.false_eq_true]
     try simp_all)
theorem checkR_f (c : Int) (t : ByteArray) (n : Int) : Ev (fun k => method_Result_Check.f k c t n) (chkR c t n) :=
  ⟨1, fun k hk => by obtain ⟨m, rfl⟩ : ∃ m, k = m + 1 := ⟨k - 1, by omega⟩
                     exact (checkR_k m c t n).1⟩
theorem rcheckR_f (c : Int) (t : ByteArray) (n : Int) : Ev (fun k => armoireref12_CheckResult.f k c t n) (chkR c t n) :=
  ⟨1, fun k hk => by obtain ⟨m, rfl⟩ : ∃ m, k = m + 1 := ⟨k - 1, by omega⟩
                     exact (checkR_k m c t n).2⟩
def rC (s : ByteArray) (e : Int) : Int × ByteArray × ByteArray × Int × ByteArray × Int :=
  let x1 := tN s e 17
  let x2 := tS x1.2.1 x1.2.2 24
  let x3 := tS x2.2.1 x2.2.2 24
  let x4 := tI x3.2.1 x3.2.2
  if x4.2.2 = 0 ∧ chk x1.1 x2.1 x3.1 x4.1 = 0 then (x1.1, x2.1, x3.1, x4.1, x4.2.1, 0) else (0, ⟨#[]⟩, ⟨#[]⟩, 0, fl x4.2.1 x4.2.2 (chk x1.1 x2.1 x3.1 x4.1))
theorem fl_no (s : ByteArray) (e x : Int) (h : ¬ e = 0) : fl s e x = (s, e) := by unfold fl; rw [if_neg h]
theorem fl_yes (s : ByteArray) (x : Int) (h : ¬ x = 0) : fl s 0 x = (⟨#[]⟩, x) := by unfold fl; rw [if_pos rfl, if_neg h]
theorem fl_zero (s : ByteArray) : fl s 0 0 = (s, 0) := by unfold fl; rw [if_pos rfl, if_pos rfl]
theorem rC_f (s : ByteArray) (e : Int) (hv : Val s e) : Ev (fun k => method_ReadCall.f k s e) (rC s e) := by
  have h1 := tN_f s e 17 hv
  have v1 := hv.tN 17
  have h2 := tS_f _ _ 24 v1 (by decide)
  have v2 := v1.tS 24
  have h3 := tS_f _ _ 24 v2 (by decide)
  have v3 := v2.tS 24
  have h4 := tI_f _ _ v3
  unfold method_ReadCall.f rC
  simp only [h1, Option.bind_some, h2, h3, h4, codec_In_Err.f]
  generalize tN s e 17 = x1
  generalize tS x1.2.1 x1.2.2 24 = x2
  generalize tS x2.2.1 x2.2.2 24 = x3
  generalize tI x3.2.1 x3.2.2 = x4
  obtain ⟨n, s4, e4⟩ := x4
  dsimp only
  by_cases c : e4 = 0
  · subst c
    simp only [if_true]
    refine Ev.bind (check_f _ _ _ _) ?_
    by_cases c2 : chk x1.1 x2.1 x3.1 n = 0
    · rw [c2]
      simp only [fl_f, fl_zero, Option.bind_some, if_true, and_self]
      exact Ev.now _
    · simp only [fl_f, fl_yes _ _ c2, Option.bind_some, if_neg c2, c2, and_false, if_false]
      exact Ev.now _
  · simp only [if_neg c, c, false_and, if_false, fl_no _ _ _ c]
    exact Ev.now _
theorem rrC_f (s : ByteArray) (e : Int) (hv : Val s e) : Ev (fun k => armoireref12_Read.f k s e) ((rC s e).2.2.2.2.1, (rC s e).2.2.2.2.2, (rC s e).1, (rC s e).2.1, (rC s e).2.2.1, (rC s e).2.2.2.1) := by
  have v1 := hv.tN 17
  have v2 := v1.tS 24
  have v3 := v2.tS 24
  unfold armoireref12_Read.f
  refine Ev.bind (rN_f s e 17 hv) ?_
  refine Ev.bind (rS_f _ _ 24 v1 (by decide)) ?_
  refine Ev.bind (rS_f _ _ 24 v2 (by decide)) ?_
  refine Ev.bind (rI_f _ _ v3) ?_
  unfold rC
  dsimp only
  generalize tN s e 17 = x1
  generalize tS x1.2.1 x1.2.2 24 = x2
  generalize tS x2.2.1 x2.2.2 24 = x3
  generalize tI x3.2.1 x3.2.2 = x4
  obtain ⟨n, s4, e4⟩ := x4
  dsimp only
  by_cases c : e4 = 0
  · subst c
    simp only [if_true]
    refine Ev.bind (rcheck_f _ _ _ _) ?_
    by_cases c2 : chk x1.1 x2.1 x3.1 n = 0
    · rw [c2]
      simp only [rfl_f, fl_zero, Option.bind_some, if_true, and_self]
      exact Ev.now _
    · simp only [rfl_f, fl_yes _ _ c2, Option.bind_some, if_neg c2, c2, and_false, if_false]
      exact Ev.now _
  · simp only [if_neg c, c, false_and, if_false, fl_no _ _ _ c]
    exact Ev.now _
def rR (s : ByteArray) (e : Int) : Int × ByteArray × Int × ByteArray × Int :=
  let x1 := tN s e 2
  let x2 := tS x1.2.1 x1.2.2 24
  let x4 := tI x2.2.1 x2.2.2
  if x4.2.2 = 0 ∧ chkR x1.1 x2.1 x4.1 = 0 then (x1.1, x2.1, x4.1, x4.2.1, 0) else (0, ⟨#[]⟩, 0, fl x4.2.1 x4.2.2 (chkR x1.1 x2.1 x4.1))
theorem rR_f (s : ByteArray) (e : Int) (hv : Val s e) : Ev (fun k => method_ReadResult.f k s e) (rR s e) := by
  have h1 := tN_f s e 2 hv
  have v1 := hv.tN 2
  have h2 := tS_f _ _ 24 v1 (by decide)
  have v2 := v1.tS 24
  have h4 := tI_f _ _ v2
  unfold method_ReadResult.f rR
  simp only [h1, Option.bind_some, h2, h4, codec_In_Err.f]
  generalize tN s e 2 = x1
  generalize tS x1.2.1 x1.2.2 24 = x2
  generalize tI x2.2.1 x2.2.2 = x4
  obtain ⟨n, s4, e4⟩ := x4
  dsimp only
  by_cases c : e4 = 0
  · subst c
    simp only [if_true]
    refine Ev.bind (checkR_f _ _ _) ?_
    by_cases c2 : chkR x1.1 x2.1 n = 0
    · rw [c2]
      simp only [fl_f, fl_zero, Option.bind_some, if_true, and_self]
      exact Ev.now _
    · simp only [fl_f, fl_yes _ _ c2, Option.bind_some, if_neg c2, c2, and_false, if_false]
      exact Ev.now _
  · simp only [if_neg c, c, false_and, if_false, fl_no _ _ _ c]
    exact Ev.now _
theorem rrR_f (s : ByteArray) (e : Int) (hv : Val s e) : Ev (fun k => armoireref12_ReadResult.f k s e) ((rR s e).2.2.2.1, (rR s e).2.2.2.2, (rR s e).1, (rR s e).2.1, (rR s e).2.2.1) := by
  have v1 := hv.tN 2
  have v2 := v1.tS 24
  unfold armoireref12_ReadResult.f
  refine Ev.bind (rN_f s e 2 hv) ?_
  refine Ev.bind (rS_f _ _ 24 v1 (by decide)) ?_
  refine Ev.bind (rI_f _ _ v2) ?_
  unfold rR
  dsimp only
  generalize tN s e 2 = x1
  generalize tS x1.2.1 x1.2.2 24 = x2
  generalize tI x2.2.1 x2.2.2 = x4
  obtain ⟨n, s4, e4⟩ := x4
  dsimp only
  by_cases c : e4 = 0
  · subst c
    simp only [if_true]
    refine Ev.bind (rcheckR_f _ _ _) ?_
    by_cases c2 : chkR x1.1 x2.1 n = 0
    · rw [c2]
      simp only [rfl_f, fl_zero, Option.bind_some, if_true, and_self]
      exact Ev.now _
    · simp only [rfl_f, fl_yes _ _ c2, Option.bind_some, if_neg c2, c2, and_false, if_false]
      exact Ev.now _
  · simp only [if_neg c, c, false_and, if_false, fl_no _ _ _ c]
    exact Ev.now _
end Go.Proofs.Ytkoojbkkkpljoaa.PA

