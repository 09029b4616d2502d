import Derived.Test.YtkoojbkkkpljoaaQOpsMCodecMath
import Derived.Test.YtkoojbkkkpljoaaQOpsPAx0
import Derived.Test.YtkoojbkkkpljoaaQOpsPAx6
import Derived.Test.YtkoojbkkkpljoaaQOpsFO
import Derived.Test.YtkoojbkkkpljoaaQOpsPAx9
import Derived.Test.YtkoojbkkkpljoaaQOpsPAx5
import Derived.Test.YtkoojbkkkpljoaaQOpsPAx7
namespace Go.Proofs.Ytkoojbkkkpljoaa.PA
set_option linter.unusedSimpArgs false
open Go.RowKit Go.Proofs.YtkoojbkkkpljoaaW.PrintWords Go.Proofs.YtkoojbkkkpljoaaW.PrintLast Go.Proofs.YtkoojbkkkpljoaaW.PrintMore Go.Proofs.Ytkoojbkkkpljoaa Go.Proofs.Ytkoojbkkkpljoaa.PL
def hasA (op : Int) : Bool := op == 2 || (decide (8 ≤ op) && decide (op ≤ 14)) || op == 16
def hasN (op : Int) : Bool := op == 3 || op == 5 || op == 6
def chk (op : Int) (a b : ByteArray) (n : Int) : Int :=
  if op < 1 ∨ 17 < op then 6
  else if (hasA op = false ∧ ¬ a.toList = []) ∨ (¬ op = 11 ∧ ¬ b.toList = []) ∨ (hasN op = false ∧ ¬ n = 0) then 2
  else if a.size > 24 ∨ b.size > 24 then 3
  else if (op = 5 ∨ op = 6) ∧ (n < 1 ∨ n > 1048576) then 4 else 0
theorem ops17 (op : Int) (h0 : 1 ≤ op) (h1 : op ≤ 17) : op = 1 ∨ op = 2 ∨ op = 3 ∨ op = 4 ∨ op = 5 ∨ op = 6 ∨ op = 7 ∨ op = 8 ∨ op = 9 ∨ op = 10 ∨ op = 11 ∨ op = 12 ∨ op = 13 ∨ op = 14 ∨ op = 15 ∨ op = 16 ∨ op = 17 := by omega
theorem shape_f (op : Int) (h0 : 1 ≤ op) (h1 : op ≤ 17) : ∃ kd w, ¬ kd = 0 ∧ method_Op_shape.f op = some (kd, w, hasA op, op == 11, hasN op) := by
  have h : (method_Op_shape.f op).map (fun r => (r.1 != 0, r.2.2)) = some (true, hasA op, op == 11, hasN op) := by
    rcases ops17 op h0 h1 with rfl | rfl | rfl | rfl | rfl | rfl | rfl | rfl | rfl | rfl | rfl | rfl | rfl | rfl | rfl | rfl | rfl <;> decide +kernel
  obtain ⟨⟨kd, w, x⟩, hx, he⟩ := Option.map_eq_some_iff.1 h
  simp only [Prod.mk.injEq, bne_iff_ne] at he
  exact ⟨kd, w, he.1, by rw [hx, he.2]⟩
theorem shape_out (op : Int) (h : op < 1 ∨ 17 < op) : method_Op_shape.f op = some (0, ⟨#[]⟩, false, false, false) := by
  unfold method_Op_shape.f
  by_cases c : op < 1
  · rw [if_pos c]
  · rw [if_neg c, if_pos (by omega)]
theorem j2_tail (k : Nat) (op : Int) (a b : ByteArray) (n : Int) (hh : 1 ≤ op ∧ op ≤ 17) (c2 : ¬ ((hasA op = false ∧ ¬ a.toList = []) ∨ (¬ op = 11 ∧ ¬ b.toList = []) ∨ (hasN op = false ∧ ¬ n = 0))) :
    method_Call_Check.j1 (k + 2) false op a b n = some (chk op a b n) ∧ armoireref12_Check.j1 (k + 2) false op a b n = some (chk op a b n) := by
  unfold chk
  rw [if_neg (by omega), if_neg c2]
  simp only [method_Call_Check.j1, method_Call_Check.j2, armoireref12_Check.j1, armoireref12_Check.j2]
  by_cases ha : a.size > 24
  · have ha' : (a.size : Int) > 24 := by omega
    simp [ha, ha']
  · have ha' : ¬ (a.size : Int) > 24 := by omega
    by_cases hb : b.size > 24
    · have hb' : (b.size : Int) > 24 := by omega
      simp [ha, ha', hb, hb']
    · have hb' : ¬ (b.size : Int) > 24 := by omega
      by_cases h5 : op = 5 <;> by_cases h6 : op = 6 <;> by_cases h7 : n < 1 <;> by_cases h8 : n > 1048576 <;> simp [ha, ha', hb, hb', h5, h6, h7, h8] <;> omega
theorem j1_true (k : Nat) (op : Int) (a b : ByteArray) (n : Int) : method_Call_Check.j1 (k + 2) true op a b n = some 2 ∧ armoireref12_Check.j1 (k + 2) true op a b n = some 2 := by
  simp [method_Call_Check.j1, armoireref12_Check.j1]
theorem check_k (k : Nat) (op : Int) (a b : ByteArray) (n : Int) : method_Call_Check.f (k + 3) op a b n = some (chk op a b n) := by
  by_cases ho : op < 1 ∨ 17 < op
  · unfold method_Call_Check.f chk
    rw [shape_out op ho, if_pos ho]
    rfl
  · have hh : 1 ≤ op ∧ op ≤ 17 := by omega
    obtain ⟨kd, w, hk, hs⟩ := shape_f op hh.1 hh.2
    unfold method_Call_Check.f
    rw [hs, Option.bind_some]
    dsimp only
    rw [if_neg hk]
    have h2 : ((hasA op = false ∧ ¬ a.toList = []) ∨ (¬ op = 11 ∧ ¬ b.toList = []) ∨ (hasN op = false ∧ ¬ n = 0)) → chk op a b n = 2 := by
      intro c; unfold chk; rw [if_neg ho, if_pos c]
    have h1 := (j1_true k op a b n).1
    have h3 := fun c => (j2_tail k op a b n hh c).1
    cases hA : hasA op <;> cases hN : hasN op <;> by_cases h11 : op = 11 <;> by_cases ha : a.toList = [] <;> by_cases hb : b.toList = [] <;> by_cases hn : n = 0 <;>
      ((first | have qn : (n != 0) = true := bne_iff_ne.mpr hn | have qn : (n != 0) = false := bne_eq_false_iff_eq.mpr hn)
       (first | have qa : (a.toList != []) = true := bne_iff_ne.mpr ha | have qa : (a.toList != []) = false := bne_eq_false_iff_eq.mpr ha)
       (first | have qb : (b.toList != []) = true := bne_iff_ne.mpr hb | have qb : (b.toList != []) = false := bne_eq_false_iff_eq.mpr hb)
       simp only [method_Call_Check.j0, qn, qa, qb]
       simp_all)
theorem check_f (op : Int) (a b : ByteArray) (n : Int) : Ev (fun k => method_Call_Check.f k op a b n) (chk op a b n) :=
  ⟨3, fun k hk => by obtain ⟨m, rfl⟩ : ∃ m, k = m + 3 := ⟨k - 3, by omega⟩
                     exact check_k m op a b n⟩
end Go.Proofs.Ytkoojbkkkpljoaa.PA

