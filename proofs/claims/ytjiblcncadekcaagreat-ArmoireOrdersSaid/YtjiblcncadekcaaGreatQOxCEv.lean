import Derived.Test.YtjiblcncadekcaaGreatQOxCWk
import Derived.Test.YtjiblcncadekcaaGreatQOxPAx11
import Derived.Test.YtjiblcncadekcaaGreatQOxPAx12
import Derived.Test.YtjiblcncadekcaaGreatQOxPAx13
namespace Go.Proofs.YtjiblcncadekcaaGreat.PA
set_option linter.unusedSimpArgs false
set_option linter.unusedVariables false
open Go.RowKit Go.Proofs.YtjiblcncadekcaaGreatW.PrintWords Go.Proofs.YtjiblcncadekcaaGreatW.PrintLast Go.Proofs.YtjiblcncadekcaaGreatW.PrintMore Go.Proofs.YtjiblcncadekcaaGreat Go.Proofs.YtjiblcncadekcaaGreat.PL
theorem plain1 (k : Nat) (c : Int) (t : ByteArray) (r v : Int) : commute_plain.f (k + 2) c t r [v] = some (c == v && (t.toList == ([] : List UInt8) && r == 0)) := by
  have h0 : rd [v] 0 = v := rfl
  have hw : wrap64 (0 + 1) = 1 := by unfold wrap64; omega
  show commute_plain.l0 (k + 2) [v] 1 0 c t r = _
  have hl : (([v] : List Int).length : Int) = 1 := rfl
  rw [commute_plain.l0, hl, if_pos (by decide), if_pos (by decide), if_pos (by decide), h0]
  by_cases q : (c == v && (t.toList == ([] : List UInt8) && r == 0)) = true
  · rw [if_pos q, q]
  · rw [if_neg q, hw, commute_plain.l0, if_neg (by decide)]
    rw [Bool.not_eq_true] at q
    rw [q]
theorem plain2 (k : Nat) (c : Int) (t : ByteArray) (r : Int) : commute_plain.f (k + 3) c t r [1, 2] = some ((c == 1 && (t.toList == ([] : List UInt8) && r == 0)) || (c == 2 && (t.toList == ([] : List UInt8) && r == 0))) := by
  have h0 : rd [1, 2] 0 = 1 := rfl
  have h1 : rd [1, 2] 1 = 2 := rfl
  have hw : wrap64 (0 + 1) = 1 := by unfold wrap64; omega
  have hw2 : wrap64 (1 + 1) = 2 := by unfold wrap64; omega
  unfold commute_plain.f
  rw [commute_plain.l0, if_pos (by decide), if_pos (by decide), if_pos (by decide), h0]
  by_cases q : (c == 1 && (t.toList == ([] : List UInt8) && r == 0)) = true
  · rw [if_pos q, q]; rfl
  · rw [if_neg q, hw, commute_plain.l0, if_pos (by decide), if_pos (by decide), if_pos (by decide), h1]
    rw [Bool.not_eq_true] at q
    rw [q, Bool.false_or]
    by_cases q2 : (c == 2 && (t.toList == ([] : List UInt8) && r == 0)) = true
    · rw [if_pos q2, q2]
    · rw [if_neg q2, hw2, commute_plain.l0, if_neg (by decide)]
      rw [Bool.not_eq_true] at q2
      rw [q2]
theorem poss_f (op : Int) (a b : ByteArray) (n code : Int) (text : ByteArray) (rn : Int) : commute_Possible.f 9 op a b n code text rn = some (possR ⟨op, a, b, n, code, text, rn⟩) := by
  have P1 : ∀ v, commute_plain.f 7 code text rn [v] = some (code == v && (text.toList == ([] : List UInt8) && rn == 0)) := fun v => plain1 5 _ _ _ v
  have P8 : ∀ v, commute_plain.f 8 code text rn [v] = some (code == v && (text.toList == ([] : List UInt8) && rn == 0)) := fun v => plain1 6 _ _ _ v
  have P2 : commute_plain.f 7 code text rn [1, 2] = some ((code == 1 && (text.toList == ([] : List UInt8) && rn == 0)) || (code == 2 && (text.toList == ([] : List UInt8) && rn == 0))) := plain2 4 _ _ _
  unfold possR plainR commute_Possible.f
  dsimp only
  by_cases q1 : op = 1
  · rw [if_pos q1, if_pos q1]
    by_cases c1 : code = 1 <;> simp [c1]
  rw [if_neg q1, if_neg q1]
  by_cases q4 : op = 4
  · rw [if_pos q4, if_pos q4]
    by_cases c1 : code = 1 <;> simp [c1]
  rw [if_neg q4, if_neg q4]
  by_cases q7 : op = 7
  · rw [if_pos q7, if_pos q7]
    by_cases c1 : code = 1 <;> by_cases c2 : text.toList = [] <;> simp [c1, c2]
  rw [if_neg q7, if_neg q7]
  have hj : ∀ b, b = true → commute_Possible.j0 9 op b code text rn = some ((code == 1 && rn == 0) || (code == 2 && (text.toList == ([] : List UInt8) && rn == 0))) := fun b hb => by
    rw [commute_Possible.j0, if_pos hb, P8]
    by_cases c1 : code = 1 <;> by_cases c2 : rn = 0 <;> simp [c1, c2]
  by_cases q13 : op = 13
  · rw [if_pos q13, if_pos (.inl q13), hj _ (by rw [q13]; rfl)]
  rw [if_neg q13]
  by_cases q15 : op = 15
  · rw [if_pos q15, if_pos (.inr (.inl q15)), hj _ (by rw [q15]; rfl)]
  rw [if_neg q15]
  by_cases q17 : op = 17
  · rw [if_pos (.inr (.inr q17)), hj _ (by rw [q17]; rfl)]
  rw [if_neg (by omega)]
  have h1 : ∀ b, b = true → commute_Possible.j1 8 b code text rn = some ((code == 1 && (text.toList == ([] : List UInt8) && rn == 0)) || (code == 2 && (text.toList == ([] : List UInt8) && rn == 0))) := fun b hb => by
    rw [commute_Possible.j1, if_pos hb, P2]
    rfl
  rw [commute_Possible.j0, if_neg (by simp [q17])]
  by_cases q6 : op = 6
  · rw [if_pos q6, if_pos (.inl q6), h1 _ (by rw [q6]; rfl)]
  rw [if_neg q6]
  by_cases q8 : op = 8
  · rw [if_pos q8, if_pos (.inr (.inl q8)), h1 _ (by rw [q8]; rfl)]
  rw [if_neg q8]
  by_cases q9 : op = 9
  · rw [if_pos q9, if_pos (.inr (.inr (.inl q9))), h1 _ (by rw [q9]; rfl)]
  rw [if_neg q9]
  by_cases q10 : op = 10
  · rw [if_pos q10, if_pos (.inr (.inr (.inr (.inl q10)))), h1 _ (by rw [q10]; rfl)]
  rw [if_neg q10]
  by_cases q11 : op = 11
  · rw [if_pos q11, if_pos (.inr (.inr (.inr (.inr (.inl q11))))), h1 _ (by rw [q11]; rfl)]
  rw [if_neg q11]
  by_cases q12 : op = 12
  · rw [if_pos (.inr (.inr (.inr (.inr (.inr q12))))), h1 _ (by rw [q12]; rfl)]
  rw [if_neg (by omega), commute_Possible.j1, if_neg (by simp [q12]), P1]
  rfl
section
variable (xop : Int) (xa xb : ByteArray) (xn xcode : Int) (xtext : ByteArray) (xrn : Int) (yop : Int) (ya yb : ByteArray) (yn ycode : Int) (ytext : ByteArray) (yrn : Int)
theorem reg_f : commute_register.f xop xa xb xn xcode xtext xrn yop ya yb yn ycode ytext yrn = some (ruleR 1 ⟨xop, xa, xb, xn, xcode, xtext, xrn⟩ ⟨yop, ya, yb, yn, ycode, ytext, yrn⟩) := by
  unfold commute_register.f ruleR
  dsimp only
  rw [if_pos (show (1 : Int) = 1 from rfl)]
  split
  · rfl
  · split <;> rfl
theorem cnt_f : commute_counter.f xop xa xb xn xcode xtext xrn yop ya yb yn ycode ytext yrn = some (ruleR 2 ⟨xop, xa, xb, xn, xcode, xtext, xrn⟩ ⟨yop, ya, yb, yn, ycode, ytext, yrn⟩) := by
  unfold commute_counter.f ruleR
  dsimp only
  rw [if_neg (show ¬ (2 : Int) = 1 by decide), if_pos (show (2 : Int) = 2 from rfl)]
  by_cases q : xop = 3 <;> by_cases r : yop = 4 <;> simp [q, r] <;> rfl
theorem que_f : commute_queue.f xop xa xb xn xcode xtext xrn yop ya yb yn ycode ytext yrn = some (ruleR 6 ⟨xop, xa, xb, xn, xcode, xtext, xrn⟩ ⟨yop, ya, yb, yn, ycode, ytext, yrn⟩) := by
  unfold commute_queue.f ruleR sameR
  dsimp only
  rw [if_neg (show ¬ (6 : Int) = 1 by decide), if_neg (show ¬ (6 : Int) = 2 by decide), if_neg (show ¬ (6 : Int) = 3 by decide), if_pos (show (6 : Int) = 6 from rfl)]
  by_cases q : xop = 15
  · rw [if_pos q, if_pos q]
    by_cases r : xcode = 1 <;> simp [r]
  · rw [if_neg q, if_neg q]
    split <;> rfl
theorem sem_f : commute_semi.f xop xa xb xn xcode xtext xrn yop ya yb yn ycode ytext yrn = some (ruleR 7 ⟨xop, xa, xb, xn, xcode, xtext, xrn⟩ ⟨yop, ya, yb, yn, ycode, ytext, yrn⟩) := by
  unfold commute_semi.f ruleR sameR
  dsimp only
  rw [if_neg (show ¬ (7 : Int) = 1 by decide), if_neg (show ¬ (7 : Int) = 2 by decide), if_neg (show ¬ (7 : Int) = 3 by decide), if_neg (show ¬ (7 : Int) = 6 by decide), if_pos (show (7 : Int) = 7 from rfl)]
  by_cases q : xop = 17
  · rw [if_pos q, if_pos q]
    by_cases r : xcode = 1 <;> simp [r]
  · rw [if_neg q, if_neg q]
    split <;> rfl
theorem inside_f (op : Int) (a b : ByteArray) (n code : Int) (text : ByteArray) (rn : Int) : commute_inside.f op a b n code text rn = some (insideR ⟨op, a, b, n, code, text, rn⟩) := by
  unfold commute_inside.f insideR
  dsimp only
  by_cases q : op = 8
  · rw [if_pos q, if_pos (.inl q)]
  · rw [if_neg q]
    by_cases r : op = 11
    · rw [if_pos r, if_pos (.inr r)]
    · rw [if_neg r, if_neg (by omega)]
theorem mem_f (kd : Int) (hk : kd = 4 ∨ kd = 5) : commute_member.f 5 xop xa xb xn xcode xtext xrn yop ya yb yn ycode ytext yrn = some (ruleR kd ⟨xop, xa, xb, xn, xcode, xtext, xrn⟩ ⟨yop, ya, yb, yn, ycode, ytext, yrn⟩) := by
  unfold commute_member.f ruleR
  dsimp only
  rw [if_neg (show ¬ kd = 1 by omega), if_neg (show ¬ kd = 2 by omega), if_neg (show ¬ kd = 3 by omega), if_neg (show ¬ kd = 6 by omega), if_neg (show ¬ kd = 7 by omega), inside_f, inside_f, changes_k, changes_k]
  by_cases q : xa.toList = ya.toList
  · rw [if_pos q, Option.bind_some, Option.bind_some, Option.bind_some, Option.bind_some]
    generalize insideR ⟨xop, xa, xb, xn, xcode, xtext, xrn⟩ = i1
    generalize insideR ⟨yop, ya, yb, yn, ycode, ytext, yrn⟩ = i2
    generalize changesR xop xn xcode = b1
    generalize changesR yop yn ycode = b2
    simp only [q, beq_self_eq_true]
    cases i1 <;> cases i2 <;> cases b1 <;> cases b2 <;> rfl
  · rw [if_neg q]
    simp [q]
end
end Go.Proofs.YtjiblcncadekcaaGreat.PA

