import Derived.Test.YtjiblcncadekcaaQAxFVm
import Derived.Test.YtjiblcncadekcaaQAxPAx10
import Derived.Test.YtjiblcncadekcaaQAxPAx11
import Derived.Test.YtjiblcncadekcaaQAxPAx12
import Derived.Test.YtjiblcncadekcaaQAxPAx13
import Derived.Test.YtjiblcncadekcaaQAxPAx14
import Derived.Test.YtjiblcncadekcaaQAxPAx4
import Derived.Test.YtjiblcncadekcaaQAxPAx8
import Derived.Test.YtjiblcncadekcaaQAxPAx9
namespace Go.Proofs.Ytjiblcncadekcaa.PA
set_option linter.unusedSimpArgs false
set_option linter.unusedVariables false
open Go.RowKit Go.Proofs.YtjiblcncadekcaaW.PrintWords Go.Proofs.YtjiblcncadekcaaW.PrintLast Go.Proofs.YtjiblcncadekcaaW.PrintMore Go.Proofs.Ytjiblcncadekcaa Go.Proofs.Ytjiblcncadekcaa.PL
theorem ev_add {α : Type} {g f : Nat → Option α} {r : α} (m : Nat) (h : ∀ k, g (k + m) = f k) (k : Ev f r) : Ev g r := by
  obtain ⟨K, hK⟩ := k
  refine ⟨K + m, fun j hj => ?_⟩
  have := h (j - m)
  rw [Nat.sub_add_cancel (by omega)] at this
  rw [this]
  exact hK _ (by omega)
def CallOk (op : Int) (a b : ByteArray) (cn : Int) : Prop := a.size ≤ 24 ∧ b.size ≤ 24 ∧ (op = 5 ∨ op = 6 → 1 ≤ cn ∧ cn ≤ 1048576)
theorem extract_size (s : ByteArray) : (s.extract 0 (min 24 s.size)).size ≤ 24 := by
  rw [ba_size, ba_extract, List.length_take]
  omega
theorem tidy12_f (c0 : Int) (c1 c2 : ByteArray) (c3 : Int) : ∃ o a b n, Ev (fun k => armoirelaw12_Tidy.f k c0 c1 c2 c3) (o, a, b, n) ∧ CallOk o a b n := by
  obtain ⟨o, ho⟩ : ∃ o, o = wrap64 (1 + (Int.tmod (Go.bits .and .i64 (wrap64 (c0 - 1)) 255) 17)) := ⟨_, rfl⟩
  have hc : ∀ s : ByteArray, armoirelaw01_Cut.f s 24 = some (s.extract 0 (min 24 s.size)) := fun s => cut_k s 24
  have hN : ∀ x, armoireref12_HasN.f x = some (x == 3 || x == 5 || x == 6) := by
    intro x
    unfold armoireref12_HasN.f
    by_cases q3 : x = 3
    · subst q3; rfl
    rw [if_neg q3, show (x == 3) = false from beq_eq_false_iff_ne.2 q3, Bool.false_or]
    by_cases q5 : x = 5
    · subst q5; rfl
    rw [if_neg q5, show (x == 5) = false from beq_eq_false_iff_ne.2 q5, Bool.false_or]
  have hm := i64_mask 20 (by decide) (wrap64 (c3 - 1))
  have h1 : ∀ a b : ByteArray, a.size ≤ 24 → b.size ≤ 24 → ∃ o' a' b' n', Ev (fun k => armoirelaw12_Tidy.j1 k c0 c1 c2 c3 o a b 0) (o', a', b', n') ∧ CallOk o' a' b' n' := by
    intro a b ha hb
    by_cases q : (o == 3 || o == 5 || o == 6) = true
    · by_cases q3 : o > 3
      · refine ⟨o, a, b, wrap64 (1 + (Go.bits .and .i64 (wrap64 (c3 - 1)) 1048575)), Ev.step (f := fun _ => some _) (fun k => by rw [armoirelaw12_Tidy.j1, hN, Option.bind_some, if_pos q, if_pos q3]) (Ev.now _), ha, hb, fun _ => ?_⟩
        have h2 : 0 ≤ Go.bits .and .i64 (wrap64 (c3 - 1)) 1048575 ∧ Go.bits .and .i64 (wrap64 (c3 - 1)) 1048575 < 2 ^ 20 := hm
        generalize Go.bits .and .i64 (wrap64 (c3 - 1)) 1048575 = z at h2 ⊢
        unfold wrap64
        omega
      · refine ⟨o, a, b, c3, Ev.step (f := fun _ => some _) (fun k => by rw [armoirelaw12_Tidy.j1, hN, Option.bind_some, if_pos q, if_neg q3]) (Ev.now _), ha, hb, fun h => by omega⟩
    · refine ⟨o, a, b, 0, Ev.step (f := fun _ => some _) (fun k => by rw [armoirelaw12_Tidy.j1, hN, Option.bind_some, if_neg q]) (Ev.now _), ha, hb, fun h => ?_⟩
      simp at q
      omega
  have h0 : ∀ a : ByteArray, a.size ≤ 24 → ∃ o' a' b' n', Ev (fun k => armoirelaw12_Tidy.j0 k c0 c1 c2 c3 o a ⟨#[]⟩ 0) (o', a', b', n') ∧ CallOk o' a' b' n' := by
    intro a ha
    by_cases q : o = 11
    · obtain ⟨o', a', b', n', e1, e2⟩ := h1 a (c2.extract 0 (min 24 c2.size)) ha (extract_size c2)
      exact ⟨o', a', b', n', Ev.step (fun k => by rw [armoirelaw12_Tidy.j0, if_pos q, hc, Option.bind_some]) e1, e2⟩
    · obtain ⟨o', a', b', n', e1, e2⟩ := h1 a ⟨#[]⟩ ha (by decide)
      exact ⟨o', a', b', n', Ev.step (fun k => by rw [armoirelaw12_Tidy.j0, if_neg q]) e1, e2⟩
  have hA : ∃ x, armoireref12_HasA.f o = some x := by
    unfold armoireref12_HasA.f
    repeat' split
    all_goals exact ⟨_, rfl⟩
  obtain ⟨x, hx⟩ := hA
  cases x with
  | true =>
    obtain ⟨o', a', b', n', e1, e2⟩ := h0 (c1.extract 0 (min 24 c1.size)) (extract_size c1)
    refine ⟨o', a', b', n', Ev.congr (fun k => ?_) e1, e2⟩
    unfold armoirelaw12_Tidy.f
    rw [← ho, hx, Option.bind_some, if_pos rfl, hc, Option.bind_some]
  | false =>
    obtain ⟨o', a', b', n', e1, e2⟩ := h0 ⟨#[]⟩ (by decide)
    refine ⟨o', a', b', n', Ev.congr (fun k => ?_) e1, e2⟩
    unfold armoirelaw12_Tidy.f
    rw [← ho, hx, Option.bind_some, if_neg (by decide)]
theorem rkind_f (op : Int) : ∃ r, armoireref12_Kind.f op = some r := by
  unfold armoireref12_Kind.f
  rw [Option.bind_some, if_pos (by unfold mx mn; repeat' split
                                   all_goals omega), if_pos (by simp only [List.length_cons, List.length_nil]; unfold mx mn; repeat' split
                                                                all_goals omega)]
  exact ⟨_, rfl⟩
theorem of_l0 (s0 s1 : Int) (l : List Rr) (c1 c2 : ByteArray) (c3 : Int) : ∀ (d i : Nat) (c0 o : Int) (a b : ByteArray) (n : Int), i + d = 17 → CallOk o a b n → ∃ o' a' b' n', Ev (fun k => armoirelaw13_Of.l0 k (i : Int) s0 s1 l c0 c1 c2 c3 o a b n) (o', a', b', n') ∧ CallOk o' a' b' n' := by
  intro d
  induction d with
  | zero =>
    intro i c0 o a b n hi hok
    exact ⟨o, a, b, n, Ev.step (f := fun _ => some _) (fun k => by rw [armoirelaw13_Of.l0, if_neg (by omega)]) (Ev.now _), hok⟩
  | succ d ih =>
    intro i c0 o a b n hi hok
    obtain ⟨r, hr⟩ := rkind_f o
    by_cases q : r = s0
    · exact ⟨o, a, b, n, Ev.step (f := fun _ => some _) (fun k => by rw [armoirelaw13_Of.l0, if_pos (by omega), hr, Option.bind_some, if_pos q]) (Ev.now _), hok⟩
    · obtain ⟨o2, a2, b2, n2, e1, e2⟩ := tidy12_f (wrap64 (o + 1)) c1 c2 c3
      have hw : wrap64 ((i : Int) + 1) = ((i + 1 : Nat) : Int) := by unfold wrap64; omega
      obtain ⟨o', a', b', n', f1, f2⟩ := ih (i + 1) (wrap64 (o + 1)) o2 a2 b2 n2 (by omega) e2
      refine ⟨o', a', b', n', Ev.step (f := fun k => (armoirelaw12_Tidy.f k (wrap64 (o + 1)) c1 c2 c3).bind fun bt => armoirelaw13_Of.l0 k (wrap64 ((i : Int) + 1)) s0 s1 l (wrap64 (o + 1)) c1 c2 c3 bt.1 bt.2.1 bt.2.2.1 bt.2.2.2) (fun k => by rw [armoirelaw13_Of.l0, if_pos (by omega), hr, Option.bind_some, if_neg q]) ?_, f2⟩
      refine Ev.bind e1 ?_
      rw [hw]
      exact f1
theorem of_f (s0 s1 : Int) (l : List Rr) (c0 : Int) (c1 c2 : ByteArray) (c3 : Int) : ∃ o a b n, Ev (fun k => armoirelaw13_Of.f k s0 s1 l c0 c1 c2 c3) (o, a, b, n) ∧ CallOk o a b n := by
  obtain ⟨o2, a2, b2, n2, e1, e2⟩ := tidy12_f c0 c1 c2 c3
  obtain ⟨o', a', b', n', f1, f2⟩ := of_l0 s0 s1 l c1 c2 c3 17 0 c0 o2 a2 b2 n2 rfl e2
  exact ⟨o', a', b', n', Ev.bind e1 f1, f2⟩
def growthR (op cn code : Int) : Int := if changesR op cn code = true then (if op = 8 ∨ op = 11 ∨ op = 14 ∨ op = 16 then 1 else if op = 9 ∨ op = 12 ∨ op = 15 ∨ op = 17 then -1 else 0) else 0
theorem growth_f (op : Int) (a b : ByteArray) (cn code : Int) (t : ByteArray) (rn : Int) : Ev (fun k => method_Growth.f k op a b cn code t rn) (growthR op cn code) := by
  have hj : ∀ x : Bool, Ev (fun k => method_Growth.j0 k x op a b cn) (if x = true then 1 else if op = 9 ∨ op = 12 ∨ op = 15 ∨ op = 17 then -1 else 0) := by
    intro x
    refine Ev.step (f := fun _ => some _) (fun k => ?_) (Ev.now _)
    rw [method_Growth.j0]
    by_cases qx : x = true
    · rw [if_pos qx, if_pos qx]
    · rw [if_neg qx, if_neg qx]
      by_cases q9 : op = 9
      · rw [if_pos q9, if_pos (.inl q9)]
      rw [if_neg q9]
      by_cases q12 : op = 12
      · rw [if_pos q12, if_pos (by omega)]
      rw [if_neg q12]
      by_cases q15 : op = 15
      · rw [if_pos q15, if_pos (by omega)]
      rw [if_neg q15]
      by_cases q17 : op = 17
      · rw [if_pos q17, if_pos (by omega)]
      rw [if_neg q17, if_neg (by omega)]
  have hc : Ev (fun k => method_Changes.f k op a b cn code t rn) (changesR op cn code) := Ev.step (f := fun _ => some _) (fun k => changes_k k op a b cn code t rn) (Ev.now _)
  unfold growthR
  refine Ev.bind hc ?_
  by_cases qc : changesR op cn code = true
  · rw [if_pos qc]
    simp only [qc, if_true]
    by_cases q8 : op = 8
    · refine Ev.congr (fun k => by rw [if_pos q8]) ?_
      rw [if_pos (.inl q8)]
      exact hj true
    by_cases q11 : op = 11
    · refine Ev.congr (fun k => by rw [if_neg q8, if_pos q11]) ?_
      rw [if_pos (by omega)]
      exact hj true
    by_cases q14 : op = 14
    · refine Ev.congr (fun k => by rw [if_neg q8, if_neg q11, if_pos q14]) ?_
      rw [if_pos (by omega)]
      exact hj true
    by_cases q16 : op = 16
    · refine Ev.congr (fun k => by rw [if_neg q8, if_neg q11, if_neg q14, show (op == 16) = true from beq_iff_eq.2 q16]) ?_
      rw [if_pos (by omega)]
      exact hj true
    · refine Ev.congr (fun k => by rw [if_neg q8, if_neg q11, if_neg q14, show (op == 16) = false from beq_eq_false_iff_ne.2 q16]) ?_
      rw [if_neg (by omega)]
      exact hj false
  · rw [if_neg qc]
    exact Ev.congr (fun k => by rw [if_neg qc]) (Ev.now _)
theorem room_f (kind n : Int) (xs : List Rw) (op : Int) (a b : ByteArray) (cn code : Int) (t : ByteArray) (rn : Int) (hl : xs.length < 1000000) (h0 : -9223372036854775808 ≤ n) (h1 : n < 9223372036854775808) :
    ∃ r, Ev (fun k => adt_Room.f k kind n xs op a b cn code t rn 0 0) r ∧ (r = 0 → (0 < growthR op cn code → (xs.length : Int) + growthR op cn code ≤ 8) ∧ (op = 5 → wrap64 (n + cn) ≤ 1125899906842624)) := by
  have hg : growthR op cn code = 1 ∨ growthR op cn code = -1 ∨ growthR op cn code = 0 := by
    unfold growthR
    repeat' split
    all_goals omega
  have hw : wrap64 (n + 0) = n := by unfold wrap64; omega
  have hj : ∀ x : Bool, ∃ r, Ev (fun k => adt_Room.j0 k 0 x kind n xs op a b cn) r ∧ (r = 0 → x = false ∧ (op = 5 → wrap64 (n + cn) ≤ 1125899906842624)) := by
    intro x
    cases x with
    | true => exact ⟨7, Ev.step (f := fun _ => some 7) (fun k => by rw [adt_Room.j0, if_pos rfl]) (Ev.now _), fun h => absurd h (by decide)⟩
    | false =>
      by_cases q5 : op = 5
      · by_cases qm : wrap64 (n + cn) > 1125899906842624
        · exact ⟨7, Ev.step (f := fun _ => some 7) (fun k => by rw [adt_Room.j0, if_neg (by decide), if_pos q5, hw, if_pos qm]) (Ev.now _), fun h => absurd h (by decide)⟩
        · exact ⟨0, Ev.step (f := fun _ => some 0) (fun k => by rw [adt_Room.j0, if_neg (by decide), if_pos q5, hw, if_neg qm]) (Ev.now _), fun _ => ⟨rfl, fun _ => Int.not_lt.1 qm⟩⟩
      · exact ⟨0, Ev.step (f := fun _ => some 0) (fun k => by rw [adt_Room.j0, if_neg (by decide), if_neg q5]) (Ev.now _), fun _ => ⟨rfl, fun h => absurd h q5⟩⟩
  generalize hgr : growthR op cn code = g at hg
  by_cases qg : g > 0
  · have e : wrap64 (wrap64 ((xs.length : Int) + 0) + g) = (xs.length : Int) + g := by unfold wrap64; omega
    obtain ⟨r, hr, hr0⟩ := hj (decide ((xs.length : Int) + g > 8))
    refine ⟨r, Ev.bind (growth_f op a b cn code t rn) ?_, fun h => ⟨fun _ => ?_, (hr0 h).2⟩⟩
    · rw [hgr]
      refine Ev.congr (fun k => ?_) hr
      rw [if_pos qg, e]
    · have := (hr0 h).1
      rw [decide_eq_false_iff_not] at this
      omega
  · obtain ⟨r, hr, hr0⟩ := hj false
    refine ⟨r, Ev.bind (growth_f op a b cn code t rn) ?_, fun h => ⟨fun h => absurd h qg, (hr0 h).2⟩⟩
    rw [hgr]
    refine Ev.congr (fun k => ?_) hr
    rw [if_neg qg]
abbrev Rs := S47
theorem out_l0 (kind n : Int) (xs : List Rw) (op : Int) (a b : ByteArray) (cn : Int) (hl : xs.length < 1000000) : ∀ (d i : Nat) (acc : List Rs), i + d = xs.length → acc.length ≤ i → (0 < i → 0 < acc.length) → ∃ l, Ev (fun k => adt_out.l0 k acc xs (xs.length : Int) (i : Int) kind n xs op a b cn) l ∧ l.length ≤ xs.length ∧ (0 < xs.length → 0 < l.length) := by
  intro d
  induction d with
  | zero =>
    intro i acc hi ha h0
    exact ⟨acc, Ev.step (f := fun _ => some acc) (fun k => by rw [adt_out.l0, if_neg (by omega)]) (Ev.now _), by omega, fun h => h0 (by omega)⟩
  | succ d ih =>
    intro i acc hi ha h0
    have hlt : i < xs.length := by omega
    have hw : wrap64 ((i : Int) + 1) = ((i + 1 : Nat) : Int) := by unfold wrap64; omega
    obtain ⟨l1, e1, e2, e3⟩ := ih (i + 1) (acc ++ [⟨1, (rd_T68 xs (i : Int)).f0, 0⟩]) (by omega) (by simp; omega) (fun _ => by simp)
    by_cases qi : i = 0
    · refine ⟨l1, Ev.step (fun k => ?_) e1, e2, e3⟩
      rw [adt_out.l0, if_pos (by omega), if_pos (by omega), if_pos (by omega), if_pos (by omega), if_pos (by omega), hw]
    · obtain ⟨l2, f1, f2, f3⟩ := ih (i + 1) acc (by omega) (by omega) (fun _ => h0 (by omega))
      by_cases q17 : op = 17
      · have hp : wrap64 ((i : Int) - 1) = ((i - 1 : Nat) : Int) := by unfold wrap64; omega
        by_cases qe : (rd_T68 xs (i : Int)).f0.toList = (rd_T68 xs (((i - 1 : Nat)) : Int)).f0.toList
        · refine ⟨l2, Ev.step (fun k => ?_) f1, f2, f3⟩
          rw [adt_out.l0, if_pos (by omega), if_pos (by omega), if_pos (by omega), if_neg (by omega), if_pos q17, hp, if_pos (by omega), if_pos (by omega), if_pos qe, hw]
        · refine ⟨l1, Ev.step (fun k => ?_) e1, e2, e3⟩
          rw [adt_out.l0, if_pos (by omega), if_pos (by omega), if_pos (by omega), if_neg (by omega), if_pos q17, hp, if_pos (by omega), if_pos (by omega), if_neg qe, if_pos (by omega), hw]
      · refine ⟨l2, Ev.step (fun k => ?_) f1, f2, f3⟩
        rw [adt_out.l0, if_pos (by omega), if_pos (by omega), if_pos (by omega), if_neg (by omega), if_neg q17, hw]
theorem out_f (kind n : Int) (xs : List Rw) (op : Int) (a b : ByteArray) (cn : Int) (hl : xs.length < 1000000) : ∃ l, Ev (fun k => adt_out.f k kind n xs op a b cn) l ∧ l.length ≤ xs.length + 1 ∧ 0 < l.length := by
  by_cases q : xs.length = 0
  · refine ⟨[⟨2, ⟨#[]⟩, 0⟩], Ev.congr (fun k => ?_) (Ev.now _), by simp, by simp⟩
    unfold adt_out.f
    rw [if_pos (by omega)]
    rfl
  · obtain ⟨l, h1, h2, h3⟩ := out_l0 kind n xs op a b cn hl xs.length 0 [] (by omega) (by simp) (fun h => by omega)
    refine ⟨l, Ev.congr (fun k => ?_) h1, by omega, h3 (by omega)⟩
    unfold adt_out.f
    rw [if_neg (by omega)]
    rfl
theorem code_f (x : Bool) : adt_code.f x = some (if x = true then 1 else 2, ⟨#[]⟩, 0) := by cases x <;> rfl
def FirstOk (kind n : Int) (xs : List Rw) (op : Int) (a : ByteArray) (cn : Int) (r : Rs) : Prop :=
  kind = kindR op ∧ (op = 6 → r.f0 = 1 → cn ≤ n) ∧ (op = 8 ∨ op = 11 → r.f0 = 1 → posR xs a = none)
theorem answers_f (kind n : Int) (xs : List Rw) (op : Int) (a b : ByteArray) (cn : Int) (hl : xs.length < 1000000) (hk1 : 1 ≤ kind) : ∃ l, Ev (fun k => adt_Answers.f k kind n xs op a b cn) l ∧ l.length ≤ xs.length + 1 ∧ ∀ r ls, l = r :: ls → FirstOk kind n xs op a cn r := by
  by_cases qk : kind = kindR op
  · have hop : op = 1 ∨ op = 2 ∨ op = 3 ∨ op = 4 ∨ op = 5 ∨ op = 6 ∨ op = 7 ∨ op = 8 ∨ op = 9 ∨ op = 10 ∨ op = 11 ∨ op = 12 ∨ op = 13 ∨ op = 14 ∨ op = 15 ∨ op = 16 ∨ op = 17 := by
      have : ¬ (op < 1 ∨ 17 < op) := fun h => by
        unfold kindR at qk
        rw [if_pos h] at qk
        omega
      omega
    have hf := find_f kind n xs a hl
    obtain ⟨fr, hfr⟩ : ∃ fr, fr = findR xs a := ⟨_, rfl⟩
    rw [← hfr] at hf
    obtain ⟨at_, there⟩ := fr
    have hth : there = false → posR xs a = none := by
      unfold findR at hfr
      cases h : posR xs a with
      | none => exact fun _ => rfl
      | some i =>
        rw [h] at hfr
        obtain ⟨-, rfl⟩ := Prod.mk.inj hfr
        exact fun h => by cases h
    have hat : there = true → 0 ≤ at_ ∧ at_ < (xs.length : Int) := by
      unfold findR at hfr
      cases h : posR xs a with
      | none =>
        rw [h] at hfr
        obtain ⟨-, rfl⟩ := Prod.mk.inj hfr
        exact fun h => by cases h
      | some i =>
        rw [h] at hfr
        obtain ⟨rfl, rfl⟩ := Prod.mk.inj hfr
        have := posR_lt h
        exact fun _ => by omega
    have wrap : ∀ {g : Nat → Int × Bool → Option (List Rs)} {l : List Rs}, (∀ k, adt_Answers.f k kind n xs op a b cn = (value_State_Find.f k kind n xs a).bind (g k)) → Ev (fun k => g k (at_, there)) l → Ev (fun k => adt_Answers.f k kind n xs op a b cn) l := fun h1 h2 => Ev.congr h1 (Ev.bind hf h2)
    have hst : ∀ k, adt_Answers.f k kind n xs op a b cn = (value_State_Find.f k kind n xs a).bind fun bt => (if op = 1 then ((adt_yes.f).bind fun bt268 => (if (xs.length : Int) > 0 then (if 0 < (xs.length : Int) then (some (([(⟨bt268.1, (rd_T68 xs 0).f0, bt268.2.2⟩ : Rs)] : List (Rs)))) else (none)) else (some (([(⟨bt268.1, bt268.2.1, bt268.2.2⟩ : Rs)] : List (Rs)))))) else (if op = 4 then (adt_Answers.j0 k bt.1 bt.2 op (op == 4) kind n xs op a b cn) else (adt_Answers.j0 k bt.1 bt.2 op (op == 7) kind n xs op a b cn))) := by
      intro k
      unfold adt_Answers.f
      rw [kind_f, Option.bind_some, if_pos qk]
    rcases hop with rfl | rfl | rfl | rfl | rfl | rfl | rfl | rfl | rfl | rfl | rfl | rfl | rfl | rfl | rfl | rfl | rfl
    · by_cases q0 : (xs.length : Int) > 0
      · refine ⟨[⟨1, (rd_T68 xs 0).f0, 0⟩], Ev.congr hst (Ev.bind hf (Ev.congr (fun k => ?_) (Ev.now _))), by simp, fun r ls h => ⟨qk, fun q => absurd q (by decide), fun q => absurd q (by decide)⟩⟩
        rw [if_pos rfl]
        unfold adt_yes.f
        rw [Option.bind_some, if_pos q0, if_pos q0]
      · refine ⟨[⟨1, ⟨#[]⟩, 0⟩], Ev.congr hst (Ev.bind hf (Ev.congr (fun k => ?_) (Ev.now _))), by simp, fun r ls h => ⟨qk, fun q => absurd q (by decide), fun q => absurd q (by decide)⟩⟩
        rw [if_pos rfl]
        unfold adt_yes.f
        rw [Option.bind_some, if_neg q0]
    · refine ⟨[⟨1, ⟨#[]⟩, 0⟩], Ev.congr hst (Ev.bind hf (ev_add 4 (f := fun _ => some _) (fun k => ?_) (Ev.now _))), by simp, fun r ls h => ⟨qk, fun q => absurd q (by decide), fun q => absurd q (by decide)⟩⟩
      simp [adt_Answers.j0, adt_Answers.j1, adt_Answers.j2, adt_Answers.j3, code_f, adt_yes.f]
    · refine ⟨[⟨1, ⟨#[]⟩, 0⟩], Ev.congr hst (Ev.bind hf (ev_add 4 (f := fun _ => some _) (fun k => ?_) (Ev.now _))), by simp, fun r ls h => ⟨qk, fun q => absurd q (by decide), fun q => absurd q (by decide)⟩⟩
      simp [adt_Answers.j0, adt_Answers.j1, adt_Answers.j2, adt_Answers.j3, code_f, adt_yes.f]
    · refine ⟨[⟨1, ⟨#[]⟩, n⟩], Ev.congr hst (Ev.bind hf (ev_add 4 (f := fun _ => some _) (fun k => ?_) (Ev.now _))), by simp, fun r ls h => ⟨qk, fun q => absurd q (by decide), fun q => absurd q (by decide)⟩⟩
      simp [adt_Answers.j0, adt_Answers.j1, adt_Answers.j2, adt_Answers.j3, code_f, adt_yes.f]
    · refine ⟨[⟨1, ⟨#[]⟩, 0⟩], Ev.congr hst (Ev.bind hf (ev_add 4 (f := fun _ => some _) (fun k => ?_) (Ev.now _))), by simp, fun r ls h => ⟨qk, fun q => absurd q (by decide), fun q => absurd q (by decide)⟩⟩
      simp [adt_Answers.j0, adt_Answers.j1, adt_Answers.j2, adt_Answers.j3, code_f, adt_yes.f]
    · refine ⟨[⟨if (decide (n ≥ cn)) = true then 1 else 2, ⟨#[]⟩, 0⟩], Ev.congr hst (Ev.bind hf (ev_add 4 (f := fun _ => some _) (fun k => ?_) (Ev.now _))), by simp, fun r ls h => ⟨qk, fun _ h1 => ?_, fun q => absurd q (by decide)⟩⟩
      · simp [adt_Answers.j0, adt_Answers.j1, adt_Answers.j2, adt_Answers.j3, code_f, adt_yes.f]
      · obtain ⟨rfl, -⟩ := List.cons.inj h
        by_cases q : n ≥ cn
        · exact q
        · rw [decide_eq_false q] at h1
          exact absurd h1 (by decide)
    · refine ⟨[⟨1, ⟨#[]⟩, n⟩], Ev.congr hst (Ev.bind hf (ev_add 4 (f := fun _ => some _) (fun k => ?_) (Ev.now _))), by simp, fun r ls h => ⟨qk, fun q => absurd q (by decide), fun q => absurd q (by decide)⟩⟩
      simp [adt_Answers.j0, adt_Answers.j1, adt_Answers.j2, adt_Answers.j3, code_f, adt_yes.f]
    · refine ⟨[⟨if (!there) = true then 1 else 2, ⟨#[]⟩, 0⟩], Ev.congr hst (Ev.bind hf (ev_add 4 (f := fun _ => some _) (fun k => ?_) (Ev.now _))), by simp, fun r ls h => ⟨qk, fun q => absurd q (by decide), fun _ h1 => ?_⟩⟩
      · simp [adt_Answers.j0, adt_Answers.j1, adt_Answers.j2, adt_Answers.j3, code_f, adt_yes.f]
      · obtain ⟨rfl, -⟩ := List.cons.inj h
        cases there with
        | true => exact absurd h1 (by decide)
        | false => exact hth rfl
    · refine ⟨[⟨if there = true then 1 else 2, ⟨#[]⟩, 0⟩], Ev.congr hst (Ev.bind hf (ev_add 4 (f := fun _ => some _) (fun k => ?_) (Ev.now _))), by simp, fun r ls h => ⟨qk, fun q => absurd q (by decide), fun q => absurd q (by decide)⟩⟩
      simp [adt_Answers.j0, adt_Answers.j1, adt_Answers.j2, adt_Answers.j3, code_f, adt_yes.f]
    · refine ⟨[⟨if there = true then 1 else 2, ⟨#[]⟩, 0⟩], Ev.congr hst (Ev.bind hf (ev_add 4 (f := fun _ => some _) (fun k => ?_) (Ev.now _))), by simp, fun r ls h => ⟨qk, fun q => absurd q (by decide), fun q => absurd q (by decide)⟩⟩
      simp [adt_Answers.j0, adt_Answers.j1, adt_Answers.j2, adt_Answers.j3, code_f, adt_yes.f]
    · refine ⟨[⟨if (!there) = true then 1 else 2, ⟨#[]⟩, 0⟩], Ev.congr hst (Ev.bind hf (ev_add 4 (f := fun _ => some _) (fun k => ?_) (Ev.now _))), by simp, fun r ls h => ⟨qk, fun q => absurd q (by decide), fun _ h1 => ?_⟩⟩
      · simp [adt_Answers.j0, adt_Answers.j1, adt_Answers.j2, adt_Answers.j3, code_f, adt_yes.f]
      · obtain ⟨rfl, -⟩ := List.cons.inj h
        cases there with
        | true => exact absurd h1 (by decide)
        | false => exact hth rfl
    · refine ⟨[⟨if there = true then 1 else 2, ⟨#[]⟩, 0⟩], Ev.congr hst (Ev.bind hf (ev_add 4 (f := fun _ => some _) (fun k => ?_) (Ev.now _))), by simp, fun r ls h => ⟨qk, fun q => absurd q (by decide), fun q => absurd q (by decide)⟩⟩
      simp [adt_Answers.j0, adt_Answers.j1, adt_Answers.j2, adt_Answers.j3, code_f, adt_yes.f]
    · cases there with
      | true =>
        obtain ⟨h0, h1⟩ := hat rfl
        refine ⟨[⟨1, (rd_T68 xs at_).f1, 0⟩], Ev.congr hst (Ev.bind hf (ev_add 4 (f := fun _ => some _) (fun k => ?_) (Ev.now _))), by simp, fun r ls h => ⟨qk, fun q => absurd q (by decide), fun q => absurd q (by decide)⟩⟩
        simp [adt_Answers.j0, adt_Answers.j1, adt_Answers.j2, adt_Answers.j3, code_f, adt_yes.f, h0, h1]
      | false =>
        refine ⟨[⟨2, ⟨#[]⟩, 0⟩], Ev.congr hst (Ev.bind hf (ev_add 4 (f := fun _ => some _) (fun k => ?_) (Ev.now _))), by simp, fun r ls h => ⟨qk, fun q => absurd q (by decide), fun q => absurd q (by decide)⟩⟩
        simp [adt_Answers.j0, adt_Answers.j1, adt_Answers.j2, adt_Answers.j3, code_f, adt_yes.f]
    · refine ⟨[⟨1, ⟨#[]⟩, 0⟩], Ev.congr hst (Ev.bind hf (ev_add 4 (f := fun _ => some _) (fun k => ?_) (Ev.now _))), by simp, fun r ls h => ⟨qk, fun q => absurd q (by decide), fun q => absurd q (by decide)⟩⟩
      simp [adt_Answers.j0, adt_Answers.j1, adt_Answers.j2, adt_Answers.j3, code_f, adt_yes.f]
    · obtain ⟨l, h1, h2, h3⟩ := out_f kind n xs 15 a b cn hl
      refine ⟨l, Ev.congr hst (Ev.bind hf (ev_add 4 (f := fun k => (adt_out.f k kind n xs 15 a b cn).bind fun t => some t) (fun k => ?_) (Ev.bind h1 (Ev.now _)))), h2, fun r ls h => ⟨qk, fun q => absurd q (by decide), fun q => absurd q (by decide)⟩⟩
      simp [adt_Answers.j0, adt_Answers.j1, adt_Answers.j2, adt_Answers.j3, code_f, adt_yes.f]
    · refine ⟨[⟨1, ⟨#[]⟩, 0⟩], Ev.congr hst (Ev.bind hf (ev_add 4 (f := fun _ => some _) (fun k => ?_) (Ev.now _))), by simp, fun r ls h => ⟨qk, fun q => absurd q (by decide), fun q => absurd q (by decide)⟩⟩
      simp [adt_Answers.j0, adt_Answers.j1, adt_Answers.j2, adt_Answers.j3, code_f, adt_yes.f]
    · obtain ⟨l, h1, h2, h3⟩ := out_f kind n xs 17 a b cn hl
      refine ⟨l, Ev.congr hst (Ev.bind hf (ev_add 4 (f := fun k => (adt_out.f k kind n xs 17 a b cn).bind fun t => some t) (fun k => ?_) (Ev.bind h1 (Ev.now _)))), h2, fun r ls h => ⟨qk, fun q => absurd q (by decide), fun q => absurd q (by decide)⟩⟩
      simp [adt_Answers.j0, adt_Answers.j1, adt_Answers.j2, adt_Answers.j3, code_f, adt_yes.f]
  · refine ⟨[], Ev.congr (fun k => ?_) (Ev.now _), by simp, fun r ls h => by cases h⟩
    unfold adt_Answers.f
    rw [kind_f, Option.bind_some, if_neg qk]
theorem legal_f (kind n : Int) (xs : List Rw) (op : Int) (a b : ByteArray) (cn : Int) (r : Rs) (ls : List Rs) (h : Ev (fun k => adt_Answers.f k kind n xs op a b cn) (r :: ls)) : Ev (fun k => adt_Legal.f k kind n xs op a b cn r.f0 r.f1 r.f2) true := by
  refine Ev.bind h (Ev.step (f := fun _ => some true) (fun k => ?_) (Ev.now _))
  rw [adt_Legal.l0, if_pos (by simp only [List.length_cons]; omega), if_pos (by omega), if_pos (by simp only [List.length_cons]; omega)]
  simp [rd_T47]
theorem ok_with {kind n : Int} {xs : List Rw} {r : Rw} (h : OkS kind n xs) (hn : ¬ (kind = 2 ∨ kind = 3)) (h1 : kind ≠ 1) (hr : rowS kind r) (hl : xs.length + 1 ≤ 8) (hne : kind = 4 ∨ kind = 5 → ∀ x ∈ xs, x.f0 ≠ r.f0) : OkS kind n (withR kind xs r) :=
  ⟨h.k1, h.k7, fun q => absurd q hn, h.non, h.acc, h.lo, h.hi, by rw [withR_len]; exact hl, fun q => absurd q h1, fun x hx => by
    rcases with_mem hx with rfl | hx
    · exact hr
    · exact h.row x hx, with_ord kind xs r h.ord hne⟩
theorem ok_sub {kind n : Int} {xs ys : List Rw} (h : OkS kind n xs) (hs : ys.Sublist xs) : OkS kind n ys :=
  ⟨h.k1, h.k7, fun q => by have := h.num q; subst this; exact List.sublist_nil.1 hs, h.non, h.acc, h.lo, h.hi, Nat.le_trans hs.length_le h.len, fun q => Nat.le_trans hs.length_le (h.one q), fun x hx => h.row x (hs.subset hx), h.ord.sublist hs⟩
theorem apply_ok {kind n : Int} {xs : List Rw} {op : Int} {a b : ByteArray} {cn code : Int} {text : ByteArray} {rn : Int} (h : OkS kind n xs) (hm : kind = 3 → n ≤ 1125899906842624) (hc : CallOk op a b cn) (hf : FirstOk kind n xs op a cn ⟨code, text, rn⟩)
    (hr1 : 0 < growthR op cn code → (xs.length : Int) + growthR op cn code ≤ 8) (hr2 : op = 5 → wrap64 (n + cn) ≤ 1125899906842624) :
    OkS kind (applyR kind n xs op a b cn code text).1 (applyR kind n xs op a b cn code text).2 ∧ (kind = 3 → (applyR kind n xs op a b cn code text).1 ≤ 1125899906842624) := by
  by_cases qc : changesR op cn code = true
  · have hk := hf.1
    have hgr : growthR op cn code = if op = 8 ∨ op = 11 ∨ op = 14 ∨ op = 16 then 1 else if op = 9 ∨ op = 12 ∨ op = 15 ∨ op = 17 then -1 else 0 := by unfold growthR; rw [if_pos qc]
    have hap : applyR kind n xs op a b cn code text = if op = 2 then (n, if a.toList = [] then [] else [⟨a, ⟨#[]⟩⟩]) else if op = 3 ∨ op = 5 then (wrap64 (n + cn), xs) else if op = 6 then (wrap64 (n - cn), xs) else if op = 8 ∨ op = 14 ∨ op = 16 then (n, withR kind xs ⟨a, ⟨#[]⟩⟩) else if op = 11 then (n, withR kind xs ⟨a, b⟩) else if op = 9 ∨ op = 12 then (n, withoutR xs a) else (n, withoutR xs text) := by
      unfold applyR
      rw [if_neg (by rintro (h | h); rw [qc] at h; cases h; exact h hk)]
    obtain ⟨ca, cb, cc⟩ := hc
    have hcode : op = 6 ∨ op = 8 ∨ op = 11 → code = 1 := fun q => by
      unfold changesR at qc
      rcases q with rfl | rfl | rfl <;> simpa using qc
    rcases ops_of qc with rfl | (rfl | rfl) | rfl | (rfl | rfl | rfl) | rfl | (rfl | rfl) | (rfl | rfl)
    · obtain rfl : kind = 1 := hk
      rw [hap, if_pos (by decide)]
      have hn0 := h.non (by decide)
      refine ⟨⟨by decide, by decide, fun q => absurd q (by decide), fun _ => hn0, fun q => absurd q (by decide), h.lo, h.hi, ?_, ?_, ?_, ?_⟩, fun q => absurd q (by decide)⟩
      · split <;> simp
      · intro _; split <;> simp
      · intro x hx
        split at hx
        · simp at hx
        · rename_i ha
          obtain rfl := List.mem_singleton.1 hx
          exact ⟨ca, Nat.zero_le _, fun _ => by simp, fun _ => ha⟩
      · split
        · exact List.Pairwise.nil
        · exact List.pairwise_singleton _ _
    · obtain rfl : kind = 2 := hk
      rw [hap, if_neg (by decide), if_pos (by decide)]
      have hw : -9223372036854775808 ≤ wrap64 (n + cn) ∧ wrap64 (n + cn) < 9223372036854775808 := by unfold wrap64; omega
      exact ⟨⟨by decide, by decide, fun _ => h.num (.inl rfl), fun q => absurd (.inl rfl) q, fun q => absurd q (by decide), hw.1, hw.2, h.len, h.one, h.row, h.ord⟩, fun q => absurd q (by decide)⟩
    · obtain rfl : kind = 3 := hk
      rw [hap, if_neg (by decide), if_pos (by decide)]
      have h1 := hm rfl
      have h2 := h.acc rfl
      have h3 := cc (.inl rfl)
      have h4 := hr2 rfl
      have hw : wrap64 (n + cn) = n + cn := by unfold wrap64; omega
      rw [hw] at h4 ⊢
      exact ⟨⟨by decide, by decide, fun _ => h.num (.inr rfl), fun q => absurd (.inr rfl) q, fun _ => by show 0 ≤ n + cn; omega, by show _ ≤ n + cn; omega, by show n + cn < _; omega, h.len, h.one, h.row, h.ord⟩, fun _ => h4⟩
    · obtain rfl : kind = 3 := hk
      rw [hap, if_neg (by decide), if_neg (by decide), if_pos (by decide)]
      have h1 := hm rfl
      have h2 := h.acc rfl
      have h3 := cc (.inr rfl)
      have h4 := hf.2.1 rfl (hcode (by omega))
      have hw : wrap64 (n - cn) = n - cn := by unfold wrap64; omega
      rw [hw]
      exact ⟨⟨by decide, by decide, fun _ => h.num (.inr rfl), fun q => absurd (.inr rfl) q, fun _ => by show 0 ≤ n - cn; omega, by show _ ≤ n - cn; omega, by show n - cn < _; omega, h.len, h.one, h.row, h.ord⟩, fun _ => by show n - cn ≤ _; omega⟩
    · obtain rfl : kind = 4 := hk
      rw [hap, if_neg (by decide), if_neg (by decide), if_neg (by decide), if_pos (by decide)]
      have h8 := hr1 (by rw [hgr]; decide)
      rw [hgr, if_pos (by decide)] at h8
      exact ⟨ok_with h (by decide) (by decide) ⟨ca, Nat.zero_le _, fun _ => by simp, fun q => absurd q (by decide)⟩ (by omega) (fun _ => posR_none (hf.2.2 (.inl rfl) (hcode (by omega)))), fun q => absurd q (by decide)⟩
    · obtain rfl : kind = 6 := hk
      rw [hap, if_neg (by decide), if_neg (by decide), if_neg (by decide), if_pos (by decide)]
      have h8 := hr1 (by rw [hgr]; decide)
      rw [hgr, if_pos (by decide)] at h8
      exact ⟨ok_with h (by decide) (by decide) ⟨ca, Nat.zero_le _, fun _ => by simp, fun q => absurd q (by decide)⟩ (by omega) (fun q => absurd q (by decide)), fun q => absurd q (by decide)⟩
    · obtain rfl : kind = 7 := hk
      rw [hap, if_neg (by decide), if_neg (by decide), if_neg (by decide), if_pos (by decide)]
      have h8 := hr1 (by rw [hgr]; decide)
      rw [hgr, if_pos (by decide)] at h8
      exact ⟨ok_with h (by decide) (by decide) ⟨ca, Nat.zero_le _, fun _ => by simp, fun q => absurd q (by decide)⟩ (by omega) (fun q => absurd q (by decide)), fun q => absurd q (by decide)⟩
    · obtain rfl : kind = 5 := hk
      rw [hap, if_neg (by decide), if_neg (by decide), if_neg (by decide), if_neg (by decide), if_pos (by decide)]
      have h8 := hr1 (by rw [hgr]; decide)
      rw [hgr, if_pos (by decide)] at h8
      exact ⟨ok_with h (by decide) (by decide) ⟨ca, cb, fun q => absurd rfl q, fun q => absurd q (by decide)⟩ (by omega) (fun _ => posR_none (hf.2.2 (.inr rfl) (hcode (by omega)))), fun q => absurd q (by decide)⟩
    · obtain rfl : kind = 4 := hk
      rw [hap, if_neg (by decide), if_neg (by decide), if_neg (by decide), if_neg (by decide), if_neg (by decide), if_pos (by decide)]
      exact ⟨ok_sub h (without_sub _ _), fun q => absurd q (by decide)⟩
    · obtain rfl : kind = 5 := hk
      rw [hap, if_neg (by decide), if_neg (by decide), if_neg (by decide), if_neg (by decide), if_neg (by decide), if_pos (by decide)]
      exact ⟨ok_sub h (without_sub _ _), fun q => absurd q (by decide)⟩
    · obtain rfl : kind = 6 := hk
      rw [hap, if_neg (by decide), if_neg (by decide), if_neg (by decide), if_neg (by decide), if_neg (by decide), if_neg (by decide)]
      exact ⟨ok_sub h (without_sub _ _), fun q => absurd q (by decide)⟩
    · obtain rfl : kind = 7 := hk
      rw [hap, if_neg (by decide), if_neg (by decide), if_neg (by decide), if_neg (by decide), if_neg (by decide), if_neg (by decide)]
      exact ⟨ok_sub h (without_sub _ _), fun q => absurd q (by decide)⟩
  · rw [applyR_no (.inl (by simpa using qc))]
    exact ⟨h, hm⟩
theorem same_f (kind n : Int) (xs : List Rw) (hl : xs.length < 1000000) : Ev (fun k => value_State_Same.f k kind n xs kind n xs) true := by
  have hloop : ∀ (d i : Nat), i + d = xs.length → Ev (fun k => value_Row_45.l0 k xs xs (xs.length : Int) (i : Int)) true := by
    intro d
    induction d with
    | zero => exact fun i hi => Ev.step (f := fun _ => some true) (fun k => by rw [value_Row_45.l0, if_neg (by omega)]) (Ev.now _)
    | succ d ih =>
      intro i hi
      have hw : wrap64 ((i : Int) + 1) = ((i + 1 : Nat) : Int) := by unfold wrap64; omega
      refine Ev.step (fun k => ?_) (ih (i + 1) (by omega))
      rw [value_Row_45.l0, if_pos (by omega), if_pos (by omega), if_pos (by omega), if_pos (by omega), if_neg (by simp), hw]
  refine Ev.congr (fun k => ?_) (Ev.bind (f := fun _ t => some t) (hloop xs.length 0 (by omega)) (Ev.now _))
  unfold value_State_Same.f value_Row_45.f
  rw [if_pos rfl, if_pos rfl, if_pos rfl]
  rfl
def rowsB (xs : List Rw) : List UInt8 := xs.flatMap (fun x => strB x.f0 ++ strB x.f1)
def textB (kind n : Int) (xs : List Rw) : List UInt8 := numB kind.toNat ++ (numB (zig n) ++ (numB xs.length ++ rowsB xs))
theorem rowsB_drop (xs : List Rw) (i : Nat) (hi : i < xs.length) : rowsB (xs.drop i) = strB xs[i].f0 ++ (strB xs[i].f1 ++ rowsB (xs.drop (i + 1))) := by
  rw [List.drop_eq_getElem_cons hi]
  simp only [rowsB, List.flatMap_cons, List.append_assoc]
theorem rowsB_len (xs : List Rw) (h : ∀ x ∈ xs, x.f0.size ≤ 24 ∧ x.f1.size ≤ 24) : (rowsB xs).length ≤ 66 * xs.length := by
  induction xs with
  | nil => simp [rowsB]
  | cons x xs ih =>
    have h1 := h x (by simp)
    have h2 := ih (fun y hy => h y (by simp [hy]))
    have h3 := strB_length x.f0 (by omega)
    have h4 := strB_length x.f1 (by omega)
    have h5 : rowsB (x :: xs) = strB x.f0 ++ (strB x.f1 ++ rowsB xs) := by simp [rowsB]
    rw [h5]
    simp only [List.length_append, List.length_cons]
    omega
theorem text_l0 (xs : List Rw) (hl : xs.length ≤ 8) (h : ∀ x ∈ xs, x.f0.size ≤ 24 ∧ x.f1.size ≤ 24) : ∀ (d i : Nat) (acc : List UInt8), i + d = xs.length → acc.length ≤ 100 + 66 * i → Ev (fun k => value_State_Text.l0 k xs (xs.length : Int) (i : Int) ⟨acc.toArray⟩) ⟨(acc ++ rowsB (xs.drop i)).toArray⟩ := by
  intro d
  induction d with
  | zero =>
    intro i acc hi ha
    refine Ev.step (f := fun _ => some _) (fun k => ?_) (Ev.now _)
    rw [value_State_Text.l0, if_neg (by omega), List.drop_of_length_le (by omega)]
    simp [codec_Out_Text.f, rowsB]
  | succ d ih =>
    intro i acc hi ha
    have hlt : i < xs.length := by omega
    have hx : rd_T68 xs (i : Int) = xs[i] := by simp [rd_T68, hlt]
    have hw : wrap64 ((i : Int) + 1) = ((i + 1 : Nat) : Int) := by unfold wrap64; omega
    have hr := h xs[i] (List.getElem_mem hlt)
    have h3 := strB_length xs[i].f0 (by omega)
    have h4 := strB_length xs[i].f1 (by omega)
    have h5 := ih (i + 1) (acc ++ strB xs[i].f0 ++ strB xs[i].f1) (by omega) (by simp only [List.length_append]; omega)
    rw [rowsB_drop xs i hlt]
    rw [show acc ++ (strB xs[i].f0 ++ (strB xs[i].f1 ++ rowsB (xs.drop (i + 1)))) = acc ++ strB xs[i].f0 ++ strB xs[i].f1 ++ rowsB (xs.drop (i + 1)) by simp]
    refine Ev.step (fun k => ?_) h5
    rw [value_State_Text.l0, if_pos (by omega), if_pos (by omega), if_pos (by omega), hx, wS2 _ _ _ (by rw [ba_mk_size]; omega) (by omega) (by omega), Option.bind_some, hw, ba_mk]
theorem text_f (kind n : Int) (xs : List Rw) (h : OkS kind n xs) : Ev (fun k => value_State_Text.f k kind n xs) ⟨(textB kind n xs).toArray⟩ := by
  have hk1 := h.k1
  have hk7 := h.k7
  have hlo := h.lo
  have hhi := h.hi
  have hl := h.len
  have hz := zig_lt n hlo hhi
  have n1 := numB_length kind.toNat (by omega)
  have n2 := numB_length (zig n) hz
  have n3 := numB_length xs.length (by omega)
  have hh := text_l0 xs hl (fun x hx => ⟨(h.row x hx).1, (h.row x hx).2.1⟩) xs.length 0 (numB kind.toNat ++ numB (zig n) ++ numB xs.length) (by omega) (by simp only [List.length_append]; omega)
  rw [List.drop_zero] at hh
  rw [show textB kind n xs = numB kind.toNat ++ numB (zig n) ++ numB xs.length ++ rowsB xs by simp [textB]]
  refine Ev.congr (fun k => ?_) hh
  unfold value_State_Text.f
  rw [wN1 _ _ (by decide) (by omega), Option.bind_some, wI1 _ _ (by rw [ba_mk_size]; simp only [List.length_append]; show [].length + _ ≤ _; simp only [List.length_nil]; omega) hlo hhi, Option.bind_some, ba_mk]
  rw [wN1 _ _ (by rw [ba_mk_size]; simp only [List.length_append]; show [].length + _ + _ ≤ _; simp only [List.length_nil]; omega) (by omega), Option.bind_some, ba_mk, Int.toNat_natCast]
  rfl
theorem parse_l0 (kind n : Int) (xs : List Rw) (h : OkS kind n xs) : ∀ (d i : Nat), i + d = xs.length → Ev (fun k => value_Parse.l0 k (d : Int) ⟨(rowsB (xs.drop i)).toArray⟩ 0 kind n (xs.take i)) (kind, n, xs, 0) := by
  have hl := h.len
  have hrow : ∀ x ∈ xs, x.f0.size ≤ 24 ∧ x.f1.size ≤ 24 := fun x hx => ⟨(h.row x hx).1, (h.row x hx).2.1⟩
  intro d
  induction d with
  | zero =>
    intro i hi
    have hj : Ev (fun k => value_Parse.j1 k 0 false ⟨(rowsB (xs.drop i)).toArray⟩ 0 kind n (xs.take i)) (kind, n, xs, 0) := by
      rw [List.drop_of_length_le (by omega), List.take_of_length_le (by omega)]
      refine Ev.step (f := fun k => (value_State_Check.f k kind n xs).bind fun t426 => (if t426 = 0 then (some (kind, n, xs, 0)) else (some (0, 0, ([] : List (Rw)), t426)))) (fun k => ?_) ?_
      · rw [value_Parse.j1, if_neg (by decide)]
        unfold codec_In_End.f
        rw [if_pos (by rw [ba_toList]; rfl), Option.bind_some, if_pos rfl]
      · refine Ev.bind (check_f kind n xs h) ?_
        exact Ev.congr (fun k => by rw [if_pos rfl]) (Ev.now _)
    refine Ev.step (fun k => ?_) hj
    rw [value_Parse.l0, if_neg (by omega)]
    rfl
  | succ d ih =>
    intro i hi
    have hlt : i < xs.length := by omega
    have hr := hrow xs[i] (List.getElem_mem hlt)
    have hw : wrap64 (((d + 1 : Nat) : Int) - 1) = ((d : Nat) : Int) := by unfold wrap64; omega
    have hlen : (rowsB (xs.drop i)).length ≤ 66 * (xs.drop i).length := rowsB_len _ (fun x hx => hrow x (List.mem_of_mem_drop hx))
    have hv : Val ⟨(rowsB (xs.drop i)).toArray⟩ 0 := ⟨by rw [ba_mk_size]; rw [List.length_drop] at hlen; omega, fun h => absurd rfl h⟩
    have hs1 : codec_In_S.f ⟨(rowsB (xs.drop i)).toArray⟩ 0 24 = some (xs[i].f0, ⟨(strB xs[i].f1 ++ rowsB (xs.drop (i + 1))).toArray⟩, 0) := by
      rw [tS_f _ _ _ hv (by decide), rowsB_drop xs i hlt, tS_str _ _ (by omega) (by decide)]
    have hv2 : Val ⟨(strB xs[i].f1 ++ rowsB (xs.drop (i + 1))).toArray⟩ 0 := ⟨by
      have h5 : (rowsB (xs.drop (i + 1))).length ≤ 66 * (xs.drop (i + 1)).length := rowsB_len _ (fun x hx => hrow x (List.mem_of_mem_drop hx))
      have h4 := strB_length xs[i].f1 (by omega)
      rw [List.length_drop] at h5
      rw [ba_mk_size]
      simp only [List.length_append]
      omega, fun h => absurd rfl h⟩
    have hs2 : codec_In_S.f ⟨(strB xs[i].f1 ++ rowsB (xs.drop (i + 1))).toArray⟩ 0 24 = some (xs[i].f1, ⟨(rowsB (xs.drop (i + 1))).toArray⟩, 0) := by
      rw [tS_f _ _ _ hv2 (by decide), tS_str _ _ (by omega) (by decide)]
    have hj : Ev (fun k => value_Parse.j1 k (((d + 1 : Nat)) : Int) true ⟨(rowsB (xs.drop i)).toArray⟩ 0 kind n (xs.take i)) (kind, n, xs, 0) := by
      refine Ev.step (fun k => ?_) (ih (i + 1) (by omega))
      rw [value_Parse.j1, if_pos rfl, hs1, Option.bind_some, hs2, Option.bind_some, if_pos (by rw [List.length_take]; omega), hw, List.take_succ_eq_append_getElem hlt]
    refine Ev.step (fun k => ?_) hj
    rw [value_Parse.l0, if_pos (by omega)]
    rfl
theorem parse_f (kind n : Int) (xs : List Rw) (h : OkS kind n xs) : Ev (fun k => value_Parse.f k ⟨(textB kind n xs).toArray⟩) (kind, n, xs, 0) := by
  have hk1 := h.k1
  have hk7 := h.k7
  have hlo := h.lo
  have hhi := h.hi
  have hl := h.len
  have hz := zig_lt n hlo hhi
  have n1 := numB_length kind.toNat (by omega)
  have n2 := numB_length (zig n) hz
  have n3 := numB_length xs.length (by omega)
  have hrow : ∀ x ∈ xs, x.f0.size ≤ 24 ∧ x.f1.size ≤ 24 := fun x hx => ⟨(h.row x hx).1, (h.row x hx).2.1⟩
  have h5 := rowsB_len xs hrow
  have v : ∀ l : List UInt8, l.length ≤ 10000 → Val ⟨l.toArray⟩ 0 := fun l hl => ⟨by rw [ba_mk_size]; omega, fun h => absurd rfl h⟩
  have hh := parse_l0 kind n xs h xs.length 0 (by omega)
  rw [List.drop_zero, List.take_zero] at hh
  refine Ev.congr (fun k => ?_) hh
  unfold value_Parse.f codec_Read.f textB
  have e1 := tN_num kind.toNat 7 (by omega) (by decide) (numB (zig n) ++ (numB xs.length ++ rowsB xs))
  have e2 := tI_num n hlo hhi (numB xs.length ++ rowsB xs)
  have e3 := tN_num xs.length 8 (by omega) (by decide) (rowsB xs)
  rw [Int.toNat_of_nonneg (by omega)] at e1
  rw [Option.bind_some, tN_f _ _ _ (v _ (by simp only [List.length_append]; omega)), e1, Option.bind_some, tI_f _ _ (v _ (by simp only [List.length_append]; omega)), e2, Option.bind_some, tN_f _ _ _ (v _ (by simp only [List.length_append]; omega)), e3, Option.bind_some]
end Go.Proofs.Ytjiblcncadekcaa.PA

