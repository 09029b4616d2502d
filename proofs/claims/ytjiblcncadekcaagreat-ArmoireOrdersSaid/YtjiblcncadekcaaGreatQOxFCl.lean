import Derived.Test.YtjiblcncadekcaaGreatQOxMBits
import Derived.Test.YtjiblcncadekcaaGreatQOxPAx4
import Derived.Test.YtjiblcncadekcaaGreatQOxPAx5
import Derived.Test.YtjiblcncadekcaaGreatQOxPAx6
import Derived.Test.YtjiblcncadekcaaGreatQOxPAx7
import Derived.Test.YtjiblcncadekcaaGreatQOxPAx10
import Derived.Test.YtjiblcncadekcaaGreatQOxPAx11
import Derived.Test.YtjiblcncadekcaaGreatQOxPAx8
import Derived.Test.YtjiblcncadekcaaGreatQOxPAx9
import Derived.Test.YtjiblcncadekcaaGreatQOxPAx0
namespace Go.Proofs.YtjiblcncadekcaaGreat.PA
set_option linter.unusedSimpArgs false
set_option linter.unusedVariables false
open Go.RowKit Go.Proofs.YtjiblcncadekcaaGreatW.PrintWords Go.Proofs.YtjiblcncadekcaaGreatW.PrintLast Go.Proofs.YtjiblcncadekcaaGreatW.PrintMore Go.Proofs.YtjiblcncadekcaaGreat Go.Proofs.YtjiblcncadekcaaGreat.PL
def lt (a b : ByteArray) : Prop := Op.bytesLess a.toList b.toList = true
instance (a b : ByteArray) : Decidable (lt a b) := inferInstanceAs (Decidable (_ = true))
theorem bl_trans : ∀ {x y z : List UInt8}, Op.bytesLess x y = true → Op.bytesLess y z = true → Op.bytesLess x z = true
  | _, [], _, h, _ => by simp [Op.bytesLess] at h
  | _, _ :: _, [], _, h => by simp [Op.bytesLess] at h
  | [], _ :: _, _ :: _, _, _ => rfl
  | a :: x, b :: y, c :: z, h, k => by
    simp only [Op.bytesLess, Bool.or_eq_true, decide_eq_true_eq, Bool.and_eq_true, beq_iff_eq] at h k ⊢
    rcases h with h | ⟨rfl, h⟩
    · rcases k with k | ⟨rfl, k⟩
      · exact .inl (UInt8.lt_trans h k)
      · exact .inl h
    · rcases k with k | ⟨rfl, k⟩
      · exact .inl k
      · exact .inr ⟨rfl, bl_trans h k⟩
theorem lt_trans' {a b c : ByteArray} (h : lt a b) (k : lt b c) : lt a c := bl_trans h k
theorem lt_irrefl' (a : ByteArray) : ¬ lt a a := by unfold lt; rw [bl_irrefl]; decide
theorem lt_asymm' {a b : ByteArray} (h : lt a b) : ¬ lt b a := fun k => lt_irrefl' a (lt_trans' h k)
theorem bytes_eq {a b : ByteArray} (h : a.toList = b.toList) : a = b := bytes_ext (by rw [← ba_toList, ← ba_toList, h])
theorem lt_tot {a b : ByteArray} (h : ¬ lt a b) : lt b a ∨ a = b := by
  have := bl_tot (x := b.toList) (y := a.toList) h
  simp only [Bool.or_eq_true, beq_iff_eq] at this
  rcases this with h1 | h1
  · exact .inl h1
  · exact .inr (bytes_eq h1.symm)
theorem le_trans' {a b c : ByteArray} (h : ¬ lt b a) (k : ¬ lt c b) : ¬ lt c a := by
  intro h1
  rcases lt_tot h with h2 | rfl
  · exact k (lt_trans' h1 h2)
  · exact k h1
abbrev Rw := S73
def rowS (kind : Int) (x : Rw) : Prop := x.f0.size ≤ 24 ∧ x.f1.size ≤ 24 ∧ (kind ≠ 5 → x.f1.toList = []) ∧ (kind = 1 → x.f0.toList ≠ [])
def ordS (kind : Int) (a b : Rw) : Prop := ((kind = 4 ∨ kind = 5) → lt a.f0 b.f0) ∧ (kind = 7 → ¬ lt b.f0 a.f0)
structure OkS (kind n : Int) (xs : List Rw) : Prop where
  k1 : 1 ≤ kind
  k7 : kind ≤ 7
  num : kind = 2 ∨ kind = 3 → xs = []
  non : ¬ (kind = 2 ∨ kind = 3) → n = 0
  acc : kind = 3 → 0 ≤ n
  lo : -9223372036854775808 ≤ n
  hi : n < 9223372036854775808
  len : xs.length ≤ 8
  one : kind = 1 → xs.length ≤ 1
  row : ∀ x ∈ xs, rowS kind x
  ord : xs.Pairwise (ordS kind)
theorem ordS_trans {kind : Int} {a b c : Rw} (h : ordS kind a b) (k : ordS kind b c) : ordS kind a c :=
  ⟨fun q => lt_trans' (h.1 q) (k.1 q), fun q => le_trans' (h.2 q) (k.2 q)⟩
theorem pairwise_of_next {kind : Int} (z : Rw) : ∀ (xs : List Rw), (∀ i, i + 1 < xs.length → ordS kind (xs.getD i z) (xs.getD (i + 1) z)) → xs.Pairwise (ordS kind)
  | [], _ => List.Pairwise.nil
  | [x], _ => List.pairwise_singleton _ _
  | x :: y :: l, h => by
    have ih := pairwise_of_next z (y :: l) (fun i hi => h (i + 1) (by simpa using hi))
    refine List.Pairwise.cons (fun b hb => ?_) ih
    have h0 : ordS kind x y := h 0 (by simp)
    rcases List.mem_cons.1 hb with rfl | hb
    · exact h0
    · exact ordS_trans h0 ((List.pairwise_cons.1 ih).1 b hb)
theorem ins_pairwise {α : Type} {R : α → α → Prop} {xs : List α} {p : Nat} {r : α} (h : xs.Pairwise R) (h1 : ∀ a ∈ xs.take p, R a r) (h2 : ∀ b ∈ xs.drop p, R r b) : (xs.take p ++ r :: xs.drop p).Pairwise R := by
  have h0 : (xs.take p ++ xs.drop p).Pairwise R := by rw [List.take_append_drop]; exact h
  obtain ⟨a1, a2, a3⟩ := List.pairwise_append.1 h0
  refine List.pairwise_append.2 ⟨a1, List.Pairwise.cons h2 a2, fun a ha b hb => ?_⟩
  rcases List.mem_cons.1 hb with rfl | hb
  · exact h1 a ha
  · exact a3 a ha b hb
theorem insPos_spec (kind : Int) (xs : List Rw) (key : ByteArray) : ∀ n, (∀ j, insPos kind xs key n ≤ j → j < n → kind ≠ 6 ∧ lt key (xs.getD j zRow).f0) ∧ (0 < insPos kind xs key n → kind ≠ 6 → ¬ lt key (xs.getD (insPos kind xs key n - 1) zRow).f0)
  | 0 => ⟨fun j _ h => by omega, fun h => by simp [insPos] at h⟩
  | n + 1 => by
    have ih := insPos_spec kind xs key n
    have hle := insPos_le kind xs key n
    by_cases q : kind ≠ 6 ∧ Op.bytesLess key.toList (xs.getD n zRow).f0.toList = true
    · rw [insPos, if_pos q]
      refine ⟨fun j h1 h2 => ?_, ih.2⟩
      by_cases hj : j = n
      · subst hj; exact q
      · exact ih.1 j h1 (by omega)
    · rw [insPos, if_neg q]
      exact ⟨fun j h1 h2 => by omega, fun _ h6 h => q ⟨h6, h⟩⟩
theorem mem_take_get {α : Type} {xs : List α} {p : Nat} {a : α} (h : a ∈ xs.take p) : ∃ j, ∃ hj : j < xs.length, j < p ∧ xs[j] = a := by
  obtain ⟨j, hj, e⟩ := List.mem_iff_getElem.1 h
  rw [List.length_take] at hj
  rw [List.getElem_take] at e
  exact ⟨j, by omega, by omega, e⟩
theorem mem_drop_get {α : Type} {xs : List α} {p : Nat} {a : α} (h : a ∈ xs.drop p) : ∃ j, ∃ hj : j < xs.length, p ≤ j ∧ xs[j] = a := by
  obtain ⟨j, hj, e⟩ := List.mem_iff_getElem.1 h
  rw [List.length_drop] at hj
  rw [List.getElem_drop] at e
  exact ⟨p + j, by omega, by omega, e⟩
theorem with_ord (kind : Int) (xs : List Rw) (r : Rw) (h : xs.Pairwise (ordS kind)) (hn : kind = 4 ∨ kind = 5 → ∀ x ∈ xs, x.f0 ≠ r.f0) : (withR kind xs r).Pairwise (ordS kind) := by
  obtain ⟨s1, s2⟩ := insPos_spec kind xs r.f0 xs.length
  have hle := insPos_le kind xs r.f0 xs.length
  unfold withR
  generalize insPos kind xs r.f0 xs.length = p at s1 s2 hle ⊢
  have hget : ∀ j (hj : j < xs.length), xs.getD j zRow = xs[j] := fun j hj => by rw [List.getD_eq_getElem?_getD, List.getElem?_eq_getElem hj]; rfl
  refine ins_pairwise h (fun a ha => ?_) (fun b hb => ?_)
  · obtain ⟨j, hj, hjp, rfl⟩ := mem_take_get ha
    have hp1 : p - 1 < xs.length := by omega
    have key : kind ≠ 6 → ¬ lt r.f0 xs[p - 1].f0 := fun h6 => by
      have := s2 (by omega) h6
      rwa [hget _ hp1] at this
    constructor
    · intro q
      have hk := key (by omega)
      have hlt : lt xs[p - 1].f0 r.f0 := by
        rcases lt_tot hk with h1 | h1
        · exact h1
        · exact absurd h1.symm (hn q _ (List.getElem_mem hp1))
      by_cases hjj : j = p - 1
      · subst hjj; exact hlt
      · exact lt_trans' ((List.pairwise_iff_getElem.1 h j (p - 1) hj hp1 (by omega)).1 q) hlt
    · intro q
      have hk := key (by omega)
      by_cases hjj : j = p - 1
      · subst hjj; exact hk
      · exact le_trans' ((List.pairwise_iff_getElem.1 h j (p - 1) hj hp1 (by omega)).2 q) hk
  · obtain ⟨j, hj, hjp, rfl⟩ := mem_drop_get hb
    have hk := s1 j hjp hj
    rw [hget _ hj] at hk
    exact ⟨fun _ => hk.2, fun _ => lt_asymm' hk.2⟩
theorem without_sub (xs : List Rw) (key : ByteArray) : (withoutR xs key).Sublist xs := by
  unfold withoutR
  cases posR xs key with
  | none => exact List.Sublist.refl _
  | some i =>
    have h1 : (xs.take i ++ xs.drop (i + 1)).Sublist (xs.take i ++ xs.drop i) := by
      refine List.Sublist.append_left ?_ _
      rw [show i + 1 = i + 1 from rfl, ← List.drop_drop]
      exact List.drop_sublist _ _
    rwa [List.take_append_drop] at h1
theorem with_mem {kind : Int} {xs : List Rw} {r x : Rw} (h : x ∈ withR kind xs r) : x = r ∨ x ∈ xs := by
  unfold withR at h
  rcases List.mem_append.1 h with h | h
  · exact .inr (List.mem_of_mem_take h)
  · rcases List.mem_cons.1 h with h | h
    · exact .inl h
    · exact .inr (List.mem_of_mem_drop h)
theorem posR_none {xs : List Rw} {key : ByteArray} (h : posR xs key = none) : ∀ x ∈ xs, x.f0 ≠ key := by
  intro x hx e
  unfold posR at h
  rw [List.findIdx?_eq_none_iff] at h
  have := h x hx
  subst e
  simp at this
abbrev Rr := S72
def to68 (x : Rr) : Rw := ⟨x.f0, x.f1⟩
theorem row_f (kind : Int) (xs : List Rr) (hl : xs.length < 1000000) (i : Nat) (hi : i < xs.length) : ∃ r, Ev (fun k => armoireref11_row.f k kind xs (i : Int)) r ∧ (r = 0 → rowS kind (to68 xs[i]) ∧ ∀ h0 : 0 < i, ordS kind (to68 xs[i - 1]) (to68 xs[i])) := by
  have hx : rd_T72 xs (i : Int) = xs[i] := by simp [rd_T72, hi]
  have hp : 0 < i → wrap64 ((i : Int) - 1) = ((i - 1 : Nat) : Int) ∧ rd_T72 xs (((i - 1 : Nat)) : Int) = xs[i - 1] := by
    intro h0
    refine ⟨by unfold wrap64; omega, by have : i - 1 < xs.length := by omega
                                        simp [rd_T72, this]⟩
  generalize hkey : xs[i] = y at hx
  obtain ⟨key, val⟩ := y
  have h2 : ∀ b, ∃ r, Ev (fun k => armoireref11_row.j2 k kind xs (i : Int) b key val) r ∧ (r = 0 → b = false ∧ ∀ h0 : 0 < i, kind = 7 → ¬ lt key xs[i - 1].f0) := by
    intro b
    cases b with
    | true => exact ⟨2, Ev.step (f := fun _ => some 2) (fun k => by rw [armoireref11_row.j2, if_pos rfl]) (Ev.now _), fun h => absurd h (by decide)⟩
    | false =>
      by_cases h0 : 0 < i
      · obtain ⟨e1, e2⟩ := hp h0
        by_cases q7 : kind = 7
        · by_cases hlt : Op.bytesLess key.toList xs[i - 1].f0.toList = true
          · refine ⟨2, Ev.step (f := fun _ => some 2) (fun k => ?_) (Ev.now _), fun h => absurd h (by decide)⟩
            rw [armoireref11_row.j2, if_neg (by decide), if_pos (by omega), if_pos q7, e1, if_pos (by omega), if_pos (by omega), e2, if_pos hlt]
          · refine ⟨0, Ev.step (f := fun _ => some 0) (fun k => ?_) (Ev.now _), fun _ => ⟨rfl, fun _ _ => hlt⟩⟩
            rw [armoireref11_row.j2, if_neg (by decide), if_pos (by omega), if_pos q7, e1, if_pos (by omega), if_pos (by omega), e2, if_neg hlt]
        · refine ⟨0, Ev.step (f := fun _ => some 0) (fun k => ?_) (Ev.now _), fun _ => ⟨rfl, fun _ h => absurd h q7⟩⟩
          rw [armoireref11_row.j2, if_neg (by decide), if_pos (by omega), if_neg q7]
      · refine ⟨0, Ev.step (f := fun _ => some 0) (fun k => ?_) (Ev.now _), fun _ => ⟨rfl, fun h => absurd h h0⟩⟩
        rw [armoireref11_row.j2, if_neg (by decide), if_neg (by omega)]
  have h1 : ∀ b, ∃ r, Ev (fun k => armoireref11_row.j1 k kind xs (i : Int) b key val) r ∧ (r = 0 → b = false ∧ ∀ h0 : 0 < i, ((kind = 4 ∨ kind = 5) → lt xs[i - 1].f0 key) ∧ (kind = 7 → ¬ lt key xs[i - 1].f0)) := by
    intro b
    cases b with
    | true => exact ⟨2, Ev.step (f := fun _ => some 2) (fun k => by rw [armoireref11_row.j1, if_pos rfl]) (Ev.now _), fun h => absurd h (by decide)⟩
    | false =>
      by_cases h0 : 0 < i
      · obtain ⟨e1, e2⟩ := hp h0
        by_cases q45 : kind = 4 ∨ kind = 5
        · obtain ⟨r, hr, hr0⟩ := h2 (!(Op.bytesLess xs[i - 1].f0.toList key.toList))
          refine ⟨r, Ev.step (fun k => ?_) hr, fun h => ⟨rfl, fun _ => ⟨fun _ => ?_, (hr0 h).2 h0⟩⟩⟩
          · rw [armoireref11_row.j1, if_neg (by decide), if_pos (by omega), e1, e2]
            rcases q45 with q | q
            · rw [if_pos q, if_pos (by omega), if_pos (by omega)]
            · rw [if_neg (by omega), if_pos q, if_pos (by omega), if_pos (by omega)]
          · have := (hr0 h).1
            simpa [lt] using this
        · obtain ⟨r, hr, hr0⟩ := h2 false
          refine ⟨r, Ev.step (fun k => ?_) hr, fun h => ⟨rfl, fun _ => ⟨fun q => absurd q q45, (hr0 h).2 h0⟩⟩⟩
          rw [armoireref11_row.j1, if_neg (by decide), if_pos (by omega), if_neg (by omega), if_neg (by omega)]
      · obtain ⟨r, hr, hr0⟩ := h2 false
        refine ⟨r, Ev.step (fun k => ?_) hr, fun h => ⟨rfl, fun h => absurd h h0⟩⟩
        rw [armoireref11_row.j1, if_neg (by decide), if_neg (by omega)]
  have h0 : ∀ b, ∃ r, Ev (fun k => armoireref11_row.j0 k kind xs (i : Int) b key val) r ∧ (r = 0 → b = false ∧ (kind ≠ 5 → val.toList = []) ∧ (kind = 1 → key.toList ≠ []) ∧ ∀ h0 : 0 < i, ((kind = 4 ∨ kind = 5) → lt xs[i - 1].f0 key) ∧ (kind = 7 → ¬ lt key xs[i - 1].f0)) := by
    intro b
    cases b with
    | true => exact ⟨3, Ev.step (f := fun _ => some 3) (fun k => by rw [armoireref11_row.j0, if_pos rfl]) (Ev.now _), fun h => absurd h (by decide)⟩
    | false =>
      by_cases q5 : kind = 5
      · obtain ⟨r, hr, hr0⟩ := h1 false
        refine ⟨r, Ev.step (fun k => ?_) hr, fun h => ⟨rfl, fun q => absurd q5 q, fun q => by omega, (hr0 h).2⟩⟩
        rw [armoireref11_row.j0, if_neg (by decide), if_pos q5, if_neg (by omega)]
      · by_cases qv : val.toList = []
        · by_cases q1 : kind = 1
          · obtain ⟨r, hr, hr0⟩ := h1 (key.toList == ([] : List UInt8))
            refine ⟨r, Ev.step (fun k => ?_) hr, fun h => ⟨rfl, fun _ => qv, fun _ => by simpa using (hr0 h).1, (hr0 h).2⟩⟩
            rw [armoireref11_row.j0, if_neg (by decide), if_neg q5, if_pos qv, if_pos q1]
          · obtain ⟨r, hr, hr0⟩ := h1 false
            refine ⟨r, Ev.step (fun k => ?_) hr, fun h => ⟨rfl, fun _ => qv, fun q => absurd q q1, (hr0 h).2⟩⟩
            rw [armoireref11_row.j0, if_neg (by decide), if_neg q5, if_pos qv, if_neg q1]
        · obtain ⟨r, hr, hr0⟩ := h1 true
          refine ⟨r, Ev.step (fun k => ?_) hr, fun h => by simpa using (hr0 h).1⟩
          rw [armoireref11_row.j0, if_neg (by decide), if_neg q5, if_neg qv]
  obtain ⟨r, hr, hr0⟩ := h0 (decide (24 < key.size) || decide (24 < val.size))
  refine ⟨r, Ev.congr (fun k => ?_) hr, fun h => ?_⟩
  · unfold armoireref11_row.f
    rw [if_pos (by omega), if_pos (by omega), hx]
    by_cases q : 24 < key.size
    · rw [if_pos (by simpa using (by omega : (key.size : Int) > 24)), decide_eq_true q, Bool.true_or]
    · rw [if_neg (by show ¬ ((key.size : Int) > 24); omega), decide_eq_false q, Bool.false_or]
      rw [show decide ((val.size : Int) > 24) = decide (24 < val.size) by simp only [decide_eq_decide]; omega]
  · obtain ⟨a1, a2, a3, a4⟩ := hr0 h
    simp only [Bool.or_eq_false_iff, decide_eq_false_iff_not] at a1
    exact ⟨⟨by show key.size ≤ 24; omega, by show val.size ≤ 24; omega, a2, a3⟩, fun h0 => a4 h0⟩
theorem rcheck_l0 (kind n : Int) (xs : List Rr) (hl : xs.length < 1000000) : ∀ d i, i + d = xs.length → ∃ r, Ev (fun k => armoireref11_Check.l0 k (xs.length : Int) (i : Int) kind n xs) r ∧ (r = 0 → ∀ j (hj : j < xs.length), i ≤ j → rowS kind (to68 xs[j]) ∧ ∀ h0 : 0 < j, ordS kind (to68 xs[j - 1]) (to68 xs[j])) := by
  intro d
  induction d with
  | zero =>
    intro i hi
    refine ⟨0, Ev.step (f := fun _ => some 0) (fun k => ?_) (Ev.now _), fun _ j hj hij => by omega⟩
    rw [armoireref11_Check.l0, if_neg (by omega)]
  | succ d ih =>
    intro i hi
    have hlt : i < xs.length := by omega
    have hw : wrap64 ((i : Int) + 1) = ((i + 1 : Nat) : Int) := by unfold wrap64; omega
    obtain ⟨r, hr, hr0⟩ := row_f kind xs hl i hlt
    by_cases q : r = 0
    · subst q
      obtain ⟨s, hs, hs0⟩ := ih (i + 1) (by omega)
      refine ⟨s, Ev.step (f := fun k => (armoireref11_row.f k kind xs (i : Int)).bind fun t => if t = 0 then armoireref11_Check.l0 k (xs.length : Int) (wrap64 ((i : Int) + 1)) kind n xs else (armoireref11_row.f k kind xs (i : Int)).bind fun t => some t) (fun k => ?_) ?_, fun h j hj hij => ?_⟩
      · rw [armoireref11_Check.l0, if_pos (by omega)]
      · refine Ev.bind hr ?_
        refine Ev.congr (fun k => ?_) hs
        rw [if_pos rfl, hw]
      · by_cases hji : j = i
        · subst hji; exact hr0 rfl
        · exact hs0 h j hj (by omega)
    · refine ⟨r, Ev.step (f := fun k => (armoireref11_row.f k kind xs (i : Int)).bind fun t => if t = 0 then armoireref11_Check.l0 k (xs.length : Int) (wrap64 ((i : Int) + 1)) kind n xs else (armoireref11_row.f k kind xs (i : Int)).bind fun t => some t) (fun k => ?_) ?_, fun h => absurd h q⟩
      · rw [armoireref11_Check.l0, if_pos (by omega)]
      · refine Ev.bind hr ?_
        refine Ev.congr (fun k => ?_) (Ev.bind (f := fun _ t => some t) hr (Ev.now _))
        rw [if_neg q]
theorem rcheck_f (kind n : Int) (xs : List Rr) (hl : xs.length < 1000000) (h1 : 1 ≤ kind) (h7 : kind ≤ 7) (hn : ¬ (kind = 2 ∨ kind = 3)) (h0 : n = 0) : ∃ r, Ev (fun k => armoireref11_Check.f k kind n xs) r ∧ (r = 0 → OkS kind n (xs.map to68)) := by
  subst h0
  obtain ⟨r, hr, hr0⟩ := rcheck_l0 kind 0 xs hl xs.length 0 (by omega)
  have h3 : ∀ b, ∃ r, Ev (fun k => armoireref11_Check.j3 k b kind 0 xs) r ∧ (r = 0 → b = false ∧ ∀ j (hj : j < xs.length), rowS kind (to68 xs[j]) ∧ ∀ h0 : 0 < j, ordS kind (to68 xs[j - 1]) (to68 xs[j])) := by
    intro b
    cases b with
    | true => exact ⟨7, Ev.step (f := fun _ => some 7) (fun k => by rw [armoireref11_Check.j3, if_pos rfl]) (Ev.now _), fun h => absurd h (by decide)⟩
    | false => exact ⟨r, Ev.step (fun k => by rw [armoireref11_Check.j3, if_neg (by decide)]; rfl) hr, fun h => ⟨rfl, fun j hj => hr0 h j hj (by omega)⟩⟩
  obtain ⟨s, hs, hs0⟩ := h3 (decide (8 < xs.length) || (decide (kind = 1) && decide (1 < xs.length)))
  have h2 : Ev (fun k => armoireref11_Check.j2 k false kind 0 xs) s := by
    refine Ev.step (fun k => ?_) hs
    rw [armoireref11_Check.j2, if_neg (by decide)]
    by_cases q8 : 8 < xs.length
    · rw [if_pos (by omega), decide_eq_true q8, Bool.true_or]
    · rw [if_neg (by omega), decide_eq_false q8, Bool.false_or]
      by_cases q1 : kind = 1
      · rw [if_pos q1, decide_eq_true q1, Bool.true_and, show decide ((xs.length : Int) > 1) = decide (1 < xs.length) by simp only [decide_eq_decide]; omega]
      · rw [if_neg q1, decide_eq_false q1, Bool.false_and]
  have h1' : Ev (fun k => armoireref11_Check.j1 k false kind 0 xs) s := by
    refine Ev.step (fun k => ?_) h2
    rw [armoireref11_Check.j1, if_neg (by decide), if_pos rfl, if_neg (by omega)]
  have h0' : Ev (fun k => armoireref11_Check.j0 k false kind 0 xs) s := by
    refine Ev.step (fun k => ?_) h1'
    rw [armoireref11_Check.j0, if_neg (by decide), if_neg (by omega), show (kind == 3) = false from beq_eq_false_iff_ne.2 (by omega)]
  refine ⟨s, Ev.congr (fun k => ?_) h0', fun h => ?_⟩
  · unfold armoireref11_Check.f
    rw [if_neg (by omega), decide_eq_false (by omega)]
  · obtain ⟨b1, b2⟩ := hs0 h
    simp only [Bool.or_eq_false_iff, Bool.and_eq_false_iff, decide_eq_false_iff_not] at b1
    refine ⟨h1, h7, fun q => absurd q hn, fun _ => rfl, fun q => by omega, by omega, by omega, by rw [List.length_map]; omega, fun q => by rw [List.length_map]; omega, fun x hx => ?_, pairwise_of_next zRow _ (fun i hi => ?_)⟩
    · obtain ⟨y, hy, rfl⟩ := List.mem_map.1 hx
      obtain ⟨j, hj, rfl⟩ := List.mem_iff_getElem.1 hy
      exact (b2 j hj).1
    · rw [List.length_map] at hi
      have := (b2 (i + 1) hi).2 (by omega)
      rw [List.getD_eq_getElem?_getD, List.getD_eq_getElem?_getD, List.getElem?_eq_getElem (by rw [List.length_map]; omega), List.getElem?_eq_getElem (by rw [List.length_map]; omega), List.getElem_map, List.getElem_map]
      exact this
theorem rwith_l0 (kind n : Int) (r0 r1 : ByteArray) (xs : List Rr) (hl : xs.length < 1000000) : ∀ d i out (b : Bool), i + d = xs.length → out.length = i + b.toNat → ∃ ys, Ev (fun k => armoireref11_With.l0 k out b xs (xs.length : Int) (i : Int) kind n xs r0 r1) (kind, n, ys) ∧ ys.length = xs.length + 1 := by
  intro d
  induction d with
  | zero =>
    intro i out b hi ho
    cases b with
    | true =>
      refine ⟨out, Ev.step (f := fun _ => some (kind, n, out)) (fun k => ?_) (Ev.now _), by simp at ho; omega⟩
      rw [armoireref11_With.l0, if_neg (by omega), if_pos rfl]
    | false =>
      refine ⟨out ++ [⟨r0, r1⟩], Ev.step (f := fun _ => some (kind, n, out ++ [⟨r0, r1⟩])) (fun k => ?_) (Ev.now _), by simp at ho ⊢; omega⟩
      rw [armoireref11_With.l0, if_neg (by omega), if_neg (by decide), if_pos (by simp at ho; omega)]
  | succ d ih =>
    intro i out b hi ho
    have hlt : i < xs.length := by omega
    have hw : wrap64 ((i : Int) + 1) = ((i + 1 : Nat) : Int) := by unfold wrap64; omega
    have hx : rd_T72 xs (i : Int) = xs[i] := by simp [rd_T72, hlt]
    have hb : b.toNat ≤ 1 := by cases b <;> decide
    obtain ⟨ys, h1, h2⟩ := ih (i + 1) (out ++ [⟨xs[i].f0, xs[i].f1⟩]) b (by omega) (by simp; omega)
    by_cases qb : b = true
    · subst qb
      refine ⟨ys, Ev.step (fun k => ?_) h1, h2⟩
      rw [armoireref11_With.l0, if_pos (by omega), if_pos (by omega), if_pos (by omega), if_pos rfl, if_pos (by omega), hx, hw]
    · by_cases q6 : kind = 6
      · refine ⟨ys, Ev.step (fun k => ?_) h1, h2⟩
        rw [armoireref11_With.l0, if_pos (by omega), if_pos (by omega), if_pos (by omega), if_neg qb, if_pos q6, if_pos (by omega), hx, hw]
      · by_cases ql : Op.bytesLess r0.toList xs[i].f0.toList = true
        · obtain ⟨zs, h3, h4⟩ := ih (i + 1) (out ++ [⟨r0, r1⟩] ++ [⟨xs[i].f0, xs[i].f1⟩]) true (by omega) (by cases b <;> simp at ho qb ⊢; omega)
          refine ⟨zs, Ev.step (fun k => ?_) h3, h4⟩
          rw [armoireref11_With.l0, if_pos (by omega), if_pos (by omega), if_pos (by omega), if_neg qb, if_neg q6, hx, if_pos ql, if_pos (by omega), Option.bind_some, if_pos (by simp; omega), hw]
        · refine ⟨ys, Ev.step (fun k => ?_) h1, h2⟩
          rw [armoireref11_With.l0, if_pos (by omega), if_pos (by omega), if_pos (by omega), if_neg qb, if_neg q6, hx, if_neg ql, if_pos (by omega), hw]
theorem rwith_f (kind n : Int) (r0 r1 : ByteArray) (xs : List Rr) (hl : xs.length < 1000000) : ∃ ys, Ev (fun k => armoireref11_With.f k kind n xs r0 r1) (kind, n, ys) ∧ ys.length = xs.length + 1 := by
  obtain ⟨ys, h1, h2⟩ := rwith_l0 kind n r0 r1 xs hl xs.length 0 [] false (by omega) rfl
  exact ⟨ys, h1, h2⟩
theorem cut_k (s : ByteArray) (m : Nat) : armoirelaw01_Cut.f s (m : Int) = some (s.extract 0 (min m s.size)) := by
  unfold armoirelaw01_Cut.f
  by_cases q : m < s.size
  · rw [if_pos (by omega), if_pos (by omega), if_pos (by omega), Int.toNat_natCast, Nat.min_eq_left (by omega)]
  · rw [if_neg (by omega), Nat.min_eq_right (by omega)]
    congr 1
    exact bytes_ext (by rw [ba_extract, List.drop_zero, List.take_of_length_le (by rw [ba_size]; omega)])
theorem ok_empty (kind : Int) (h1 : 1 ≤ kind) (h7 : kind ≤ 7) : OkS kind 0 [] :=
  ⟨h1, h7, fun _ => rfl, fun _ => rfl, fun _ => by omega, by omega, by omega, by simp, fun _ => by simp, fun x hx => by simp at hx, List.Pairwise.nil⟩
theorem tidy_l0 (kind : Int) (h1 : 1 ≤ kind) (h7 : kind ≤ 7) (hn : ¬ (kind = 2 ∨ kind = 3)) (most a0 a1 : Int) (rs : List Rw) (hm : most ≤ 8) : ∀ (d i : Nat) (xs : List Rr), d + i = 20 → xs.length ≤ 8 → OkS kind 0 (xs.map to68) → ∃ ys, Ev (fun k => armoirelaw11_Tidy.l0 k most (i : Int) a0 a1 rs kind 0 xs) (kind, 0, ys) ∧ OkS kind 0 (ys.map to68) := by
  intro d
  induction d with
  | zero =>
    intro i xs hi hx hok
    have h3 : Ev (fun k => armoirelaw11_Tidy.j3 k most (i : Int) false a0 a1 rs kind 0 xs) (kind, 0, xs) :=
      Ev.step (f := fun _ => some (kind, 0, xs)) (fun k => by rw [armoirelaw11_Tidy.j3, if_neg (by decide)]) (Ev.now _)
    refine ⟨xs, Ev.step (fun k => ?_) h3, hok⟩
    rw [armoirelaw11_Tidy.l0, decide_eq_false (by omega)]
    simp
  | succ d ih =>
    intro i xs hi hx hok
    by_cases qt : i < rs.length ∧ (xs.length : Int) < most
    · have hg : rd_T73 rs (i : Int) = rs[i]'qt.1 := by simp [rd_T73, qt.1]
      have hw : wrap64 ((i : Int) + 1) = ((i + 1 : Nat) : Int) := by unfold wrap64; omega
      have h4 : ∀ c0 c1, ∃ ys, Ev (fun k => armoirelaw11_Tidy.j4 k most (i : Int) a0 a1 rs kind 0 xs c0 c1) (kind, 0, ys) ∧ OkS kind 0 (ys.map to68) := by
        intro c0 c1
        obtain ⟨zs, z1, z2⟩ := rwith_f kind 0 c0 c1 xs (by omega)
        obtain ⟨s, s1, s2⟩ := rcheck_f kind 0 zs (by omega) h1 h7 hn rfl
        by_cases qs : s = 0
        · subst qs
          have hok2 := s2 rfl
          obtain ⟨ys, y1, y2⟩ := ih (i + 1) zs (by omega) (by have := hok2.len; rwa [List.length_map] at this) hok2
          refine ⟨ys, Ev.step (f := fun k => (armoireref11_With.f k kind 0 xs c0 c1).bind fun bt => (armoireref11_Check.f k bt.1 bt.2.1 bt.2.2).bind fun t => if t = 0 then armoirelaw11_Tidy.l0 k most (wrap64 ((i : Int) + 1)) a0 a1 rs bt.1 bt.2.1 bt.2.2 else armoirelaw11_Tidy.l0 k most (wrap64 ((i : Int) + 1)) a0 a1 rs kind 0 xs) (fun k => by rw [armoirelaw11_Tidy.j4]) ?_, y2⟩
          refine Ev.bind z1 (Ev.bind s1 (Ev.congr (fun k => ?_) y1))
          rw [if_pos rfl, hw]
        · obtain ⟨ys, y1, y2⟩ := ih (i + 1) xs (by omega) hx hok
          refine ⟨ys, Ev.step (f := fun k => (armoireref11_With.f k kind 0 xs c0 c1).bind fun bt => (armoireref11_Check.f k bt.1 bt.2.1 bt.2.2).bind fun t => if t = 0 then armoirelaw11_Tidy.l0 k most (wrap64 ((i : Int) + 1)) a0 a1 rs bt.1 bt.2.1 bt.2.2 else armoirelaw11_Tidy.l0 k most (wrap64 ((i : Int) + 1)) a0 a1 rs kind 0 xs) (fun k => by rw [armoirelaw11_Tidy.j4]) ?_, y2⟩
          refine Ev.bind z1 (Ev.bind s1 (Ev.congr (fun k => ?_) y1))
          rw [if_neg qs, hw]
      have hc : ∀ s : ByteArray, armoirelaw01_Cut.f s 24 = some (s.extract 0 (min 24 s.size)) := fun s => cut_k s 24
      have h3 : ∃ ys, Ev (fun k => armoirelaw11_Tidy.j3 k most (i : Int) true a0 a1 rs kind 0 xs) (kind, 0, ys) ∧ OkS kind 0 (ys.map to68) := by
        by_cases q5 : kind = 5
        · obtain ⟨ys, y1, y2⟩ := h4 ((rs[i]'qt.1).f0.extract 0 (min 24 (rs[i]'qt.1).f0.size)) ((rs[i]'qt.1).f1.extract 0 (min 24 (rs[i]'qt.1).f1.size))
          refine ⟨ys, Ev.step (fun k => ?_) y1, y2⟩
          rw [armoirelaw11_Tidy.j3, if_pos rfl, if_pos (by omega), if_pos (by omega), hg, hc, Option.bind_some, if_pos q5, hc, Option.bind_some]
        · obtain ⟨ys, y1, y2⟩ := h4 ((rs[i]'qt.1).f0.extract 0 (min 24 (rs[i]'qt.1).f0.size)) ⟨#[]⟩
          refine ⟨ys, Ev.step (fun k => ?_) y1, y2⟩
          rw [armoirelaw11_Tidy.j3, if_pos rfl, if_pos (by omega), if_pos (by omega), hg, hc, Option.bind_some, if_neg q5]
      obtain ⟨ys, y1, y2⟩ := h3
      refine ⟨ys, Ev.step (fun k => ?_) y1, y2⟩
      rw [armoirelaw11_Tidy.l0, if_pos (by omega), if_pos qt.2, decide_eq_true (by omega)]
    · have h3 : Ev (fun k => armoirelaw11_Tidy.j3 k most (i : Int) false a0 a1 rs kind 0 xs) (kind, 0, xs) :=
        Ev.step (f := fun _ => some (kind, 0, xs)) (fun k => by rw [armoirelaw11_Tidy.j3, if_neg (by decide)]) (Ev.now _)
      refine ⟨xs, Ev.step (fun k => ?_) h3, hok⟩
      rw [armoirelaw11_Tidy.l0]
      by_cases q1 : i < rs.length
      · rw [if_pos (by omega), if_neg (fun h => qt ⟨q1, h⟩)]
      · rw [if_neg (by omega)]
theorem tidy_f (a0 a1 : Int) (rs : List Rw) (lo : -9223372036854775808 ≤ a1) (hi : a1 < 9223372036854775808) : ∃ kd m ys, Ev (fun k => armoirelaw11_Tidy.f k a0 a1 rs) (kd, m, ys) ∧ OkS kd m (ys.map to68) := by
  have hb := i64_mask 8 (by decide) a0
  obtain ⟨b, hbv⟩ : ∃ b, b = Go.bits .and .i64 a0 255 := ⟨_, rfl⟩
  have hb2 : 0 ≤ b ∧ b < 256 := by rw [hbv]; exact hb
  obtain ⟨kd, hkd⟩ : ∃ kd, kd = wrap64 (1 + Int.tmod b 7) := ⟨_, rfl⟩
  have hk : 1 ≤ kd ∧ kd ≤ 7 := by
    have e : Int.tmod b 7 = b % 7 := Int.tmod_eq_emod_of_nonneg hb2.1
    rw [hkd, e]
    unfold wrap64
    omega
  by_cases qn : kd = 2 ∨ kd = 3
  · by_cases q3 : kd = 3 ∧ a1 < 0
    · refine ⟨kd, wrap64 (-(wrap64 (a1 + 1))), [], ?_, ?_⟩
      · have hj : Ev (fun k => armoirelaw11_Tidy.j0 k true a0 a1 rs kd 0) (kd, wrap64 (-(wrap64 (a1 + 1))), []) :=
          Ev.step (f := fun _ => some _) (fun k => by rw [armoirelaw11_Tidy.j0, if_pos rfl, if_pos q3.1, if_pos q3.2]) (Ev.now _)
        refine Ev.congr (fun k => ?_) hj
        unfold armoirelaw11_Tidy.f
        rw [← hbv, ← hkd, if_neg (by omega), show (kd == 3) = true from beq_iff_eq.2 q3.1]
      · have e : wrap64 (-(wrap64 (a1 + 1))) = -(a1 + 1) := by unfold wrap64; omega
        rw [e]
        exact ⟨hk.1, hk.2, fun _ => rfl, fun h => absurd qn h, fun _ => by omega, by omega, by omega, by simp, fun _ => by simp, fun x hx => by simp at hx, List.Pairwise.nil⟩
    · refine ⟨kd, a1, [], ?_, ?_⟩
      · have hj : Ev (fun k => armoirelaw11_Tidy.j0 k true a0 a1 rs kd 0) (kd, a1, []) := by
          refine Ev.step (f := fun _ => some _) (fun k => ?_) (Ev.now _)
          rw [armoirelaw11_Tidy.j0, if_pos rfl]
          by_cases q : kd = 3
          · rw [if_pos q, if_neg (fun h => q3 ⟨q, h⟩)]
          · rw [if_neg q]
        refine Ev.congr (fun k => ?_) hj
        unfold armoirelaw11_Tidy.f
        rw [← hbv, ← hkd]
        by_cases q : kd = 2
        · rw [if_pos q]
        · rw [if_neg q, show (kd == 3) = true from beq_iff_eq.2 (by omega)]
      · exact ⟨hk.1, hk.2, fun _ => rfl, fun h => absurd qn h, fun q => by omega, lo, hi, by simp, fun _ => by simp, fun x hx => by simp at hx, List.Pairwise.nil⟩
  · have hr : ∀ most : Int, most ≤ 8 → ∃ ys, Ev (fun k => armoirelaw11_Tidy.j1 k most a0 a1 rs kd 0) (kd, 0, ys) ∧ OkS kd 0 (ys.map to68) := by
      intro most hm
      obtain ⟨ys, y1, y2⟩ := tidy_l0 kd hk.1 hk.2 qn most a0 a1 rs hm 20 0 [] rfl (by simp) (ok_empty kd hk.1 hk.2)
      exact ⟨ys, Ev.step (fun k => by rw [armoirelaw11_Tidy.j1]; rfl) y1, y2⟩
    obtain ⟨ys, y1, y2⟩ : ∃ ys, Ev (fun k => armoirelaw11_Tidy.j0 k false a0 a1 rs kd 0) (kd, 0, ys) ∧ OkS kd 0 (ys.map to68) := by
      by_cases q1 : kd = 1
      · obtain ⟨ys, y1, y2⟩ := hr 1 (by omega)
        exact ⟨ys, Ev.step (fun k => by rw [armoirelaw11_Tidy.j0, if_neg (by decide), if_pos q1]) y1, y2⟩
      · obtain ⟨ys, y1, y2⟩ := hr 8 (by omega)
        exact ⟨ys, Ev.step (fun k => by rw [armoirelaw11_Tidy.j0, if_neg (by decide), if_neg q1]) y1, y2⟩
    refine ⟨kd, 0, ys, Ev.congr (fun k => ?_) y1, y2⟩
    unfold armoirelaw11_Tidy.f
    rw [← hbv, ← hkd, if_neg (by omega), show (kd == 3) = false from beq_eq_false_iff_ne.2 (by omega)]
end Go.Proofs.YtjiblcncadekcaaGreat.PA

namespace Go.Proofs.YtjiblcncadekcaaGreat.PA
set_option linter.unusedSimpArgs false
set_option linter.unusedVariables false
open Go.RowKit Go.Proofs.YtjiblcncadekcaaGreatW.PrintWords Go.Proofs.YtjiblcncadekcaaGreatW.PrintLast Go.Proofs.YtjiblcncadekcaaGreatW.PrintMore Go.Proofs.YtjiblcncadekcaaGreat Go.Proofs.YtjiblcncadekcaaGreat.PL
theorem ev_add {α : Type} {g f : Nat → Option α} {r : α} (m : Nat) (h : ∀ k, g (k + m) = f k) (k : Ev f r) : Ev g r := by
  obtain ⟨K, hK⟩ := k
  refine ⟨K + m, fun j hj => ?_⟩
  have := h (j - m)
  rw [Nat.sub_add_cancel (by omega)] at this
  rw [this]
  exact hK _ (by omega)
def CallOk (op : Int) (a b : ByteArray) (cn : Int) : Prop := a.size ≤ 24 ∧ b.size ≤ 24 ∧ (op = 5 ∨ op = 6 → 1 ≤ cn ∧ cn ≤ 1048576)
theorem extract_size (s : ByteArray) : (s.extract 0 (min 24 s.size)).size ≤ 24 := by
  rw [ba_size, ba_extract, List.length_take]
  omega
theorem tidy12_f (c0 : Int) (c1 c2 : ByteArray) (c3 : Int) : ∃ o a b n, Ev (fun k => armoirelaw12_Tidy.f k c0 c1 c2 c3) (o, a, b, n) ∧ CallOk o a b n := by
  obtain ⟨o, ho⟩ : ∃ o, o = wrap64 (1 + (Int.tmod (Go.bits .and .i64 (wrap64 (c0 - 1)) 255) 17)) := ⟨_, rfl⟩
  have hc : ∀ s : ByteArray, armoirelaw01_Cut.f s 24 = some (s.extract 0 (min 24 s.size)) := fun s => cut_k s 24
  have hN : ∀ x, armoireref12_HasN.f x = some (x == 3 || x == 5 || x == 6) := by
    intro x
    unfold armoireref12_HasN.f
    by_cases q3 : x = 3
    · subst q3; rfl
    rw [if_neg q3, show (x == 3) = false from beq_eq_false_iff_ne.2 q3, Bool.false_or]
    by_cases q5 : x = 5
    · subst q5; rfl
    rw [if_neg q5, show (x == 5) = false from beq_eq_false_iff_ne.2 q5, Bool.false_or]
  have hm := i64_mask 20 (by decide) (wrap64 (c3 - 1))
  have h1 : ∀ a b : ByteArray, a.size ≤ 24 → b.size ≤ 24 → ∃ o' a' b' n', Ev (fun k => armoirelaw12_Tidy.j1 k c0 c1 c2 c3 o a b 0) (o', a', b', n') ∧ CallOk o' a' b' n' := by
    intro a b ha hb
    by_cases q : (o == 3 || o == 5 || o == 6) = true
    · by_cases q3 : o > 3
      · refine ⟨o, a, b, wrap64 (1 + (Go.bits .and .i64 (wrap64 (c3 - 1)) 1048575)), Ev.step (f := fun _ => some _) (fun k => by rw [armoirelaw12_Tidy.j1, hN, Option.bind_some, if_pos q, if_pos q3]) (Ev.now _), ha, hb, fun _ => ?_⟩
        have h2 : 0 ≤ Go.bits .and .i64 (wrap64 (c3 - 1)) 1048575 ∧ Go.bits .and .i64 (wrap64 (c3 - 1)) 1048575 < 2 ^ 20 := hm
        generalize Go.bits .and .i64 (wrap64 (c3 - 1)) 1048575 = z at h2 ⊢
        unfold wrap64
        omega
      · refine ⟨o, a, b, c3, Ev.step (f := fun _ => some _) (fun k => by rw [armoirelaw12_Tidy.j1, hN, Option.bind_some, if_pos q, if_neg q3]) (Ev.now _), ha, hb, fun h => by omega⟩
    · refine ⟨o, a, b, 0, Ev.step (f := fun _ => some _) (fun k => by rw [armoirelaw12_Tidy.j1, hN, Option.bind_some, if_neg q]) (Ev.now _), ha, hb, fun h => ?_⟩
      simp at q
      omega
  have h0 : ∀ a : ByteArray, a.size ≤ 24 → ∃ o' a' b' n', Ev (fun k => armoirelaw12_Tidy.j0 k c0 c1 c2 c3 o a ⟨#[]⟩ 0) (o', a', b', n') ∧ CallOk o' a' b' n' := by
    intro a ha
    by_cases q : o = 11
    · obtain ⟨o', a', b', n', e1, e2⟩ := h1 a (c2.extract 0 (min 24 c2.size)) ha (extract_size c2)
      exact ⟨o', a', b', n', Ev.step (fun k => by rw [armoirelaw12_Tidy.j0, if_pos q, hc, Option.bind_some]) e1, e2⟩
    · obtain ⟨o', a', b', n', e1, e2⟩ := h1 a ⟨#[]⟩ ha (by decide)
      exact ⟨o', a', b', n', Ev.step (fun k => by rw [armoirelaw12_Tidy.j0, if_neg q]) e1, e2⟩
  have hA : ∃ x, armoireref12_HasA.f o = some x := by
    unfold armoireref12_HasA.f
    repeat' split
    all_goals exact ⟨_, rfl⟩
  obtain ⟨x, hx⟩ := hA
  cases x with
  | true =>
    obtain ⟨o', a', b', n', e1, e2⟩ := h0 (c1.extract 0 (min 24 c1.size)) (extract_size c1)
    refine ⟨o', a', b', n', Ev.congr (fun k => ?_) e1, e2⟩
    unfold armoirelaw12_Tidy.f
    rw [← ho, hx, Option.bind_some, if_pos rfl, hc, Option.bind_some]
  | false =>
    obtain ⟨o', a', b', n', e1, e2⟩ := h0 ⟨#[]⟩ (by decide)
    refine ⟨o', a', b', n', Ev.congr (fun k => ?_) e1, e2⟩
    unfold armoirelaw12_Tidy.f
    rw [← ho, hx, Option.bind_some, if_neg (by decide)]
theorem rkind_f (op : Int) : ∃ r, armoireref12_Kind.f op = some r := by
  unfold armoireref12_Kind.f
  rw [Option.bind_some, if_pos (by unfold mx mn; repeat' split
                                   all_goals omega), if_pos (by simp only [List.length_cons, List.length_nil]; unfold mx mn; repeat' split
                                                                all_goals omega)]
  exact ⟨_, rfl⟩
theorem of_l0 (s0 s1 : Int) (l : List Rr) (c1 c2 : ByteArray) (c3 : Int) : ∀ (d i : Nat) (c0 o : Int) (a b : ByteArray) (n : Int), i + d = 17 → CallOk o a b n → ∃ o' a' b' n', Ev (fun k => armoirelaw13_Of.l0 k (i : Int) s0 s1 l c0 c1 c2 c3 o a b n) (o', a', b', n') ∧ CallOk o' a' b' n' := by
  intro d
  induction d with
  | zero =>
    intro i c0 o a b n hi hok
    exact ⟨o, a, b, n, Ev.step (f := fun _ => some _) (fun k => by rw [armoirelaw13_Of.l0, if_neg (by omega)]) (Ev.now _), hok⟩
  | succ d ih =>
    intro i c0 o a b n hi hok
    obtain ⟨r, hr⟩ := rkind_f o
    by_cases q : r = s0
    · exact ⟨o, a, b, n, Ev.step (f := fun _ => some _) (fun k => by rw [armoirelaw13_Of.l0, if_pos (by omega), hr, Option.bind_some, if_pos q]) (Ev.now _), hok⟩
    · obtain ⟨o2, a2, b2, n2, e1, e2⟩ := tidy12_f (wrap64 (o + 1)) c1 c2 c3
      have hw : wrap64 ((i : Int) + 1) = ((i + 1 : Nat) : Int) := by unfold wrap64; omega
      obtain ⟨o', a', b', n', f1, f2⟩ := ih (i + 1) (wrap64 (o + 1)) o2 a2 b2 n2 (by omega) e2
      refine ⟨o', a', b', n', Ev.step (f := fun k => (armoirelaw12_Tidy.f k (wrap64 (o + 1)) c1 c2 c3).bind fun bt => armoirelaw13_Of.l0 k (wrap64 ((i : Int) + 1)) s0 s1 l (wrap64 (o + 1)) c1 c2 c3 bt.1 bt.2.1 bt.2.2.1 bt.2.2.2) (fun k => by rw [armoirelaw13_Of.l0, if_pos (by omega), hr, Option.bind_some, if_neg q]) ?_, f2⟩
      refine Ev.bind e1 ?_
      rw [hw]
      exact f1
theorem of_f (s0 s1 : Int) (l : List Rr) (c0 : Int) (c1 c2 : ByteArray) (c3 : Int) : ∃ o a b n, Ev (fun k => armoirelaw13_Of.f k s0 s1 l c0 c1 c2 c3) (o, a, b, n) ∧ CallOk o a b n := by
  obtain ⟨o2, a2, b2, n2, e1, e2⟩ := tidy12_f c0 c1 c2 c3
  obtain ⟨o', a', b', n', f1, f2⟩ := of_l0 s0 s1 l c1 c2 c3 17 0 c0 o2 a2 b2 n2 rfl e2
  exact ⟨o', a', b', n', Ev.bind e1 f1, f2⟩
abbrev Rs := S40
theorem code_f (x : Bool) : adt_code.f x = some (if x = true then 1 else 2, ⟨#[]⟩, 0) := by cases x <;> rfl
theorem same_f (kind n : Int) (xs : List Rw) (hl : xs.length < 1000000) : Ev (fun k => value_State_Same.f k kind n xs kind n xs) true := by
  have hloop : ∀ (d i : Nat), i + d = xs.length → Ev (fun k => value_Row_39.l0 k xs xs (xs.length : Int) (i : Int)) true := by
    intro d
    induction d with
    | zero => exact fun i hi => Ev.step (f := fun _ => some true) (fun k => by rw [value_Row_39.l0, if_neg (by omega)]) (Ev.now _)
    | succ d ih =>
      intro i hi
      have hw : wrap64 ((i : Int) + 1) = ((i + 1 : Nat) : Int) := by unfold wrap64; omega
      refine Ev.step (fun k => ?_) (ih (i + 1) (by omega))
      rw [value_Row_39.l0, if_pos (by omega), if_pos (by omega), if_pos (by omega), if_pos (by omega), if_neg (by simp), hw]
  refine Ev.congr (fun k => ?_) (Ev.bind (f := fun _ t => some t) (hloop xs.length 0 (by omega)) (Ev.now _))
  unfold value_State_Same.f value_Row_39.f
  rw [if_pos rfl, if_pos rfl, if_pos rfl]
  rfl
end Go.Proofs.YtjiblcncadekcaaGreat.PA

namespace Go.Proofs.YtjiblcncadekcaaGreat.PA
set_option linter.unusedSimpArgs false
set_option linter.unusedVariables false
open Go.RowKit Go.Proofs.YtjiblcncadekcaaGreatW.PrintWords Go.Proofs.YtjiblcncadekcaaGreatW.PrintLast Go.Proofs.YtjiblcncadekcaaGreatW.PrintMore Go.Proofs.YtjiblcncadekcaaGreat Go.Proofs.YtjiblcncadekcaaGreat.PL
theorem perm_eq {α : Type} {R : α → α → Prop} : ∀ (l1 l2 : List α), (∀ a ∈ l1, ∀ b ∈ l1, R a b → R b a → a = b) → l1.Pairwise R → l2.Pairwise R → l1.Perm l2 → l1 = l2
  | [], l2, _, _, _, hp => hp.nil_eq
  | a :: l1, [], _, _, _, hp => by simpa using hp.length_eq
  | a :: l1, b :: l2, hu, h1, h2, hp => by
    have e : a = b := by
      have ha : a ∈ b :: l2 := hp.subset (by simp)
      have hb : b ∈ a :: l1 := hp.symm.subset (by simp)
      rcases List.mem_cons.1 ha with h | ha
      · exact h
      · rcases List.mem_cons.1 hb with h | hb'
        · exact h.symm
        · exact hu a (by simp) b (by simp [hb']) ((List.pairwise_cons.1 h1).1 b hb') ((List.pairwise_cons.1 h2).1 a ha)
    subst e
    rw [perm_eq l1 l2 (fun x hx y hy => hu x (by simp [hx]) y (by simp [hy])) (List.pairwise_cons.1 h1).2 (List.pairwise_cons.1 h2).2 ((List.perm_cons a).1 hp)]
def hasK (xs : List Rw) (a : ByteArray) : Prop := ∃ x ∈ xs, x.f0 = a
theorem posR_some {xs : List Rw} {key : ByteArray} {i : Nat} (h : posR xs key = some i) : ∃ x ∈ xs, x.f0 = key ∧ xs.Perm (x :: withoutR xs key) := by
  have h' := h
  unfold posR at h'
  rw [List.findIdx?_eq_some_iff_getElem] at h'
  obtain ⟨hi, hk, -⟩ := h'
  refine ⟨xs[i], List.getElem_mem hi, bytes_eq (by simpa using hk), ?_⟩
  unfold withoutR
  rw [h]
  show xs.Perm (xs[i] :: (xs.take i ++ xs.drop (i + 1)))
  have e : xs = xs.take i ++ xs[i] :: xs.drop (i + 1) := by
    rw [← List.drop_eq_getElem_cons hi, List.take_append_drop]
  exact (List.Perm.of_eq e).trans List.perm_middle
theorem hasK_iff (xs : List Rw) (a : ByteArray) : hasK xs a ↔ ∃ i, posR xs a = some i := by
  constructor
  · rintro ⟨x, hx, e⟩
    cases h : posR xs a with
    | some i => exact ⟨i, rfl⟩
    | none => exact absurd e (posR_none h x hx)
  · rintro ⟨i, h⟩
    obtain ⟨x, hx, e, -⟩ := posR_some h
    exact ⟨x, hx, e⟩
theorem hasK_none (xs : List Rw) (a : ByteArray) : ¬ hasK xs a ↔ posR xs a = none := by
  rw [hasK_iff]
  cases posR xs a <;> simp
theorem without_perm {xs : List Rw} {key : ByteArray} (h : hasK xs key) : ∃ x ∈ xs, x.f0 = key ∧ xs.Perm (x :: withoutR xs key) := by
  obtain ⟨i, h⟩ := (hasK_iff _ _).1 h
  exact posR_some h
theorem without_none {xs : List Rw} {key : ByteArray} (h : ¬ hasK xs key) : withoutR xs key = xs := by
  unfold withoutR
  rw [(hasK_none _ _).1 h]
theorem with_perm (kind : Int) (xs : List Rw) (r : Rw) : (withR kind xs r).Perm (r :: xs) := by
  unfold withR
  refine List.perm_middle.trans ?_
  rw [List.take_append_drop]
theorem hasK_perm {xs ys : List Rw} (h : xs.Perm ys) (a : ByteArray) : hasK xs a ↔ hasK ys a := by
  constructor
  · rintro ⟨x, hx, e⟩; exact ⟨x, h.subset hx, e⟩
  · rintro ⟨x, hx, e⟩; exact ⟨x, h.symm.subset hx, e⟩
theorem hasK_cons {xs : List Rw} {r : Rw} (a : ByteArray) : hasK (r :: xs) a ↔ r.f0 = a ∨ hasK xs a := by
  constructor
  · rintro ⟨x, hx, e⟩
    rcases List.mem_cons.1 hx with rfl | hx
    · exact .inl e
    · exact .inr ⟨x, hx, e⟩
  · rintro (h | ⟨x, hx, e⟩)
    · exact ⟨r, by simp, h⟩
    · exact ⟨x, by simp [hx], e⟩
theorem hasK_with (kind : Int) (xs : List Rw) (r : Rw) (a : ByteArray) : hasK (withR kind xs r) a ↔ r.f0 = a ∨ hasK xs a := (hasK_perm (with_perm kind xs r) a).trans (hasK_cons a)
theorem hasK_without {xs : List Rw} {key a : ByteArray} (hne : a ≠ key) : hasK (withoutR xs key) a ↔ hasK xs a := by
  by_cases h : hasK xs key
  · obtain ⟨x, hx, e, hp⟩ := without_perm h
    rw [hasK_perm hp a, hasK_cons, e]
    exact ⟨.inr, fun h => h.resolve_left (fun h => hne h.symm)⟩
  · rw [without_none h]
def Uq (xs : List Rw) : Prop := ∀ x ∈ xs, ∀ y ∈ xs, x.f0 = y.f0 → x = y
theorem with_with (k1 k2 k3 k4 : Int) (xs : List Rw) (r1 r2 : Rw) : (withR k1 (withR k2 xs r1) r2).Perm (withR k3 (withR k4 xs r2) r1) :=
  ((with_perm k1 _ r2).trans ((with_perm k2 xs r1).cons r2)).trans ((List.Perm.swap r1 r2 xs).trans (((with_perm k4 xs r2).cons r1).symm.trans (with_perm k3 _ r1).symm))
theorem with_without (kind : Int) {xs : List Rw} {r : Rw} {key : ByteArray} (hh : hasK xs key) (hu : Uq (withR kind xs r)) : (withoutR (withR kind xs r) key).Perm (withR kind (withoutR xs key) r) := by
  obtain ⟨x, hx, e, hp⟩ := without_perm hh
  obtain ⟨y, hy, f, hq⟩ := without_perm ((hasK_with kind xs r key).2 (.inr hh))
  have hxy : y = x := hu y hy x ((with_perm kind xs r).symm.subset (by simp [hx])) (by rw [e, f])
  subst hxy
  refine List.Perm.trans ?_ (with_perm kind _ r).symm
  refine (List.perm_cons y).1 (hq.symm.trans ((with_perm kind xs r).trans (((hp.cons r)).trans (List.Perm.swap y r _))))
theorem without_without {xs : List Rw} {k1 k2 : ByteArray} (h1 : hasK xs k1) (h2 : hasK xs k2) (hne : k1 ≠ k2) (hu : Uq xs) : (withoutR (withoutR xs k1) k2).Perm (withoutR (withoutR xs k2) k1) := by
  obtain ⟨x1, m1, e1, p1⟩ := without_perm h1
  obtain ⟨x2, m2, e2, p2⟩ := without_perm h2
  obtain ⟨y2, n2, f2, q2⟩ := without_perm ((hasK_without (fun h => hne h.symm)).2 h2 : hasK (withoutR xs k1) k2)
  obtain ⟨y1, n1, f1, q1⟩ := without_perm ((hasK_without hne).2 h1 : hasK (withoutR xs k2) k1)
  have g2 : y2 = x2 := hu y2 ((without_sub xs k1).subset n2) x2 m2 (by rw [e2, f2])
  have g1 : y1 = x1 := hu y1 ((without_sub xs k2).subset n1) x1 m1 (by rw [e1, f1])
  subst g1 g2
  have a := p1.trans (q2.cons y1)
  have b := p2.trans (q1.cons y2)
  exact (List.perm_cons y1).1 ((List.perm_cons y2).1 ((List.Perm.swap y1 y2 _).trans (a.symm.trans b)))
end Go.Proofs.YtjiblcncadekcaaGreat.PA

