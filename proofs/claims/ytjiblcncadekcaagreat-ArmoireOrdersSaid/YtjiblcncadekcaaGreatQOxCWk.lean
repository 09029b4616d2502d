import Derived.Test.YtjiblcncadekcaaGreatQOxFCm
import Derived.Test.YtjiblcncadekcaaGreatQOxPAx0
import Derived.Test.YtjiblcncadekcaaGreatQOxPAx10
import Derived.Test.YtjiblcncadekcaaGreatQOxPAx11
import Derived.Test.YtjiblcncadekcaaGreatQOxPAx9
import Derived.Test.YtjiblcncadekcaaGreatQOxMFold2
namespace Go.Proofs.YtjiblcncadekcaaGreat.PA
set_option linter.unusedSimpArgs false
set_option linter.unusedVariables false
open Go.RowKit Go.Proofs.YtjiblcncadekcaaGreatW.PrintWords Go.Proofs.YtjiblcncadekcaaGreatW.PrintLast Go.Proofs.YtjiblcncadekcaaGreatW.PrintMore Go.Proofs.YtjiblcncadekcaaGreat Go.Proofs.YtjiblcncadekcaaGreat.PL
abbrev St := Int × List Rw
def Ok (kind : Int) (st : St) (m : Nat) : Prop := OkM kind st.1 st.2 m
def LegS (kind : Int) (st : St) (s : Stp) : Prop := Leg kind st.1 st.2 s ∧ CallOk s.op s.a s.b s.n
def runS (kind : Int) : St → List Stp → St
  | st, [] => st
  | st, x :: l => runS kind (app kind st x) l
def Legs (kind : Int) : St → List Stp → Prop
  | _, [] => True
  | st, x :: l => LegS kind st x ∧ Legs kind (app kind st x) l
def Free (x y : Stp) : Prop := conflictR x y = false ∨ conflictR y x = false
theorem Free.symm {x y : Stp} (h : Free x y) : Free y x := Or.symm h
theorem free_dia {kind : Int} {st : St} {m : Nat} {x y : Stp} (hm : m ≤ 1000) (hk : Ok kind st m) (hx : LegS kind st x) (hy : LegS kind st y) (hc : Free x y) : Dia kind st x y := by
  rcases hc with hc | hc
  · exact conflict_dia hm hk hx.1 hy.1 hx.2 hy.2 hc
  · exact (conflict_dia hm hk hy.1 hx.1 hy.2 hx.2 hc).symm
theorem Ok.next {kind : Int} {st : St} {m : Nat} {x : Stp} (hm : m ≤ 1000) (hk : Ok kind st m) (hx : LegS kind st x) : Ok kind (app kind st x) (m + 1) := okM_app hm hk hx.2 hx.1
theorem Ok.run {kind : Int} : ∀ {l : List Stp} {st : St} {m : Nat}, m + l.length ≤ 1000 → Ok kind st m → Legs kind st l → Ok kind (runS kind st l) (m + l.length)
  | [], _, _, _, h, _ => h
  | x :: l, st, m, hm, h, hl => by
    rw [List.length_cons] at hm
    have := Ok.run (l := l) (m := m + 1) (by omega) (h.next (by omega) hl.1) hl.2
    rw [List.length_cons, show m + (l.length + 1) = m + 1 + l.length by omega]
    exact this
theorem one_past {kind : Int} : ∀ {l : List Stp} {st : St} {m : Nat} {x : Stp}, m + l.length ≤ 1000 → Ok kind st m → LegS kind st x → Legs kind st l → (∀ y ∈ l, Free x y) →
    LegS kind (runS kind st l) x ∧ Legs kind (app kind st x) l ∧ runS kind (app kind st x) l = app kind (runS kind st l) x
  | [], _, _, _, _, _, hx, _, _ => ⟨hx, trivial, rfl⟩
  | y :: l, st, m, x, hm, hk, hx, hl, hf => by
    rw [List.length_cons] at hm
    obtain ⟨d1, d2, d3⟩ := free_dia (by omega) hk hx hl.1 (hf y (by simp))
    obtain ⟨i1, i2, i3⟩ := one_past (l := l) (m := m + 1) (by omega) (hk.next (by omega) hl.1) ⟨d2, hx.2⟩ hl.2 (fun z hz => hf z (by simp [hz]))
    refine ⟨i1, ⟨⟨d1, hl.1.2⟩, ?_⟩, ?_⟩
    · rw [d3]; exact i2
    · show runS kind (app kind (app kind st x) y) l = _
      rw [d3, i3]
      rfl
theorem all_past {kind : Int} : ∀ {k l : List Stp} {st : St} {m : Nat}, m + k.length + l.length ≤ 1000 → Ok kind st m → Legs kind st k → Legs kind st l → (∀ x ∈ k, ∀ y ∈ l, Free x y) →
    Legs kind (runS kind st k) l ∧ Legs kind (runS kind st l) k ∧ runS kind (runS kind st k) l = runS kind (runS kind st l) k
  | [], l, st, m, _, _, _, hl, _ => ⟨hl, trivial, rfl⟩
  | x :: k, l, st, m, hm, hk, hx, hl, hf => by
    rw [List.length_cons] at hm
    obtain ⟨o1, o2, o3⟩ := one_past (by omega) hk hx.1 hl (fun y hy => hf x (by simp) y hy)
    obtain ⟨i1, i2, i3⟩ := all_past (k := k) (l := l) (m := m + 1) (by omega) (hk.next (by omega) hx.1) hx.2 o2 (fun z hz y hy => hf z (by simp [hz]) y hy)
    refine ⟨i1, ⟨o1, ?_⟩, ?_⟩
    · rw [← o3]; exact i2
    · show runS kind (runS kind (app kind st x) k) l = _
      rw [i3, o3]
      rfl
theorem runS_append (kind : Int) : ∀ (k l : List Stp) (st : St), runS kind st (k ++ l) = runS kind (runS kind st k) l
  | [], _, _ => rfl
  | x :: k, l, st => runS_append kind k l (app kind st x)
theorem Legs_append (kind : Int) : ∀ (k l : List Stp) (st : St), Legs kind st (k ++ l) ↔ Legs kind st k ∧ Legs kind (runS kind st k) l
  | [], _, _ => ⟨fun h => ⟨trivial, h⟩, fun h => h.2⟩
  | x :: k, l, st => by
    have ih := Legs_append kind k l (app kind st x)
    show _ ∧ Legs kind _ (k ++ l) ↔ _
    rw [ih]
    exact ⟨fun ⟨a, b, c⟩ => ⟨⟨a, b⟩, c⟩, fun ⟨⟨a, b⟩, c⟩ => ⟨a, b, c⟩⟩
def FreeL (k l : List Stp) : Prop := ∀ x ∈ k, ∀ y ∈ l, Free x y
theorem FreeL.symm {k l : List Stp} (h : FreeL k l) : FreeL l k := fun x hx y hy => (h y hy x hx).symm
theorem len_flat {k : List Stp} : ∀ {Ls : List (List Stp)}, k ∈ Ls → k.length ≤ Ls.flatten.length
  | l :: Ls, h => by
    rw [List.flatten_cons, List.length_append]
    rcases List.mem_cons.1 h with rfl | h
    · omega
    · have := len_flat h; omega
def lens (Ls : List (List Stp)) : Nat := Ls.flatten.length
theorem flat_legs {kind : Int} : ∀ {Ls : List (List Stp)} {st : St} {m : Nat}, m + lens Ls ≤ 1000 → Ok kind st m → (∀ l ∈ Ls, Legs kind st l) → Ls.Pairwise FreeL → Legs kind st Ls.flatten
  | [], _, _, _, _, _, _ => trivial
  | l :: Ls, st, m, hm, hk, hl, hp => by
    unfold lens at hm
    rw [List.flatten_cons, List.length_append] at hm
    rw [List.flatten_cons, Legs_append]
    have h0 := hl l (by simp)
    have hp' := List.pairwise_cons.1 hp
    refine ⟨h0, flat_legs (m := m + l.length) (by unfold lens; omega) (hk.run (by omega) h0) (fun k hkk => ?_) hp'.2⟩
    have hs : k.length ≤ Ls.flatten.length := len_flat hkk
    exact (all_past (m := m) (by omega) hk h0 (hl k (by simp [hkk])) (hp'.1 k hkk)).1
theorem flat_perm {kind : Int} {Ls Ks : List (List Stp)} (h : Ls.Perm Ks) : ∀ {st : St} {m : Nat}, m + lens Ls ≤ 1000 → Ok kind st m → (∀ l ∈ Ls, Legs kind st l) → Ls.Pairwise FreeL → runS kind st Ls.flatten = runS kind st Ks.flatten := by
  induction h with
  | nil => intros; rfl
  | cons l h ih =>
    rename_i Ls Ks
    intro st m hm hk hl hp
    have hp' := List.pairwise_cons.1 hp
    have h0 := hl l (by simp)
    unfold lens at hm
    rw [List.flatten_cons, List.length_append] at hm
    rw [List.flatten_cons, List.flatten_cons, runS_append, runS_append]
    refine ih (m := m + l.length) (by unfold lens; omega) (hk.run (by omega) h0) (fun k hkk => ?_) hp'.2
    have hs : k.length ≤ Ls.flatten.length := len_flat hkk
    exact (all_past (m := m) (by omega) hk h0 (hl k (by simp [hkk])) (hp'.1 k hkk)).1
  | swap k l Ls =>
    intro st m hm hk hl hp
    unfold lens at hm
    rw [List.flatten_cons, List.flatten_cons, List.length_append, List.length_append] at hm
    rw [List.flatten_cons, List.flatten_cons, List.flatten_cons, List.flatten_cons, runS_append, runS_append, runS_append, runS_append]
    have hf := (List.pairwise_cons.1 hp).1 k (by simp)
    rw [(all_past (m := m) (by omega) hk (hl l (by simp)) (hl k (by simp)) hf).2.2]
  | trans h1 h2 ih1 ih2 =>
    intro st m hm hk hl hp
    rw [ih1 hm hk hl hp]
    refine ih2 (m := m) ?_ hk (fun l hh => hl l (h1.symm.subset hh)) ?_
    · unfold lens at hm ⊢
      rw [← (h1.flatten).length_eq]; exact hm
    · exact hp.perm h1 (fun {a b} h => FreeL.symm h)
end Go.Proofs.YtjiblcncadekcaaGreat.PA

namespace Go.Proofs.YtjiblcncadekcaaGreat.PA
set_option linter.unusedSimpArgs false
set_option linter.unusedVariables false
open Go.RowKit Go.Proofs.YtjiblcncadekcaaGreatW.PrintWords Go.Proofs.YtjiblcncadekcaaGreatW.PrintLast Go.Proofs.YtjiblcncadekcaaGreatW.PrintMore Go.Proofs.YtjiblcncadekcaaGreat Go.Proofs.YtjiblcncadekcaaGreat.PL
theorem rdRow (xs : List Rw) (i : Nat) (hi : i < xs.length) : rd_T73 xs (i : Int) = xs[i] := by simp [rd_T73, hi]
theorem outm_l0 (kind n : Int) (xs : List Rw) (op : Int) (a b : ByteArray) (cn : Int) (hl : xs.length < 1000000) : ∀ (d i : Nat) (acc : List Rs), i + d = xs.length → acc.length ≤ i → ∃ l, Ev (fun k => adt_out.l0 k acc xs (xs.length : Int) (i : Int) kind n xs op a b cn) l ∧ l.length ≤ xs.length ∧
    ∀ r : Rs, r ∈ l ↔ r ∈ acc ∨ ∃ j, ∃ hj : j < xs.length, i ≤ j ∧ (j = 0 ∨ (op = 17 ∧ xs[j].f0 ≠ (xs[j - 1]'(by omega)).f0)) ∧ r = ⟨1, xs[j].f0, 0⟩ := by
  intro d
  induction d with
  | zero =>
    intro i acc hi ha
    exact ⟨acc, Ev.step (f := fun _ => some acc) (fun k => by rw [adt_out.l0, if_neg (by omega)]) (Ev.now _), by omega, fun r => ⟨.inl, fun h => h.resolve_right (by rintro ⟨j, hj, h, -⟩; omega)⟩⟩
  | succ d ih =>
    intro i acc hi ha
    have hlt : i < xs.length := by omega
    have hw : wrap64 ((i : Int) + 1) = ((i + 1 : Nat) : Int) := by unfold wrap64; omega
    obtain ⟨l1, e1, e2, e3⟩ := ih (i + 1) (acc ++ [⟨1, (rd_T73 xs (i : Int)).f0, 0⟩]) (by omega) (by simp; omega)
    have m1 : (i = 0 ∨ (op = 17 ∧ xs[i].f0 ≠ (xs[i - 1]'(by omega)).f0)) → ∀ r : Rs, r ∈ l1 ↔ r ∈ acc ∨ ∃ j, ∃ hj : j < xs.length, i ≤ j ∧ (j = 0 ∨ (op = 17 ∧ xs[j].f0 ≠ (xs[j - 1]'(by omega)).f0)) ∧ r = ⟨1, xs[j].f0, 0⟩ := fun hc r => by
      rw [e3, rdRow xs i hlt, List.mem_append, List.mem_singleton]
      constructor
      · rintro ((h | rfl) | ⟨j, hj, h1, h2, h3⟩)
        · exact .inl h
        · exact .inr ⟨i, hlt, Nat.le_refl _, hc, rfl⟩
        · exact .inr ⟨j, hj, by omega, h2, h3⟩
      · rintro (h | ⟨j, hj, h1, h2, h3⟩)
        · exact .inl (.inl h)
        · by_cases e : j = i
          · subst e
            exact .inl (.inr h3)
          · exact .inr ⟨j, hj, by omega, h2, h3⟩
    by_cases qi : i = 0
    · refine ⟨l1, Ev.step (fun k => ?_) e1, e2, m1 (.inl qi)⟩
      rw [adt_out.l0, if_pos (by omega), if_pos (by omega), if_pos (by omega), if_pos (by omega), if_pos (by omega), hw]
    · obtain ⟨l2, f1, f2, f3⟩ := ih (i + 1) acc (by omega) (by omega)
      have m2 : ¬ (op = 17 ∧ xs[i].f0 ≠ (xs[i - 1]'(by omega)).f0) → ∀ r : Rs, r ∈ l2 ↔ r ∈ acc ∨ ∃ j, ∃ hj : j < xs.length, i ≤ j ∧ (j = 0 ∨ (op = 17 ∧ xs[j].f0 ≠ (xs[j - 1]'(by omega)).f0)) ∧ r = ⟨1, xs[j].f0, 0⟩ := fun hc r => by
        rw [f3]
        constructor
        · rintro (h | ⟨j, hj, h1, h2, h3⟩)
          · exact .inl h
          · exact .inr ⟨j, hj, by omega, h2, h3⟩
        · rintro (h | ⟨j, hj, h1, h2, h3⟩)
          · exact .inl h
          · by_cases e : j = i
            · subst e
              rcases h2 with h2 | h2
              · exact absurd h2 qi
              · exact absurd h2 hc
            · exact .inr ⟨j, hj, by omega, h2, h3⟩
      by_cases q17 : op = 17
      · have hp : wrap64 ((i : Int) - 1) = ((i - 1 : Nat) : Int) := by unfold wrap64; omega
        have hr0 := rdRow xs i hlt
        have hr1 := rdRow xs (i - 1) (by omega)
        by_cases qe : (rd_T73 xs (i : Int)).f0.toList = (rd_T73 xs (((i - 1 : Nat)) : Int)).f0.toList
        · refine ⟨l2, Ev.step (fun k => ?_) f1, f2, m2 (fun h => h.2 (by rw [hr0, hr1] at qe; exact bytes_eq qe))⟩
          rw [adt_out.l0, if_pos (by omega), if_pos (by omega), if_pos (by omega), if_neg (by omega), if_pos q17, hp, if_pos (by omega), if_pos (by omega), if_pos qe, hw]
        · refine ⟨l1, Ev.step (fun k => ?_) e1, e2, m1 (.inr ⟨q17, fun h => qe (by rw [hr0, hr1, h])⟩)⟩
          rw [adt_out.l0, if_pos (by omega), if_pos (by omega), if_pos (by omega), if_neg (by omega), if_pos q17, hp, if_pos (by omega), if_pos (by omega), if_neg qe, if_pos (by omega), hw]
      · refine ⟨l2, Ev.step (fun k => ?_) f1, f2, m2 (fun h => q17 h.1)⟩
        rw [adt_out.l0, if_pos (by omega), if_pos (by omega), if_pos (by omega), if_neg (by omega), if_neg q17, hw]
theorem run_head (xs : List Rw) : ∀ (j : Nat) (hj : j < xs.length), ∃ i, ∃ hi : i < xs.length, (i = 0 ∨ xs[i].f0 ≠ (xs[i - 1]'(by omega)).f0) ∧ xs[i].f0 = xs[j].f0
  | 0, hj => ⟨0, hj, .inl rfl, rfl⟩
  | j + 1, hj => by
    by_cases e : xs[j + 1].f0 = (xs[j]'(by omega)).f0
    · obtain ⟨i, hi, h1, h2⟩ := run_head xs j (by omega)
      exact ⟨i, hi, h1, by rw [h2, e]⟩
    · exact ⟨j + 1, hj, .inr e, rfl⟩
theorem outm_f (kind n : Int) (xs : List Rw) (op : Int) (a b : ByteArray) (cn : Int) (hl : xs.length < 1000000) (ho : op = 15 ∨ op = 17) (hk : kind = kindR op) : ∃ l, Ev (fun k => adt_out.f k kind n xs op a b cn) l ∧ l.length ≤ xs.length + 1 ∧
    ∀ c t r, (⟨c, t, r⟩ : Rs) ∈ l ↔ Leg kind n xs ⟨op, a, b, cn, c, t, r⟩ := by
  by_cases q : xs = []
  · subst q
    refine ⟨[⟨2, ⟨#[]⟩, 0⟩], Ev.congr (fun k => ?_) (Ev.now _), by simp, fun c t r => ?_⟩
    · unfold adt_out.f
      rw [if_pos (by simp)]
      rfl
    · rw [List.mem_singleton]
      rcases ho with rfl | rfl
      · constructor
        · intro h; cases h; exact ⟨hk, rfl, .inr ⟨rfl, rfl, rfl⟩⟩
        · rintro ⟨-, h1, (⟨-, x, l, h, -⟩ | ⟨h2, h3, -⟩)⟩
          · cases h
          · dsimp only at h1 h2 h3; subst h1 h2 h3; rfl
      · constructor
        · intro h; cases h; exact ⟨hk, rfl, .inr ⟨rfl, rfl, rfl⟩⟩
        · rintro ⟨-, h1, (⟨-, x, h, -⟩ | ⟨h2, h3, -⟩)⟩
          · cases h
          · dsimp only at h1 h2 h3; subst h1 h2 h3; rfl
  · have hpos : 0 < xs.length := List.length_pos_iff.2 q
    obtain ⟨l, h1, h2, h3⟩ := outm_l0 kind n xs op a b cn hl xs.length 0 [] (by omega) (by simp)
    refine ⟨l, Ev.congr (fun k => ?_) h1, by omega, fun c t r => ?_⟩
    · unfold adt_out.f
      rw [if_neg (by omega)]
      rfl
    · rw [h3]
      rcases ho with rfl | rfl
      · constructor
        · rintro (h | ⟨j, hj, -, (rfl | ⟨h, -⟩), h4⟩)
          · cases h
          · cases h4
            refine ⟨hk, rfl, .inl ⟨rfl, xs[0], xs.tail, ?_, rfl⟩⟩
            rw [← List.drop_one, ← List.drop_eq_getElem_cons hpos, List.drop_zero]
          · exact absurd h (by decide)
        · rintro ⟨-, e1, (⟨e2, x, l, rfl, e3⟩ | ⟨-, -, h⟩)⟩
          · dsimp only at e1 e2 e3
            subst e1 e2 e3
            exact .inr ⟨0, by simp, Nat.le_refl _, .inl rfl, rfl⟩
          · exact absurd h q
      · constructor
        · rintro (h | ⟨j, hj, -, -, h4⟩)
          · cases h
          · cases h4
            exact ⟨hk, rfl, .inl ⟨rfl, xs[j], List.getElem_mem hj, rfl⟩⟩
        · rintro ⟨-, e1, (⟨e2, x, hx, e3⟩ | ⟨-, -, h⟩)⟩
          · dsimp only at e1 e2 e3
            obtain ⟨j, hj, rfl⟩ := List.getElem_of_mem hx
            obtain ⟨i, hi, h5, h6⟩ := run_head xs j hj
            subst e1 e2 e3
            exact .inr ⟨i, hi, Nat.zero_le _, h5.imp id (fun h => ⟨rfl, h⟩), by rw [h6]⟩
          · exact absurd h q
theorem one_leg {r0 : Rs} {P : Int → ByteArray → Int → Prop} (h : P r0.f0 r0.f1 r0.f2) (k : ∀ c t r, P c t r → c = r0.f0 ∧ t = r0.f1 ∧ r = r0.f2) (c : Int) (t : ByteArray) (r : Int) : (⟨c, t, r⟩ : Rs) ∈ [r0] ↔ P c t r := by
  rw [List.mem_singleton]
  constructor
  · rintro rfl; exact h
  · intro q
    obtain ⟨rfl, rfl, rfl⟩ := k c t r q
    rfl
theorem ans_f (kind n : Int) (xs : List Rw) (op : Int) (a b : ByteArray) (cn : Int) (hl : xs.length < 1000000) (hk1 : 1 ≤ kind) (hu : op = 13 → Uq xs) : ∃ l, Ev (fun k => adt_Answers.f k kind n xs op a b cn) l ∧ l.length ≤ xs.length + 1 ∧ ∀ c t r, (⟨c, t, r⟩ : Rs) ∈ l ↔ Leg kind n xs ⟨op, a, b, cn, c, t, r⟩ := by
  by_cases qk : kind = kindR op
  rotate_left
  · refine ⟨[], Ev.congr (fun k => ?_) (Ev.now _), by simp, fun c t r => ⟨fun h => by (cases h), fun h => absurd h.1 qk⟩⟩
    unfold adt_Answers.f
    rw [kind_f, Option.bind_some, if_neg qk]
  have hop := hop_of hk1 qk
  have hf := find_f kind n xs a hl
  obtain ⟨fr, hfr⟩ : ∃ fr, fr = findR xs a := ⟨_, rfl⟩
  rw [← hfr] at hf
  obtain ⟨at_, there⟩ := fr
  have hth : there = true ↔ hasK xs a := by
    rw [hasK_iff]
    unfold findR at hfr
    cases h : posR xs a with
    | none =>
      rw [h] at hfr
      obtain ⟨-, rfl⟩ := Prod.mk.inj hfr
      simp
    | some i =>
      rw [h] at hfr
      obtain ⟨-, rfl⟩ := Prod.mk.inj hfr
      simp
  have hat : there = true → ∃ i, ∃ hi : i < xs.length, at_ = (i : Int) ∧ xs[i].f0 = a := by
    unfold findR at hfr
    cases h : posR xs a with
    | none =>
      rw [h] at hfr
      obtain ⟨-, rfl⟩ := Prod.mk.inj hfr
      exact fun h => by cases h
    | some i =>
      rw [h] at hfr
      obtain ⟨rfl, rfl⟩ := Prod.mk.inj hfr
      have hi := posR_lt h
      unfold posR at h
      rw [List.findIdx?_eq_some_iff_getElem] at h
      exact fun _ => ⟨i, hi, rfl, bytes_eq (by simpa using h.2.1)⟩
  have hnt : there = false ↔ ¬ hasK xs a := by rw [← hth]; simp
  have hst : ∀ k, adt_Answers.f k kind n xs op a b cn = (value_State_Find.f k kind n xs a).bind fun bt => (if op = 1 then ((adt_yes.f).bind fun bt268 => (if (xs.length : Int) > 0 then (if 0 < (xs.length : Int) then (some (([(⟨bt268.1, (rd_T73 xs 0).f0, bt268.2.2⟩ : Rs)] : List (Rs)))) else (none)) else (some (([(⟨bt268.1, bt268.2.1, bt268.2.2⟩ : Rs)] : List (Rs)))))) else (if op = 4 then (adt_Answers.j0 k bt.1 bt.2 op (op == 4) kind n xs op a b cn) else (adt_Answers.j0 k bt.1 bt.2 op (op == 7) kind n xs op a b cn))) := by
    intro k
    unfold adt_Answers.f
    rw [kind_f, Option.bind_some, if_pos qk]
  have P : ∀ {l : List Rs} (f : Nat → Option (List Rs)), (∀ k, adt_Answers.f k kind n xs op a b cn = (value_State_Find.f k kind n xs a).bind fun bt => (if op = 1 then ((adt_yes.f).bind fun bt268 => (if (xs.length : Int) > 0 then (if 0 < (xs.length : Int) then (some (([(⟨bt268.1, (rd_T73 xs 0).f0, bt268.2.2⟩ : Rs)] : List (Rs)))) else (none)) else (some (([(⟨bt268.1, bt268.2.1, bt268.2.2⟩ : Rs)] : List (Rs)))))) else (if op = 4 then (adt_Answers.j0 k bt.1 bt.2 op (op == 4) kind n xs op a b cn) else (adt_Answers.j0 k bt.1 bt.2 op (op == 7) kind n xs op a b cn)))) →
      op ≠ 1 → (∀ k, (if op = 4 then (adt_Answers.j0 (k + 4) at_ there op (op == 4) kind n xs op a b cn) else (adt_Answers.j0 (k + 4) at_ there op (op == 7) kind n xs op a b cn)) = f k) → Ev f l → Ev (fun k => adt_Answers.f k kind n xs op a b cn) l := fun f h1 h2 h3 h4 =>
    Ev.congr h1 (Ev.bind hf (ev_add 4 (f := f) (fun k => by rw [if_neg h2]; exact h3 k) h4))
  rcases hop with rfl | rfl | rfl | rfl | rfl | rfl | rfl | rfl | rfl | rfl | rfl | rfl | rfl | rfl | rfl | rfl | rfl
  · cases xs with
    | cons z l =>
      refine ⟨[⟨1, z.f0, 0⟩], Ev.congr hst (Ev.bind hf (Ev.congr (fun k => ?_) (Ev.now _))), by simp, one_leg ⟨qk, rfl, rfl, rfl⟩ ?_⟩
      · rw [if_pos rfl]
        unfold adt_yes.f
        rw [Option.bind_some, if_pos (by simp), if_pos (by simp)]
        simp [rd_T73]
      · rintro c t r ⟨-, h1, h2, h3⟩
        exact ⟨h1, h3, h2⟩
    | nil =>
      refine ⟨[⟨1, ⟨#[]⟩, 0⟩], Ev.congr hst (Ev.bind hf (Ev.congr (fun k => ?_) (Ev.now _))), by simp, one_leg ⟨qk, rfl, rfl, rfl⟩ ?_⟩
      · rw [if_pos rfl]
        unfold adt_yes.f
        rw [Option.bind_some, if_neg (by simp)]
      · rintro c t r ⟨-, h1, h2, h3⟩
        exact ⟨h1, h3, h2⟩
  · refine ⟨[⟨1, ⟨#[]⟩, 0⟩], P (fun _ => some _) hst (by decide) (fun k => ?_) (Ev.now _), by simp, one_leg ⟨qk, rfl, rfl, rfl⟩ ?_⟩
    · simp [adt_Answers.j0, adt_Answers.j1, adt_Answers.j2, adt_Answers.j3, code_f, adt_yes.f]
    · rintro c t r ⟨-, h1, h2, h3⟩
      exact ⟨h1, h2, h3⟩
  · refine ⟨[⟨1, ⟨#[]⟩, 0⟩], P (fun _ => some _) hst (by decide) (fun k => ?_) (Ev.now _), by simp, one_leg ⟨qk, rfl, rfl, rfl⟩ ?_⟩
    · simp [adt_Answers.j0, adt_Answers.j1, adt_Answers.j2, adt_Answers.j3, code_f, adt_yes.f]
    · rintro c t r ⟨-, h1, h2, h3⟩
      exact ⟨h1, h2, h3⟩
  · refine ⟨[⟨1, ⟨#[]⟩, n⟩], P (fun _ => some _) hst (by decide) (fun k => ?_) (Ev.now _), by simp, one_leg ⟨qk, rfl, rfl, rfl⟩ ?_⟩
    · simp [adt_Answers.j0, adt_Answers.j1, adt_Answers.j2, adt_Answers.j3, code_f, adt_yes.f]
    · rintro c t r ⟨-, h1, h2, h3⟩
      exact ⟨h1, h2, h3⟩
  · refine ⟨[⟨1, ⟨#[]⟩, 0⟩], P (fun _ => some _) hst (by decide) (fun k => ?_) (Ev.now _), by simp, one_leg ⟨qk, rfl, rfl, rfl⟩ ?_⟩
    · simp [adt_Answers.j0, adt_Answers.j1, adt_Answers.j2, adt_Answers.j3, code_f, adt_yes.f]
    · rintro c t r ⟨-, h1, h2, h3⟩
      exact ⟨h1, h2, h3⟩
  · by_cases q : n ≥ cn
    · refine ⟨[⟨1, ⟨#[]⟩, 0⟩], P (fun _ => some _) hst (by decide) (fun k => ?_) (Ev.now _), by simp, one_leg ⟨qk, rfl, rfl, .inl ⟨rfl, q⟩⟩ ?_⟩
      · simp [adt_Answers.j0, adt_Answers.j1, adt_Answers.j2, adt_Answers.j3, code_f, adt_yes.f, q]
      · rintro c t r ⟨-, h1, h2, (⟨h3, -⟩ | ⟨-, h4⟩)⟩
        · exact ⟨h3, h1, h2⟩
        · exact absurd q (Int.not_le.2 h4)
    · refine ⟨[⟨2, ⟨#[]⟩, 0⟩], P (fun _ => some _) hst (by decide) (fun k => ?_) (Ev.now _), by simp, one_leg ⟨qk, rfl, rfl, .inr ⟨rfl, Int.not_le.1 q⟩⟩ ?_⟩
      · simp [adt_Answers.j0, adt_Answers.j1, adt_Answers.j2, adt_Answers.j3, code_f, adt_yes.f, q]
      · rintro c t r ⟨-, h1, h2, (⟨-, h4⟩ | ⟨h3, -⟩)⟩
        · exact absurd h4 q
        · exact ⟨h3, h1, h2⟩
  · refine ⟨[⟨1, ⟨#[]⟩, n⟩], P (fun _ => some _) hst (by decide) (fun k => ?_) (Ev.now _), by simp, one_leg ⟨qk, rfl, rfl, rfl⟩ ?_⟩
    · simp [adt_Answers.j0, adt_Answers.j1, adt_Answers.j2, adt_Answers.j3, code_f, adt_yes.f]
    · rintro c t r ⟨-, h1, h2, h3⟩
      exact ⟨h1, h2, h3⟩
  · cases there with
    | true =>
      refine ⟨[⟨2, ⟨#[]⟩, 0⟩], P (fun _ => some _) hst (by decide) (fun k => ?_) (Ev.now _), by simp, one_leg ⟨qk, rfl, rfl, .inr ⟨rfl, hth.1 rfl⟩⟩ ?_⟩
      · simp [adt_Answers.j0, adt_Answers.j1, adt_Answers.j2, adt_Answers.j3, code_f, adt_yes.f]
      · rintro c t r ⟨-, h1, h2, (⟨h3, h4⟩ | ⟨h3, h4⟩)⟩
        · exact absurd (hth.1 rfl) h4
        · exact ⟨h3, h1, h2⟩
    | false =>
      refine ⟨[⟨1, ⟨#[]⟩, 0⟩], P (fun _ => some _) hst (by decide) (fun k => ?_) (Ev.now _), by simp, one_leg ⟨qk, rfl, rfl, .inl ⟨rfl, hnt.1 rfl⟩⟩ ?_⟩
      · simp [adt_Answers.j0, adt_Answers.j1, adt_Answers.j2, adt_Answers.j3, code_f, adt_yes.f]
      · rintro c t r ⟨-, h1, h2, (⟨h3, h4⟩ | ⟨h3, h4⟩)⟩
        · exact ⟨h3, h1, h2⟩
        · exact absurd h4 (hnt.1 rfl)
  · cases there with
    | true =>
      refine ⟨[⟨1, ⟨#[]⟩, 0⟩], P (fun _ => some _) hst (by decide) (fun k => ?_) (Ev.now _), by simp, one_leg ⟨qk, rfl, rfl, .inl ⟨rfl, hth.1 rfl⟩⟩ ?_⟩
      · simp [adt_Answers.j0, adt_Answers.j1, adt_Answers.j2, adt_Answers.j3, code_f, adt_yes.f]
      · rintro c t r ⟨-, h1, h2, (⟨h3, h4⟩ | ⟨h3, h4⟩)⟩
        · exact ⟨h3, h1, h2⟩
        · exact absurd (hth.1 rfl) h4
    | false =>
      refine ⟨[⟨2, ⟨#[]⟩, 0⟩], P (fun _ => some _) hst (by decide) (fun k => ?_) (Ev.now _), by simp, one_leg ⟨qk, rfl, rfl, .inr ⟨rfl, hnt.1 rfl⟩⟩ ?_⟩
      · simp [adt_Answers.j0, adt_Answers.j1, adt_Answers.j2, adt_Answers.j3, code_f, adt_yes.f]
      · rintro c t r ⟨-, h1, h2, (⟨h3, h4⟩ | ⟨h3, h4⟩)⟩
        · exact absurd h4 (hnt.1 rfl)
        · exact ⟨h3, h1, h2⟩
  · cases there with
    | true =>
      refine ⟨[⟨1, ⟨#[]⟩, 0⟩], P (fun _ => some _) hst (by decide) (fun k => ?_) (Ev.now _), by simp, one_leg ⟨qk, rfl, rfl, .inl ⟨rfl, hth.1 rfl⟩⟩ ?_⟩
      · simp [adt_Answers.j0, adt_Answers.j1, adt_Answers.j2, adt_Answers.j3, code_f, adt_yes.f]
      · rintro c t r ⟨-, h1, h2, (⟨h3, h4⟩ | ⟨h3, h4⟩)⟩
        · exact ⟨h3, h1, h2⟩
        · exact absurd (hth.1 rfl) h4
    | false =>
      refine ⟨[⟨2, ⟨#[]⟩, 0⟩], P (fun _ => some _) hst (by decide) (fun k => ?_) (Ev.now _), by simp, one_leg ⟨qk, rfl, rfl, .inr ⟨rfl, hnt.1 rfl⟩⟩ ?_⟩
      · simp [adt_Answers.j0, adt_Answers.j1, adt_Answers.j2, adt_Answers.j3, code_f, adt_yes.f]
      · rintro c t r ⟨-, h1, h2, (⟨h3, h4⟩ | ⟨h3, h4⟩)⟩
        · exact absurd h4 (hnt.1 rfl)
        · exact ⟨h3, h1, h2⟩
  · cases there with
    | true =>
      refine ⟨[⟨2, ⟨#[]⟩, 0⟩], P (fun _ => some _) hst (by decide) (fun k => ?_) (Ev.now _), by simp, one_leg ⟨qk, rfl, rfl, .inr ⟨rfl, hth.1 rfl⟩⟩ ?_⟩
      · simp [adt_Answers.j0, adt_Answers.j1, adt_Answers.j2, adt_Answers.j3, code_f, adt_yes.f]
      · rintro c t r ⟨-, h1, h2, (⟨h3, h4⟩ | ⟨h3, h4⟩)⟩
        · exact absurd (hth.1 rfl) h4
        · exact ⟨h3, h1, h2⟩
    | false =>
      refine ⟨[⟨1, ⟨#[]⟩, 0⟩], P (fun _ => some _) hst (by decide) (fun k => ?_) (Ev.now _), by simp, one_leg ⟨qk, rfl, rfl, .inl ⟨rfl, hnt.1 rfl⟩⟩ ?_⟩
      · simp [adt_Answers.j0, adt_Answers.j1, adt_Answers.j2, adt_Answers.j3, code_f, adt_yes.f]
      · rintro c t r ⟨-, h1, h2, (⟨h3, h4⟩ | ⟨h3, h4⟩)⟩
        · exact ⟨h3, h1, h2⟩
        · exact absurd h4 (hnt.1 rfl)
  · cases there with
    | true =>
      refine ⟨[⟨1, ⟨#[]⟩, 0⟩], P (fun _ => some _) hst (by decide) (fun k => ?_) (Ev.now _), by simp, one_leg ⟨qk, rfl, rfl, .inl ⟨rfl, hth.1 rfl⟩⟩ ?_⟩
      · simp [adt_Answers.j0, adt_Answers.j1, adt_Answers.j2, adt_Answers.j3, code_f, adt_yes.f]
      · rintro c t r ⟨-, h1, h2, (⟨h3, h4⟩ | ⟨h3, h4⟩)⟩
        · exact ⟨h3, h1, h2⟩
        · exact absurd (hth.1 rfl) h4
    | false =>
      refine ⟨[⟨2, ⟨#[]⟩, 0⟩], P (fun _ => some _) hst (by decide) (fun k => ?_) (Ev.now _), by simp, one_leg ⟨qk, rfl, rfl, .inr ⟨rfl, hnt.1 rfl⟩⟩ ?_⟩
      · simp [adt_Answers.j0, adt_Answers.j1, adt_Answers.j2, adt_Answers.j3, code_f, adt_yes.f]
      · rintro c t r ⟨-, h1, h2, (⟨h3, h4⟩ | ⟨h3, h4⟩)⟩
        · exact absurd h4 (hnt.1 rfl)
        · exact ⟨h3, h1, h2⟩
  · cases there with
    | true =>
      obtain ⟨i, hi, rfl, hk⟩ := hat rfl
      have h1 : (i : Int) < (xs.length : Int) := by omega
      refine ⟨[⟨1, xs[i].f1, 0⟩], P (fun _ => some _) hst (by decide) (fun k => ?_) (Ev.now _), by simp, one_leg ⟨qk, rfl, .inl ⟨rfl, xs[i], List.getElem_mem hi, hk, rfl⟩⟩ ?_⟩
      · simp [adt_Answers.j0, adt_Answers.j1, adt_Answers.j2, adt_Answers.j3, code_f, adt_yes.f, h1, rdRow xs i hi]
      · rintro c t r ⟨-, h1, (⟨h2, x, hx, hxa, hxt⟩ | ⟨-, -, h⟩)⟩
        · have hxi : x = xs[i] := hu rfl x hx xs[i] (List.getElem_mem hi) (by rw [hk]; exact hxa)
          exact ⟨h2, by rw [← hxi]; exact hxt, h1⟩
        · exact absurd (hth.1 rfl) h
    | false =>
      refine ⟨[⟨2, ⟨#[]⟩, 0⟩], P (fun _ => some _) hst (by decide) (fun k => ?_) (Ev.now _), by simp, one_leg ⟨qk, rfl, .inr ⟨rfl, rfl, hnt.1 rfl⟩⟩ ?_⟩
      · simp [adt_Answers.j0, adt_Answers.j1, adt_Answers.j2, adt_Answers.j3, code_f, adt_yes.f]
      · rintro c t r ⟨-, h1, (⟨h2, x, hx, hxa, hxt⟩ | ⟨h2, h3, h⟩)⟩
        · exact absurd ⟨x, hx, hxa⟩ (hnt.1 rfl)
        · exact ⟨h2, h3, h1⟩
  · refine ⟨[⟨1, ⟨#[]⟩, 0⟩], P (fun _ => some _) hst (by decide) (fun k => ?_) (Ev.now _), by simp, one_leg ⟨qk, rfl, rfl, rfl⟩ ?_⟩
    · simp [adt_Answers.j0, adt_Answers.j1, adt_Answers.j2, adt_Answers.j3, code_f, adt_yes.f]
    · rintro c t r ⟨-, h1, h2, h3⟩
      exact ⟨h1, h2, h3⟩
  · obtain ⟨l, h1, h2, h3⟩ := outm_f kind n xs 15 a b cn hl (.inl rfl) qk
    refine ⟨l, P (fun k => (adt_out.f k kind n xs 15 a b cn).bind fun t => some t) hst (by decide) (fun k => ?_) (Ev.bind h1 (Ev.now _)), h2, h3⟩
    simp [adt_Answers.j0, adt_Answers.j1, adt_Answers.j2, adt_Answers.j3, code_f, adt_yes.f]
  · refine ⟨[⟨1, ⟨#[]⟩, 0⟩], P (fun _ => some _) hst (by decide) (fun k => ?_) (Ev.now _), by simp, one_leg ⟨qk, rfl, rfl, rfl⟩ ?_⟩
    · simp [adt_Answers.j0, adt_Answers.j1, adt_Answers.j2, adt_Answers.j3, code_f, adt_yes.f]
    · rintro c t r ⟨-, h1, h2, h3⟩
      exact ⟨h1, h2, h3⟩
  · obtain ⟨l, h1, h2, h3⟩ := outm_f kind n xs 17 a b cn hl (.inr rfl) qk
    refine ⟨l, P (fun k => (adt_out.f k kind n xs 17 a b cn).bind fun t => some t) hst (by decide) (fun k => ?_) (Ev.bind h1 (Ev.now _)), h2, h3⟩
    simp [adt_Answers.j0, adt_Answers.j1, adt_Answers.j2, adt_Answers.j3, code_f, adt_yes.f]
theorem rs_eq {z r : Rs} (h1 : z.f0 = r.f0) (h2 : z.f1 = r.f1) (h3 : z.f2 = r.f2) : z = r := by
  cases z; cases r; simp_all
theorem leg_l0 (l : List Rs) (r : Rs) (hl : l.length < 1000000) : ∀ (d i : Nat), i + d = l.length → r ∈ l.drop i → Ev (fun k => adt_Legal.l0 k l (l.length : Int) (i : Int) r.f0 r.f1 r.f2) true := by
  intro d
  induction d with
  | zero =>
    intro i hi h
    rw [List.drop_of_length_le (by omega)] at h
    cases h
  | succ d ih =>
    intro i hi h
    have hlt : i < l.length := by omega
    have hw : wrap64 ((i : Int) + 1) = ((i + 1 : Nat) : Int) := by unfold wrap64; omega
    have hx : rd_T40 l (i : Int) = l[i] := by simp [rd_T40, hlt]
    rw [List.drop_eq_getElem_cons hlt] at h
    by_cases e : l[i] = r
    · refine Ev.step (f := fun _ => some true) (fun k => ?_) (Ev.now _)
      rw [adt_Legal.l0, if_pos (by omega), if_pos (by omega), if_pos (by omega), hx, e]
      simp
    · have h' : r ∈ l.drop (i + 1) := by
        rcases List.mem_cons.1 h with h | h
        · exact absurd h.symm e
        · exact h
      refine Ev.step (fun k => ?_) (ih (i + 1) (by omega) h')
      rw [adt_Legal.l0, if_pos (by omega), if_pos (by omega), if_pos (by omega), hx, if_neg (fun h => e (by
        simp [toL] at h
        first | exact rs_eq h.1 h.2.1 h.2.2 | exact rs_eq h.1.symm h.2.1.symm h.2.2.symm)), hw]
theorem legs_f (kind n : Int) (xs : List Rw) (s : Stp) (hl : xs.length < 900000) (hk1 : 1 ≤ kind) (hu : s.op = 13 → Uq xs) (h : Leg kind n xs s) : Ev (fun k => adt_Legal.f k kind n xs s.op s.a s.b s.n s.code s.text s.rn) true := by
  obtain ⟨l, h1, h2, h3⟩ := ans_f kind n xs s.op s.a s.b s.n (by omega) hk1 hu
  refine Ev.bind h1 ?_
  exact leg_l0 l ⟨s.code, s.text, s.rn⟩ (by omega) l.length 0 (by omega) ((h3 _ _ _).2 h)
end Go.Proofs.YtjiblcncadekcaaGreat.PA

namespace Go.Proofs.YtjiblcncadekcaaGreat.PA
set_option linter.unusedSimpArgs false
set_option linter.unusedVariables false
open Go.RowKit Go.Proofs.YtjiblcncadekcaaGreatW.PrintWords Go.Proofs.YtjiblcncadekcaaGreatW.PrintLast Go.Proofs.YtjiblcncadekcaaGreatW.PrintMore Go.Proofs.YtjiblcncadekcaaGreat Go.Proofs.YtjiblcncadekcaaGreat.PL
attribute [local go_sem] Oper.semAt_some
set_option maxHeartbeats 8000000 in
set_option maxRecDepth 100000 in
theorem commPaid.calls (op : Int) (a b : ByteArray) (n code : Int) (text : ByteArray) (rn : Int) (w : World) : Calls Tryz.prog 97 #[.agg #[.int .i64 op, .string a, .string b, .int .i64 n, .int .i64 code, .string text, .int .i64 rn]] w fun e w' => e = .returned (.bool (paidR ⟨op, a, b, n, code, text, rn⟩)) ∧ Below w.heap.size w w' := by
  have hu53 := Tryz.underlying53
  have HB := Z0.mk (Below.refl w.heap.size w)
  obtain ⟨p, hp⟩ : ∃ p, p = paidR ⟨op, a, b, n, code, text, rn⟩ := ⟨_, rfl⟩
  rw [← hp]
  have hp' : p = (op == 6 && code == 1) := hp
  clear hp
  by_cases q6 : op = 6
  · have q6b : (op == 6) = true := beq_iff_eq.2 q6
    rw [q6b, Bool.true_and] at hp'
    subst hp'
    clear q6
    go_enter Tryz.func97, Tryz.ntmps97
    go_wp2_with ((with_reducible refine gds (N := 1) rfl ?_); refine bx_ (N := 1) (cs := #[.int .i64 op, .string a, .string b, .int .i64 n, .int .i64 code, .string text, .int .i64 rn]) (t := 53) ?_; intro g hg w3 hbox hb; have HB2 := Z0.mk (bsp bl_ hb); have hcz := bc7 hbox; clear hb hbox hg HB)
    go_ret
    exact ⟨rfl, HB2.out⟩
  · have q6b : (op == 6) = false := beq_eq_false_iff_ne.2 q6
    rw [q6b, Bool.false_and] at hp'
    subst hp'
    clear q6
    go_enter Tryz.func97, Tryz.ntmps97
    go_wp2_with ((with_reducible refine gds (N := 1) rfl ?_); refine bx_ (N := 1) (cs := #[.int .i64 op, .string a, .string b, .int .i64 n, .int .i64 code, .string text, .int .i64 rn]) (t := 53) ?_; intro g hg w3 hbox hb; have HB2 := Z0.mk (bsp bl_ hb); have hcz := bc7 hbox; clear hb hbox hg HB)
    go_ret
    exact ⟨rfl, HB2.out⟩
set_option maxHeartbeats 8000000 in
set_option maxRecDepth 100000 in
theorem commAccount.calls (xop : Int) (xa xb : ByteArray) (xn xcode : Int) (xtext : ByteArray) (xrn : Int) (yop : Int) (ya yb : ByteArray) (yn ycode : Int) (ytext : ByteArray) (yrn : Int) (w : World) : Calls Tryz.prog 80 #[.agg #[.int .i64 xop, .string xa, .string xb, .int .i64 xn, .int .i64 xcode, .string xtext, .int .i64 xrn], .agg #[.int .i64 yop, .string ya, .string yb, .int .i64 yn, .int .i64 ycode, .string ytext, .int .i64 yrn]] w fun e w' => e = .returned (.bool (ruleR 3 ⟨xop, xa, xb, xn, xcode, xtext, xrn⟩ ⟨yop, ya, yb, yn, ycode, ytext, yrn⟩)) ∧ Below w.heap.size w w' := by
  have hu53 := Tryz.underlying53
  have HB := Z0.mk (Below.refl w.heap.size w)
  obtain ⟨px, hpx⟩ : ∃ p, p = paidR ⟨xop, xa, xb, xn, xcode, xtext, xrn⟩ := ⟨_, rfl⟩
  obtain ⟨py, hpy⟩ : ∃ p, p = paidR ⟨yop, ya, yb, yn, ycode, ytext, yrn⟩ := ⟨_, rfl⟩
  have hr : ruleR 3 ⟨xop, xa, xb, xn, xcode, xtext, xrn⟩ ⟨yop, ya, yb, yn, ycode, ytext, yrn⟩ = (if xop = 5 then yop == 7 || (yop == 6 && !py) else if px = true ∧ yop = 7 then decide (xn ≤ yrn) else px && py) := by
    rw [hpx, hpy]
    unfold ruleR
    rw [if_neg (by decide), if_neg (by decide), if_pos rfl]
  rw [hr]
  clear hr
  have HPX := Z0.mk hpx
  have HPY := Z0.mk hpy
  clear hpx hpy
  by_cases q5 : xop = 5
  · rw [if_pos q5]
    have q5b : (xop == 5) = true := beq_iff_eq.2 q5
    by_cases q7 : yop = 7
    · have q7b : (yop == 7) = true := beq_iff_eq.2 q7
      rw [q7b, Bool.true_or]
      clear q5 q7
      go_enter Tryz.func80, Tryz.ntmps80
      go_wp2_with (first | ((with_reducible refine gds (N := 2) rfl ?_); refine bx_ (N := 2) (cs := #[.int .i64 xop, .string xa, .string xb, .int .i64 xn, .int .i64 xcode, .string xtext, .int .i64 xrn]) (t := 53) ?_; intro g1 hg w1 hbox hb; have n_ := Z0.mk (bsp HB.out hb); clear HB; have HB := n_; clear n_; have BK1 := Z0.mk hbox; clear hb hbox hg) | ((with_reducible refine gds (N := 3) rfl ?_); refine bx_ (N := 3) (cs := #[.int .i64 yop, .string ya, .string yb, .int .i64 yn, .int .i64 ycode, .string ytext, .int .i64 yrn]) (t := 53) ?_; intro g2 hg w2 hbox hb; have n_ := Z0.mk (bsp HB.out hb); have m_ := Z0.mk (kbl BK1.out hb); clear BK1; have BK1 := m_; clear m_; clear HB; have HB := n_; clear n_; have BK2 := Z0.mk hbox; clear hb hbox hg; have hc1 := bc7 BK1.out; have hc2 := bc7 BK2.out))
      go_ret
      exact ⟨rfl, HB.out⟩
    · have q7b : (yop == 7) = false := beq_eq_false_iff_ne.2 q7
      rw [q7b, Bool.false_or]
      by_cases q6 : yop = 6
      · have q6b : (yop == 6) = true := beq_iff_eq.2 q6
        rw [q6b, Bool.true_and]
        clear q5 q7 q6
        go_enter Tryz.func80, Tryz.ntmps80
        go_wp2_with (first | ((with_reducible refine gds (N := 2) rfl ?_); refine bx_ (N := 2) (cs := #[.int .i64 xop, .string xa, .string xb, .int .i64 xn, .int .i64 xcode, .string xtext, .int .i64 xrn]) (t := 53) ?_; intro g1 hg w1 hbox hb; have n_ := Z0.mk (bsp HB.out hb); clear HB; have HB := n_; clear n_; have BK1 := Z0.mk hbox; clear hb hbox hg) | ((with_reducible refine gds (N := 3) rfl ?_); refine bx_ (N := 3) (cs := #[.int .i64 yop, .string ya, .string yb, .int .i64 yn, .int .i64 ycode, .string ytext, .int .i64 yrn]) (t := 53) ?_; intro g2 hg w2 hbox hb; have n_ := Z0.mk (bsp HB.out hb); have m_ := Z0.mk (kbl BK1.out hb); clear BK1; have BK1 := m_; clear m_; clear HB; have HB := n_; clear n_; have BK2 := Z0.mk hbox; clear hb hbox hg; have hc1 := bc7 BK1.out; have hc2 := bc7 BK2.out))
        go_wp2_with fail
        refine (commPaid.calls yop ya yb yn ycode ytext yrn _).mono ?_
        rintro e w5 ⟨rfl, hB5⟩
        have n_ := Z0.mk (bsp HB.out hB5)
        have m1_ := Z0.mk (kbl BK1.out hB5)
        have m2_ := Z0.mk (kbl BK2.out hB5)
        clear HB BK1 BK2 hc1 hc2 hB5
        have HB := n_
        have BK1 := m1_
        have BK2 := m2_
        clear n_ m1_ m2_
        have hc1 := bc7 BK1.out
        have hc2 := bc7 BK2.out
        rw [← HPY.out]
        go_wp2
        go_ret
        exact ⟨rfl, HB.out⟩
      · have q6b : (yop == 6) = false := beq_eq_false_iff_ne.2 q6
        rw [q6b, Bool.false_and]
        clear q5 q7 q6
        go_enter Tryz.func80, Tryz.ntmps80
        go_wp2_with (first | ((with_reducible refine gds (N := 2) rfl ?_); refine bx_ (N := 2) (cs := #[.int .i64 xop, .string xa, .string xb, .int .i64 xn, .int .i64 xcode, .string xtext, .int .i64 xrn]) (t := 53) ?_; intro g1 hg w1 hbox hb; have n_ := Z0.mk (bsp HB.out hb); clear HB; have HB := n_; clear n_; have BK1 := Z0.mk hbox; clear hb hbox hg) | ((with_reducible refine gds (N := 3) rfl ?_); refine bx_ (N := 3) (cs := #[.int .i64 yop, .string ya, .string yb, .int .i64 yn, .int .i64 ycode, .string ytext, .int .i64 yrn]) (t := 53) ?_; intro g2 hg w2 hbox hb; have n_ := Z0.mk (bsp HB.out hb); have m_ := Z0.mk (kbl BK1.out hb); clear BK1; have BK1 := m_; clear m_; clear HB; have HB := n_; clear n_; have BK2 := Z0.mk hbox; clear hb hbox hg; have hc1 := bc7 BK1.out; have hc2 := bc7 BK2.out))
        go_ret
        exact ⟨rfl, HB.out⟩
  · rw [if_neg q5]
    have q5b : (xop == 5) = false := beq_eq_false_iff_ne.2 q5
    clear q5
    cases px with
    | true =>
      by_cases q7 : yop = 7
      · rw [if_pos ⟨rfl, q7⟩]
        have q7b : (yop == 7) = true := beq_iff_eq.2 q7
        clear q7
        go_enter Tryz.func80, Tryz.ntmps80
        go_wp2_with (first | ((with_reducible refine gds (N := 2) rfl ?_); refine bx_ (N := 2) (cs := #[.int .i64 xop, .string xa, .string xb, .int .i64 xn, .int .i64 xcode, .string xtext, .int .i64 xrn]) (t := 53) ?_; intro g1 hg w1 hbox hb; have n_ := Z0.mk (bsp HB.out hb); clear HB; have HB := n_; clear n_; have BK1 := Z0.mk hbox; clear hb hbox hg) | ((with_reducible refine gds (N := 3) rfl ?_); refine bx_ (N := 3) (cs := #[.int .i64 yop, .string ya, .string yb, .int .i64 yn, .int .i64 ycode, .string ytext, .int .i64 yrn]) (t := 53) ?_; intro g2 hg w2 hbox hb; have n_ := Z0.mk (bsp HB.out hb); have m_ := Z0.mk (kbl BK1.out hb); clear BK1; have BK1 := m_; clear m_; clear HB; have HB := n_; clear n_; have BK2 := Z0.mk hbox; clear hb hbox hg; have hc1 := bc7 BK1.out; have hc2 := bc7 BK2.out))
        go_wp2_with fail
        refine (commPaid.calls xop xa xb xn xcode xtext xrn _).mono ?_
        rintro e w5 ⟨rfl, hB5⟩
        have n_ := Z0.mk (bsp HB.out hB5)
        have m1_ := Z0.mk (kbl BK1.out hB5)
        have m2_ := Z0.mk (kbl BK2.out hB5)
        clear HB BK1 BK2 hc1 hc2 hB5
        have HB := n_
        have BK1 := m1_
        have BK2 := m2_
        clear n_ m1_ m2_
        have hc1 := bc7 BK1.out
        have hc2 := bc7 BK2.out
        rw [← HPX.out]
        go_wp2
        go_ret
        exact ⟨rfl, HB.out⟩
      · rw [if_neg (fun h => q7 h.2), Bool.true_and]
        have q7b : (yop == 7) = false := beq_eq_false_iff_ne.2 q7
        clear q7
        go_enter Tryz.func80, Tryz.ntmps80
        go_wp2_with (first | ((with_reducible refine gds (N := 2) rfl ?_); refine bx_ (N := 2) (cs := #[.int .i64 xop, .string xa, .string xb, .int .i64 xn, .int .i64 xcode, .string xtext, .int .i64 xrn]) (t := 53) ?_; intro g1 hg w1 hbox hb; have n_ := Z0.mk (bsp HB.out hb); clear HB; have HB := n_; clear n_; have BK1 := Z0.mk hbox; clear hb hbox hg) | ((with_reducible refine gds (N := 3) rfl ?_); refine bx_ (N := 3) (cs := #[.int .i64 yop, .string ya, .string yb, .int .i64 yn, .int .i64 ycode, .string ytext, .int .i64 yrn]) (t := 53) ?_; intro g2 hg w2 hbox hb; have n_ := Z0.mk (bsp HB.out hb); have m_ := Z0.mk (kbl BK1.out hb); clear BK1; have BK1 := m_; clear m_; clear HB; have HB := n_; clear n_; have BK2 := Z0.mk hbox; clear hb hbox hg; have hc1 := bc7 BK1.out; have hc2 := bc7 BK2.out))
        go_wp2_with fail
        refine (commPaid.calls xop xa xb xn xcode xtext xrn _).mono ?_
        rintro e w5 ⟨rfl, hB5⟩
        have n_ := Z0.mk (bsp HB.out hB5)
        have m1_ := Z0.mk (kbl BK1.out hB5)
        have m2_ := Z0.mk (kbl BK2.out hB5)
        clear HB BK1 BK2 hc1 hc2 hB5
        have HB := n_
        have BK1 := m1_
        have BK2 := m2_
        clear n_ m1_ m2_
        have hc1 := bc7 BK1.out
        have hc2 := bc7 BK2.out
        rw [← HPX.out]
        go_wp2_with fail
        refine (commPaid.calls xop xa xb xn xcode xtext xrn _).mono ?_
        rintro e w6 ⟨rfl, hB6⟩
        have n_ := Z0.mk (bsp HB.out hB6)
        have m1_ := Z0.mk (kbl BK1.out hB6)
        have m2_ := Z0.mk (kbl BK2.out hB6)
        clear HB BK1 BK2 hc1 hc2 hB6
        have HB := n_
        have BK1 := m1_
        have BK2 := m2_
        clear n_ m1_ m2_
        have hc1 := bc7 BK1.out
        have hc2 := bc7 BK2.out
        rw [← HPX.out]
        go_wp2_with fail
        refine (commPaid.calls yop ya yb yn ycode ytext yrn _).mono ?_
        rintro e w7 ⟨rfl, hB7⟩
        have n_ := Z0.mk (bsp HB.out hB7)
        have m1_ := Z0.mk (kbl BK1.out hB7)
        have m2_ := Z0.mk (kbl BK2.out hB7)
        clear HB BK1 BK2 hc1 hc2 hB7
        have HB := n_
        have BK1 := m1_
        have BK2 := m2_
        clear n_ m1_ m2_
        have hc1 := bc7 BK1.out
        have hc2 := bc7 BK2.out
        rw [← HPY.out]
        go_wp2
        go_ret
        exact ⟨rfl, HB.out⟩
    | false =>
      rw [if_neg (fun h => Bool.noConfusion h.1), Bool.false_and]
      go_enter Tryz.func80, Tryz.ntmps80
      go_wp2_with (first | ((with_reducible refine gds (N := 2) rfl ?_); refine bx_ (N := 2) (cs := #[.int .i64 xop, .string xa, .string xb, .int .i64 xn, .int .i64 xcode, .string xtext, .int .i64 xrn]) (t := 53) ?_; intro g1 hg w1 hbox hb; have n_ := Z0.mk (bsp HB.out hb); clear HB; have HB := n_; clear n_; have BK1 := Z0.mk hbox; clear hb hbox hg) | ((with_reducible refine gds (N := 3) rfl ?_); refine bx_ (N := 3) (cs := #[.int .i64 yop, .string ya, .string yb, .int .i64 yn, .int .i64 ycode, .string ytext, .int .i64 yrn]) (t := 53) ?_; intro g2 hg w2 hbox hb; have n_ := Z0.mk (bsp HB.out hb); have m_ := Z0.mk (kbl BK1.out hb); clear BK1; have BK1 := m_; clear m_; clear HB; have HB := n_; clear n_; have BK2 := Z0.mk hbox; clear hb hbox hg; have hc1 := bc7 BK1.out; have hc2 := bc7 BK2.out))
      go_wp2_with fail
      refine (commPaid.calls xop xa xb xn xcode xtext xrn _).mono ?_
      rintro e w5 ⟨rfl, hB5⟩
      have n_ := Z0.mk (bsp HB.out hB5)
      have m1_ := Z0.mk (kbl BK1.out hB5)
      have m2_ := Z0.mk (kbl BK2.out hB5)
      clear HB BK1 BK2 hc1 hc2 hB5
      have HB := n_
      have BK1 := m1_
      have BK2 := m2_
      clear n_ m1_ m2_
      have hc1 := bc7 BK1.out
      have hc2 := bc7 BK2.out
      rw [← HPX.out]
      go_wp2_with fail
      refine (commPaid.calls xop xa xb xn xcode xtext xrn _).mono ?_
      rintro e w6 ⟨rfl, hB6⟩
      have n_ := Z0.mk (bsp HB.out hB6)
      have m1_ := Z0.mk (kbl BK1.out hB6)
      have m2_ := Z0.mk (kbl BK2.out hB6)
      clear HB BK1 BK2 hc1 hc2 hB6
      have HB := n_
      have BK1 := m1_
      have BK2 := m2_
      clear n_ m1_ m2_
      have hc1 := bc7 BK1.out
      have hc2 := bc7 BK2.out
      rw [← HPX.out]
      go_wp2
      go_ret
      exact ⟨rfl, HB.out⟩
end Go.Proofs.YtjiblcncadekcaaGreat.PA

