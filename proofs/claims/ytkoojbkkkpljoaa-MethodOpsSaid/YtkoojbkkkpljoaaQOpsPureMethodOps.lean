/- Each op's type and word, the op of a word, what a call changes, and by how many rows: as the document says, for every number and every text. No condition. -/
import Derived.Test.YtkoojbkkkpljoaaQOpsFAw
import Derived.Test.YtkoojbkkkpljoaaQOpsPAx15
import Derived.Test.YtkoojbkkkpljoaaQOpsPAx16
import Derived.Test.YtkoojbkkkpljoaaQOpsPAx17
import Derived.Test.YtkoojbkkkpljoaaQOpsPAx5
import Derived.Test.YtkoojbkkkpljoaaQOpsPAx7
namespace Go.Proofs.Ytkoojbkkkpljoaa.Pure
open Go.RowKit Go.Proofs.Ytkoojbkkkpljoaa.PA Go.Proofs.YtkoojbkkkpljoaaW.PrintWords Go.Proofs.YtkoojbkkkpljoaaW.PrintLast Go.Proofs.YtkoojbkkkpljoaaW.PrintMore Go.Proofs.Ytkoojbkkkpljoaa Go.Proofs.Ytkoojbkkkpljoaa.PL
def WL : List ByteArray := (armoireref12_Words.f).getD []
def SH : List S71 := (method_shapes.f).getD []
theorem words_f : armoireref12_Words.f = some WL := rfl
theorem shapes_f : method_shapes.f = some SH := rfl
theorem WL_len : WL.length = 18 := rfl
theorem SH_len : SH.length = 17 := rfl
def wd (i : Nat) : List UInt8 := (rdOf ByteArray.empty WL ((i + 1 : Nat) : Int)).data.toList
theorem wd_sh : ∀ i < 17, (rd_T71 SH ((i : Nat) : Int)).f1.data.toList = wd i := by decide +kernel
theorem wd_inj : ∀ i < 17, ∀ j < 17, wd i = wd j → i = j := by decide +kernel
def nm (w : ByteArray) : Nat → Nat → Nat
  | 0, _ => 0
  | d + 1, i => if wd i = w.data.toList then i + 1 else nm w d (i + 1)
def bk (w : ByteArray) : Nat → Nat → Nat → Nat
  | 0, _, c => c
  | d + 1, i, c => if wd i = w.data.toList then bk w d (i + 1) (i + 1) else bk w d (i + 1) c
theorem bk_none (w : ByteArray) (d : Nat) : ∀ i c, i + d = 17 → (∀ j, i ≤ j → j < 17 → ¬ wd j = w.data.toList) → bk w d i c = c := by
  induction d with
  | zero => intro i c _ _; rfl
  | succ d ih =>
    intro i c h hn
    rw [bk, if_neg (hn i (Nat.le_refl _) (by omega))]
    exact ih (i + 1) c (by omega) (fun j h1 h2 => hn j (by omega) h2)
theorem bk_nm (w : ByteArray) (d : Nat) : ∀ i, i + d = 17 → bk w d i 0 = nm w d i := by
  induction d with
  | zero => intro i _; rfl
  | succ d ih =>
    intro i h
    rw [bk, nm]
    by_cases c : wd i = w.data.toList
    · rw [if_pos c, if_pos c]
      refine bk_none w d (i + 1) (i + 1) (by omega) (fun j h1 h2 h3 => ?_)
      have := wd_inj i (by omega) j h2 (c.trans h3.symm)
      omega
    · rw [if_neg c, if_neg c]
      exact ih (i + 1) (by omega)
theorem wrap_s (i : Nat) (h : i ≤ 100) : wrap64 ((i : Int) + 1) = ((i + 1 : Nat) : Int) := by unfold wrap64; omega
theorem named_l0 (w : ByteArray) (d : Nat) : ∀ i : Nat, i + d = 17 → Ev (fun k => method_Named.l0 k w SH 17 (i : Int)) ((nm w d i : Nat) : Int) := by
  induction d with
  | zero =>
    intro i h
    refine Ev.step (f := fun _ => some 0) (fun k => ?_) (Ev.now _)
    simp only [method_Named.l0]
    rw [if_neg (by omega)]
  | succ d ih =>
    intro i h
    have e1 := wd_sh i (by omega)
    have e2 := wrap_s i (by omega)
    by_cases c : wd i = w.data.toList
    · rw [nm, if_pos c]
      refine Ev.step (f := fun _ => some ((i + 1 : Nat) : Int)) (fun k => ?_) (Ev.now _)
      simp only [method_Named.l0]
      rw [if_pos (by clear e2; omega), if_pos (by clear e2; omega), if_pos (by rw [SH_len]; clear e2; omega), ba_toList, ba_toList, if_pos (e1.trans c), e2]
    · rw [nm, if_neg c]
      refine Ev.step (fun k => ?_) (ih (i + 1) (by omega))
      simp only [method_Named.l0]
      rw [if_pos (by clear e2; omega), if_pos (by clear e2; omega), if_pos (by rw [SH_len]; clear e2; omega), ba_toList, ba_toList, if_neg (fun h => c (e1.symm.trans h)), e2]
theorem named_f (w : ByteArray) : Ev (fun k => method_Named.f k w) ((nm w 17 0 : Nat) : Int) := by
  refine Ev.congr (fun k => ?_) (named_l0 w 17 0 rfl)
  unfold method_Named.f
  rw [shapes_f, Option.bind_some, SH_len]
  rfl
theorem back_l0 (x0 : Int) (w : ByteArray) (x2 x3 x9 : Int) (x10 : ByteArray) (r : Bool) (d : Nat) : ∀ (i c : Nat), i + d = 17 →
    Ev (fun k => armoirelaw12_MethodOps.l0 k x0 w x2 x3 x9 x10 ((bk w d i c : Nat) : Int) 18) r → Ev (fun k => armoirelaw12_MethodOps.l0 k x0 w x2 x3 x9 x10 (c : Int) ((i + 1 : Nat) : Int)) r := by
  induction d with
  | zero =>
    intro i c h hh
    obtain rfl : i = 17 := by omega
    exact hh
  | succ d ih =>
    intro i c h hh
    have e2 := wrap_s (i + 1) (by omega)
    rw [bk] at hh
    by_cases q : wd i = w.data.toList
    · rw [if_pos q] at hh
      refine Ev.step (fun k => ?_) (ih (i + 1) (i + 1) (by omega) hh)
      simp only [armoirelaw12_MethodOps.l0]
      rw [if_pos (by clear e2; omega), words_f, Option.bind_some, if_pos (by clear e2; omega), if_pos (by rw [WL_len]; clear e2; omega), ba_toList, ba_toList]
      unfold wd at q
      rw [if_pos q, e2]
    · rw [if_neg q] at hh
      refine Ev.step (fun k => ?_) (ih (i + 1) c (by omega) hh)
      simp only [armoirelaw12_MethodOps.l0]
      rw [if_pos (by clear e2; omega), words_f, Option.bind_some, if_pos (by clear e2; omega), if_pos (by rw [WL_len]; clear e2; omega), ba_toList, ba_toList]
      unfold wd at q
      rw [if_neg q, e2]
def chg (op n code : Int) : Bool :=
  if op = 2 ∨ op = 5 ∨ op = 14 ∨ op = 16 then true else if op = 3 then n != 0 else if op = 6 ∨ op = 8 ∨ op = 9 ∨ op = 11 ∨ op = 12 ∨ op = 15 ∨ op = 17 then code == 1 else false
theorem changes_k (k : Nat) (op : Int) (a b : ByteArray) (n code : Int) (t : ByteArray) (m : Int) : method_Changes.f (k + 1) op a b n code t m = some (chg op n code) ∧ armoireref12_Changes.f (k + 1) op a b n code t m = some (chg op n code) := by
  by_cases h : 1 ≤ op ∧ op ≤ 17
  · rcases ops17 op h.1 h.2 with rfl | rfl | rfl | rfl | rfl | rfl | rfl | rfl | rfl | rfl | rfl | rfl | rfl | rfl | rfl | rfl | rfl <;> simp [method_Changes.f, method_Changes.j0, armoireref12_Changes.f, armoireref12_Changes.j0, chg]
  · have h1 : ¬ op = 1 := by omega
    have h2 : ¬ op = 2 := by omega
    have h3 : ¬ op = 3 := by omega
    have h4 : ¬ op = 4 := by omega
    have h5 : ¬ op = 5 := by omega
    have h6 : ¬ op = 6 := by omega
    have h7 : ¬ op = 7 := by omega
    have h8 : ¬ op = 8 := by omega
    have h9 : ¬ op = 9 := by omega
    have h10 : ¬ op = 10 := by omega
    have h11 : ¬ op = 11 := by omega
    have h12 : ¬ op = 12 := by omega
    have h13 : ¬ op = 13 := by omega
    have h14 : ¬ op = 14 := by omega
    have h15 : ¬ op = 15 := by omega
    have h16 : ¬ op = 16 := by omega
    have h17 : ¬ op = 17 := by omega
    have hg : ∀ x : Option Bool, (if op ≥ 1 then (if op ≤ 17 then x else some false) else some false) = some false := by
      intro x
      by_cases c : op ≥ 1
      · rw [if_pos c, if_neg (by omega)]
      · rw [if_neg c]
    simp only [method_Changes.f, method_Changes.j0, armoireref12_Changes.f, armoireref12_Changes.j0, chg, h1, h2, h3, h4, h5, h6, h7, h8, h9, h10, h11, h12, h13, h14, h15, h16, h17, if_false, or_false, hg, beq_eq_false_iff_ne.mpr h16, Bool.false_eq_true, and_self]
theorem changes_f (op : Int) (a b : ByteArray) (n code : Int) (t : ByteArray) (m : Int) : Ev (fun k => method_Changes.f k op a b n code t m) (chg op n code) :=
  ⟨1, fun k hk => by obtain ⟨q, rfl⟩ : ∃ q, k = q + 1 := ⟨k - 1, by omega⟩
                     exact (changes_k q op a b n code t m).1⟩
theorem rchanges_f (op : Int) (a b : ByteArray) (n code : Int) (t : ByteArray) (m : Int) : Ev (fun k => armoireref12_Changes.f k op a b n code t m) (chg op n code) :=
  ⟨1, fun k hk => by obtain ⟨q, rfl⟩ : ∃ q, k = q + 1 := ⟨k - 1, by omega⟩
                     exact (changes_k q op a b n code t m).2⟩
def gro (op : Int) (c : Bool) : Int := if c = true then (if op = 8 ∨ op = 11 ∨ op = 14 ∨ op = 16 then 1 else if op = 9 ∨ op = 12 ∨ op = 15 ∨ op = 17 then -1 else 0) else 0
theorem growth_k (k : Nat) (op : Int) (a b : ByteArray) (n code : Int) (t : ByteArray) (m : Int) : method_Growth.f (k + 1) op a b n code t m = some (gro op (chg op n code)) ∧ armoireref12_Growth.f (k + 1) op a b n code t m = some (gro op (chg op n code)) := by
  have hc := changes_k k op a b n code t m
  unfold method_Growth.f armoireref12_Growth.f
  rw [hc.1, hc.2, Option.bind_some, Option.bind_some]
  generalize chg op n code = c
  cases c with
  | false => simp [gro]
  | true =>
    by_cases h8 : op = 8
    · subst h8; simp [gro, method_Growth.j0, armoireref12_Growth.j0]
    by_cases h11 : op = 11
    · subst h11; simp [gro, method_Growth.j0, armoireref12_Growth.j0]
    by_cases h14 : op = 14
    · subst h14; simp [gro, method_Growth.j0, armoireref12_Growth.j0]
    by_cases h16 : op = 16
    · subst h16; simp [gro, method_Growth.j0, armoireref12_Growth.j0]
    have e16 : (op == 16) = false := beq_eq_false_iff_ne.mpr h16
    by_cases h9 : op = 9
    · subst h9; simp [gro, method_Growth.j0, armoireref12_Growth.j0]
    by_cases h12 : op = 12
    · subst h12; simp [gro, method_Growth.j0, armoireref12_Growth.j0]
    by_cases h15 : op = 15
    · subst h15; simp [gro, method_Growth.j0, armoireref12_Growth.j0]
    by_cases h17 : op = 17
    · subst h17; simp [gro, method_Growth.j0, armoireref12_Growth.j0]
    simp [gro, method_Growth.j0, armoireref12_Growth.j0, h8, h9, h11, h12, h14, h15, h16, h17]
theorem growth_f (op : Int) (a b : ByteArray) (n code : Int) (t : ByteArray) (m : Int) : Ev (fun k => method_Growth.f k op a b n code t m) (gro op (chg op n code)) :=
  ⟨1, fun k hk => by obtain ⟨q, rfl⟩ : ∃ q, k = q + 1 := ⟨k - 1, by omega⟩
                     exact (growth_k q op a b n code t m).1⟩
theorem rgrowth_f (op : Int) (a b : ByteArray) (n code : Int) (t : ByteArray) (m : Int) : Ev (fun k => armoireref12_Growth.f k op a b n code t m) (gro op (chg op n code)) :=
  ⟨1, fun k hk => by obtain ⟨q, rfl⟩ : ∃ q, k = q + 1 := ⟨k - 1, by omega⟩
                     exact (growth_k q op a b n code t m).2⟩
theorem ops_j4 (w : ByteArray) (n code op : Int) (x10 : ByteArray) (kd : Int) (h1 : method_Op_Word.f op = some x10) (h2 : method_Op_Kind.f op = some kd) :
    Ev (fun k => armoirelaw12_MethodOps.j4 k w n code op x10 ((nm w 17 0 : Nat) : Int) kd) true := by
  refine Ev.step (fun k => by simp only [armoirelaw12_MethodOps.j4]; rfl) ?_
  refine Ev.bind awake_true ?_
  simp only [if_true, h1, h2, Option.bind_some]
  refine Ev.bind (named_f w) ?_
  simp only [if_true]
  refine Ev.bind (changes_f _ _ _ _ _ _ _) ?_
  simp only [armoirelaw12_Told.f, Option.bind_some]
  refine Ev.bind (rchanges_f _ _ _ _ _ _ _) ?_
  simp only [beq_self_eq_true, if_true]
  refine Ev.bind (growth_f _ _ _ _ _ _ _) ?_
  refine Ev.bind (rgrowth_f _ _ _ _ _ _ _) ?_
  simp only [beq_self_eq_true]
  exact Ev.now _
theorem ops_j3 (op : Int) (w : ByteArray) (n code : Int) (x10 : ByteArray) (h1 : method_Op_Word.f op = some x10) :
    Ev (fun k => armoirelaw12_MethodOps.l0 k op w n code op x10 ((nm w 17 0 : Nat) : Int) 18) true := by
  by_cases h : 1 ≤ op ∧ op ≤ 17
  · have hk : ∃ kd, armoireref12_Kind.f op = some kd ∧ method_Op_Kind.f op = some kd := by
      have : (armoireref12_Kind.f op).isSome = true ∧ method_Op_Kind.f op = armoireref12_Kind.f op := by
        rcases ops17 op h.1 h.2 with rfl | rfl | rfl | rfl | rfl | rfl | rfl | rfl | rfl | rfl | rfl | rfl | rfl | rfl | rfl | rfl | rfl <;> decide +kernel
      obtain ⟨kd, hkd⟩ := Option.isSome_iff_exists.1 this.1
      exact ⟨kd, hkd, this.2.trans hkd⟩
    obtain ⟨kd, k1, k2⟩ := hk
    refine Ev.step (f := fun k => armoirelaw12_MethodOps.j3 k op w n code op x10 ((nm w 17 0 : Nat) : Int) 0 true) (fun k => ?_) ?_
    · simp only [armoirelaw12_MethodOps.l0]
      rw [if_neg (by decide), if_pos (by omega), decide_eq_true (by omega)]
    · refine Ev.step (fun k => ?_) (ops_j4 w n code op x10 kd h1 k2)
      simp only [armoirelaw12_MethodOps.j3]
      rw [if_pos trivial, k1, Option.bind_some]
  · have k2 : method_Op_Kind.f op = some 0 := by
      unfold method_Op_Kind.f
      rw [shape_out op (by omega)]
      rfl
    refine Ev.step (f := fun k => armoirelaw12_MethodOps.j3 k op w n code op x10 ((nm w 17 0 : Nat) : Int) 0 false) (fun k => ?_) ?_
    · simp only [armoirelaw12_MethodOps.l0]
      rw [if_neg (by decide)]
      by_cases c : op ≥ 1
      · rw [if_pos c, decide_eq_false (by omega)]
      · rw [if_neg c]
    · refine Ev.step (fun k => ?_) (ops_j4 w n code op x10 0 h1 k2)
      simp only [armoirelaw12_MethodOps.j3]
      rw [if_neg (by decide)]
theorem ops_j1 (op : Int) (w : ByteArray) (n code : Int) (x10 : ByteArray) (h1 : method_Op_Word.f op = some x10) :
    Ev (fun k => armoirelaw12_MethodOps.j1 k op w n code op x10 0) true := by
  have h := back_l0 op w n code op x10 true 17 0 0 rfl (by rw [bk_nm w 17 0 rfl]; exact ops_j3 op w n code x10 h1)
  refine Ev.step (fun k => ?_) h
  simp only [armoirelaw12_MethodOps.j1]
  rfl
theorem MethodOps : armoirelaw12_MethodOps.Pure := by
  intro op w n code _ _ _ _
  refine Ev.rounds ?_
  by_cases h : 1 ≤ op ∧ op ≤ 17
  · have h1 : method_Op_Word.f op = some (rdOf ByteArray.empty WL op) := by
      rcases ops17 op h.1 h.2 with rfl | rfl | rfl | rfl | rfl | rfl | rfl | rfl | rfl | rfl | rfl | rfl | rfl | rfl | rfl | rfl | rfl <;> decide +kernel
    refine Ev.congr (f := fun k => armoirelaw12_MethodOps.j0 k op w n code op (⟨#[]⟩ : ByteArray) 0 true) (fun k => ?_) ?_
    · unfold armoirelaw12_MethodOps.f
      rw [if_pos (by omega), decide_eq_true (by omega)]
    · refine Ev.step (fun k => ?_) (ops_j1 op w n code _ h1)
      simp only [armoirelaw12_MethodOps.j0]
      rw [if_pos trivial, words_f, Option.bind_some, if_pos (by omega), if_pos (by rw [WL_len]; omega)]
  · have h1 : method_Op_Word.f op = some ⟨#[]⟩ := by
      unfold method_Op_Word.f
      rw [shape_out op (by omega)]
      rfl
    refine Ev.congr (f := fun k => armoirelaw12_MethodOps.j0 k op w n code op (⟨#[]⟩ : ByteArray) 0 false) (fun k => ?_) ?_
    · unfold armoirelaw12_MethodOps.f
      by_cases c : op ≥ 1
      · rw [if_pos c, decide_eq_false (by omega)]
      · rw [if_neg c]
    · refine Ev.step (fun k => ?_) (ops_j1 op w n code _ h1)
      simp only [armoirelaw12_MethodOps.j0]
      rw [if_neg (by decide)]
end Go.Proofs.Ytkoojbkkkpljoaa.Pure

