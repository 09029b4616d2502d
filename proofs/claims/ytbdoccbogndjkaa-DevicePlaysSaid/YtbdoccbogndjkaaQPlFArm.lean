import Derived.Test.YtbdoccbogndjkaaQPlMFew
import Derived.Test.YtbdoccbogndjkaaQPlPFx1
import Derived.Test.YtbdoccbogndjkaaQPlPFx2
import Derived.Test.YtbdoccbogndjkaaQPlMDevAwake
namespace Go.Proofs.Ytbdoccbogndjkaa
set_option linter.unusedSimpArgs false
open Go.RowKit Go.Proofs.YtbdoccbogndjkaaW.PrintWords Go.Proofs.YtbdoccbogndjkaaW.PrintLast
theorem wrap64_in' (n : Int) (h : -9223372036854775808 ≤ n ∧ n ≤ 9223372036854775807) : wrap64 n = n := by unfold wrap64; omega
theorem z64_step : ∀ n, n < 65 → 0 < n → (⟨#[0]⟩ : ByteArray) ++ Z64.extract (65 - n) 64 = Z64.extract (64 - n) 64 := by decide +kernel
theorem fill_loop : ∀ (n : Nat) (k : Nat) (x : ByteArray) (i : Int), x.size + n = 64 → 0 ≤ i → i + n ≤ 64 → n < k → PF.armoireref03_Fill.l0 k x i = some (x ++ Z64.extract (64 - n) 64) := by
  intro n
  induction n with
  | zero =>
    intro k x i h0 h1 h2 h3
    obtain ⟨k, rfl⟩ : ∃ m, k = m + 1 := ⟨k - 1, by omega⟩
    have e0 : x ++ Z64.extract (64 - 0) 64 = x := by
      rw [show Z64.extract (64 - 0) 64 = ⟨#[]⟩ from by decide +kernel]; exact ByteArray.append_empty
    have e1 : x.extract 0 64 = x := by rw [show (64 : Nat) = x.size by omega]; exact ByteArray.extract_zero_size
    rw [e0]
    unfold PF.armoireref03_Fill.l0
    rw [if_neg (show ¬((x.size : Int) < 64) by omega)]
    have hb : (64 : Int) ≤ x.size := by omega
    simp only [hb, e1, if_true, ite_self]
    simp
  | succ n ih =>
    intro k x i h0 h1 h2 h3
    obtain ⟨k, rfl⟩ : ∃ m, k = m + 1 := ⟨k - 1, by omega⟩
    have hs : (x ++ (⟨#[0]⟩ : ByteArray)).size + n = 64 := by rw [ByteArray.size_append]; have : (⟨#[0]⟩ : ByteArray).size = 1 := rfl; omega
    have hw : wrap64 (i + 1) = i + 1 := wrap64_in' _ ⟨by omega, by omega⟩
    unfold PF.armoireref03_Fill.l0
    rw [if_pos (show i < 64 by omega), if_pos (show (x.size : Int) < 64 by omega), if_pos (show x.size + 1 ≤ 9223372036854775807 by omega), hw, ih k _ (i + 1) hs (by omega) (by omega) (by omega), ByteArray.append_assoc]
    have := z64_step (n + 1) (by omega) (by omega)
    rw [show 65 - (n + 1) = 64 - n by omega] at this
    rw [this]
theorem fill_pad (s : ByteArray) (h : s.size ≤ 64) : PF.armoireref03_Fill.f 70 s = some (pad s) := by
  unfold PF.armoireref03_Fill.f pad
  rw [fill_loop (64 - s.size) 70 s 0 (by omega) (by omega) (by omega) (by omega), show 64 - (64 - s.size) = s.size by omega]
structure Up (d : Dv) (sec : List ByteArray) (cache : List Wr) : Prop where
  sec : d.sec = sec
  cache : d.cache = cache
  left : d.left = -1
  down : d.down = false
theorem Up.call {d : Dv} {sec : List ByteArray} {cache : List Wr} (h : Up d sec cache) : (dvCall d).1 = true ∧ Up (dvCall d).2 sec cache := by
  unfold dvCall
  rw [if_neg (by rw [h.down]; decide), if_neg (by rw [h.left]; decide), if_neg (by rw [h.left]; decide)]
  exact ⟨rfl, h.sec, h.cache, h.left, h.down⟩
theorem Up.write {d : Dv} {sec : List ByteArray} {cache : List Wr} (h : Up d sec cache) (a : Int) (s : ByteArray) (h0 : 0 ≤ a) (h1 : a < sec.length) (hs : s.size ≤ 64) : (dvWrite d a s).1 = 0 ∧ Up (dvWrite d a s).2 sec (cache ++ [⟨a, pad s⟩]) := by
  have hl := congrArg List.length h.sec
  obtain ⟨e, hu⟩ := h.call
  unfold dvWrite
  rw [if_neg (by omega), if_neg (by rw [e]; decide)]
  exact ⟨rfl, hu.sec, by simp only [hu.cache], hu.left, hu.down⟩
theorem Up.flush {d : Dv} {sec : List ByteArray} {cache : List Wr} (h : Up d sec cache) : (dvFlush d).1 = 0 ∧ Up (dvFlush d).2 (lastB sec cache) [] := by
  obtain ⟨e, hu⟩ := h.call
  unfold dvFlush
  rw [if_neg (by rw [e]; decide)]
  exact ⟨rfl, by simp only [h.sec, h.cache], rfl, hu.left, hu.down⟩
theorem Up.crash {d : Dv} {sec : List ByteArray} {cache : List Wr} (h : Up d sec cache) (keep : List Int) : Up (dvCrash d keep) (lastB sec (pick keep cache)) [] := by
  unfold dvCrash; exact ⟨by simp only [h.sec, h.cache], rfl, rfl, rfl⟩
end Go.Proofs.Ytbdoccbogndjkaa

namespace Go.Proofs.Ytbdoccbogndjkaa
set_option linter.unusedSimpArgs false
open Go.RowKit Go.Proofs.YtbdoccbogndjkaaW.PrintWords Go.Proofs.YtbdoccbogndjkaaW.PrintLast Go.Proofs.YtbdoccbogndjkaaW.PrintMore
def toWr (x : PF.S72) : Wr := ⟨x.f0, x.f1⟩
theorem wrapP (n : Int) (h : -9223372036854775808 ≤ n ∧ n ≤ 9223372036854775807) : wrap64 n = n := by unfold wrap64; omega
theorem rCall_dv (d : Dv) : rCall (max d.left (-1)) d.down d.calls = ((dvCall d).1, max (dvCall d).2.left (-1), (dvCall d).2.down, (dvCall d).2.calls) := by
  unfold rCall dvCall
  by_cases h : d.down = true
  · rw [if_pos h, if_pos h, h]
  · have h' : d.down = false := by simpa using h
    rw [if_neg h, if_neg h]
    by_cases h0 : d.left = 0
    · rw [if_pos (show max d.left (-1) = 0 by omega), if_pos h0]
    · rw [if_neg (show ¬ max d.left (-1) = 0 by omega), if_neg h0]
      by_cases h1 : d.left > 0
      · rw [if_pos (show max d.left (-1) > 0 by omega), if_pos h1]
        simp only [Prod.mk.injEq, true_and, h', and_true]
        omega
      · rw [if_neg (show ¬ max d.left (-1) > 0 by omega), if_neg h1]
        simp only [h']
theorem rd_at (C : List PF.S72) (j : Nat) (h : j < C.length) : PF.rd_T72 C (j : Int) = C[j] := by
  unfold PF.rd_T72; rw [Int.toNat_natCast, List.getD_eq_getElem?_getD, List.getElem?_eq_getElem h]; rfl
theorem last_l0 (C : List PF.S72) (hC : C.length ≤ 1000000) : ∀ (n j k : Nat) (l : List ByteArray), j + n = C.length → n < k → (∀ x ∈ C, 0 ≤ x.f0 ∧ x.f0 < l.length) →
    PF.armoireref03_last.l0 k l C (C.length : Int) (j : Int) = some (lastB l ((C.drop j).map toWr)) := by
  intro n
  induction n with
  | zero =>
    intro j k l h1 h2 _
    obtain ⟨k, rfl⟩ : ∃ m, k = m + 1 := ⟨k - 1, by omega⟩
    unfold PF.armoireref03_last.l0
    rw [if_neg (show ¬ (j : Int) < (C.length : Int) by omega), List.drop_of_length_le (by omega)]
    rfl
  | succ n ih =>
    intro j k l h1 h2 hx
    obtain ⟨k, rfl⟩ : ∃ m, k = m + 1 := ⟨k - 1, by omega⟩
    have hj : j < C.length := by omega
    obtain ⟨ha, hb⟩ := hx C[j] (List.getElem_mem hj)
    unfold PF.armoireref03_last.l0
    rw [rd_at C j hj, if_pos (show (j : Int) < (C.length : Int) by omega), if_pos (show (0 : Int) ≤ (j : Int) by omega), if_pos (show (j : Int) < (C.length : Int) by omega), if_pos ha, if_pos hb,
      wrapP ((j : Int) + 1) ⟨by omega, by omega⟩, show (j : Int) + 1 = ((j + 1 : Nat) : Int) by omega, ih (j + 1) k _ (by omega) (by omega) (fun x h => by rw [List.length_set]; exact hx x h),
      List.drop_eq_getElem_cons hj, List.map_cons]
    rfl
theorem last_f (l : List ByteArray) (C : List PF.S72) (hl : l.length ≤ 1000000) (hC : C.length ≤ 1000000) (hx : ∀ x ∈ C, 0 ≤ x.f0 ∧ x.f0 < l.length) : PF.armoireref03_last.f (C.length + 1) l C = some (lastB l (C.map toWr)) := by
  unfold PF.armoireref03_last.f
  rw [Option.bind_some, if_pos (by simp only [List.length_nil]; omega), List.nil_append]
  have := last_l0 C hC C.length 0 (C.length + 1) l (by omega) (by omega) hx
  rw [List.drop_zero] at this
  exact this
theorem fold_find (a : Int) (xs : List Wr) : ∀ s : ByteArray, xs.foldl (fun s x => if x.at_ = a then x.text else s) s = match xs.reverse.find? (fun x => x.at_ == a) with
    | some x => x.text
    | none => s := by
  induction xs with
  | nil => intro s; rfl
  | cons x xs ih =>
    intro s
    rw [List.foldl_cons, ih, List.reverse_cons, List.find?_append]
    cases h : xs.reverse.find? (fun x => x.at_ == a) with
    | some y => simp
    | none =>
      by_cases e : x.at_ = a
      · simp [e]
      · simp [e]
theorem read_l0 (C : List PF.S72) (hC : C.length ≤ 1000000) (a : Int) : ∀ (n j k : Nat) (s : ByteArray), j + n = C.length → n < k →
    PF.armoireref03_Read.l0 k a s C (C.length : Int) (j : Int) = some (((C.drop j).map toWr).foldl (fun s x => if x.at_ = a then x.text else s) s, 0) := by
  intro n
  induction n with
  | zero =>
    intro j k s h1 h2
    obtain ⟨k, rfl⟩ : ∃ m, k = m + 1 := ⟨k - 1, by omega⟩
    unfold PF.armoireref03_Read.l0
    rw [if_neg (show ¬ (j : Int) < (C.length : Int) by omega), List.drop_of_length_le (by omega)]
    rfl
  | succ n ih =>
    intro j k s h1 h2
    obtain ⟨k, rfl⟩ : ∃ m, k = m + 1 := ⟨k - 1, by omega⟩
    have hj : j < C.length := by omega
    have hw : wrap64 ((j : Int) + 1) = ((j + 1 : Nat) : Int) := by rw [wrapP _ ⟨by omega, by omega⟩]; omega
    unfold PF.armoireref03_Read.l0
    rw [rd_at C j hj, if_pos (show (j : Int) < (C.length : Int) by omega), if_pos (show (0 : Int) ≤ (j : Int) by omega), if_pos (show (j : Int) < (C.length : Int) by omega), hw,
      List.drop_eq_getElem_cons hj, List.map_cons, List.foldl_cons]
    by_cases e : C[j].f0 = a
    · rw [if_pos e, ih (j + 1) k _ (by omega) (by omega), if_pos (show (toWr C[j]).at_ = a from e)]
      rfl
    · rw [if_neg e, ih (j + 1) k _ (by omega) (by omega), if_neg (show ¬ (toWr C[j]).at_ = a from e)]
theorem read_f (d : Dv) (C : List PF.S72) (l c a : Int) (h : d.cache = C.map toWr) (hC : C.length ≤ 1000000) : PF.armoireref03_Read.f (C.length + 2) d.sec C l d.down c a = some (dvRead d a) := by
  have key : ∀ b : Bool, (b = true ↔ (a < 0 ∨ (d.sec.length : Int) ≤ a)) → PF.armoireref03_Read.j0 (C.length + 2) a b d.sec C l d.down c = some (dvRead d a) := by
    intro b hb
    unfold dvRead
    simp only [PF.armoireref03_Read.j0]
    by_cases q : a < 0 ∨ (d.sec.length : Int) ≤ a
    · rw [if_pos (hb.2 q), if_pos q]
    · rw [if_neg (fun h => q (hb.1 h)), if_neg q]
      by_cases hd : d.down = true
      · rw [if_pos hd, if_pos hd]
      · rw [if_neg hd, if_neg hd, if_pos (show (0 : Int) ≤ a by omega), if_pos (show a < (d.sec.length : Int) by omega)]
        have := read_l0 C hC a C.length 0 (C.length + 1) (rdOf ByteArray.empty d.sec a) (by omega) (by omega)
        rw [List.drop_zero, ← h, fold_find] at this
        exact this
  unfold PF.armoireref03_Read.f
  by_cases q : a < 0
  · rw [if_pos q]; exact key true ⟨fun _ => .inl q, fun _ => rfl⟩
  · rw [if_neg q]; exact key _ ⟨fun h => .inr (of_decide_eq_true h), fun h => decide_eq_true (h.resolve_left q)⟩
theorem crash_l1 (K : List Int) (hK : K.length ≤ 1000) (W : List PF.S72) (i : Int) (C : List PF.S72) (n15 n14 : Int) (L : List ByteArray) (C0 : List PF.S72) (lf : Int) (dn : Bool) (cs f0 : Int) (f1 : ByteArray) : ∀ (n j k : Nat) (is : Bool), j + n = K.length → n < k →
    PF.armoireref03_Crash.l1 k K W i is C n14 n15 K (K.length : Int) (j : Int) L C0 lf dn cs f0 f1 =
      (if (is || (K.drop j).contains i) = true then (if W.length < 5864062014805 then PF.armoireref03_Crash.l0 (k - (n + 1)) K (W ++ [(⟨f0, f1⟩ : PF.S72)]) C n14 (wrap64 (n15 + 1)) L C0 lf dn cs else none) else PF.armoireref03_Crash.l0 (k - (n + 1)) K W C n14 (wrap64 (n15 + 1)) L C0 lf dn cs) := by
  intro n
  induction n with
  | zero =>
    intro j k is h1 h2
    obtain ⟨k, rfl⟩ : ∃ m, k = m + 1 := ⟨k - 1, by omega⟩
    unfold PF.armoireref03_Crash.l1
    rw [if_neg (show ¬ (j : Int) < (K.length : Int) by omega), List.drop_of_length_le (by omega)]
    simp
  | succ n ih =>
    intro j k is h1 h2
    obtain ⟨k, rfl⟩ : ∃ m, k = m + 1 := ⟨k - 1, by omega⟩
    have hj : j < K.length := by omega
    have hw : wrap64 ((j : Int) + 1) = ((j + 1 : Nat) : Int) := by rw [wrapP _ ⟨by omega, by omega⟩]; omega
    have hr : rd K (j : Int) = K[j] := by simp [rd, hj]
    unfold PF.armoireref03_Crash.l1
    rw [if_pos (show (j : Int) < (K.length : Int) by omega), if_pos (show (0 : Int) ≤ (j : Int) by omega), if_pos (show (j : Int) < (K.length : Int) by omega), hw, hr,
      List.drop_eq_getElem_cons hj, ih (j + 1) k _ (by omega) (by omega), ih (j + 1) k _ (by omega) (by omega)]
    have e : k + 1 - (n + 1 + 1) = k - (n + 1) := by omega
    rw [e]
    cases is with
    | true => simp
    | false =>
      have hc : (K[j] :: K.drop (j + 1)).contains i = ((K[j] == i) || (K.drop (j + 1)).contains i) := by
        rw [List.contains_cons, BEq.comm]
      rw [hc]
      simp
def pickS (K : List Int) (j : Nat) : List PF.S72 → List PF.S72
  | [] => []
  | x :: C => if K.contains (j : Int) = true then x :: pickS K (j + 1) C else pickS K (j + 1) C
theorem pickS_len (K : List Int) : ∀ (C : List PF.S72) (j : Nat), (pickS K j C).length ≤ C.length := by
  intro C
  induction C with
  | nil => intro j; exact Nat.le_refl _
  | cons x C ih => intro j; unfold pickS; split <;> simp only [List.length_cons] <;> have := ih (j + 1) <;> omega
theorem crash_l0 (K : List Int) (hK : K.length ≤ 1000) (C : List PF.S72) (hC : C.length ≤ 1000) (L : List ByteArray) (C0 : List PF.S72) (lf : Int) (dn : Bool) (cs : Int) : ∀ (n j k : Nat) (W : List PF.S72), j + n = C.length → n * (K.length + 2) < k → W.length + n ≤ 1000000 →
    PF.armoireref03_Crash.l0 k K W C (C.length : Int) (j : Int) L C0 lf dn cs = (PF.armoireref03_last.f (k - n * (K.length + 2) - 1) L (W ++ pickS K j (C.drop j))).bind fun t => some (t, ([] : List PF.S72), (-1), false, cs) := by
  intro n
  induction n with
  | zero =>
    intro j k W h1 h2 h3
    obtain ⟨k, rfl⟩ : ∃ m, k = m + 1 := ⟨k - 1, by omega⟩
    unfold PF.armoireref03_Crash.l0
    rw [if_neg (show ¬ (j : Int) < (C.length : Int) by omega), List.drop_of_length_le (by omega)]
    simp [pickS]
  | succ n ih =>
    intro j k W h1 h2 h3
    have hmul : (n + 1) * (K.length + 2) = n * (K.length + 2) + (K.length + 2) := by rw [Nat.add_mul, Nat.one_mul]
    obtain ⟨k, rfl⟩ : ∃ m, k = m + 1 := ⟨k - 1, by omega⟩
    have hj : j < C.length := by omega
    have hw : wrap64 ((j : Int) + 1) = ((j + 1 : Nat) : Int) := by rw [wrapP _ ⟨by omega, by omega⟩]; omega
    have hl := crash_l1 K hK W (j : Int) C (j : Int) (C.length : Int) L C0 lf dn cs (PF.rd_T72 C (j : Int)).f0 (PF.rd_T72 C (j : Int)).f1 K.length 0 k false (by omega) (by omega)
    rw [List.drop_zero, Bool.false_or, hw] at hl
    unfold PF.armoireref03_Crash.l0
    rw [if_pos (show (j : Int) < (C.length : Int) by omega), if_pos (show (0 : Int) ≤ (j : Int) by omega), if_pos (show (j : Int) < (C.length : Int) by omega)]
    refine hl.trans ?_
    rw [rd_at C j hj, List.drop_eq_getElem_cons hj, pickS]
    have e : k - (K.length + 1) - n * (K.length + 2) - 1 = k + 1 - (n + 1) * (K.length + 2) - 1 := by omega
    by_cases c : K.contains (j : Int) = true
    · rw [if_pos c, if_pos c, if_pos (show W.length < 5864062014805 by omega), ih (j + 1) _ _ (by omega) (by omega) (by simp only [List.length_append, List.length_cons, List.length_nil]; omega), e, List.append_assoc]
      rfl
    · rw [if_neg c, if_neg c, ih (j + 1) _ _ (by omega) (by omega) (by omega), e]
theorem pickS_pick (K : List Int) : ∀ (C : List PF.S72) (j : Nat), (((C.map toWr).zipIdx j).filter fun p => K.contains (p.2 : Int)).map (·.1) = (pickS K j C).map toWr := by
  intro C
  induction C with
  | nil => intro j; rfl
  | cons x C ih =>
    intro j
    rw [List.map_cons, List.zipIdx_cons, List.filter_cons, pickS]
    by_cases c : K.contains (j : Int) = true
    · rw [if_pos c, if_pos c, List.map_cons, List.map_cons, ih]
    · rw [if_neg c, if_neg c, ih]
theorem pickS_mem (K : List Int) : ∀ (C : List PF.S72) (j : Nat), ∀ x ∈ pickS K j C, x ∈ C := by
  intro C
  induction C with
  | nil => intro j x h; cases h
  | cons y C ih =>
    intro j x h
    unfold pickS at h
    split at h
    · rcases List.mem_cons.1 h with rfl | h
      · exact List.mem_cons_self
      · exact List.mem_cons_of_mem _ (ih _ x h)
    · exact List.mem_cons_of_mem _ (ih _ x h)
theorem crash_f (d : Dv) (C : List PF.S72) (K : List Int) (l : Int) (dn : Bool) (h : d.cache = C.map toWr) (hC : C.length ≤ 1000) (hK : K.length ≤ 1000) (hs : d.sec.length ≤ 1000000) (hok : DvOk d) :
    PF.armoireref03_Crash.f (C.length * (K.length + 2) + C.length + 2) d.sec C l dn d.calls K = some ((dvCrash d K).sec, [], -1, false, (dvCrash d K).calls) := by
  have hp := pickS_len K C 0
  have hx : ∀ x ∈ pickS K 0 C, 0 ≤ x.f0 ∧ x.f0 < d.sec.length := fun x hx => by
    have := hok (toWr x) (by rw [h]; exact List.mem_map_of_mem (pickS_mem K C 0 x hx))
    exact this
  have hl := last_l0 (pickS K 0 C) (by omega) (pickS K 0 C).length 0 (C.length + 1) d.sec (by omega) (by omega) hx
  rw [List.drop_zero] at hl
  have hlf : PF.armoireref03_last.f (C.length + 1) d.sec (pickS K 0 C) = some (lastB d.sec ((pickS K 0 C).map toWr)) := by
    unfold PF.armoireref03_last.f
    rw [Option.bind_some, if_pos (by simp only [List.length_nil]; omega), List.nil_append]
    exact hl
  have h0 := crash_l0 K hK C hC d.sec C l dn d.calls C.length 0 (C.length * (K.length + 2) + C.length + 2) [] (by omega) (by omega) (by simp only [List.length_nil]; omega)
  rw [List.drop_zero, List.nil_append, show C.length * (K.length + 2) + C.length + 2 - C.length * (K.length + 2) - 1 = C.length + 1 by omega, hlf, Option.bind_some, ← pickS_pick, ← h] at h0
  exact h0
theorem new_l0 : ∀ (n k : Nat) (j m : Nat), j + n = m → n + 70 < k → m ≤ 100000 → PF.armoireref03_New.l0 k (m : Int) (j : Int) (List.replicate j Z64) (-1) false 0 = some (List.replicate m Z64, [], -1, false, 0) := by
  intro n
  induction n with
  | zero =>
    intro k j m h1 h2 h3
    obtain ⟨k, rfl⟩ : ∃ q, k = q + 1 := ⟨k - 1, by omega⟩
    unfold PF.armoireref03_New.l0
    rw [if_neg (show ¬ (j : Int) < (m : Int) by omega), show j = m by omega]
  | succ n ih =>
    intro k j m h1 h2 h3
    obtain ⟨k, rfl⟩ : ∃ q, k = q + 1 := ⟨k - 1, by omega⟩
    have hw : wrap64 ((j : Int) + 1) = ((j + 1 : Nat) : Int) := by rw [wrapP _ ⟨by omega, by omega⟩]; omega
    have hf : PF.armoireref03_Fill.f k ⟨#[]⟩ = some Z64 := at_rounds (fun q => PF.armoireref03_Fill.mono ⟨#[]⟩ q) (show 70 ≤ k by omega) fill_e
    unfold PF.armoireref03_New.l0
    rw [if_pos (show (j : Int) < (m : Int) by omega), hf, Option.bind_some, if_pos (by rw [List.length_replicate]; omega), hw, ← List.replicate_succ', ih k (j + 1) m (by omega) (by omega) h3]
theorem new_f (n : Nat) (h : n ≤ 1000) : PF.armoireref03_New.f (n + 71) (n : Int) = some ((dvNew n).sec, [], -1, false, 0) := new_l0 n (n + 71) 0 n (by omega) (by omega) (by omega)
theorem fill_any (s : ByteArray) : PF.armoireref03_Fill.f 70 s = some ((s ++ Z64).extract 0 64) := by
  have hz : Z64.data.toList = List.replicate 64 (0 : UInt8) := rfl
  have hs : s.data.toList.length = s.size := by simp
  by_cases h : s.size ≤ 64
  · have e : (s ++ Z64).extract 0 64 = pad s := by
      unfold pad
      refine ByteArray.ext (Array.ext' ?_)
      simp only [ByteArray.data_extract, ByteArray.data_append, Array.toList_extract, Array.toList_append, List.extract_eq_take_drop, List.drop_zero, Nat.sub_zero]
      rw [List.take_append, hs, List.take_of_length_le (by omega), hz, List.take_replicate, List.drop_replicate, List.take_replicate, show min (64 - s.size) 64 = 64 - s.size by omega, Nat.min_self]
    rw [e]; exact fill_pad s h
  · have e : (s ++ Z64).extract 0 64 = s.extract 0 64 := by
      refine ByteArray.ext (Array.ext' ?_)
      simp only [ByteArray.data_extract, ByteArray.data_append, Array.toList_extract, Array.toList_append, List.extract_eq_take_drop, List.drop_zero, Nat.sub_zero]
      rw [List.take_append_of_le_length (by omega)]
    rw [e]
    unfold PF.armoireref03_Fill.f
    rw [show (70 : Nat) = 69 + 1 from rfl, PF.armoireref03_Fill.l0]
    rw [if_pos (show (0 : Int) < 64 by decide), if_neg (show ¬ (s.size : Int) < 64 by omega)]
    have hb : (64 : Int) ≤ s.size := by omega
    simp [hb]
structure PI (n k : Nat) (d : Dv) : Prop where
  sec : d.sec.length = n
  ok : DvOk d
  cache : d.cache.length ≤ k
  left : -9223372036854775808 ≤ d.left ∧ d.left < 9223372036854775808
theorem PI.new (n : Nat) : PI n 0 (dvNew n) := ⟨by simp [dvNew], fun x hx => (by simp [dvNew] at hx), Nat.zero_le _, by simp only [dvNew]; omega, by simp only [dvNew]; omega⟩
theorem PI.later {n k k' : Nat} {d : Dv} (h : PI n k d) (hk : k ≤ k') : PI n k' d := ⟨h.sec, h.ok, Nat.le_trans h.cache hk, h.left⟩
theorem PI.call {n k : Nat} {d : Dv} (h : PI n k d) : PI n k (dvCall d).2 := by
  have hl := h.left
  unfold dvCall
  split
  · exact h
  · split
    · exact ⟨h.sec, h.ok, h.cache, hl⟩
    · split
      · exact ⟨h.sec, h.ok, h.cache, by simp only; omega, by simp only; omega⟩
      · exact ⟨h.sec, h.ok, h.cache, hl⟩
theorem PI.write {n k : Nat} {d : Dv} (h : PI n k d) (a : Int) (s : ByteArray) : PI n (k + 1) (dvWrite d a s).2 := by
  have hc := h.call
  have hs := h.sec
  unfold dvWrite
  split
  · exact h.later (Nat.le_succ _)
  · rename_i q
    split
    · exact hc.later (Nat.le_succ _)
    · refine ⟨hc.sec, fun x hx => ?_, ?_, hc.left⟩
      · rcases List.mem_append.1 hx with hx | hx
        · exact hc.ok x hx
        · obtain rfl : x = ⟨a, pad s⟩ := by simpa using hx
          have := hc.sec
          exact ⟨by simp only; omega, by simp only; omega⟩
      · have := hc.cache; simp only [List.length_append, List.length_cons, List.length_nil]; omega
theorem PI.flush {n k : Nat} {d : Dv} (h : PI n k d) : PI n k (dvFlush d).2 := by
  have hc := h.call
  unfold dvFlush
  split
  · exact hc
  · exact ⟨(lastB_length _ _).trans h.sec, fun x hx => (by simp at hx), Nat.zero_le _, hc.left⟩
theorem PI.crash {n k : Nat} {d : Dv} (h : PI n k d) (K : List Int) : PI n k (dvCrash d K) :=
  ⟨(lastB_length _ _).trans h.sec, fun x hx => (by simp [dvCrash] at hx), Nat.zero_le _, by simp only [dvCrash]; omega, by simp only [dvCrash]; omega⟩
theorem PI.arm {n k : Nat} {d : Dv} (h : PI n k d) (m : Int) (hm : -9223372036854775808 ≤ m ∧ m < 9223372036854775808) : PI n k { d with left := m } := ⟨h.sec, h.ok, h.cache, hm⟩
theorem PI.spoil {n k : Nat} {d : Dv} (h : PI n k d) (a : Int) (s : ByteArray) : PI n k (dvSpoil d a s) := by
  have hs := h.sec
  unfold dvSpoil
  split
  · exact ⟨by simp only [List.length_set]; exact hs, fun x hx => by have := h.ok x hx; simp only [List.length_set]; exact this, h.cache, h.left⟩
  · exact h
end Go.Proofs.Ytbdoccbogndjkaa

namespace Go.Proofs.Ytbdoccbogndjkaa
set_option linter.unusedSimpArgs false
open Go.RowKit Go.Proofs.YtbdoccbogndjkaaW.PrintWords Go.Proofs.YtbdoccbogndjkaaW.PrintLast Go.Proofs.YtbdoccbogndjkaaW.PrintMore
structure PS (w0 W : World) (g bx : Nat) (d : Dv) (C : List PF.S72) (v1 v2 : Value) : Prop where
  dev : IsDev w0 W g d
  below : Below w0.heap.size w0 W
  ge : w0.heap.size ≤ bx
  apart : ¬ Foot W g bx
  box : W.heap[bx]? = some (.cells #[v1, v2, .int .i64 (max d.left (-1)), .bool d.down, .int .i64 d.calls] 45 (0, 0))
  r1 : Kd.R Kd.string 9 W w0.heap.size (fun k => ¬ Foot W g k ∧ k ≠ bx) v1 d.sec
  r2 : Kd.R PF.k72 72 W w0.heap.size (fun k => ¬ Foot W g k ∧ k ≠ bx) v2 C
  cache : d.cache = C.map toWr
theorem row_on {α : Type} {k : Kd α} {e base : Nat} {W W' : World} {ok ok' : Nat → Prop} {v : Value} {xs : List α} (h : k.R e W base ok v xs) (hm : ∀ b, ok b → b < W.heap.size → W'.heap[b]? = W.heap[b]?) (hk : ∀ b, ok b → b < W.heap.size → ok' b) : k.R e W' base ok' v xs := by
  have h1 := Kd.R_bound h
  have h2 := Kd.R_step h1 (w1 := W') (fun b hb hlt => hm b hb.1 hlt)
  exact Kd.R_mono h2 (fun b hb => hk b hb.1 hb.2.2.1)
theorem PS.kept {w0 W W' : World} {g bx : Nat} {d : Dv} {C : List PF.S72} {v1 v2 : Value} (h : PS w0 W g bx d C v1 v2) (hK : DevKeep W W' g) :
    ¬ Foot W' g bx ∧ W'.heap[bx]? = W.heap[bx]? ∧ Kd.R Kd.string 9 W' w0.heap.size (fun k => ¬ Foot W' g k ∧ k ≠ bx) v1 d.sec ∧ Kd.R PF.k72 72 W' w0.heap.size (fun k => ¬ Foot W' g k ∧ k ≠ bx) v2 C := by
  have hf : ∀ b, ¬ Foot W g b → b < W.heap.size → ¬ Foot W' g b := fun b hb hlt hf => (hK.foot b hf).elim hb (fun h2 => by omega)
  have hm : ∀ b, (¬ Foot W g b ∧ b ≠ bx) → b < W.heap.size → W'.heap[b]? = W.heap[b]? := fun b hb hlt => hK.kept.2 b hlt hb.1
  exact ⟨hf bx h.apart (blk_lt h.box), hK.kept.2 bx (blk_lt h.box) h.apart, row_on h.r1 hm (fun b hb hlt => ⟨hf b hb.1 hlt, hb.2⟩), row_on h.r2 hm (fun b hb hlt => ⟨hf b hb.1 hlt, hb.2⟩)⟩
theorem PS.step {w0 W W' : World} {g bx : Nat} {d : Dv} {C : List PF.S72} {v1 v2 : Value} (h : PS w0 W g bx d C v1 v2) (hB : Below W.heap.size W W') : PS w0 W' g bx d C v1 v2 := by
  obtain ⟨vs, vc, hD⟩ := h.dev
  obtain ⟨a1, a2, a3, a4⟩ := h.kept (DevKeep.of_below hD.lt hB)
  exact ⟨⟨vs, vc, hD.below hB⟩, bsp h.below hB, h.ge, a1, a2.trans h.box, a3, a4, h.cache⟩
theorem set5_other (W : World) (b k : Nat) (h : k ≠ b) (u0 u1 u2 u3 u4 : Value) : (set5 W b u0 u1 u2 u3 u4).heap[k]? = W.heap[k]? :=
  (Below.heap_setCell _ ⟨b, 4, none⟩ _ k h).trans ((Below.heap_setCell _ ⟨b, 3, none⟩ _ k h).trans ((Below.heap_setCell _ ⟨b, 2, none⟩ _ k h).trans ((Below.heap_setCell _ ⟨b, 1, none⟩ _ k h).trans (Below.heap_setCell _ ⟨b, 0, none⟩ _ k h))))
theorem row_new {α : Type} {k : Kd α} {e bx g : Nat} {w0 W W' : World} {d : Dv} {v : Value} {xs : List α} (hI : IsDev w0 W g d) (hB : Below W.heap.size W W') (hx : bx < W.heap.size) (hw : w0.heap.size ≤ W.heap.size) (h : k.R e W' W.heap.size (fun _ => True) v xs) :
    k.R e W' w0.heap.size (fun b => ¬ Foot W' g b ∧ b ≠ bx) v xs := by
  obtain ⟨vs, vc, hD⟩ := hI
  have hf : ∀ b, Foot W' g b → b < W.heap.size := fun b hb => (hD.foot_lt ((foot_same (hB.block g hD.lt) b).1 hb)).1
  exact Kd.R_lower (Kd.R_mono (Kd.R_bound h) (fun b hb => ⟨fun h2 => by have := hf b h2; have := hb.2.1; omega, fun e => by have := hb.2.1; omega⟩)) hw
theorem PS.put {w0 W : World} {g bx : Nat} {d : Dv} {C : List PF.S72} {v1 v2 a0 a1 a2 a3 a4 : Value} (hI : IsDev w0 W g d) (hB : Below w0.heap.size w0 W) (hge : w0.heap.size ≤ bx) (hap : ¬ Foot W g bx) (hbox : W.heap[bx]? = some (.cells #[a0, a1, a2, a3, a4] 45 (0, 0)))
    (r1 : Kd.R Kd.string 9 W w0.heap.size (fun k => ¬ Foot W g k ∧ k ≠ bx) v1 d.sec) (r2 : Kd.R PF.k72 72 W w0.heap.size (fun k => ¬ Foot W g k ∧ k ≠ bx) v2 C) (hc : d.cache = C.map toWr) :
    PS w0 (set5 W bx v1 v2 (.int .i64 (max d.left (-1))) (.bool d.down) (.int .i64 d.calls)) g bx d C v1 v2 := by
  obtain ⟨vs, vc, hD⟩ := hI
  have hm : ∀ k, Foot W g k → (set5 W bx v1 v2 (.int .i64 (max d.left (-1))) (.bool d.down) (.int .i64 d.calls)).heap[k]? = W.heap[k]? := fun k hk => set5_other W bx k (fun e => hap (e ▸ hk)) _ _ _ _ _
  have hf : ∀ k, Foot (set5 W bx v1 v2 (.int .i64 (max d.left (-1))) (.bool d.down) (.int .i64 d.calls)) g k ↔ Foot W g k := foot_same (hm g (.inl rfl))
  refine ⟨⟨vs, vc, hD.move hm⟩, below_set5 hB hge _ _ _ _ _, hge, fun h => hap ((hf bx).1 h), blk_set5 hbox _ _ _ _ _, ?_, ?_, hc⟩
  · exact row_on r1 (fun b hb _ => set5_other W bx b hb.2 _ _ _ _ _) (fun b hb _ => ⟨fun h => hb.1 ((hf b).1 h), hb.2⟩)
  · exact row_on r2 (fun b hb _ => set5_other W bx b hb.2 _ _ _ _ _) (fun b hb _ => ⟨fun h => hb.1 ((hf b).1 h), hb.2⟩)
theorem PS.put1 {w0 W : World} {g bx i : Nat} {d : Dv} {C : List PF.S72} {v1 v2 u : Value} {a : Array Value} (hI : IsDev w0 W g d) (hB : Below w0.heap.size w0 W) (hge : w0.heap.size ≤ bx) (hap : ¬ Foot W g bx) (hbox : W.heap[bx]? = some (.cells a 45 (0, 0)))
    (hs : a.setIfInBounds i u = #[v1, v2, .int .i64 (max d.left (-1)), .bool d.down, .int .i64 d.calls])
    (r1 : Kd.R Kd.string 9 W w0.heap.size (fun k => ¬ Foot W g k ∧ k ≠ bx) v1 d.sec) (r2 : Kd.R PF.k72 72 W w0.heap.size (fun k => ¬ Foot W g k ∧ k ≠ bx) v2 C) (hc : d.cache = C.map toWr) :
    PS w0 (W.setCell ⟨bx, i, none⟩ u) g bx d C v1 v2 := by
  obtain ⟨vs, vc, hD⟩ := hI
  have ho : ∀ k, k ≠ bx → (W.setCell ⟨bx, i, none⟩ u).heap[k]? = W.heap[k]? := fun k hk => Below.heap_setCell W ⟨bx, i, none⟩ u k hk
  have hm : ∀ k, Foot W g k → (W.setCell ⟨bx, i, none⟩ u).heap[k]? = W.heap[k]? := fun k hk => ho k (fun e => hap (e ▸ hk))
  have hf : ∀ k, Foot (W.setCell ⟨bx, i, none⟩ u) g k ↔ Foot W g k := foot_same (hm g (.inl rfl))
  refine ⟨⟨vs, vc, hD.move hm⟩, hB.setCell (p := ⟨bx, i, none⟩) hge u, hge, fun h => hap ((hf bx).1 h), by rw [← hs]; exact blk_set hbox i u, ?_, ?_, hc⟩
  · exact row_on r1 (fun b hb _ => ho b hb.2) (fun b hb _ => ⟨fun h => hb.1 ((hf b).1 h), hb.2⟩)
  · exact row_on r2 (fun b hb _ => ho b hb.2) (fun b hb _ => ⟨fun h => hb.1 ((hf b).1 h), hb.2⟩)
theorem row_keep {α : Type} {k : Kd α} {e bx g : Nat} {w0 W W' : World} {d : Dv} {v : Value} {xs : List α} (hI : IsDev w0 W g d) (hB : Below W.heap.size W W') (h : k.R e W w0.heap.size (fun b => ¬ Foot W g b ∧ b ≠ bx) v xs) : k.R e W' w0.heap.size (fun b => ¬ Foot W' g b ∧ b ≠ bx) v xs := by
  obtain ⟨vs, vc, hD⟩ := hI
  exact row_on h (fun b _ hlt => hB.block b hlt) (fun b hb _ => ⟨fun h2 => hb.1 ((foot_same (hB.block g hD.lt) b).1 h2), hb.2⟩)
theorem PS.after {w0 W W2 : World} {g bx : Nat} {d : Dv} {C : List PF.S72} {v1 v2 a0 a1 a2 a3 a4 : Value} (hI : IsDev w0 W g d) (hB : Below w0.heap.size w0 W) (hge : w0.heap.size ≤ bx) (hap : ¬ Foot W g bx) (hbox : W.heap[bx]? = some (.cells #[a0, a1, a2, a3, a4] 45 (0, 0))) (hB2 : Below W.heap.size W W2)
    (r1 : Kd.R Kd.string 9 W2 w0.heap.size (fun k => ¬ Foot W2 g k ∧ k ≠ bx) v1 d.sec) (r2 : Kd.R PF.k72 72 W2 w0.heap.size (fun k => ¬ Foot W2 g k ∧ k ≠ bx) v2 C) (hc : d.cache = C.map toWr) :
    PS w0 (set5 W2 bx v1 v2 (.int .i64 (max d.left (-1))) (.bool d.down) (.int .i64 d.calls)) g bx d C v1 v2 := by
  have hI2 := hI.below hB2
  obtain ⟨vs, vc, hD⟩ := hI
  exact PS.put hI2 (bsp hB hB2) hge (fun h => hap ((foot_same (hB2.block g hD.lt) bx).1 h)) ((hB2.block bx (blk_lt hbox)).trans hbox) r1 r2 hc
end Go.Proofs.Ytbdoccbogndjkaa

namespace Go.Proofs.Ytbdoccbogndjkaa
set_option linter.unusedSimpArgs false
open Go.RowKit Go.Proofs.YtbdoccbogndjkaaW.PrintWords Go.Proofs.YtbdoccbogndjkaaW.PrintLast Go.Proofs.YtbdoccbogndjkaaW.PrintMore
structure Act1 where
  kind : Int
  at_ : Int
  s : ByteArray
  keep : List Int
def kAct : Kd Act1 := Kd.iso (Kd.pair (Kd.int .i64) (Kd.pair (Kd.int .i64) (Kd.pair Kd.string (Kd.slice 3 (Kd.int .i64))))) (fun x => (x.kind, x.at_, x.s, x.keep))
theorem kAct_open {w : World} {x : Act1} {cs : List Value} (h : kAct.K w x cs) : ∃ A c, cs = [.int .i64 x.kind, .int .i64 x.at_, .string x.s, .slice A x.keep.length c] ∧ x.keep.length ≤ c ∧ Kd.C (Kd.int .i64) w A x.keep.length x.keep := by
  obtain ⟨c1, c2, rfl, h1, c3, c4, rfl, h2, c5, c6, rfl, h3, A, c, rfl, h4, h5⟩ := h
  obtain rfl := h1
  obtain rfl := h2
  obtain rfl := h3
  exact ⟨A, c, rfl, h4, h5⟩
def zAct : Act1 := ⟨0, 0, ByteArray.empty, []⟩
theorem at_Act {w : World} {A : Option Addr} {n : Nat} {xs : List Act1} (h : Kd.C kAct w A n xs) (i : Int) (h0 : 0 ≤ i) (h1 : i < n) : ∃ ad Ak ck, A = some ad ∧ w.cell? (ad.add (i.toNat * 4)) = some (.int .i64 (xs.getD i.toNat zAct).kind) ∧ w.cell? ⟨(ad.add (i.toNat * 4)).block, (ad.add (i.toNat * 4)).off + 1, none⟩ = some (.int .i64 (xs.getD i.toNat zAct).at_) ∧
    w.cell? ⟨(ad.add (i.toNat * 4)).block, (ad.add (i.toNat * 4)).off + 2, none⟩ = some (.string (xs.getD i.toNat zAct).s) ∧ w.cell? ⟨(ad.add (i.toNat * 4)).block, (ad.add (i.toNat * 4)).off + 3, none⟩ = some (.slice Ak (xs.getD i.toNat zAct).keep.length ck) ∧ (xs.getD i.toNat zAct).keep.length ≤ ck ∧ Kd.C (Kd.int .i64) w Ak (xs.getD i.toNat zAct).keep.length (xs.getD i.toNat zAct).keep := by
  obtain ⟨ad, cs, e, _, hK, hc0⟩ := Kd.C_get h zAct i h0 h1
  have hc : ∀ j u, cs[j]? = some u → w.cell? (ad.add (i.toNat * 4 + j)) = some u := hc0
  obtain ⟨Ak, ck, rfl, h4, h5⟩ := kAct_open hK
  exact ⟨ad, Ak, ck, e, hc 0 _ rfl, by rw [← add_field _ _ 1 (by omega)]; exact hc 1 _ rfl, by rw [← add_field _ _ 2 (by omega)]; exact hc 2 _ rfl, by rw [← add_field _ _ 3 (by omega)]; exact hc 3 _ rfl, h4, h5⟩
end Go.Proofs.Ytbdoccbogndjkaa

namespace Go.Proofs.Ytbdoccbogndjkaa
set_option linter.unusedSimpArgs false
open Go.RowKit Go.Proofs.YtbdoccbogndjkaaW.PrintWords Go.Proofs.YtbdoccbogndjkaaW.PrintLast Go.Proofs.YtbdoccbogndjkaaW.PrintMore
structure LS (w W : World) (b : Nat) (d : Dv) (ws : List ByteArray) : Prop where
  dev : IsDev w W w.heap.size d
  below : Below w.heap.size w W
  ge : w.heap.size ≤ b
  apart : ¬ Foot W w.heap.size b
  want : W.heap[b]? = some (.cells (ws.map Value.string).toArray 9 (0, 0))
theorem LS.move {w W W' : World} {b : Nat} {d d' : Dv} {ws : List ByteArray} (h : LS w W b d ws) (hI : IsDev w W' w.heap.size d') (hB : Below w.heap.size w W') (hK : DevKeep W W' w.heap.size) : LS w W' b d' ws :=
  ⟨hI, hB, h.ge, fun hf => (hK.foot b hf).elim h.apart (fun h2 => by have := blk_lt h.want; omega), (hK.kept.2 b (blk_lt h.want) h.apart).trans h.want⟩
theorem LS.step {w W W' : World} {b : Nat} {d : Dv} {ws : List ByteArray} (h : LS w W b d ws) (hB : Below W.heap.size W W') : LS w W' b d ws := by
  obtain ⟨vs, vc, hD⟩ := h.dev
  exact h.move ⟨vs, vc, hD.below hB⟩ (bsp h.below hB) (DevKeep.of_below hD.lt hB)
theorem LS.put {w W : World} {b : Nat} {d : Dv} {ws : List ByteArray} (h : LS w W b d ws) (i : Nat) (s : ByteArray) : LS w (W.setCell ⟨b, i, none⟩ (.string s)) b d (ws.set i s) := by
  obtain ⟨vs, vc, hD⟩ := h.dev
  have hm : ∀ k, Foot W w.heap.size k → (W.setCell ⟨b, i, none⟩ (.string s)).heap[k]? = W.heap[k]? := fun k hk => Below.heap_setCell _ _ _ k (fun e => h.apart (by cases e; exact hk))
  refine ⟨⟨vs, vc, hD.move hm⟩, h.below.setCell h.ge _, h.ge, fun hf => h.apart ((foot_same (hm _ (.inl rfl)) _).1 hf), ?_⟩
  have := blk_set h.want i (.string s)
  rw [this, List.setIfInBounds_toArray, List.map_set]
theorem LS.cell {w W : World} {b : Nat} {d : Dv} {ws : List ByteArray} (h : LS w W b d ws) (i : Nat) (hi : i < ws.length) : W.cell? ⟨b, i, none⟩ = some (.string (ws.getD i ByteArray.empty)) := by
  rw [kcl h.want i]; simp [hi, List.getD_eq_getElem?_getD]
theorem LS.frozen {w W : World} {b : Nat} {d : Dv} {ws : List ByteArray} (h : LS w W b d ws) (i : Nat) : W.frozen? ⟨b, i, none⟩ = false := kfr h.want i
theorem C_scalar_move {α : Type} {enc : α → Value} {h1 : ∀ x, (enc x).oneCell' = true} {w W : World} {A : Option Addr} {n : Nat} {xs : List α} (h : (Kd.scalar enc h1).C w A n xs) (hm : ∀ k, k < w.heap.size → W.heap[k]? = w.heap[k]?) : (Kd.scalar enc h1).C W A n xs := by
  refine ⟨h.1, h.2.1, fun hn => ?_⟩
  obtain ⟨ad, e, hc⟩ := h.2.2 hn
  refine ⟨ad, e, fun j p hj => ?_⟩
  obtain ⟨c, hs, hr, hcell⟩ := hc j p hj
  refine ⟨c, hs, hr, fun i u hu => ?_⟩
  have h2 := hcell i u hu
  have hlt := World.block_lt_of_cell? w _ h2
  rw [← h2]
  simp only [World.cell?, hm _ hlt]
theorem LS.keep {w W : World} {b : Nat} {d : Dv} {ws : List ByteArray} (h : LS w W b d ws) {A : Option Addr} {l : List Int} (hk : Kd.C (Kd.int .i64) w A l.length l) : ∀ W_, Kept W W_ (Foot W w.heap.size) → Kd.C (Kd.int .i64) W_ A l.length l := fun W_ hK => by
  obtain ⟨vs, vc, hD⟩ := h.dev
  refine C_scalar_move hk fun k hlt => ?_
  exact (hK.2 k (by have := h.below.size; omega) (fun hf => by have := (hD.foot_lt hf).2; omega)).trans (h.below.block k hlt)
attribute [local go_sem] max2_int min2_int max_two min_two
end Go.Proofs.Ytbdoccbogndjkaa

namespace Go.Proofs.Ytbdoccbogndjkaa
set_option linter.unusedSimpArgs false
open Go.RowKit Go.Proofs.YtbdoccbogndjkaaW.PrintWords Go.Proofs.YtbdoccbogndjkaaW.PrintLast
set_option maxRecDepth 100000 in
theorem i64_and2k (k : Nat) (m : Int) (hm : (BitVec.ofInt 64 m).toNat = 2 ^ k - 1) (hk : k ≤ 10) (n : Int) : bits .and .i64 n m = n % ((2 ^ k : Nat) : Int) := by
  have key : (BitVec.ofInt 64 n &&& BitVec.ofInt 64 m).toNat = (n % ((2 ^ 64 : Nat) : Int)).toNat % 2 ^ k := by
    rw [BitVec.toNat_and, BitVec.toNat_ofInt, hm, Nat.and_two_pow_sub_one_eq_mod]
  show IntKind.i64.wrap ((BitVec.ofInt 64 n &&& BitVec.ofInt 64 m).toNat : Nat) = n % ((2 ^ k : Nat) : Int)
  rw [key, IntKind.wrap_i64]
  have h1 : (2 ^ k : Nat) ∣ 2 ^ 64 := Nat.pow_dvd_pow 2 (by omega)
  have h2 : (2 : Nat) ^ k ≤ 2 ^ 10 := Nat.pow_le_pow_right (by omega) hk
  have h3 : 0 < (2 : Nat) ^ k := Nat.two_pow_pos k
  have h4 : ((n % ((2 ^ 64 : Nat) : Int)).toNat % 2 ^ k : Nat) = n % ((2 ^ k : Nat) : Int) := by
    rw [Int.natCast_emod, Int.toNat_of_nonneg (Int.emod_nonneg _ (by decide))]
    exact Int.emod_emod_of_dvd n (Int.natCast_dvd_natCast.2 h1)
  have h5 : (n % ((2 ^ 64 : Nat) : Int)).toNat % 2 ^ k < 2 ^ k := Nat.mod_lt _ h3
  rw [← h4]
  clear h4 key h1
  revert h5
  generalize (n % ((2 ^ 64 : Nat) : Int)).toNat % 2 ^ k = X
  intro h5
  have h6 : X < 1024 := by omega
  clear h5 h2 h3
  omega
theorem i64_and7 (n : Int) : bits .and .i64 n 7 = n % 8 := i64_and2k 3 7 (by decide) (by decide) n
end Go.Proofs.Ytbdoccbogndjkaa

