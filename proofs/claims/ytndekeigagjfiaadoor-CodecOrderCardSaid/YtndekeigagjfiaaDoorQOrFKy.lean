import Derived.Test.YtndekeigagjfiaaDoorQOrMRef02
import Derived.Test.YtndekeigagjfiaaDoorQOrMOutText
import Derived.Test.YtndekeigagjfiaaDoorQOrMFold
import Derived.Lib.Strings
import Derived.Laws.BitsLemmas
import Derived.Test.YtndekeigagjfiaaDoorQOrPAx5
import Derived.Test.YtndekeigagjfiaaDoorQOrPAx6
namespace Go.Proofs.YtndekeigagjfiaaDoor
open Go.RowKit Go.Proofs.YtndekeigagjfiaaDoorW.PrintWords Go.Proofs.YtndekeigagjfiaaDoorW.PrintLast
theorem u8_ne_zero_lt (d : UInt8) (h : d ≠ 0) : (0 : UInt8) < d := by
  rw [UInt8.lt_iff_toNat_lt]
  have : d.toNat ≠ 0 := fun e => h (UInt8.toNat_inj.1 (by simpa using e))
  show 0 < d.toNat
  omega
theorem less_irrefl (x : List UInt8) : Op.bytesLess x x = false := by
  induction x with
  | nil => rfl
  | cons a x ih => simp [Op.bytesLess, ih, UInt8.lt_irrefl]
theorem less_total (x : List UInt8) : ∀ y, Op.bytesLess x y = false → Op.bytesLess y x = false → x = y := by
  induction x with
  | nil => intro y h _; cases y with
    | nil => rfl
    | cons b y => simp [Op.bytesLess] at h
  | cons a x ih =>
    intro y h1 h2
    cases y with
    | nil => simp [Op.bytesLess] at h2
    | cons b y =>
      simp only [Op.bytesLess, Bool.or_eq_false_iff, decide_eq_false_iff_not] at h1 h2
      have e : a = b := by
        have n1 : ¬ a.toNat < b.toNat := fun h => h1.1 (UInt8.lt_iff_toNat_lt.2 h)
        have n2 : ¬ b.toNat < a.toNat := fun h => h2.1 (UInt8.lt_iff_toNat_lt.2 h)
        exact UInt8.toNat_inj.1 (by omega)
      subst e
      have g1 : Op.bytesLess x y = false := by simpa using h1.2
      have g2 : Op.bytesLess y x = false := by simpa using h2.2
      rw [ih y g1 g2]
theorem less_cons (a : UInt8) (x y : List UInt8) : Op.bytesLess (a :: x) (a :: y) = Op.bytesLess x y := by simp [Op.bytesLess, UInt8.lt_irrefl]
theorem less_esc (x : List UInt8) : ∀ (y r s : List UInt8), Op.bytesLess (esc x ++ 0 :: 1 :: r) (esc y ++ 0 :: 1 :: s) = if Op.bytesLess x y then true else if x == y then Op.bytesLess r s else false := by
  induction x with
  | nil =>
    intro y r s
    cases y with
    | nil => simp [esc, less_cons, Op.bytesLess]
    | cons d y =>
      by_cases hd : d = 0
      · subst hd
        simp [esc, Op.bytesLess, UInt8.lt_irrefl]
      · have := u8_ne_zero_lt d hd
        simp [esc, hd, Op.bytesLess, this]
  | cons c x ih =>
    intro y r s
    cases y with
    | nil =>
      by_cases hc : c = 0
      · subst hc
        simp [esc, Op.bytesLess, UInt8.lt_irrefl]
      · have h1 := u8_ne_zero_lt c hc
        have h2 : ¬ c < 0 := fun h => by
          rw [UInt8.lt_iff_toNat_lt] at h h1
          omega
        simp [esc, hc, Op.bytesLess, h2]
    | cons d y =>
      by_cases e : c = d
      · subst e
        have hb : ((c :: x) == (c :: y)) = (x == y) := by simp
        rw [less_cons, hb, ← ih y r s]
        by_cases hc : c = 0
        · subst hc
          simp [esc, less_cons]
        · simp [esc, hc, less_cons]
      · have hne : ((c :: x) == (d :: y)) = false := by simp [e]
        have he : (c == d) = false := by simpa using e
        have hx : Op.bytesLess (c :: x) (d :: y) = decide (c < d) := by simp [Op.bytesLess, he]
        rw [hx, hne]
        by_cases hc : c = 0
        · subst hc
          have hd : ¬ d = 0 := fun h => e h.symm
          have := u8_ne_zero_lt d hd
          simp [esc, hd, Op.bytesLess, this]
        · by_cases hd : d = 0
          · subst hd
            have h1 := u8_ne_zero_lt c hc
            have h2 : ¬ c < 0 := fun h => by
              rw [UInt8.lt_iff_toNat_lt] at h h1
              omega
            simp [esc, hc, Op.bytesLess, h2]
          · simp [esc, hc, hd, Op.bytesLess, he]
theorem less_keys (a : List ByteArray) : ∀ b, Op.bytesLess (keyB a) (keyB b) = lessB a b := by
  induction a with
  | nil =>
    intro b
    cases b with
    | nil => rfl
    | cons y b =>
      cases h : esc y.data.toList with
      | nil => simp [keyB, lessB, h, Op.bytesLess]
      | cons c l => simp [keyB, lessB, h, Op.bytesLess]
  | cons x a ih =>
    intro b
    cases b with
    | nil => simp [keyB, lessB, Op.bytesLess]
    | cons y b =>
      rw [keyB, keyB, lessB, less_esc, ih b, ByteArray.toList_eq, ByteArray.toList_eq]
theorem keys_same (a b : List ByteArray) : (keyB a == keyB b) = (!lessB a b && !lessB b a) := by
  rw [← less_keys, ← less_keys]
  cases h1 : Op.bytesLess (keyB a) (keyB b) with
  | true =>
    have : keyB a ≠ keyB b := fun e => by rw [e, less_irrefl] at h1; cases h1
    simp [this]
  | false =>
    cases h2 : Op.bytesLess (keyB b) (keyB a) with
    | true =>
      have : keyB a ≠ keyB b := fun e => by rw [e, less_irrefl] at h2; cases h2
      simp [this]
    | false => simp [less_total _ _ h1 h2]
end Go.Proofs.YtndekeigagjfiaaDoor

namespace Go.Proofs.YtndekeigagjfiaaDoor
open Go.RowKit Go.Proofs.YtndekeigagjfiaaDoorW.PrintWords Go.Proofs.YtndekeigagjfiaaDoorW.PrintLast Go.Proofs.YtndekeigagjfiaaDoorW.PrintMore
theorem ba_size (s : ByteArray) : s.size = s.data.toList.length := by rw [Array.length_toList]; rfl
theorem ba_toList (s : ByteArray) : s.toList = s.data.toList := ByteArray.toList_eq s
theorem ba_extract (s : ByteArray) (a b : Nat) : (s.extract a b).data.toList = (s.data.toList.drop a).take (b - a) := Lib.extract_data s a b
end Go.Proofs.YtndekeigagjfiaaDoor

namespace Go.Proofs.YtndekeigagjfiaaDoor.PA
set_option linter.unusedSimpArgs false
open Go.RowKit Go.Proofs.YtndekeigagjfiaaDoorW.PrintWords Go.Proofs.YtndekeigagjfiaaDoorW.PrintLast Go.Proofs.YtndekeigagjfiaaDoorW.PrintMore Go.Proofs.YtndekeigagjfiaaDoor
theorem cut_f (s : ByteArray) (n : Nat) : armoirelaw01_Cut.f s (n : Int) = some (s.extract 0 (min n s.size)) := by
  unfold armoirelaw01_Cut.f
  by_cases h : (s.size : Int) > n
  · rw [if_pos h, if_pos (by omega), if_pos (by omega), show min n s.size = n by omega]
    rfl
  · rw [if_neg h, show min n s.size = s.size by omega]
    simp
theorem cut_size (s : ByteArray) (n : Nat) : (s.extract 0 (min n s.size)).size ≤ n := by
  rw [ba_size, ba_extract, List.length_take]; omega
end Go.Proofs.YtndekeigagjfiaaDoor.PA

namespace Go.Proofs.YtndekeigagjfiaaDoor.PA
set_option linter.unusedSimpArgs false
open Go.RowKit Go.Proofs.YtndekeigagjfiaaDoorW.PrintWords Go.Proofs.YtndekeigagjfiaaDoorW.PrintLast Go.Proofs.YtndekeigagjfiaaDoorW.PrintMore Go.Proofs.YtndekeigagjfiaaDoor Go.Proofs.YtndekeigagjfiaaDoor.PL
theorem wr (n : Nat) (h : n ≤ 200000) : wrap64 ((n : Int) + 1) = ((n + 1 : Nat) : Int) := by unfold wrap64; omega
theorem b1 : (((1 : UInt8).toNat : Nat) : Int) = 1 := rfl
def cutm (m : Nat) (s : ByteArray) : ByteArray := s.extract 0 (min m s.size)
theorem few_l0 (l : List ByteArray) (hl : l.length ≤ 9223372036854775807) (n m : Nat) (hn : n ≤ 100) (d : Nat) : ∀ (i : Nat) (acc : List ByteArray), i + d = n → acc.length ≤ i →
    Ev (fun k => armoirelaw02_Few.l0 k l (n : Int) (m : Int) acc (i : Int)) (acc ++ ((l.drop i).take d).map (cutm m)) := by
  induction d with
  | zero =>
    intro i acc hi ha
    refine Ev.step (fun k => ?_) (Ev.now _)
    simp only [armoirelaw02_Few.l0, List.take_zero, List.map_nil, List.append_nil]
    by_cases c : (i : Int) < (l.length : Int)
    · rw [if_pos c, if_neg (by omega)]
    · rw [if_neg c]
  | succ d ih =>
    intro i acc hi ha
    by_cases c : (i : Int) < (l.length : Int)
    · have hlt : i < l.length := by omega
      have hr : rdOf ByteArray.empty l (i : Int) = l[i] := by simp [rdOf, List.getD_eq_getElem?_getD, hlt]
      have hx := ih (i + 1) (acc ++ [cutm m l[i]]) (by omega) (by simp; omega)
      rw [List.drop_eq_getElem_cons hlt, List.take_succ_cons, List.map_cons, List.append_cons]
      refine Ev.step (fun k => ?_) hx
      simp only [armoirelaw02_Few.l0]
      rw [if_pos c, if_pos (by omega), if_pos (by omega), hr, cut_f, Option.bind_some, if_pos (by omega), show wrap64 ((i : Int) + 1) = ((i + 1 : Nat) : Int) by unfold wrap64; omega]
      rfl
    · rw [List.drop_eq_nil_of_le (by omega)]
      refine Ev.step (fun k => ?_) (Ev.now _)
      simp only [armoirelaw02_Few.l0]
      rw [if_neg c]
      simp
theorem few_f (l : List ByteArray) (hl : l.length ≤ 9223372036854775807) (n m : Nat) (hn : n ≤ 100) : Ev (fun k => armoirelaw02_Few.f k l (n : Int) (m : Int)) ((l.take n).map (cutm m)) :=
  few_l0 l hl n m hn n 0 [] (by omega) (by simp)
theorem esc_len2 (l : List UInt8) : (esc l).length ≤ 2 * l.length := by
  rw [esc_length]
  have := List.count_le_length (a := (0 : UInt8)) (l := l)
  omega
theorem keyB_len (l : List ByteArray) (m : Nat) (h : ∀ s ∈ l, s.size ≤ m) : (keyB l).length ≤ l.length * (2 * m + 2) := by
  induction l with
  | nil => simp [keyB]
  | cons s l ih =>
    have h1 := h s List.mem_cons_self
    have h2 := ih (fun t ht => h t (List.mem_cons_of_mem _ ht))
    have h3 := esc_len2 s.data.toList
    rw [← ba_size] at h3
    simp only [keyB, List.length_append, List.length_cons, Nat.add_mul, Nat.one_mul]
    omega
theorem few_key (l : List ByteArray) (n m : Nat) (hn : n ≤ 10) (hm : m ≤ 100) : (keyB ((l.take n).map (cutm m))).length ≤ 5000 ∧ ((l.take n).map (cutm m)).length ≤ n := by
  have h1 := keyB_len ((l.take n).map (cutm m)) m (by
    intro s hs
    obtain ⟨t, _, rfl⟩ := List.mem_map.1 hs
    exact cut_size t m)
  have h2 : ((l.take n).map (cutm m)).length ≤ n := by rw [List.length_map, List.length_take]; omega
  refine ⟨Nat.le_trans h1 ?_, h2⟩
  exact Nat.le_trans (Nat.mul_le_mul (Nat.le_trans h2 hn) (show 2 * m + 2 ≤ 202 by omega)) (by decide)
theorem key_f (l : List ByteArray) (h : (keyB l).length ≤ 140737488351232) : codec_Key.f l = some ⟨(keyB l).toArray⟩ := by
  unfold codec_Key.f
  rw [if_pos h]
end Go.Proofs.YtndekeigagjfiaaDoor.PA

