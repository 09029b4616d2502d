import Derived.Test.YtndekeigagjfiaaDoorQJnMFold
import Derived.WalkLawsBesides
import Derived.Deep.QuietTactic
import Derived.BigQuiet
import Derived.Test.YtndekeigagjfiaaDoorQJnMOutText
import Derived.Lib.Strings
import Derived.Laws.BitsLemmas
import Derived.Test.YtndekeigagjfiaaDoorQJnPAx5
import Derived.Test.YtndekeigagjfiaaDoorQJnMAwake
import Derived.Test.YtndekeigagjfiaaDoorQJnPAx6
namespace Go.Proofs.YtndekeigagjfiaaDoor
open Go.RowKit Go.Proofs.YtndekeigagjfiaaDoorW.PrintWords Go.Proofs.YtndekeigagjfiaaDoorW.PrintLast
def pz (acc : List ByteArray) (cur : List UInt8) : List UInt8 → List ByteArray × Int
  | [] => if cur = [] then (acc, 0) else ([], 1)
  | [c] => if c = 0 then ([], 1) else ([], 1)
  | c :: d :: l => if c = 0 then (if d = 255 then pz acc (cur ++ [0]) l else if d = 1 then pz (acc ++ [⟨cur.toArray⟩]) [] l else ([], 2)) else pz acc (cur ++ [c]) (d :: l)
theorem pz_byte (acc : List ByteArray) (cur : List UInt8) (c : UInt8) (hc : c ≠ 0) (l : List UInt8) : pz acc cur (c :: l) = pz acc (cur ++ [c]) l := by
  cases l with
  | nil => simp [pz]
  | cons d l => rw [pz, if_neg hc]
theorem pz_esc (p : List UInt8) : ∀ (acc : List ByteArray) (cur r : List UInt8), pz acc cur (esc p ++ 0 :: 1 :: r) = pz (acc ++ [⟨(cur ++ p).toArray⟩]) [] r := by
  induction p with
  | nil => intro acc cur r; simp [esc, pz]
  | cons c p ih =>
    intro acc cur r
    by_cases hc : c = 0
    · subst hc
      rw [esc, if_pos rfl, List.cons_append, List.cons_append, pz, if_pos rfl, if_pos rfl, ih]
      simp
    · rw [esc, if_neg hc, List.cons_append, pz_byte _ _ _ hc, ih]
      simp
theorem ba_eta0 (s : ByteArray) : (⟨s.data.toList.toArray⟩ : ByteArray) = s := ByteArray.ext (Array.ext' rfl)
theorem pz_key (l : List ByteArray) : ∀ acc, pz acc [] (keyB l) = (acc ++ l, 0) := by
  induction l with
  | nil => intro acc; simp [keyB, pz]
  | cons s l ih =>
    intro acc
    rw [keyB, pz_esc, ih, List.nil_append, ba_eta0]
    simp
end Go.Proofs.YtndekeigagjfiaaDoor

namespace Go.Proofs.YtndekeigagjfiaaDoor
open Go.RowKit Go.Proofs.YtndekeigagjfiaaDoorW.PrintWords Go.Proofs.YtndekeigagjfiaaDoorW.PrintLast Go.Proofs.YtndekeigagjfiaaDoorW.PrintMore
theorem bytes_ext {s t : ByteArray} (h : s.data.toList = t.data.toList) : s = t := ByteArray.ext (Array.ext' h)
theorem ba_mk (l : List UInt8) : (⟨l.toArray⟩ : ByteArray).data.toList = l := rfl
theorem ba_size (s : ByteArray) : s.size = s.data.toList.length := by rw [Array.length_toList]; rfl
theorem ba_mk_size (l : List UInt8) : (⟨l.toArray⟩ : ByteArray).size = l.length := by rw [ba_size]
theorem ba_append (s t : ByteArray) : (s ++ t).data.toList = s.data.toList ++ t.data.toList := by simp [ByteArray.data_append]
theorem ba_extract (s : ByteArray) (a b : Nat) : (s.extract a b).data.toList = (s.data.toList.drop a).take (b - a) := Lib.extract_data s a b
theorem ba_mk_append (l m : List UInt8) : (⟨l.toArray⟩ : ByteArray) ++ ⟨m.toArray⟩ = ⟨(l ++ m).toArray⟩ := bytes_ext (by rw [ba_append])
end Go.Proofs.YtndekeigagjfiaaDoor

namespace Go.Proofs.YtndekeigagjfiaaDoor.PA
set_option linter.unusedSimpArgs false
open Go.RowKit Go.Proofs.YtndekeigagjfiaaDoorW.PrintWords Go.Proofs.YtndekeigagjfiaaDoorW.PrintLast Go.Proofs.YtndekeigagjfiaaDoorW.PrintMore Go.Proofs.YtndekeigagjfiaaDoor
theorem cut_f (s : ByteArray) (n : Nat) : armoirelaw01_Cut.f s (n : Int) = some (s.extract 0 (min n s.size)) := by
  unfold armoirelaw01_Cut.f
  by_cases h : (s.size : Int) > n
  · rw [if_pos h, if_pos (by omega), if_pos (by omega), show min n s.size = n by omega]
    rfl
  · rw [if_neg h, show min n s.size = s.size by omega]
    simp
theorem cut_size (s : ByteArray) (n : Nat) : (s.extract 0 (min n s.size)).size ≤ n := by
  rw [ba_size, ba_extract, List.length_take]; omega
end Go.Proofs.YtndekeigagjfiaaDoor.PA

namespace Go.Proofs.YtndekeigagjfiaaDoor.PA
open Go.RowKit Go.Proofs.YtndekeigagjfiaaDoorW.PrintWords Go.Proofs.YtndekeigagjfiaaDoorW.PrintLast Go.Proofs.YtndekeigagjfiaaDoorW.PrintMore Go.Proofs.YtndekeigagjfiaaDoor Go.Proofs.YtndekeigagjfiaaDoor.PL
theorem bt_at0 (s : ByteArray) (i : Nat) : bt s (i : Int) = ((s.data.toList.getD i 0).toNat : Int) := by
  by_cases h : i < s.size
  · simp [bt, h, List.getD_eq_getElem?_getD]
    rfl
  · have h2 : ¬ i < s.data.toList.length := by rw [ba_size] at h; exact h
    have e : bt s (i : Int) = 0 := by unfold bt; rw [dif_neg (by rw [Int.toNat_natCast]; exact h)]
    rw [e, List.getD_eq_getElem?_getD, List.getElem?_eq_none (by omega)]
    rfl
end Go.Proofs.YtndekeigagjfiaaDoor.PA

namespace Go.Proofs.YtndekeigagjfiaaDoor.PA
set_option linter.unusedSimpArgs false
open Go.RowKit Go.Proofs.YtndekeigagjfiaaDoorW.PrintWords Go.Proofs.YtndekeigagjfiaaDoorW.PrintLast Go.Proofs.YtndekeigagjfiaaDoorW.PrintMore Go.Proofs.YtndekeigagjfiaaDoor Go.Proofs.YtndekeigagjfiaaDoor.PL
def nb (l : List UInt8) : List Int := l.map fun b => (b.toNat : Int)
theorem nb_snoc (l : List UInt8) (c : UInt8) : nb l ++ [(c.toNat : Int)] = nb (l ++ [c]) := by simp [nb]
theorem str_nb (l : List UInt8) : strOfNums (nb l) = ⟨l.toArray⟩ := strOf_bytesOf ⟨l.toArray⟩
theorem wr (n : Nat) (h : n ≤ 200000) : wrap64 ((n : Int) + 1) = ((n + 1 : Nat) : Int) := by unfold wrap64; omega
theorem b255 : (((255 : UInt8).toNat : Nat) : Int) = 255 := rfl
theorem b1 : (((1 : UInt8).toNat : Nat) : Int) = 1 := rfl
theorem byte_ne0 {c : UInt8} (h : c ≠ 0) : ¬ ((c.toNat : Int) = 0) := fun e => h (UInt8.toNat_inj.1 (by have : (0 : UInt8).toNat = 0 := rfl; omega))
theorem byte_ne255 {c : UInt8} (h : c ≠ 255) : ¬ ((c.toNat : Int) = 255) := fun e => h (UInt8.toNat_inj.1 (by have : (255 : UInt8).toNat = 255 := rfl; omega))
theorem byte_ne1 {c : UInt8} (h : c ≠ 1) : ¬ ((c.toNat : Int) = 1) := fun e => h (UInt8.toNat_inj.1 (by have : (1 : UInt8).toNat = 1 := rfl; omega))
theorem parts_l0 (s : ByteArray) (hs : s.size ≤ 100000) (d : Nat) : ∀ (i : Nat) (acc : List ByteArray) (cur : List UInt8), s.size - i ≤ d → i ≤ s.size → acc.length ≤ i → cur.length ≤ i →
    Ev (fun k => codec_Parts.l0 k s acc (nb cur) (i : Int)) (pz acc cur (s.data.toList.drop i)) := by
  have hL : s.data.toList.length = s.size := (ba_size s).symm
  have fin : ∀ (acc : List ByteArray) (cur : List UInt8), Ev (fun k => codec_Parts.l0 k s acc (nb cur) (s.size : Int)) (pz acc cur []) := by
    intro acc cur
    refine Ev.step (fun k => ?_) (Ev.now _)
    simp only [codec_Parts.l0]
    rw [if_neg (by omega)]
    by_cases h : cur = []
    · subst h; simp [nb, pz]
    · rw [if_pos (by simp [nb, List.length_pos_iff]; exact h)]
      simp [pz, h]
  induction d with
  | zero =>
    intro i acc cur hd hi ha hc
    obtain rfl : i = s.size := by omega
    rw [List.drop_eq_nil_of_le (by omega)]
    exact fin acc cur
  | succ d ih =>
    intro i acc cur hd hi ha hc
    by_cases hlt : i < s.size
    rotate_left
    · obtain rfl : i = s.size := by omega
      rw [List.drop_eq_nil_of_le (by omega)]
      exact fin acc cur
    have hi5 : i ≤ 200000 := by omega
    have hi6 : i + 1 ≤ 200000 := by omega
    have hcl : (nb cur).length = cur.length := by simp [nb]
    have hdrop : s.data.toList.drop i = s.data.toList[i]'(by omega) :: s.data.toList.drop (i + 1) := List.drop_eq_getElem_cons (by omega)
    have hb : bt s (i : Int) = ((s.data.toList[i]'(by omega)).toNat : Int) := by
      rw [bt_at0, List.getD_eq_getElem?_getD, List.getElem?_eq_getElem (by omega)]; rfl
    generalize hx : s.data.toList[i]'(by omega) = x at hdrop hb
    rw [hdrop]
    have q1 : (i : Int) < (s.size : Int) := by omega
    have q2 : (0 : Int) ≤ (i : Int) := by omega
    clear hx
    by_cases hx0 : x = 0
    rotate_left
    · rw [pz_byte _ _ _ hx0]
      refine Ev.step (fun k => ?_) (ih (i + 1) acc (cur ++ [x]) (by omega) (by omega) (by omega) (by simp; omega))
      simp only [codec_Parts.l0]
      rw [if_pos q1, if_pos q2, hb, if_neg (byte_ne0 hx0), if_pos (by omega), wr i hi5, nb_snoc]
    · subst hx0
      have hb0 : bt s (i : Int) = 0 := hb
      by_cases h1 : i + 1 = s.size
      · rw [List.drop_eq_nil_of_le (by omega)]
        refine Ev.step (fun k => ?_) (Ev.now _)
        simp only [codec_Parts.l0]
        rw [if_pos q1, if_pos q2, hb0, if_pos rfl, wr i hi5, if_pos (by omega)]
        simp [pz]
      · have hdrop2 : s.data.toList.drop (i + 1) = s.data.toList[i + 1]'(by omega) :: s.data.toList.drop (i + 1 + 1) := List.drop_eq_getElem_cons (by omega)
        have hy : bt s ((i + 1 : Nat) : Int) = ((s.data.toList[i + 1]'(by omega)).toNat : Int) := by
          rw [bt_at0, List.getD_eq_getElem?_getD, List.getElem?_eq_getElem (by omega)]; rfl
        generalize s.data.toList[i + 1]'(by omega) = y at hdrop2 hy
        have q3 : ¬ (((i + 1 : Nat) : Int) = (s.size : Int)) := by omega
        have q4 : (0 : Int) ≤ ((i + 1 : Nat) : Int) := by omega
        have q5 : ((i + 1 : Nat) : Int) < (s.size : Int) := by omega
        rw [hdrop2, pz, if_pos rfl]
        by_cases hy1 : y = 255
        · subst hy1
          rw [if_pos rfl]
          have h0 := nb_snoc cur 0
          refine Ev.step (fun k => ?_) (ih (i + 1 + 1) acc (cur ++ [0]) (by omega) (by omega) (by omega) (by simp; omega))
          simp only [codec_Parts.l0]
          rw [if_pos q1, if_pos q2, hb0, if_pos rfl, wr i hi5, if_neg q3, if_pos q4, if_pos q5, hy, if_pos b255, if_pos (by omega), wr (i + 1) hi6, ← h0]
          rfl
        · have hn1 : ¬ ((y.toNat : Int) = 255) := byte_ne255 hy1
          rw [if_neg hy1]
          by_cases hy2 : y = 1
          · subst hy2
            rw [if_pos rfl]
            refine Ev.step (fun k => ?_) (ih (i + 1 + 1) (acc ++ [⟨cur.toArray⟩]) [] (by omega) (by omega) (by simp; omega) (by simp))
            simp only [codec_Parts.l0]
            rw [if_pos q1, if_pos q2, hb0, if_pos rfl, wr i hi5, if_neg q3, if_pos q4, if_pos q5, hy, if_neg hn1, if_pos b1, if_pos (by omega), wr (i + 1) hi6, str_nb]
            rfl
          · have hn2 : ¬ ((y.toNat : Int) = 1) := byte_ne1 hy2
            rw [if_neg hy2]
            refine Ev.step (fun k => ?_) (Ev.now _)
            simp only [codec_Parts.l0]
            rw [if_pos q1, if_pos q2, hb0, if_pos rfl, wr i hi5, if_neg q3, if_pos q4, if_pos q5, hy, if_neg hn1, if_neg hn2]
theorem parts_f (s : ByteArray) (hs : s.size ≤ 100000) : Ev (fun k => codec_Parts.f k s) (pz [] [] s.data.toList) := by
  have h := parts_l0 s hs s.size 0 [] [] (by omega) (by omega) (by simp) (by simp)
  exact h
def cutm (m : Nat) (s : ByteArray) : ByteArray := s.extract 0 (min m s.size)
theorem few_l0 (l : List ByteArray) (hl : l.length ≤ 9223372036854775807) (n m : Nat) (hn : n ≤ 100) (d : Nat) : ∀ (i : Nat) (acc : List ByteArray), i + d = n → acc.length ≤ i →
    Ev (fun k => armoirelaw02_Few.l0 k l (n : Int) (m : Int) acc (i : Int)) (acc ++ ((l.drop i).take d).map (cutm m)) := by
  induction d with
  | zero =>
    intro i acc hi ha
    refine Ev.step (fun k => ?_) (Ev.now _)
    simp only [armoirelaw02_Few.l0, List.take_zero, List.map_nil, List.append_nil]
    by_cases c : (i : Int) < (l.length : Int)
    · rw [if_pos c, if_neg (by omega)]
    · rw [if_neg c]
  | succ d ih =>
    intro i acc hi ha
    by_cases c : (i : Int) < (l.length : Int)
    · have hlt : i < l.length := by omega
      have hr : rdOf ByteArray.empty l (i : Int) = l[i] := by simp [rdOf, List.getD_eq_getElem?_getD, hlt]
      have hx := ih (i + 1) (acc ++ [cutm m l[i]]) (by omega) (by simp; omega)
      rw [List.drop_eq_getElem_cons hlt, List.take_succ_cons, List.map_cons, List.append_cons]
      refine Ev.step (fun k => ?_) hx
      simp only [armoirelaw02_Few.l0]
      rw [if_pos c, if_pos (by omega), if_pos (by omega), hr, cut_f, Option.bind_some, if_pos (by omega), show wrap64 ((i : Int) + 1) = ((i + 1 : Nat) : Int) by unfold wrap64; omega]
      rfl
    · rw [List.drop_eq_nil_of_le (by omega)]
      refine Ev.step (fun k => ?_) (Ev.now _)
      simp only [armoirelaw02_Few.l0]
      rw [if_neg c]
      simp
theorem few_f (l : List ByteArray) (hl : l.length ≤ 9223372036854775807) (n m : Nat) (hn : n ≤ 100) : Ev (fun k => armoirelaw02_Few.f k l (n : Int) (m : Int)) ((l.take n).map (cutm m)) :=
  few_l0 l hl n m hn n 0 [] (by omega) (by simp)
theorem esc_len2 (l : List UInt8) : (esc l).length ≤ 2 * l.length := by
  rw [esc_length]
  have := List.count_le_length (a := (0 : UInt8)) (l := l)
  omega
theorem keyB_len (l : List ByteArray) (m : Nat) (h : ∀ s ∈ l, s.size ≤ m) : (keyB l).length ≤ l.length * (2 * m + 2) := by
  induction l with
  | nil => simp [keyB]
  | cons s l ih =>
    have h1 := h s List.mem_cons_self
    have h2 := ih (fun t ht => h t (List.mem_cons_of_mem _ ht))
    have h3 := esc_len2 s.data.toList
    rw [← ba_size] at h3
    simp only [keyB, List.length_append, List.length_cons, Nat.add_mul, Nat.one_mul]
    omega
theorem few_key (l : List ByteArray) (n m : Nat) (hn : n ≤ 10) (hm : m ≤ 100) : (keyB ((l.take n).map (cutm m))).length ≤ 5000 ∧ ((l.take n).map (cutm m)).length ≤ n := by
  have h1 := keyB_len ((l.take n).map (cutm m)) m (by
    intro s hs
    obtain ⟨t, _, rfl⟩ := List.mem_map.1 hs
    exact cut_size t m)
  have h2 : ((l.take n).map (cutm m)).length ≤ n := by rw [List.length_map, List.length_take]; omega
  refine ⟨Nat.le_trans h1 ?_, h2⟩
  exact Nat.le_trans (Nat.mul_le_mul (Nat.le_trans h2 hn) (show 2 * m + 2 ≤ 202 by omega)) (by decide)
theorem key_f (l : List ByteArray) (h : (keyB l).length ≤ 140737488351232) : codec_Key.f l = some ⟨(keyB l).toArray⟩ := by
  unfold codec_Key.f
  rw [if_pos h]
end Go.Proofs.YtndekeigagjfiaaDoor.PA

