import Derived.Test.YtndekeigagjfiaaDoorQKyMOutBase
import Derived.Test.YtndekeigagjfiaaDoorQKyFA
import Derived.Test.YtndekeigagjfiaaDoorQKyMAwake
import Derived.Test.YtndekeigagjfiaaDoorQKyPAx6
import Derived.WalkSpells
import Derived.Test.YtndekeigagjfiaaDoorQKyPAx1
namespace Go.Proofs.YtndekeigagjfiaaDoor.PA
set_option linter.unusedSimpArgs false
open Go.RowKit Go.Proofs.YtndekeigagjfiaaDoorW.PrintWords Go.Proofs.YtndekeigagjfiaaDoorW.PrintLast Go.Proofs.YtndekeigagjfiaaDoorW.PrintMore Go.Proofs.YtndekeigagjfiaaDoor Go.Proofs.YtndekeigagjfiaaDoor.PL
def nb (l : List UInt8) : List Int := l.map fun b => (b.toNat : Int)
theorem nb_snoc (l : List UInt8) (c : UInt8) : nb l ++ [(c.toNat : Int)] = nb (l ++ [c]) := by simp [nb]
theorem str_nb (l : List UInt8) : strOfNums (nb l) = ⟨l.toArray⟩ := strOf_bytesOf ⟨l.toArray⟩
theorem wr (n : Nat) (h : n ≤ 200000) : wrap64 ((n : Int) + 1) = ((n + 1 : Nat) : Int) := by unfold wrap64; omega
theorem b255 : (((255 : UInt8).toNat : Nat) : Int) = 255 := rfl
theorem b1 : (((1 : UInt8).toNat : Nat) : Int) = 1 := rfl
theorem byte_ne0 {c : UInt8} (h : c ≠ 0) : ¬ ((c.toNat : Int) = 0) := fun e => h (UInt8.toNat_inj.1 (by have : (0 : UInt8).toNat = 0 := rfl; omega))
theorem byte_ne255 {c : UInt8} (h : c ≠ 255) : ¬ ((c.toNat : Int) = 255) := fun e => h (UInt8.toNat_inj.1 (by have : (255 : UInt8).toNat = 255 := rfl; omega))
theorem byte_ne1 {c : UInt8} (h : c ≠ 1) : ¬ ((c.toNat : Int) = 1) := fun e => h (UInt8.toNat_inj.1 (by have : (1 : UInt8).toNat = 1 := rfl; omega))
theorem parts_l0 (s : ByteArray) (hs : s.size ≤ 100000) (d : Nat) : ∀ (i : Nat) (acc : List ByteArray) (cur : List UInt8), s.size - i ≤ d → i ≤ s.size → acc.length ≤ i → cur.length ≤ i →
    Ev (fun k => codec_Parts.l0 k s acc (nb cur) (i : Int)) (pz acc cur (s.data.toList.drop i)) := by
  have hL : s.data.toList.length = s.size := (ba_size s).symm
  have fin : ∀ (acc : List ByteArray) (cur : List UInt8), Ev (fun k => codec_Parts.l0 k s acc (nb cur) (s.size : Int)) (pz acc cur []) := by
    intro acc cur
    refine Ev.step (fun k => ?_) (Ev.now _)
    simp only [codec_Parts.l0]
    rw [if_neg (by omega)]
    by_cases h : cur = []
    · subst h; simp [nb, pz]
    · rw [if_pos (by simp [nb, List.length_pos_iff]; exact h)]
      simp [pz, h]
  induction d with
  | zero =>
    intro i acc cur hd hi ha hc
    obtain rfl : i = s.size := by omega
    rw [List.drop_eq_nil_of_le (by omega)]
    exact fin acc cur
  | succ d ih =>
    intro i acc cur hd hi ha hc
    by_cases hlt : i < s.size
    rotate_left
    · obtain rfl : i = s.size := by omega
      rw [List.drop_eq_nil_of_le (by omega)]
      exact fin acc cur
    have hi5 : i ≤ 200000 := by omega
    have hi6 : i + 1 ≤ 200000 := by omega
    have hcl : (nb cur).length = cur.length := by simp [nb]
    have hdrop : s.data.toList.drop i = s.data.toList[i]'(by omega) :: s.data.toList.drop (i + 1) := List.drop_eq_getElem_cons (by omega)
    have hb : bt s (i : Int) = ((s.data.toList[i]'(by omega)).toNat : Int) := by
      rw [bt_at0, List.getD_eq_getElem?_getD, List.getElem?_eq_getElem (by omega)]; rfl
    generalize hx : s.data.toList[i]'(by omega) = x at hdrop hb
    rw [hdrop]
    have q1 : (i : Int) < (s.size : Int) := by omega
    have q2 : (0 : Int) ≤ (i : Int) := by omega
    clear hx
    by_cases hx0 : x = 0
    rotate_left
    · rw [pz_byte _ _ _ hx0]
      refine Ev.step (fun k => ?_) (ih (i + 1) acc (cur ++ [x]) (by omega) (by omega) (by omega) (by simp; omega))
      simp only [codec_Parts.l0]
      rw [if_pos q1, if_pos q2, hb, if_neg (byte_ne0 hx0), if_pos (by omega), wr i hi5, nb_snoc]
    · subst hx0
      have hb0 : bt s (i : Int) = 0 := hb
      by_cases h1 : i + 1 = s.size
      · rw [List.drop_eq_nil_of_le (by omega)]
        refine Ev.step (fun k => ?_) (Ev.now _)
        simp only [codec_Parts.l0]
        rw [if_pos q1, if_pos q2, hb0, if_pos rfl, wr i hi5, if_pos (by omega)]
        simp [pz]
      · have hdrop2 : s.data.toList.drop (i + 1) = s.data.toList[i + 1]'(by omega) :: s.data.toList.drop (i + 1 + 1) := List.drop_eq_getElem_cons (by omega)
        have hy : bt s ((i + 1 : Nat) : Int) = ((s.data.toList[i + 1]'(by omega)).toNat : Int) := by
          rw [bt_at0, List.getD_eq_getElem?_getD, List.getElem?_eq_getElem (by omega)]; rfl
        generalize s.data.toList[i + 1]'(by omega) = y at hdrop2 hy
        have q3 : ¬ (((i + 1 : Nat) : Int) = (s.size : Int)) := by omega
        have q4 : (0 : Int) ≤ ((i + 1 : Nat) : Int) := by omega
        have q5 : ((i + 1 : Nat) : Int) < (s.size : Int) := by omega
        rw [hdrop2, pz, if_pos rfl]
        by_cases hy1 : y = 255
        · subst hy1
          rw [if_pos rfl]
          have h0 := nb_snoc cur 0
          refine Ev.step (fun k => ?_) (ih (i + 1 + 1) acc (cur ++ [0]) (by omega) (by omega) (by omega) (by simp; omega))
          simp only [codec_Parts.l0]
          rw [if_pos q1, if_pos q2, hb0, if_pos rfl, wr i hi5, if_neg q3, if_pos q4, if_pos q5, hy, if_pos b255, if_pos (by omega), wr (i + 1) hi6, ← h0]
          rfl
        · have hn1 : ¬ ((y.toNat : Int) = 255) := byte_ne255 hy1
          rw [if_neg hy1]
          by_cases hy2 : y = 1
          · subst hy2
            rw [if_pos rfl]
            refine Ev.step (fun k => ?_) (ih (i + 1 + 1) (acc ++ [⟨cur.toArray⟩]) [] (by omega) (by omega) (by simp; omega) (by simp))
            simp only [codec_Parts.l0]
            rw [if_pos q1, if_pos q2, hb0, if_pos rfl, wr i hi5, if_neg q3, if_pos q4, if_pos q5, hy, if_neg hn1, if_pos b1, if_pos (by omega), wr (i + 1) hi6, str_nb]
            rfl
          · have hn2 : ¬ ((y.toNat : Int) = 1) := byte_ne1 hy2
            rw [if_neg hy2]
            refine Ev.step (fun k => ?_) (Ev.now _)
            simp only [codec_Parts.l0]
            rw [if_pos q1, if_pos q2, hb0, if_pos rfl, wr i hi5, if_neg q3, if_pos q4, if_pos q5, hy, if_neg hn1, if_neg hn2]
theorem parts_f (s : ByteArray) (hs : s.size ≤ 100000) : Ev (fun k => codec_Parts.f k s) (pz [] [] s.data.toList) := by
  have h := parts_l0 s hs s.size 0 [] [] (by omega) (by omega) (by simp) (by simp)
  exact h
theorem rparts_l0 (s : ByteArray) (hs : s.size ≤ 100000) (d : Nat) : ∀ (i : Nat) (acc : List ByteArray) (cur : List UInt8), s.size - i ≤ d → i ≤ s.size → acc.length ≤ i → cur.length ≤ i →
    Ev (fun k => armoireref02_Parts.l0 k s acc ⟨cur.toArray⟩ (!cur.isEmpty) (i : Int)) (pz acc cur (s.data.toList.drop i)) := by
  have hL : s.data.toList.length = s.size := (ba_size s).symm
  have fin : ∀ (acc : List ByteArray) (cur : List UInt8), Ev (fun k => armoireref02_Parts.l0 k s acc ⟨cur.toArray⟩ (!cur.isEmpty) (s.size : Int)) (pz acc cur []) := by
    intro acc cur
    refine Ev.step (fun k => ?_) (Ev.now _)
    simp only [armoireref02_Parts.l0]
    rw [if_neg (by omega)]
    by_cases h : cur = []
    · subst h; simp [pz]
    · rw [if_pos (by simp [h])]
      simp [pz, h]
  induction d with
  | zero =>
    intro i acc cur hd hi ha hc
    obtain rfl : i = s.size := by omega
    rw [List.drop_eq_nil_of_le (by omega)]
    exact fin acc cur
  | succ d ih =>
    intro i acc cur hd hi ha hc
    by_cases hlt : i < s.size
    rotate_left
    · obtain rfl : i = s.size := by omega
      rw [List.drop_eq_nil_of_le (by omega)]
      exact fin acc cur
    have hi5 : i ≤ 200000 := by omega
    have hi6 : i + 1 ≤ 200000 := by omega
    have hcl : (⟨cur.toArray⟩ : ByteArray).size = cur.length := ba_mk_size cur
    have hdrop : s.data.toList.drop i = s.data.toList[i]'(by omega) :: s.data.toList.drop (i + 1) := List.drop_eq_getElem_cons (by omega)
    have hb : bt s (i : Int) = ((s.data.toList[i]'(by omega)).toNat : Int) := by
      rw [bt_at0, List.getD_eq_getElem?_getD, List.getElem?_eq_getElem (by omega)]; rfl
    have hex : s.extract (i : Int).toNat ((i + 1 : Nat) : Int).toNat = ⟨[s.data.toList[i]'(by omega)].toArray⟩ := by
      apply bytes_ext
      rw [ba_extract, Int.toNat_natCast, Int.toNat_natCast, hdrop, Nat.add_sub_cancel_left]
      rfl
    generalize hx : s.data.toList[i]'(by omega) = x at hdrop hb hex
    rw [hdrop]
    have q1 : (i : Int) < (s.size : Int) := by omega
    have q2 : (0 : Int) ≤ (i : Int) := by omega
    clear hx
    by_cases hx0 : x = 0
    rotate_left
    · rw [pz_byte _ _ _ hx0]
      have hi' := ih (i + 1) acc (cur ++ [x]) (by omega) (by omega) (by omega) (by simp; omega)
      rw [show (!(cur ++ [x]).isEmpty) = true by simp] at hi'
      refine Ev.step (fun k => ?_) hi'
      simp only [armoireref02_Parts.l0]
      rw [if_pos q1, if_pos q2, hb, if_neg (byte_ne0 hx0), wr i hi5, if_pos (by omega), if_pos (by omega), hex, if_pos (by rw [hcl, ba_mk_size]; simp; omega), ba_mk_append]
    · subst hx0
      have hb0 : bt s (i : Int) = 0 := hb
      by_cases h1 : i + 1 = s.size
      · rw [List.drop_eq_nil_of_le (by omega)]
        refine Ev.step (fun k => ?_) (Ev.now _)
        simp only [armoireref02_Parts.l0]
        rw [if_pos q1, if_pos q2, hb0, if_pos rfl, wr i hi5, if_pos (by omega)]
        simp [pz]
      · have hdrop2 : s.data.toList.drop (i + 1) = s.data.toList[i + 1]'(by omega) :: s.data.toList.drop (i + 1 + 1) := List.drop_eq_getElem_cons (by omega)
        have hy : bt s ((i + 1 : Nat) : Int) = ((s.data.toList[i + 1]'(by omega)).toNat : Int) := by
          rw [bt_at0, List.getD_eq_getElem?_getD, List.getElem?_eq_getElem (by omega)]; rfl
        generalize s.data.toList[i + 1]'(by omega) = y at hdrop2 hy
        have q3 : ¬ (((i + 1 : Nat) : Int) = (s.size : Int)) := by omega
        have q4 : (0 : Int) ≤ ((i + 1 : Nat) : Int) := by omega
        have q5 : ((i + 1 : Nat) : Int) < (s.size : Int) := by omega
        rw [hdrop2, pz, if_pos rfl]
        by_cases hy1 : y = 255
        · subst hy1
          rw [if_pos rfl]
          have hi' := ih (i + 1 + 1) acc (cur ++ [0]) (by omega) (by omega) (by omega) (by simp; omega)
          rw [show (!(cur ++ [(0 : UInt8)]).isEmpty) = true by simp, ← ba_mk_append] at hi'
          refine Ev.step (fun k => ?_) hi'
          simp only [armoireref02_Parts.l0]
          rw [if_pos q1, if_pos q2, hb0, if_pos rfl, wr i hi5, if_neg q3, if_pos q4, if_pos q5, hy, if_pos b255, if_pos (by omega), wr (i + 1) hi6]
        · have hn1 : ¬ ((y.toNat : Int) = 255) := byte_ne255 hy1
          rw [if_neg hy1]
          by_cases hy2 : y = 1
          · subst hy2
            rw [if_pos rfl]
            have hi' := ih (i + 1 + 1) (acc ++ [⟨cur.toArray⟩]) [] (by omega) (by omega) (by simp; omega) (by simp)
            refine Ev.step (fun k => ?_) hi'
            simp only [armoireref02_Parts.l0]
            rw [if_pos q1, if_pos q2, hb0, if_pos rfl, wr i hi5, if_neg q3, if_pos q4, if_pos q5, hy, if_neg hn1, if_pos b1, if_pos (by omega), wr (i + 1) hi6]
            rfl
          · have hn2 : ¬ ((y.toNat : Int) = 1) := byte_ne1 hy2
            rw [if_neg hy2]
            refine Ev.step (fun k => ?_) (Ev.now _)
            simp only [armoireref02_Parts.l0]
            rw [if_pos q1, if_pos q2, hb0, if_pos rfl, wr i hi5, if_neg q3, if_pos q4, if_pos q5, hy, if_neg hn1, if_neg hn2]
theorem rparts_f (s : ByteArray) (hs : s.size ≤ 100000) : Ev (fun k => armoireref02_Parts.f k s) (pz [] [] s.data.toList) :=
  rparts_l0 s hs s.size 0 [] [] (by omega) (by omega) (by simp) (by simp)
def cutm (m : Nat) (s : ByteArray) : ByteArray := s.extract 0 (min m s.size)
theorem few_l0 (l : List ByteArray) (hl : l.length ≤ 9223372036854775807) (n m : Nat) (hn : n ≤ 100) (d : Nat) : ∀ (i : Nat) (acc : List ByteArray), i + d = n → acc.length ≤ i →
    Ev (fun k => armoirelaw02_Few.l0 k l (n : Int) (m : Int) acc (i : Int)) (acc ++ ((l.drop i).take d).map (cutm m)) := by
  induction d with
  | zero =>
    intro i acc hi ha
    refine Ev.step (fun k => ?_) (Ev.now _)
    simp only [armoirelaw02_Few.l0, List.take_zero, List.map_nil, List.append_nil]
    by_cases c : (i : Int) < (l.length : Int)
    · rw [if_pos c, if_neg (by omega)]
    · rw [if_neg c]
  | succ d ih =>
    intro i acc hi ha
    by_cases c : (i : Int) < (l.length : Int)
    · have hlt : i < l.length := by omega
      have hr : rdOf ByteArray.empty l (i : Int) = l[i] := by simp [rdOf, List.getD_eq_getElem?_getD, hlt]
      have hx := ih (i + 1) (acc ++ [cutm m l[i]]) (by omega) (by simp; omega)
      rw [List.drop_eq_getElem_cons hlt, List.take_succ_cons, List.map_cons, List.append_cons]
      refine Ev.step (fun k => ?_) hx
      simp only [armoirelaw02_Few.l0]
      rw [if_pos c, if_pos (by omega), if_pos (by omega), hr, cut_f, Option.bind_some, if_pos (by omega), show wrap64 ((i : Int) + 1) = ((i + 1 : Nat) : Int) by unfold wrap64; omega]
      rfl
    · rw [List.drop_eq_nil_of_le (by omega)]
      refine Ev.step (fun k => ?_) (Ev.now _)
      simp only [armoirelaw02_Few.l0]
      rw [if_neg c]
      simp
theorem few_f (l : List ByteArray) (hl : l.length ≤ 9223372036854775807) (n m : Nat) (hn : n ≤ 100) : Ev (fun k => armoirelaw02_Few.f k l (n : Int) (m : Int)) ((l.take n).map (cutm m)) :=
  few_l0 l hl n m hn n 0 [] (by omega) (by simp)
theorem esc_len2 (l : List UInt8) : (esc l).length ≤ 2 * l.length := by
  rw [esc_length]
  have := List.count_le_length (a := (0 : UInt8)) (l := l)
  omega
theorem keyB_len (l : List ByteArray) (m : Nat) (h : ∀ s ∈ l, s.size ≤ m) : (keyB l).length ≤ l.length * (2 * m + 2) := by
  induction l with
  | nil => simp [keyB]
  | cons s l ih =>
    have h1 := h s List.mem_cons_self
    have h2 := ih (fun t ht => h t (List.mem_cons_of_mem _ ht))
    have h3 := esc_len2 s.data.toList
    rw [← ba_size] at h3
    simp only [keyB, List.length_append, List.length_cons, Nat.add_mul, Nat.one_mul]
    omega
theorem few_key (l : List ByteArray) (n m : Nat) (hn : n ≤ 10) (hm : m ≤ 100) : (keyB ((l.take n).map (cutm m))).length ≤ 5000 ∧ ((l.take n).map (cutm m)).length ≤ n := by
  have h1 := keyB_len ((l.take n).map (cutm m)) m (by
    intro s hs
    obtain ⟨t, _, rfl⟩ := List.mem_map.1 hs
    exact cut_size t m)
  have h2 : ((l.take n).map (cutm m)).length ≤ n := by rw [List.length_map, List.length_take]; omega
  refine ⟨Nat.le_trans h1 ?_, h2⟩
  exact Nat.le_trans (Nat.mul_le_mul (Nat.le_trans h2 hn) (show 2 * m + 2 ≤ 202 by omega)) (by decide)
theorem key_f (l : List ByteArray) (h : (keyB l).length ≤ 140737488351232) : codec_Key.f l = some ⟨(keyB l).toArray⟩ := by
  unfold codec_Key.f
  rw [if_pos h]
end Go.Proofs.YtndekeigagjfiaaDoor.PA

namespace Go.Proofs.YtndekeigagjfiaaDoor.PA
open Go.Proofs.YtndekeigagjfiaaDoor.PL
open Go.RowKit Go.Proofs.YtndekeigagjfiaaDoorW.PrintWords Go.Proofs.YtndekeigagjfiaaDoorW.PrintLast Go.Proofs.YtndekeigagjfiaaDoorW.PrintMore
attribute [local go_sem] max2_int min2_int max_two min_two max_three min_three max_four min_four
def NilIf (e : Int) (v : Value) : Prop := e ≠ 0 → v = .slice none 0 0
set_option maxHeartbeats 2000000 in
set_option maxRecDepth 100000 in
theorem codec_Parts.calls2 (k : Nat) (a0 : ByteArray) (r1 : List ByteArray) (r2 : Int) (w : World) (h : codec_Parts.f k a0 = some (r1, r2)) :
    Calls Tryd.prog 22 #[.string a0] w fun e w' => ∃ v0_ : Value, e = .returned (.tuple #[v0_, .int .i64 r2]) ∧ Kd.R Kd.string 9 w' w.heap.size (fun _ => True) v0_ r1 ∧ Below w.heap.size w w' ∧ NilIf r2 v0_ := by
  have HB := Aside0.mk (Below.refl w.heap.size w)
  have H : (codec_Parts.l0 k a0 ([] : List ByteArray) ([] : List Int) 0) = some (r1, r2) := h
  clear h
  have H' := Aside0.mk H
  clear H
  go_enter Tryd.func22, Tryd.ntmps22
  go_wp2
  go_loopg [4, 5, 6] k (fun kq v4 v5 v6 w' => ∃ (x4_1 : List ByteArray) (x5_1 : List Int) (x6_1 : Int), v6 = .int .i64 x6_1 ∧ Aside0 (codec_Parts.l0 kq a0 x4_1 x5_1 x6_1 = some (r1, r2)) ∧ Aside0 (kq ≤ k) ∧ Aside0 (Kd.R Kd.string 9 w' w.heap.size (fun _ => True) v4 x4_1) ∧ Aside0 (Kd.R (Kd.int .u8) 5 w' w.heap.size (fun _ => True) v5 x5_1) ∧ Aside0 (Below w.heap.size w w'))
  case atStart => exact ⟨(([] : List ByteArray)), (([] : List Int)), (0), (by first | rfl | (simp; done) | (simp [*]; done) | exact emp1_ _ | exact (emp1_ _).symm | exact emp2_ _ | exact (emp2_ _).symm), H', ⟨Nat.le_refl _⟩, ⟨by first | exact Kd.R_nil _ _ _ _ _ | exact Kd.N_nil _ _ _ _ _ | exact Kd.V_nil _ _ _ _ _ | exact Kd.Q_nil _ _ _ _ _ | exact Kd.S_nil _ _ _ _ _⟩, ⟨by first | exact Kd.R_nil _ _ _ _ _ | exact Kd.N_nil _ _ _ _ _ | exact Kd.V_nil _ _ _ _ _ | exact Kd.Q_nil _ _ _ _ _ | exact Kd.S_nil _ _ _ _ _⟩, ⟨bl_⟩⟩
  clear H'
  obtain ⟨x4_1, x5_1, x6_1, rfl, HA, HK1, HO_4, HO_5, HB⟩ := hrel
  cases gk with
  | zero => exact absurd HA.out (by simp [codec_Parts.l0])
  | succ k1 =>
    have H := HA.out
    clear HA
    simp only [codec_Parts.l0] at H
    by_cases c2 : x6_1 < (a0.size : Int)
    rotate_left
    · rw [if_neg c2] at H
      have c2b0 : decide (x6_1 < (a0.size : Int)) = false := decide_eq_false c2
      clear c2
      by_cases c21 : (x5_1.length : Int) > 0
      rotate_left
      · rw [if_neg c21] at H
        have c21b0 : decide (0 < (x5_1.length : Int)) = false := decide_eq_false c21
        have c21b1 : decide (0 < x5_1.length) = false := decide_eq_false (by omega)
        clear c21
        simp only [Option.some.injEq, Prod.mk.injEq] at H
        obtain ⟨rfl, rfl⟩ := H
        obtain ⟨Ao23, co23, eo23⟩ := Kd.R_slice HO_5.out
        subst eo23
        go_wp2
        go_ret2
        exact ⟨_, er_, by (with_reducible repeat (first | apply Kd.R_alloc | apply Kd.R_drewN | apply Kd.R_drew)); exact HO_4.out, bl_, (by first | exact fun _ => rfl | exact fun h_ => absurd rfl h_)⟩
      rw [if_pos c21] at H
      have c21b0 : decide (0 < (x5_1.length : Int)) = true := decide_eq_true c21
      have c21b1 : decide (0 < x5_1.length) = true := decide_eq_true (by omega)
      clear c21
      simp only [Option.some.injEq, Prod.mk.injEq] at H
      obtain ⟨rfl, rfl⟩ := H
      obtain ⟨Ao22, co22, eo22⟩ := Kd.R_slice HO_5.out
      subst eo22
      go_wp2
      go_ret2
      exact ⟨_, er_, by first | exact Kd.R_nil _ _ _ _ _ | exact Kd.N_nil _ _ _ _ _ | exact Kd.V_nil _ _ _ _ _ | exact Kd.Q_nil _ _ _ _ _ | exact Kd.S_nil _ _ _ _ _, bl_, (by first | exact fun _ => rfl | exact fun h_ => absurd rfl h_)⟩
    rw [if_pos c2] at H
    have c2b0 : decide (x6_1 < (a0.size : Int)) = true := decide_eq_true c2
    clear c2
    by_cases c3 : 0 ≤ x6_1
    rotate_left
    · rw [if_neg c3] at H
      exact absurd H (by simp)
    rw [if_pos c3] at H
    have c3b0 : decide (0 ≤ x6_1) = true := decide_eq_true c3
    clear c3
    by_cases c5 : (bt a0 x6_1) = 0
    rotate_left
    · rw [if_neg c5] at H
      have c5b0 : ((bt a0 x6_1) == 0) = false := beq_eq_false_iff_ne.mpr c5
      have c5b1 : ((bt a0 x6_1) != 0) = true := bne_iff_ne.mpr c5
      by_cases c19 : x5_1.length < 140737488355328
      rotate_left
      · rw [if_neg c19] at H
        exact absurd H (by simp)
      rw [if_pos c19] at H
      have LMc19 := Aside0.mk c19
      clear c19
      obtain ⟨y309, hy309⟩ : ∃ y_ : List Int, y_ = (x5_1 ++ [bt a0 x6_1]) := ⟨_, rfl⟩
      replace H : (codec_Parts.l0 k1 a0 x4_1 y309 (wrap64 (x6_1 + 1))) = some (r1, r2) := by first | (rw [hy309]; with_reducible exact H) | (have H2_ := (Option.bind_some _ _).symm.trans H; rw [hy309]; with_reducible exact H2_) | (have H2_ := (Option.bind_some _ _).symm.trans H; with_reducible exact H2_) | with_reducible exact H | (rw [hy309]; exact H) | exact H
      have Ny309 := Aside0.mk hy309
      clear hy309
      have H' := Aside0.mk H
      clear H
      have p4 : 0 ≤ (x6_1 : Int) := of_decide_eq_true (by first | (with_reducible assumption) | assumption)
      have q4 : x6_1 < (a0.size : Int) := of_decide_eq_true (by first | (with_reducible assumption) | assumption)
      have hx4 := bt_at a0 x6_1
      replace p4 := eq_true p4
      replace q4 := eq_true q4
      have p18 : 0 ≤ (x6_1 : Int) := of_decide_eq_true (by first | (with_reducible assumption) | assumption)
      have q18 : x6_1 < (a0.size : Int) := of_decide_eq_true (by first | (with_reducible assumption) | assumption)
      have hx18 := bt_at a0 x6_1
      replace p18 := eq_true p18
      replace q18 := eq_true q18
      go_wp2_with (first | ((with_reducible refine gate_builtin (b := .append) (xs := #[.tmp 17, .tmp 21]) rfl ?_); at_builtin; refine Kd.R_append (Kd.int .u8) (w0 := w) w.heap.size rfl (.tmp 17) (.tmp 21) 52 5 (.int .u8 0) 1 rfl Tryd.underlying52 info5 rfl (by decide) (by omega) u5 x5_1 (bt a0 x6_1) [.int .u8 (bt a0 x6_1)] (fun _ => True) (fun _ => False) rfl rfl ?aP (fun _ hk => hk.elim) ?aF ?aO ?aB ?aS ?aL ?_; (case aP => exact rfl); (case aB => exact bl_); (case aF => exact (fun _ _ => trivial)); (case aO => exact (by (with_reducible repeat (first | apply Kd.R_alloc | apply Kd.R_drewN | apply Kd.R_drew)); exact HO_5.out)); (case aS => exact bsz bl_); (case aL => have := LMc19.out; omega); intro v310 w20 ho hb hg hat; rw [← Ny309.out] at ho; have n0_ := Aside0.mk (Kd.R_over' (by (with_reducible repeat (first | apply Kd.R_alloc | apply Kd.R_drewN | apply Kd.R_drew)); exact HO_4.out) (Kd.R_typed (by (with_reducible repeat (first | apply Kd.R_alloc | apply Kd.R_drewN | apply Kd.R_drew)); exact HO_5.out)) (by decide) hg); have n1_ := Aside0.mk (hb); have n2_ := Aside0.mk (ho); clear HO_4; clear HB; clear HO_5; have HO_4 := n0_; have HB := n1_; have HO311 := n2_; clear n0_ n1_ n2_; clear ho hb hg hat))
      go_roundg k1
      case measure => have := HK1.out; omega
      case rel => exact ⟨(x4_1), (y309), (wrap64 (x6_1 + 1)), (by first | rfl | (simp; done) | (simp [*]; done) | exact emp1_ _ | exact (emp1_ _).symm | exact emp2_ _ | exact (emp2_ _).symm), H', ⟨by have := HK1.out; omega⟩, ⟨by (with_reducible repeat (first | apply Kd.R_alloc | apply Kd.R_drewN | apply Kd.R_drew)); exact HO_4.out⟩, ⟨by (with_reducible repeat (first | apply Kd.R_alloc | apply Kd.R_drewN | apply Kd.R_drew)); exact HO311.out⟩, ⟨bl_⟩⟩
    rw [if_pos c5] at H
    have c5b0 : ((bt a0 x6_1) == 0) = true := beq_iff_eq.mpr c5
    have c5b1 : ((bt a0 x6_1) != 0) = false := bne_eq_false_iff_eq.mpr c5
    clear c5
    by_cases c6 : (wrap64 (x6_1 + 1)) = (a0.size : Int)
    · rw [if_pos c6] at H
      have c6b0 : ((wrap64 (x6_1 + 1)) == (a0.size : Int)) = true := beq_iff_eq.mpr c6
      have c6b1 : ((wrap64 (x6_1 + 1)) != (a0.size : Int)) = false := bne_eq_false_iff_eq.mpr c6
      clear c6
      simp only [Option.some.injEq, Prod.mk.injEq] at H
      obtain ⟨rfl, rfl⟩ := H
      have p4 : 0 ≤ (x6_1 : Int) := of_decide_eq_true (by first | (with_reducible assumption) | assumption)
      have q4 : x6_1 < (a0.size : Int) := of_decide_eq_true (by first | (with_reducible assumption) | assumption)
      have hx4 := bt_at a0 x6_1
      replace p4 := eq_true p4
      replace q4 := eq_true q4
      go_wp2
      go_ret2
      exact ⟨_, er_, by first | exact Kd.R_nil _ _ _ _ _ | exact Kd.N_nil _ _ _ _ _ | exact Kd.V_nil _ _ _ _ _ | exact Kd.Q_nil _ _ _ _ _ | exact Kd.S_nil _ _ _ _ _, bl_, (by first | exact fun _ => rfl | exact fun h_ => absurd rfl h_)⟩
    rw [if_neg c6] at H
    have c6b0 : ((wrap64 (x6_1 + 1)) == (a0.size : Int)) = false := beq_eq_false_iff_ne.mpr c6
    have c6b1 : ((wrap64 (x6_1 + 1)) != (a0.size : Int)) = true := bne_iff_ne.mpr c6
    obtain ⟨ji7, hji7⟩ : ∃ j_ : Int, (wrap64 (x6_1 + 1)) = j_ := ⟨_, rfl⟩
    replace H : (if 0 ≤ (ji7) then (if (ji7) < (a0.size : Int) then (if (bt a0 (ji7)) = 255 then (if x5_1.length < 140737488355328 then (codec_Parts.l0 k1 a0 x4_1 (x5_1 ++ [0]) (wrap64 ((ji7) + 1))) else (none)) else (if (bt a0 (ji7)) = 1 then (if x4_1.length < 8796093022208 then (codec_Parts.l0 k1 a0 (x4_1 ++ [strOfNums x5_1]) ([] : List Int) (wrap64 ((ji7) + 1))) else (none)) else (some (([] : List ByteArray), 2)))) else (none)) else (none)) = some (r1, r2) := by first | (rw [hji7] at H; exact H) | (simp only [hji7] at H ⊢; exact H)
    (try rw [hji7] at c6b0)
    (try rw [hji7] at c6b1)
    have hji7w : (IntKind.i64.wrap (x6_1 + 1)) = ji7 := (i64_w _).trans hji7
    by_cases c8 : 0 ≤ (ji7)
    rotate_left
    · rw [if_neg c8] at H
      exact absurd H (by simp)
    rw [if_pos c8] at H
    have c8b0 : decide (0 ≤ (ji7)) = true := decide_eq_true c8
    clear c8
    by_cases c9 : (ji7) < (a0.size : Int)
    rotate_left
    · rw [if_neg c9] at H
      exact absurd H (by simp)
    rw [if_pos c9] at H
    have c9b0 : decide ((ji7) < (a0.size : Int)) = true := decide_eq_true c9
    clear c9
    by_cases c11 : (bt a0 (ji7)) = 255
    · rw [if_pos c11] at H
      have c11b0 : ((bt a0 (ji7)) == 255) = true := beq_iff_eq.mpr c11
      have c11b1 : ((bt a0 (ji7)) != 255) = false := bne_eq_false_iff_eq.mpr c11
      clear c11
      by_cases c12 : x5_1.length < 140737488355328
      rotate_left
      · rw [if_neg c12] at H
        exact absurd H (by simp)
      rw [if_pos c12] at H
      have LMc12 := Aside0.mk c12
      clear c12
      obtain ⟨y303, hy303⟩ : ∃ y_ : List Int, y_ = (x5_1 ++ [0]) := ⟨_, rfl⟩
      replace H : (codec_Parts.l0 k1 a0 x4_1 y303 (wrap64 ((ji7) + 1))) = some (r1, r2) := by first | (rw [hy303]; with_reducible exact H) | (have H2_ := (Option.bind_some _ _).symm.trans H; rw [hy303]; with_reducible exact H2_) | (have H2_ := (Option.bind_some _ _).symm.trans H; with_reducible exact H2_) | with_reducible exact H | (rw [hy303]; exact H) | exact H
      have Ny303 := Aside0.mk hy303
      clear hy303
      have H' := Aside0.mk H
      clear H
      have p4 : 0 ≤ (x6_1 : Int) := of_decide_eq_true (by first | (with_reducible assumption) | assumption)
      have q4 : x6_1 < (a0.size : Int) := of_decide_eq_true (by first | (with_reducible assumption) | assumption)
      have hx4 := bt_at a0 x6_1
      replace p4 := eq_true p4
      replace q4 := eq_true q4
      have p10 : 0 ≤ ((ji7) : Int) := of_decide_eq_true (by first | (with_reducible assumption) | assumption)
      have q10 : (ji7) < (a0.size : Int) := of_decide_eq_true (by first | (with_reducible assumption) | assumption)
      have hx10 := bt_at a0 (ji7)
      replace p10 := eq_true p10
      replace q10 := eq_true q10
      go_wp2_with (first | ((with_reducible refine gate_builtin (b := .append) (xs := #[.tmp 34, .tmp 35]) rfl ?_); at_builtin; refine Kd.R_append (Kd.int .u8) (w0 := w) w.heap.size rfl (.tmp 34) (.tmp 35) 52 5 (.int .u8 0) 1 rfl Tryd.underlying52 info5 rfl (by decide) (by omega) u5 x5_1 0 [.int .u8 0] (fun _ => True) (fun _ => False) rfl rfl ?aP (fun _ hk => hk.elim) ?aF ?aO ?aB ?aS ?aL ?_; (case aP => exact rfl); (case aB => exact bl_); (case aF => exact (fun _ _ => trivial)); (case aO => exact (by (with_reducible repeat (first | apply Kd.R_alloc | apply Kd.R_drewN | apply Kd.R_drew)); exact HO_5.out)); (case aS => exact bsz bl_); (case aL => have := LMc12.out; omega); intro v304 w13 ho hb hg hat; rw [← Ny303.out] at ho; have n0_ := Aside0.mk (Kd.R_over' (by (with_reducible repeat (first | apply Kd.R_alloc | apply Kd.R_drewN | apply Kd.R_drew)); exact HO_4.out) (Kd.R_typed (by (with_reducible repeat (first | apply Kd.R_alloc | apply Kd.R_drewN | apply Kd.R_drew)); exact HO_5.out)) (by decide) hg); have n1_ := Aside0.mk (hb); have n2_ := Aside0.mk (ho); clear HO_4; clear HB; clear HO_5; have HO_4 := n0_; have HB := n1_; have HO305 := n2_; clear n0_ n1_ n2_; clear ho hb hg hat))
      go_roundg k1
      case measure => have := HK1.out; omega
      case rel => exact ⟨(x4_1), (y303), (wrap64 ((ji7) + 1)), (by first | rfl | (simp; done) | (simp only [← hji7] <;> (first | rfl | simp)) | (simp [*]; done)), H', ⟨by have := HK1.out; omega⟩, ⟨by (with_reducible repeat (first | apply Kd.R_alloc | apply Kd.R_drewN | apply Kd.R_drew)); exact HO_4.out⟩, ⟨by (with_reducible repeat (first | apply Kd.R_alloc | apply Kd.R_drewN | apply Kd.R_drew)); exact HO305.out⟩, ⟨bl_⟩⟩
    rw [if_neg c11] at H
    have c11b0 : ((bt a0 (ji7)) == 255) = false := beq_eq_false_iff_ne.mpr c11
    have c11b1 : ((bt a0 (ji7)) != 255) = true := bne_iff_ne.mpr c11
    by_cases c14 : (bt a0 (ji7)) = 1
    rotate_left
    · rw [if_neg c14] at H
      have c14b0 : ((bt a0 (ji7)) == 1) = false := beq_eq_false_iff_ne.mpr c14
      have c14b1 : ((bt a0 (ji7)) != 1) = true := bne_iff_ne.mpr c14
      simp only [Option.some.injEq, Prod.mk.injEq] at H
      obtain ⟨rfl, rfl⟩ := H
      have p4 : 0 ≤ (x6_1 : Int) := of_decide_eq_true (by first | (with_reducible assumption) | assumption)
      have q4 : x6_1 < (a0.size : Int) := of_decide_eq_true (by first | (with_reducible assumption) | assumption)
      have hx4 := bt_at a0 x6_1
      replace p4 := eq_true p4
      replace q4 := eq_true q4
      have p10 : 0 ≤ ((ji7) : Int) := of_decide_eq_true (by first | (with_reducible assumption) | assumption)
      have q10 : (ji7) < (a0.size : Int) := of_decide_eq_true (by first | (with_reducible assumption) | assumption)
      have hx10 := bt_at a0 (ji7)
      replace p10 := eq_true p10
      replace q10 := eq_true q10
      go_wp2
      go_ret2
      exact ⟨_, by first | rfl | (simp [errW_none, errW_some] <;> rfl) | (simp only [← hji7]; first | rfl | (simp [errW_none, errW_some] <;> rfl)) | (simp [*, errW_none, errW_some] <;> rfl), by first | exact Kd.R_nil _ _ _ _ _ | exact Kd.N_nil _ _ _ _ _ | exact Kd.V_nil _ _ _ _ _ | exact Kd.Q_nil _ _ _ _ _ | exact Kd.S_nil _ _ _ _ _, bl_, (by first | exact fun _ => rfl | exact fun h_ => absurd rfl h_)⟩
    rw [if_pos c14] at H
    have c14b0 : ((bt a0 (ji7)) == 1) = true := beq_iff_eq.mpr c14
    have c14b1 : ((bt a0 (ji7)) != 1) = false := bne_eq_false_iff_eq.mpr c14
    clear c14
    by_cases c15 : x4_1.length < 8796093022208
    rotate_left
    · rw [if_neg c15] at H
      exact absurd H (by simp)
    rw [if_pos c15] at H
    have LMc15 := Aside0.mk c15
    clear c15
    obtain ⟨y306, hy306⟩ : ∃ y_ : List ByteArray, y_ = (x4_1 ++ [strOfNums x5_1]) := ⟨_, rfl⟩
    replace H : (codec_Parts.l0 k1 a0 y306 ([] : List Int) (wrap64 ((ji7) + 1))) = some (r1, r2) := by first | (rw [hy306]; with_reducible exact H) | (have H2_ := (Option.bind_some _ _).symm.trans H; rw [hy306]; with_reducible exact H2_) | (have H2_ := (Option.bind_some _ _).symm.trans H; with_reducible exact H2_) | with_reducible exact H | (rw [hy306]; exact H) | exact H
    have Ny306 := Aside0.mk hy306
    clear hy306
    have H' := Aside0.mk H
    clear H
    have p4 : 0 ≤ (x6_1 : Int) := of_decide_eq_true (by first | (with_reducible assumption) | assumption)
    have q4 : x6_1 < (a0.size : Int) := of_decide_eq_true (by first | (with_reducible assumption) | assumption)
    have hx4 := bt_at a0 x6_1
    replace p4 := eq_true p4
    replace q4 := eq_true q4
    have p10 : 0 ≤ ((ji7) : Int) := of_decide_eq_true (by first | (with_reducible assumption) | assumption)
    have q10 : (ji7) < (a0.size : Int) := of_decide_eq_true (by first | (with_reducible assumption) | assumption)
    have hx10 := bt_at a0 (ji7)
    replace p10 := eq_true p10
    replace q10 := eq_true q10
    have hcv16 := own_string (P := Tryd.prog) Tryd.underlying52 Tryd.underlying5 Tryd.underlying9 (Kd.own_of_R HO_5.out)
    go_wp2_with (first | ((with_reducible refine gate_builtin (b := .append) (xs := #[.tmp 39, .tmp 42]) rfl ?_); at_builtin; refine Kd.R_append Kd.string (w0 := w) w.heap.size rfl (.tmp 39) (.tmp 42) 22 9 (.string ⟨#[]⟩) 16 rfl Tryd.underlying22 info9 rfl (by decide) (by omega) u4 x4_1 (strOfNums x5_1) [.string (strOfNums x5_1)] (fun _ => True) (fun _ => False) rfl rfl ?aP (fun _ hk => hk.elim) ?aF ?aO ?aB ?aS ?aL ?_; (case aP => exact rfl); (case aB => exact bl_); (case aF => exact (fun _ _ => trivial)); (case aO => exact (by (with_reducible repeat (first | apply Kd.R_alloc | apply Kd.R_drewN | apply Kd.R_drew)); exact HO_4.out)); (case aS => exact bsz bl_); (case aL => have := LMc15.out; omega); intro v307 w17 ho hb hg hat; rw [← Ny306.out] at ho; have n0_ := Aside0.mk (Kd.R_over' (by (with_reducible repeat (first | apply Kd.R_alloc | apply Kd.R_drewN | apply Kd.R_drew)); exact HO_5.out) (Kd.R_typed (by (with_reducible repeat (first | apply Kd.R_alloc | apply Kd.R_drewN | apply Kd.R_drew)); exact HO_4.out)) (by decide) hg); have n1_ := Aside0.mk (hb); have n2_ := Aside0.mk (ho); clear HO_5; clear HB; clear HO_4; have HO_5 := n0_; have HB := n1_; have HO308 := n2_; clear n0_ n1_ n2_; clear ho hb hg hat))
    go_roundg k1
    case measure => have := HK1.out; omega
    case rel => exact ⟨(y306), (([] : List Int)), (wrap64 ((ji7) + 1)), (by first | rfl | (simp; done) | (simp only [← hji7] <;> (first | rfl | simp)) | (simp [*]; done)), H', ⟨by have := HK1.out; omega⟩, ⟨by (with_reducible repeat (first | apply Kd.R_alloc | apply Kd.R_drewN | apply Kd.R_drew)); exact HO308.out⟩, ⟨by first | exact Kd.R_nil _ _ _ _ _ | exact Kd.N_nil _ _ _ _ _ | exact Kd.V_nil _ _ _ _ _ | exact Kd.Q_nil _ _ _ _ _ | exact Kd.S_nil _ _ _ _ _⟩, ⟨bl_⟩⟩
end Go.Proofs.YtndekeigagjfiaaDoor.PA

namespace Go.Proofs.YtndekeigagjfiaaDoor.PA
set_option linter.unusedSimpArgs false
open Go.RowKit Go.Proofs.YtndekeigagjfiaaDoorW.PrintWords Go.Proofs.YtndekeigagjfiaaDoorW.PrintLast Go.Proofs.YtndekeigagjfiaaDoorW.PrintMore Go.Proofs.YtndekeigagjfiaaDoor Go.Proofs.YtndekeigagjfiaaDoor.PL
set_option maxHeartbeats 4000000 in
set_option maxRecDepth 1000000 in
theorem armoirelaw02_CodecKeys.walk (A0 : Option Addr) (c0 : Nat) (l0 : List ByteArray) (a1 : ByteArray) (w : World) (hr0 : Kd.C Kd.string w A0 l0.length l0) (hc0 : l0.length ≤ c0) :
    Calls Tryd.prog 6 #[.slice A0 l0.length c0, .string a1] w fun e w' => e = .returned (.bool true) ∧ Below w.heap.size w w' := by
  obtain ⟨k1, hF⟩ := Ev.rounds (few_f l0 (Kd.C_max hr0) 5 12 (by omega))
  have hkl := few_key l0 5 12 (by omega) (by omega)
  generalize (l0.take 5).map (cutm 12) = L at hF hkl
  have hcut := cut_f a1 40
  have hcs := cut_size a1 40
  generalize a1.extract 0 (min 40 a1.size) = s at hcut hcs
  have HF := Aside0.mk hF
  have HC := Aside0.mk hcut
  have HKL := Aside0.mk hkl
  have HCS := Aside0.mk hcs
  have HR0 := Aside0.mk hr0
  clear hF hcut hkl hcs hr0
  go_enter Tryd.func6, Tryd.ntmps6
  go_wp2_with fail
  refine (armoirelaw02_Few.calls k1 A0 c0 l0 5 12 L _ HR0.out hc0 HF.out).mono ?_
  rintro e w1 ⟨v, rfl, hR, hB⟩
  obtain ⟨A1, c1, rfl⟩ := Kd.R_slice hR
  have HR1 := Aside0.mk hR
  have HB1 := Aside0.mk hB
  clear hR hB
  go_wp2_with fail
  refine (armoirelaw01_Cut.calls a1 40 s _ HC.out).mono ?_
  rintro e w2 ⟨rfl, hD⟩
  have HR2 := Aside0.mk (Kd.R_below HR1.out hD.below)
  have HB2 := Aside0.mk (bsp HB1.out hD.below)
  clear hD HR1 HB1
  go_wp2_with fail
  refine (armoirelaw02_awake.calls true _ rfl).mono ?_
  rintro e w3 ⟨rfl, hD⟩
  have HR3 := Aside0.mk (Kd.R_below HR2.out hD)
  have HB3 := Aside0.mk (bsp HB2.out hD)
  clear hD HR2 HB2
  go_wp2_with fail
  refine (codec_Key.calls A1 c1 L ⟨(keyB L).toArray⟩ _ (Kd.R_reads' HR3.out).2.2 (Kd.R_reads' HR3.out).2.1 (key_f L (by have := HKL.out.1; omega))).mono ?_
  rintro e w4 ⟨rfl, hD⟩
  have HR4 := Aside0.mk (Kd.R_below HR3.out hD)
  have HB4 := Aside0.mk (bsp HB3.out hD)
  clear hD HR3 HB3
  obtain ⟨k4, hP⟩ := Ev.rounds (parts_f ⟨(keyB L).toArray⟩ (by rw [ba_mk_size]; have := HKL.out.1; omega))
  rw [ba_mk, pz_key, List.nil_append] at hP
  have HP := Aside0.mk hP
  clear hP
  go_wp2_with fail
  refine (codec_Parts.calls2 k4 ⟨(keyB L).toArray⟩ L 0 _ HP.out).mono ?_
  rintro e w5 ⟨v5, rfl, hR5, hD, _⟩
  obtain ⟨A5, c5, rfl⟩ := Kd.R_slice hR5
  have HS5 := Aside0.mk hR5
  have HR5 := Aside0.mk (Kd.R_below HR4.out hD)
  have HB5 := Aside0.mk (bsp HB4.out hD)
  clear hD HR4 HB4 HP hR5
  obtain ⟨k6, hP⟩ := Ev.rounds (parts_f s (by have := HCS.out; omega))
  obtain ⟨k7, hQ⟩ := Ev.rounds (rparts_f s (by have := HCS.out; omega))
  have he := pz_err s.data.toList.length s.data.toList [] [] (Nat.le_refl _)
  have hk := pz_back s.data.toList.length s.data.toList [] []
  have hlen : (pz [] [] s.data.toList).1.length ≤ 100 := by
    have h1 := pz_len s.data.toList.length s.data.toList [] [] (Nat.le_refl _)
    have h2 := HCS.out
    rw [← ba_size] at h1
    simp only [List.length_nil] at h1
    omega
  generalize pz [] [] s.data.toList = pf at hP hQ he hk hlen
  obtain ⟨ps, f⟩ := pf
  dsimp only at he hlen
  have HP := Aside0.mk hP
  have HQ := Aside0.mk hQ
  have HE := Aside0.mk he
  have HK := Aside0.mk hk
  clear hP hQ he hk
  go_wp2_with fail
  refine (codec_Parts.calls2 k6 s ps f _ HP.out).mono ?_
  rintro e w6 ⟨v6, rfl, hR6, hD, hN⟩
  have HN := Aside0.mk hN
  have HT6 := Aside0.mk hR6
  have HS6 := Aside0.mk (Kd.R_below HS5.out hD)
  have HR6 := Aside0.mk (Kd.R_below HR5.out hD)
  have HB6 := Aside0.mk (bsp HB5.out hD)
  clear hD HR5 HS5 HB5 HP hR6 hN
  go_wp2_with fail
  refine (armoireref02_Parts.calls k7 s ps f _ HQ.out).mono ?_
  rintro e w7 ⟨v7, rfl, hR7, hD⟩
  obtain ⟨A7, c7, rfl⟩ := Kd.R_slice hR7
  have HU7 := Aside0.mk hR7
  have HT7 := Aside0.mk (Kd.R_below HT6.out hD)
  have HS7 := Aside0.mk (Kd.R_below HS6.out hD)
  have HR7 := Aside0.mk (Kd.R_below HR6.out hD)
  have HB7 := Aside0.mk (bsp HB6.out hD)
  clear hD HR6 HS6 HT6 HB6 HQ hR7
  go_wp2_with fail
  refine (armoireref02_Key.calls A1 c1 L ⟨(keyB L).toArray⟩ _ (Kd.R_reads' HR7.out).2.2 (Kd.R_reads' HR7.out).2.1 (by unfold armoireref02_Key.f; rw [if_pos (by have := HKL.out.1; omega)])).mono ?_
  rintro e w8 ⟨rfl, hD⟩
  have HU8 := Aside0.mk (Kd.R_below HU7.out hD)
  have HT8 := Aside0.mk (Kd.R_below HT7.out hD)
  have HS8 := Aside0.mk (Kd.R_below HS7.out hD)
  have HR8 := Aside0.mk (Kd.R_below HR7.out hD)
  have HB8 := Aside0.mk (bsp HB7.out hD)
  clear hD HR7 HS7 HT7 HU7 HB7
  have hbk : (Value.bool (((⟨(keyB L).toArray⟩ : ByteArray).toList == (⟨(keyB L).toArray⟩ : ByteArray).toList))) = .bool true := by simp
  have hL5 : L.length ≤ 5 := HKL.out.2
  by_cases hf : f = 0
  · subst hf
    obtain ⟨A6, c6, rfl⟩ := Kd.R_slice HT8.out
    go_wp2_with fail
    go_loopw [74] (fun v74 wr => ∃ i : Nat, v74 = .int .i64 i ∧ i ≤ L.length ∧ Aside0 (Below w8.heap.size w8 wr)) (fun v74 _ => L.length - (intOf v74).toNat)
    case atStart => exact ⟨0, rfl, Nat.zero_le _, ⟨Below.refl _ _⟩⟩
    case round =>
      obtain ⟨i, rfl, hi, HL⟩ := hrel
      by_cases q1 : i < L.length
      · have hC0 := Kd.C_below (Kd.R_reads' HS8.out).2.2 HL.out
        have hC1 := Kd.C_below (Kd.R_reads' HR8.out).2.2 HL.out
        have hp : (0 : Int) ≤ (i : Int) := by omega
        have hq : (i : Int) < (L.length : Int) := by omega
        have hm : i ≤ 9223372036854775806 := by omega
        obtain ⟨ad0, e0, hx0⟩ := Kd.at_string hC0 (i : Int) hp hq
        cases e0
        obtain ⟨ad1, e1, hx1⟩ := Kd.at_string hC1 (i : Int) hp hq
        cases e1
        clear hC0 hC1
        rw [Int.toNat_natCast] at hx0 hx1
        generalize rdOf ByteArray.empty L (i : Int) = y at hx0 hx1
        have hy1 : (y.toList == y.toList) = true := by simp
        have hy2 : (y.toList != y.toList) = false := by simp
        go_wp2
        repeat (go_quiet (fail); try go_wp2)
        go_roundw
        case rel => exact ⟨i + 1, by go_num, by omega, ⟨by repeat (first | exact HL.out | apply bdn)⟩⟩
        case measure => simp [intOf]; omega
      · obtain rfl : i = L.length := by omega
        have HRa := Aside0.mk (Kd.R_below HT8.out HL.out)
        have HRb := Aside0.mk (Kd.R_below HU8.out HL.out)
        have HBa := Aside0.mk (bsp HB8.out HL.out)
        obtain ⟨wz, hwz⟩ : ∃ wz, wz = wr := ⟨_, rfl⟩
        subst hwz
        go_wp2_with fail
        go_loopw [89] (fun v89 wr => ∃ i : Nat, v89 = .int .i64 i ∧ i ≤ ps.length ∧ Aside0 (Below wz.heap.size wz wr)) (fun v89 _ => ps.length - (intOf v89).toNat)
        case atStart => exact ⟨0, rfl, Nat.zero_le _, ⟨Below.refl _ _⟩⟩
        case round =>
          obtain ⟨i, rfl, hi, HL⟩ := hrel
          by_cases q1 : i < ps.length
          · have hC0 := Kd.C_below (Kd.R_reads' HRa.out).2.2 HL.out
            have hC1 := Kd.C_below (Kd.R_reads' HRb.out).2.2 HL.out
            have hp : (0 : Int) ≤ (i : Int) := by omega
            have hq : (i : Int) < (ps.length : Int) := by omega
            have hm : i ≤ 9223372036854775806 := by omega
            obtain ⟨ad0, e0, hx0⟩ := Kd.at_string hC0 (i : Int) hp hq
            cases e0
            obtain ⟨ad1, e1, hx1⟩ := Kd.at_string hC1 (i : Int) hp hq
            cases e1
            clear hC0 hC1
            rw [Int.toNat_natCast] at hx0 hx1
            generalize rdOf ByteArray.empty ps (i : Int) = y at hx0 hx1
            have hy1 : (y.toList == y.toList) = true := by simp
            have hy2 : (y.toList != y.toList) = false := by simp
            go_wp2
            repeat (go_quiet (fail); try go_wp2)
            go_roundw
            case rel => exact ⟨i + 1, by go_num, by omega, ⟨by repeat (first | exact HL.out | apply bdn)⟩⟩
            case measure => simp [intOf]; omega
          · obtain rfl : i = ps.length := by omega
            have HRc := Aside0.mk (Kd.R_below HRa.out HL.out)
            have HBc := Aside0.mk (bsp HBa.out HL.out)
            have hks := HK.out ps (Nat.le_refl _) rfl
            have hkl : (keyB ps).length ≤ 40 := by
              have h2 := HCS.out
              rw [ba_size] at h2
              rw [hks]
              simpa [keyB, esc] using h2
            have es : (⟨(keyB ps).toArray⟩ : ByteArray) = s := by
              rw [hks]
              simp [keyB, esc]
            have HES := Aside0.mk es
            have HKk := Aside0.mk (key_f ps (by omega))
            clear hks hkl es
            have hss : (s.toList == s.toList) = true := by simp
            go_wp2_with fail
            refine (codec_Key.calls A6 c6 ps ⟨(keyB ps).toArray⟩ _ (Kd.R_reads' HRc.out).2.2 (Kd.R_reads' HRc.out).2.1 HKk.out).mono ?_
            rw [HES.out]
            rintro e w9 ⟨rfl, hD⟩
            have HB9 := Aside0.mk (bsp HBc.out hD)
            clear hD
            go_wp2
            go_ret
            exact ⟨rfl, HB9.out⟩
  · obtain rfl : ps = [] := HE.out hf
    obtain rfl := HN.out hf
    have hf1 : (f == 0) = false := beq_eq_false_iff_ne.2 hf
    have hf2 : (f != 0) = true := bne_iff_ne.2 hf
    have hf3 : (f == f) = true := by simp
    have hf4 : (f != f) = false := by simp
    go_wp2_with fail
    go_loopw [74] (fun v74 wr => ∃ i : Nat, v74 = .int .i64 i ∧ i ≤ L.length ∧ Aside0 (Below w8.heap.size w8 wr)) (fun v74 _ => L.length - (intOf v74).toNat)
    case atStart => exact ⟨0, rfl, Nat.zero_le _, ⟨Below.refl _ _⟩⟩
    case round =>
      obtain ⟨i, rfl, hi, HL⟩ := hrel
      by_cases q1 : i < L.length
      · have hC0 := Kd.C_below (Kd.R_reads' HS8.out).2.2 HL.out
        have hC1 := Kd.C_below (Kd.R_reads' HR8.out).2.2 HL.out
        have hp : (0 : Int) ≤ (i : Int) := by omega
        have hq : (i : Int) < (L.length : Int) := by omega
        have hm : i ≤ 9223372036854775806 := by omega
        obtain ⟨ad0, e0, hx0⟩ := Kd.at_string hC0 (i : Int) hp hq
        cases e0
        obtain ⟨ad1, e1, hx1⟩ := Kd.at_string hC1 (i : Int) hp hq
        cases e1
        clear hC0 hC1
        rw [Int.toNat_natCast] at hx0 hx1
        generalize rdOf ByteArray.empty L (i : Int) = y at hx0 hx1
        have hy1 : (y.toList == y.toList) = true := by simp
        have hy2 : (y.toList != y.toList) = false := by simp
        go_wp2
        repeat (go_quiet (fail); try go_wp2)
        go_roundw
        case rel => exact ⟨i + 1, by go_num, by omega, ⟨by repeat (first | exact HL.out | apply bdn)⟩⟩
        case measure => simp [intOf]; omega
      · obtain rfl : i = L.length := by omega
        have HBa := Aside0.mk (bsp HB8.out HL.out)
        obtain ⟨wz, hwz⟩ : ∃ wz, wz = wr := ⟨_, rfl⟩
        subst hwz
        go_wp2_with fail
        go_loopw [89] (fun v89 wr => v89 = .int .i64 0 ∧ Aside0 (Below wz.heap.size wz wr)) (fun _ _ => 0)
        case atStart => exact ⟨rfl, ⟨Below.refl _ _⟩⟩
        case round =>
          obtain ⟨rfl, HL2⟩ := hrel
          have HBc := Aside0.mk (bsp HBa.out HL2.out)
          go_wp2
          go_ret
          exact ⟨rfl, HBc.out⟩
end Go.Proofs.YtndekeigagjfiaaDoor.PA

