import Derived.Test.YtndekeigagjfiaaDoorQKyMShelf
import Derived.Test.YtndekeigagjfiaaDoorQKyWMore
import Derived.Lib.IndexBytes
import Derived.Lib.Strings
import Derived.Deep.LoopGhost
import Derived.Deep.DeepMust
import Derived.WalkLawsBesides
import Derived.Deep.QuietTactic
import Derived.BigQuiet
import Derived.Lib.ConvBytes
import Derived.Laws.BytesArg
import Derived.Laws.BitsLemmas
import Derived.Below
import Derived.WalkKit
import Derived.Test.YtndekeigagjfiaaDoorQKyWWords
import Derived.Test.YtndekeigagjfiaaDoorProg
namespace Go.Proofs.YtndekeigagjfiaaDoor
open Go.RowKit Go.Proofs.YtndekeigagjfiaaDoorW.PrintWords Go.Proofs.YtndekeigagjfiaaDoorW.PrintLast
def esc : List UInt8 → List UInt8
  | [] => []
  | c :: l => if c = 0 then 0 :: 255 :: esc l else c :: esc l
def keyB : List ByteArray → List UInt8
  | [] => []
  | s :: l => esc s.data.toList ++ 0 :: 1 :: keyB l
theorem esc_length (l : List UInt8) : (esc l).length = l.length + l.count 0 := by
  induction l with
  | nil => rfl
  | cons c l ih =>
    unfold esc
    by_cases h : c = 0
    · subst h; rw [if_pos rfl]; simp [ih]; omega
    · rw [if_neg h, List.count_cons_of_ne h]; simp [ih]; omega
theorem esc_le (l : List UInt8) : l.length ≤ (esc l).length := by rw [esc_length]; omega
theorem esc_none (l : List UInt8) (h : l.count 0 = 0) : esc l = l := by
  induction l with
  | nil => rfl
  | cons c l ih =>
    unfold esc
    by_cases hc : c = 0
    · subst hc; simp at h
    · rw [if_neg hc]; rw [List.count_cons_of_ne hc] at h; rw [ih h]
theorem esc_hit (g : Nat) (l : List UInt8) (h : l.count 0 = g + 1) : ∃ j : Nat, Lib.indexByte l 0 = j ∧ j < l.length ∧ esc l = l.take j ++ 0 :: 255 :: esc (l.drop (j + 1)) ∧ (l.drop (j + 1)).count 0 = g := by
  induction l with
  | nil => simp at h
  | cons c l ih =>
    by_cases hc : c = 0
    · subst hc
      refine ⟨0, by simp [Lib.indexByte], by simp, by simp [esc], ?_⟩
      simp at h ⊢
      exact h
    · rw [List.count_cons_of_ne hc] at h
      obtain ⟨j, h1, h2, h3, h4⟩ := ih h
      refine ⟨j + 1, ?_, by simp; omega, ?_, by simpa using h4⟩
      · unfold Lib.indexByte
        have e1 : (c == 0) = false := by simpa using hc
        have e2 : (Lib.indexByte l 0 == -1) = false := by rw [h1]; exact beq_eq_false_iff_ne.2 (by omega)
        rw [e1, e2, h1]; simp
      · rw [esc, if_neg hc, h3]; simp
set_option maxHeartbeats 8000000 in
set_option maxRecDepth 1000000 in
theorem replace0 (s : ByteArray) (w : World) (hlen : s.size + s.data.toList.count 0 ≤ 140737488355328) :
    Calls Tryd.prog 47 #[.string s, .string ⟨#[0]⟩, .string ⟨#[0, 255]⟩, .int .i64 (-1)] w fun e w' => e = .returned (.string ⟨(esc s.data.toList).toArray⟩) ∧ Below w.heap.size w w' := by
  obtain ⟨K, hK⟩ : ∃ K : Nat, s.data.toList.count 0 = K := ⟨_, rfl⟩
  have hC := Tryd.strings_Count_one s 0 w
  rw [show Lib.countByte s.data.toList 0 = K from hK] at hC
  rw [hK] at hlen
  have hKn := Aside0.mk hK
  clear hK
  by_cases hz : K = 0
  · subst hz
    have hC0 : Calls Tryd.prog 50 #[.string s, .string ⟨#[0]⟩] w fun e w' => e = .returned (.int .i64 0) ∧ w' = w := hC
    clear hC
    go_enter Tryd.func47, Tryd.ntmps47
    go_wp2_with (first | (go_at_call 50; refine hC0.mono ?_; rintro e w' ⟨rfl, hw⟩; rw [hw]))
    go_ret
    refine ⟨?_, Below.refl _ _⟩
    rw [esc_none _ hKn.out, Lib.mk_data]
    rfl
  · have hcz : ((K : Int) == 0) = false := beq_eq_false_iff_ne.2 (by omega)
    have hK1 : 0 < K := by omega
    clear hz
    go_enter Tryd.func47, Tryd.ntmps47
    go_wp2_with (first | (go_at_call 50; refine hC.mono ?_; rintro e w' ⟨rfl, hw⟩; rw [hw]))
    clear hC
    rw [show (s.size : Int) + (K : Int) = ((s.size + K : Nat) : Int) by omega]
    refine (Tryd.Builder_Grow_fresh w.heap.size w.heap.size _ _ (Nat.le_refl _) (heap_alloc_new w _) (by simp) (by omega)).mono ?_
    rintro e w1 ⟨rfl, hb0, hb1⟩
    have H1 := Aside0.mk (Or.inr hb0 : Lib.IsBuilder 68 5 w.heap.size w.heap.size (Lib.byteCells []) w1)
    have Hb1 := Aside0.mk (((Below.refl w.heap.size w).alloc (Nat.le_refl _) _).trans hb1)
    clear hb0 hb1
    go_wp2_with fail
    go_loopg [11, 53] K (fun g s11 s53 wx => ∃ (i start : Nat) (acc : List UInt8), s53 = .int .i64 i ∧ s11 = .int .i64 start ∧ i + g = K ∧ start ≤ s.size ∧
      Aside0 (Lib.IsBuilder 68 5 w.heap.size w.heap.size (Lib.byteCells acc) wx) ∧ Aside0 (Below w.heap.size w wx) ∧ Aside0 (acc ++ esc (s.data.toList.drop start) = esc s.data.toList) ∧
      Aside0 ((s.data.toList.drop start).count 0 = g) ∧ acc.length + (s.size - start) + g ≤ s.size + K)
    case atStart => exact ⟨0, 0, [], rfl, rfl, by omega, Nat.zero_le _, H1, Hb1, ⟨by simp⟩, ⟨by simpa using hKn.out⟩, by simp⟩
    case round =>
      obtain ⟨i, start, acc, rfl, rfl, hig, hst, HB, HW, HR, HG, hbd⟩ := hrel
      have hBw : w.heap.size ≤ wr.heap.size := HW.out.size
      have c1 : (0 : Int) ≤ (start : Int) := by omega
      have c2 : (start : Int) ≤ (s.size : Int) := by omega
      cases gk with
      | zero =>
        have hiK : ¬ ((i : Int) < (K : Int)) := by omega
        go_wp2_with fail
        refine (Tryd.Builder_WriteString w.heap.size w.heap.size _ _ wr HB.out (by rw [Lib.byteCells_length, ByteArray.size_extract]; omega) hBw).mono ?_
        rintro e w3 ⟨rfl, h3, hb3⟩
        rw [Lib.strCells_eq, Lib.extract_to_end, ← Lib.byteCells_append] at h3
        have hfin : acc ++ s.data.toList.drop start = esc s.data.toList := by rw [← HR.out, esc_none _ HG.out]
        rw [hfin] at h3
        have H3 := Aside0.mk (Or.inr h3 : Lib.IsBuilder 68 5 w.heap.size w.heap.size _ w3)
        have Hb3 := Aside0.mk (HW.out.trans hb3)
        have hBw3 : w.heap.size ≤ w3.heap.size := Hb3.out.size
        clear h3 hb3 hfin
        go_wp2_with fail
        refine (Tryd.Builder_String_any w.heap.size w.heap.size _ w3 H3.out hBw3).mono ?_
        rintro e w5 ⟨rfl, hb5⟩
        have Hb5 := Aside0.mk (Hb3.out.trans hb5)
        clear hb5
        go_wp2
        go_ret
        exact ⟨rfl, Hb5.out⟩
      | succ g =>
        have hiK : (i : Int) < (K : Int) := by omega
        obtain ⟨j, hj, hjl, hje, hjc⟩ := esc_hit g _ HG.out
        have hlenL : s.data.toList.length = s.size := (Lib.size_eq s).symm
        have hroom : j + 1 ≤ s.size - start := by
          rw [List.length_drop, hlenL] at hjl
          omega
        have c3 : (start : Int) ≤ (start : Int) + (j : Int) := by omega
        have c4 : (start : Int) + (j : Int) ≤ (s.size : Int) := by omega
        have hnext : Lib.byteCells acc ++ Lib.strCells (s.extract start (start + j)) ++ Lib.strCells ⟨#[0, 255]⟩ = Lib.byteCells (acc ++ (s.data.toList.drop start).take j ++ [0, 255]) := by
          rw [Lib.strCells_eq, Lib.strCells_eq, Lib.extract_data, Nat.add_sub_cancel_left, ← Lib.byteCells_append, ← Lib.byteCells_append]
        have hrep : (acc ++ (s.data.toList.drop start).take j ++ [0, 255]) ++ esc (s.data.toList.drop (start + j + 1)) = esc s.data.toList := by
          rw [← HR.out, hje, List.drop_drop]
          simp only [List.append_assoc, Nat.add_assoc, List.cons_append, List.nil_append]
        have hcnt : (s.data.toList.drop (start + j + 1)).count 0 = g := by
          rw [List.drop_drop] at hjc
          exact hjc
        have htl : ((s.data.toList.drop start).take j).length = j := by rw [List.length_take, List.length_drop, hlenL]; omega
        have Hn := Aside0.mk hnext
        have Hrep := Aside0.mk hrep
        have Hcnt := Aside0.mk hcnt
        have Htl := Aside0.mk htl
        have Hj := Aside0.mk hj
        clear hnext hrep HR hcnt htl hj hje hjc hjl hlenL HG
        go_wp2_with (first | (go_at_call 52; refine (Tryd.strings_Index_one _ 0 _).mono ?_; rintro e w' ⟨rfl, hw⟩; rw [hw, Lib.extract_to_end, Hj.out]))
        refine (Tryd.Builder_WriteString w.heap.size w.heap.size _ (s.extract start (start + j)) wr HB.out (by rw [Lib.byteCells_length, ByteArray.size_extract]; omega) hBw).mono ?_
        rintro e w3 ⟨rfl, h3, hb3⟩
        have hBw3 : w.heap.size ≤ w3.heap.size := Nat.le_trans hBw hb3.size
        have H3 := Aside0.mk h3
        have Hb3 := Aside0.mk hb3
        clear h3 hb3
        go_wp2_with fail
        refine (Tryd.Builder_WriteString w.heap.size w.heap.size _ ⟨#[0, 255]⟩ w3 (Or.inr H3.out) (by rw [List.length_append, Lib.byteCells_length, Lib.strCells_length, ByteArray.size_extract, show (⟨#[0, 255]⟩ : ByteArray).size = 2 from rfl]; omega) hBw3).mono ?_
        rintro e w4 ⟨rfl, h4, hb4⟩
        rw [Hn.out] at h4
        have H4 := Aside0.mk (Or.inr h4 : Lib.IsBuilder 68 5 w.heap.size w.heap.size _ w4)
        have Hb4 := Aside0.mk ((HW.out.trans Hb3.out).trans hb4)
        clear h4 hb4
        go_wp2
        go_roundg g
        case measure => omega
        case rel => exact ⟨i + 1, start + j + 1, _, by first | rfl | (simp; unfold wrap64; omega), by first | rfl | simp | (simp; unfold wrap64; omega), by omega, by omega, H4, Hb4, Hrep, Hcnt, by simp only [List.length_append, Htl.out, List.length_cons, List.length_nil]; omega⟩
set_option maxHeartbeats 4000000 in
set_option maxRecDepth 1000000 in
theorem replaceAll0 (s : ByteArray) (w : World) (hlen : s.size + s.data.toList.count 0 ≤ 140737488355328) :
    Calls Tryd.prog 36 #[.string s, .string ⟨#[0]⟩, .string ⟨#[0, 255]⟩] w fun e w' => e = .returned (.string ⟨(esc s.data.toList).toArray⟩) ∧ Below w.heap.size w w' := by
  have c := replace0 s w hlen
  go_enter Tryd.func36, Tryd.ntmps36
  go_wp2_with (go_at_call 47; refine c.mono ?_; rintro e w' ⟨rfl, hw⟩)
  go_ret
  exact ⟨rfl, hw⟩
theorem size_of_toArray (l : List UInt8) : (⟨l.toArray⟩ : ByteArray).size = l.length := by
  show l.toArray.size = _
  simp
theorem fresh_builder (w : World) : Lib.IsBuilder 68 5 w.heap.size w.heap.size (Lib.byteCells []) (w.alloc (.cells #[.pointer none, .slice none 0 0] 68)) := Lib.fresh_isBuilder _ _ w
theorem isBuilder_below {T e : TypeId} {B b : Nat} {bs : List Value} {w w1 : World} (h : Lib.IsBuilder T e B b bs w) (hb : Below w.heap.size w w1) : Lib.IsBuilder T e B b bs w1 := by
  have k : ∀ p, Lib.BuilderAt T e B b p bs w → Lib.BuilderAt T e B b p bs w1 := by
    rintro p ⟨hB, v, h1, h2, h3⟩
    exact ⟨hB, v, kbl h1 hb, ⟨h2.1, h2.2.imp id fun ⟨g, cap, cur, e1, e2, e3, r⟩ => ⟨g, cap, cur, e1, e2, kbl e3 hb, r⟩⟩, h3⟩
  exact h.imp (k _) (k _)
theorem keyB_append (a b : List ByteArray) : keyB (a ++ b) = keyB a ++ keyB b := by
  induction a with
  | nil => rfl
  | cons s a ih => simp [keyB, ih]
def codec_Key.f (l : List ByteArray) : Option ByteArray := if (keyB l).length ≤ 140737488351232 then some ⟨(keyB l).toArray⟩ else none
set_option maxHeartbeats 4000000 in
set_option maxRecDepth 1000000 in
theorem codec_Key.calls (A0 : Option Addr) (c0 : Nat) (l0 : List ByteArray) (r : ByteArray) (w : World) (hr0 : Kd.C Kd.string w A0 l0.length l0) (_hc0 : l0.length ≤ c0) (h : codec_Key.f l0 = some r) :
    Calls Tryd.prog 11 #[.slice A0 l0.length c0] w fun e w' => e = .returned (.string r) ∧ Below w.heap.size w w' := by
  unfold codec_Key.f at h
  by_cases c : (keyB l0).length ≤ 140737488351232
  rotate_left
  · rw [if_neg c] at h; cases h
  rw [if_pos c] at h
  obtain rfl := Option.some.inj h
  clear h
  have HC0 := Aside0.mk c
  have HR := Aside0.mk hr0
  have hll : l0.length ≤ 9223372036854775807 := Kd.C_max hr0
  clear hr0 c
  go_enter Tryd.func11, Tryd.ntmps11
  go_wp2_with fail
  have HB0 := Aside0.mk (fresh_builder w)
  have HL0 := Aside0.mk ((Below.refl w.heap.size w).alloc (Nat.le_refl _) (.cells #[.pointer none, .slice none 0 0] 68))
  go_loopw [8] (fun v8 wr => ∃ i : Nat, v8 = .int .i64 i ∧ i ≤ l0.length ∧ Aside0 (Lib.IsBuilder 68 5 w.heap.size w.heap.size (Lib.byteCells (keyB (l0.take i))) wr) ∧ Aside0 (Below w.heap.size w wr)) (fun v8 _ => l0.length - (intOf v8).toNat)
  case atStart => exact ⟨0, rfl, Nat.zero_le _, by simpa [keyB] using HB0, HL0⟩
  case round =>
    obtain ⟨i, rfl, hi, HB, HL⟩ := hrel
    clear HB0 HL0
    have hBw : w.heap.size ≤ wr.heap.size := HL.out.size
    by_cases c1 : i < l0.length
    · have hC := Kd.C_below HR.out HL.out
      have hp : (0 : Int) ≤ (i : Int) := by omega
      have hq : (i : Int) < (l0.length : Int) := by omega
      obtain ⟨ad, e1, hx⟩ := Kd.at_string hC (i : Int) hp hq
      cases e1
      have he : rdOf ByteArray.empty l0 (i : Int) = l0[i] := by simp [rdOf, List.getD_eq_getElem?_getD, c1]
      rw [he, Int.toNat_natCast] at hx
      obtain ⟨t, ht⟩ : ∃ t, t = l0[i] := ⟨_, rfl⟩
      rw [← ht] at hx
      have hk1 : keyB (l0.take (i + 1)) = keyB (l0.take i) ++ (esc t.data.toList ++ [0, 1]) := by
        rw [List.take_succ_eq_append_getElem c1, keyB_append, ← ht]; rfl
      have hk2 : (keyB (l0.take i)).length + (esc t.data.toList).length + 2 ≤ 140737488351232 := by
        have h1 := HC0.out
        have h2 : keyB l0 = keyB (l0.take (i + 1)) ++ keyB (l0.drop (i + 1)) := by rw [← keyB_append, List.take_append_drop]
        rw [h2, List.length_append, hk1, List.length_append, List.length_append] at h1
        simp only [List.length_cons, List.length_nil] at h1
        omega
      have hr := replaceAll0 t wr (by rw [esc_length] at hk2; rw [Lib.size_eq]; omega)
      have HK1 := Aside0.mk hk1
      have HK2 := Aside0.mk hk2
      have HT := Aside0.mk ht
      clear hk1 hk2 ht he hp hq hC
      go_wp2_with (go_at_call 36; refine hr.mono ?_; rintro e w1 ⟨rfl, hb1⟩)
      have HB1 := Aside0.mk (isBuilder_below HB.out hb1)
      have HL1 := Aside0.mk (bsp HL.out hb1)
      have hBw1 : w.heap.size ≤ w1.heap.size := HL1.out.size
      clear hr hb1
      refine (Tryd.Builder_WriteString w.heap.size w.heap.size _ ⟨(esc t.data.toList).toArray⟩ w1 HB1.out (by rw [Lib.byteCells_length, size_of_toArray]; have := HK2.out; omega) hBw1).mono ?_
      rintro e w3 ⟨rfl, h3, hb3⟩
      have HL3 := Aside0.mk (HL1.out.trans hb3)
      have hBw3 : w.heap.size ≤ w3.heap.size := HL3.out.size
      have H3 := Aside0.mk h3
      clear h3 hb3
      go_wp2_with fail
      refine (Tryd.Builder_WriteString w.heap.size w.heap.size _ ⟨#[0, 1]⟩ w3 (Or.inr H3.out) (by rw [List.length_append, Lib.byteCells_length, Lib.strCells_length, size_of_toArray, show (⟨#[0, 1]⟩ : ByteArray).size = 2 from rfl]; have := HK2.out; omega) hBw3).mono ?_
      rintro e w4 ⟨rfl, h4, hb4⟩
      have HL4 := Aside0.mk (HL3.out.trans hb4)
      have H4 : Aside0 (Lib.IsBuilder 68 5 w.heap.size w.heap.size (Lib.byteCells (keyB (l0.take (i + 1)))) w4) := ⟨by
        rw [HK1.out, Lib.byteCells_append, Lib.byteCells_append, ← List.append_assoc]
        exact Or.inr h4⟩
      clear h4 hb4
      go_wp2
      go_roundw
      case rel => exact ⟨i + 1, by go_num, by omega, H4, HL4⟩
      case measure => simp [intOf]; omega
    · obtain rfl : i = l0.length := by omega
      rw [List.take_length] at HB
      go_wp2_with fail
      refine (Tryd.Builder_String_any w.heap.size w.heap.size _ wr HB.out hBw).mono ?_
      rintro e w5 ⟨rfl, hb5⟩
      have HL5 := Aside0.mk (HL.out.trans hb5)
      clear hb5
      go_wp2
      go_ret
      exact ⟨rfl, HL5.out⟩
end Go.Proofs.YtndekeigagjfiaaDoor

namespace Go.Proofs.YtndekeigagjfiaaDoor
open Go.RowKit Go.Proofs.YtndekeigagjfiaaDoorW.PrintWords Go.Proofs.YtndekeigagjfiaaDoorW.PrintLast
theorem esc_append (a b : List UInt8) : esc (a ++ b) = esc a ++ esc b := by
  induction a with
  | nil => rfl
  | cons c a ih => by_cases h : c = 0 <;> simp [esc, h, ih]
def armoireref02_Key.f (l : List ByteArray) : Option ByteArray := if (keyB l).length ≤ 140737488351232 then some ⟨(keyB l).toArray⟩ else none
set_option maxHeartbeats 4000000 in
set_option maxRecDepth 1000000 in
theorem armoireref02_Key.calls (A0 : Option Addr) (c0 : Nat) (l0 : List ByteArray) (r : ByteArray) (w : World) (hr0 : Kd.C Kd.string w A0 l0.length l0) (_hc0 : l0.length ≤ c0) (h : armoireref02_Key.f l0 = some r) :
    Calls Tryd.prog 24 #[.slice A0 l0.length c0] w fun e w' => e = .returned (.string r) ∧ Below w.heap.size w w' := by
  unfold armoireref02_Key.f at h
  by_cases c : (keyB l0).length ≤ 140737488351232
  rotate_left
  · rw [if_neg c] at h; cases h
  rw [if_pos c] at h
  obtain rfl := Option.some.inj h
  clear h
  have HC0 := Aside0.mk c
  have HR := Aside0.mk hr0
  have hll : l0.length ≤ 9223372036854775807 := Kd.C_max hr0
  clear hr0 c
  go_enter Tryd.func24, Tryd.ntmps24
  go_wp2
  go_loopw [3, 9] (fun v3 v9 wr => ∃ (i : Nat) (s : ByteArray), v9 = .int .i64 i ∧ v3 = .string s ∧ i ≤ l0.length ∧ Aside0 (s.data.toList = keyB (l0.take i)) ∧ Aside0 (Below w.heap.size w wr)) (fun _ v9 _ => l0.length - (intOf v9).toNat)
  case atStart => exact ⟨0, ⟨#[]⟩, rfl, rfl, Nat.zero_le _, ⟨rfl⟩, ⟨Below.refl _ _⟩⟩
  case round =>
    obtain ⟨i, s, rfl, rfl, hi, HS, HL⟩ := hrel
    by_cases c1 : i < l0.length
    · have hC := Kd.C_below HR.out HL.out
      have hp : (0 : Int) ≤ (i : Int) := by omega
      have hq : (i : Int) < (l0.length : Int) := by omega
      obtain ⟨ad, e1, hx⟩ := Kd.at_string hC (i : Int) hp hq
      cases e1
      have he : rdOf ByteArray.empty l0 (i : Int) = l0[i] := by simp [rdOf, List.getD_eq_getElem?_getD, c1]
      rw [he, Int.toNat_natCast] at hx
      obtain ⟨t, ht⟩ : ∃ t, t = l0[i] := ⟨_, rfl⟩
      rw [← ht] at hx
      have hk1 : keyB (l0.take (i + 1)) = keyB (l0.take i) ++ (esc t.data.toList ++ [0, 1]) := by
        rw [List.take_succ_eq_append_getElem c1, keyB_append, ← ht]; rfl
      have hk2 : s.size + (esc t.data.toList).length + 2 ≤ 140737488351232 := by
        have h1 := HC0.out
        have h2 : keyB l0 = keyB (l0.take (i + 1)) ++ keyB (l0.drop (i + 1)) := by rw [← keyB_append, List.take_append_drop]
        rw [h2, List.length_append, hk1, List.length_append, List.length_append, ← HS.out, ← Lib.size_eq] at h1
        simp only [List.length_cons, List.length_nil] at h1
        omega
      have hk3 := esc_le t.data.toList
      rw [← Lib.size_eq] at hk3
      have hts : t.size ≤ 140737488351232 := by omega
      have HK1 := Aside0.mk hk1
      have HK2 := Aside0.mk hk2
      have HT := Aside0.mk ht
      clear hk1 hk2 hk3 ht he hp hq hC
      go_wp2
      go_loopw [3, 6] (fun v3 v6 wi => ∃ (j : Nat) (u : ByteArray), v6 = .int .i64 j ∧ v3 = .string u ∧ j ≤ t.size ∧ Aside0 (u.data.toList = s.data.toList ++ esc (t.data.toList.take j)) ∧ u.size ≤ 140737488351230 ∧ Aside0 (Below w.heap.size w wi)) (fun _ v6 _ => t.size - (intOf v6).toNat)
      case atStart => exact ⟨0, s, rfl, rfl, Nat.zero_le _, ⟨by simp [esc]⟩, by have := HK2.out; omega, HL⟩
      case round =>
        obtain ⟨j, u, rfl, rfl, hj, HU, hul, HLi⟩ := hrel
        by_cases c2 : j < t.size
        · have hjl : j < t.data.toList.length := by rw [← Lib.size_eq]; exact c2
          have h0 : (0 : Int) ≤ (j : Int) := by omega
          have h1 : (j : Int) < (t.size : Int) := by omega
          have h2 : (j : Int) ≤ (j : Int) + 1 := by omega
          have h3 : (j : Int) + 1 ≤ (t.size : Int) := by omega
          obtain ⟨b, hb⟩ : ∃ b : UInt8, b = t.data.toList[j] := ⟨_, rfl⟩
          have hx1 : ∀ hh : j < t.size, ((t[j]'hh).toNat : Int) = (b.toNat : Int) := by
            intro hh
            rw [hb]
            rfl
          have hes : esc (t.data.toList.take (j + 1)) = esc (t.data.toList.take j) ++ (if b = 0 then [0, 255] else [b]) := by
            rw [List.take_succ_eq_append_getElem hjl, esc_append, ← hb]
            by_cases hb0 : b = 0 <;> simp [esc, hb0]
          have hex : (t.extract j (j + 1)).data.toList = [b] := by
            rw [Lib.extract_data, Nat.add_sub_cancel_left, List.drop_eq_getElem_cons hjl, ← hb]
            rfl
          have hes2 : u.size + (if b = 0 then 2 else 1) ≤ 140737488351230 := by
            have h2 := HK2.out
            have h3 : esc t.data.toList = esc (t.data.toList.take (j + 1)) ++ esc (t.data.toList.drop (j + 1)) := by rw [← esc_append, List.take_append_drop]
            have h4 : u.size = s.size + (esc (t.data.toList.take j)).length := by rw [Lib.size_eq u, HU.out, List.length_append, ← Lib.size_eq]
            rw [h3, List.length_append, hes, List.length_append] at h2
            by_cases hb0 : b = 0
            · rw [if_pos hb0] at h2 ⊢; simp only [List.length_cons, List.length_nil] at h2; omega
            · rw [if_neg hb0] at h2 ⊢; simp only [List.length_cons, List.length_nil] at h2; omega
          have hz : (t.extract j (j + 1)).size = 1 := by rw [Lib.size_eq, hex]; rfl
          have HES := Aside0.mk hes
          have HEX := Aside0.mk hex
          clear hes hex hb
          by_cases hb0 : b = 0
          · subst hb0
            rw [if_pos rfl] at hes2
            have hc : (((0 : UInt8).toNat : Int) == 0) = true := rfl
            have hx2 : ∀ hh : j < t.size, ((t[j]'hh).toNat : Int) = 0 := hx1
            clear hx1 hc
            go_wp2
            go_roundw
            case rel => exact ⟨j + 1, u ++ t.extract j (j + 1) ++ ⟨#[255]⟩, by go_num, by simp, by omega, ⟨by
              rw [HES.out, if_pos rfl, ByteArray.data_append, ByteArray.data_append, Array.toList_append, Array.toList_append, HEX.out, HU.out]
              simp⟩, by rw [ByteArray.size_append, ByteArray.size_append, hz]; exact hes2, HLi⟩
            case measure => simp [intOf]; omega
          · rw [if_neg hb0] at hes2
            have hbn : ((b.toNat : Int) == 0) = false := beq_eq_false_iff_ne.2 (fun e => hb0 (UInt8.toNat_inj.1 (by simpa using e)))
            have HB0 := Aside0.mk hb0
            clear hb0
            go_wp2
            go_roundw
            case rel => exact ⟨j + 1, u ++ t.extract j (j + 1), by go_num, by simp, by omega, ⟨by
              rw [HES.out, if_neg HB0.out, ByteArray.data_append, Array.toList_append, HEX.out, HU.out]
              simp⟩, by rw [ByteArray.size_append, hz]; exact hes2, HLi⟩
            case measure => simp [intOf]; omega
        · obtain rfl : j = t.size := by omega
          have hU := HU.out
          rw [show t.data.toList.take t.size = t.data.toList by rw [Lib.size_eq, List.take_length]] at hU
          have HU2 := Aside0.mk hU
          clear hU HU
          go_wp2
          go_roundw
          case rel => exact ⟨i + 1, u ++ ⟨#[0, 1]⟩, by go_num, rfl, by omega, ⟨by
            rw [HK1.out, ByteArray.data_append, Array.toList_append, HU2.out, HS.out]
            simp⟩, HLi⟩
          case measure => simp [intOf]; omega
    · obtain rfl : i = l0.length := by omega
      have hS := HS.out
      rw [List.take_length] at hS
      have e9 : s = ⟨(keyB l0).toArray⟩ := by rw [← hS, Lib.mk_data]
      subst e9
      go_wp2
      go_ret
      exact ⟨rfl, HL.out⟩
end Go.Proofs.YtndekeigagjfiaaDoor

namespace Go.Proofs.YtndekeigagjfiaaDoor
open Go.RowKit Go.Proofs.YtndekeigagjfiaaDoorW.PrintWords Go.Proofs.YtndekeigagjfiaaDoorW.PrintLast
def pz (acc : List ByteArray) (cur : List UInt8) : List UInt8 → List ByteArray × Int
  | [] => if cur = [] then (acc, 0) else ([], 1)
  | [c] => if c = 0 then ([], 1) else ([], 1)
  | c :: d :: l => if c = 0 then (if d = 255 then pz acc (cur ++ [0]) l else if d = 1 then pz (acc ++ [⟨cur.toArray⟩]) [] l else ([], 2)) else pz acc (cur ++ [c]) (d :: l)
theorem pz_byte (acc : List ByteArray) (cur : List UInt8) (c : UInt8) (hc : c ≠ 0) (l : List UInt8) : pz acc cur (c :: l) = pz acc (cur ++ [c]) l := by
  cases l with
  | nil => simp [pz]
  | cons d l => rw [pz, if_neg hc]
theorem pz_esc (p : List UInt8) : ∀ (acc : List ByteArray) (cur r : List UInt8), pz acc cur (esc p ++ 0 :: 1 :: r) = pz (acc ++ [⟨(cur ++ p).toArray⟩]) [] r := by
  induction p with
  | nil => intro acc cur r; simp [esc, pz]
  | cons c p ih =>
    intro acc cur r
    by_cases hc : c = 0
    · subst hc
      rw [esc, if_pos rfl, List.cons_append, List.cons_append, pz, if_pos rfl, if_pos rfl, ih]
      simp
    · rw [esc, if_neg hc, List.cons_append, pz_byte _ _ _ hc, ih]
      simp
theorem ba_eta0 (s : ByteArray) : (⟨s.data.toList.toArray⟩ : ByteArray) = s := ByteArray.ext (Array.ext' rfl)
theorem pz_key (l : List ByteArray) : ∀ acc, pz acc [] (keyB l) = (acc ++ l, 0) := by
  induction l with
  | nil => intro acc; simp [keyB, pz]
  | cons s l ih =>
    intro acc
    rw [keyB, pz_esc, ih, List.nil_append, ba_eta0]
    simp
theorem pz_back (n : Nat) : ∀ (l : List UInt8) (acc : List ByteArray) (cur : List UInt8) (out : List ByteArray), l.length ≤ n → pz acc cur l = (out, 0) → keyB out = keyB acc ++ (esc cur ++ l) := by
  induction n with
  | zero =>
    intro l acc cur out hl h
    obtain rfl : l = [] := List.eq_nil_of_length_eq_zero (by omega)
    by_cases hc : cur = []
    · subst hc
      simp only [pz, if_true, Prod.mk.injEq, and_true] at h
      subst h
      simp [esc]
    · simp [pz, hc] at h
  | succ n ih =>
    intro l acc cur out hl h
    match l, hl, h with
    | [], hl, h => exact ih [] acc cur out (by simp) h
    | [c], hl, h => simp [pz] at h
    | c :: d :: l, hl, h =>
      simp only [List.length_cons] at hl
      by_cases hc : c = 0
      · subst hc
        rw [pz, if_pos rfl] at h
        by_cases hd : d = 255
        · subst hd
          rw [if_pos rfl] at h
          rw [ih l acc (cur ++ [0]) out (by omega) h, esc_append]
          simp [esc]
        · by_cases hd1 : d = 1
          · subst hd1
            rw [if_neg hd, if_pos rfl] at h
            rw [ih l _ [] out (by omega) h, keyB_append]
            simp [keyB, esc]
          · rw [if_neg hd, if_neg hd1] at h
            simp at h
      · rw [pz, if_neg hc] at h
        rw [ih (d :: l) acc (cur ++ [c]) out (by simp; omega) h, esc_append]
        simp [esc, hc]
theorem pz_len (n : Nat) : ∀ (l : List UInt8) (acc : List ByteArray) (cur : List UInt8), l.length ≤ n → (pz acc cur l).1.length ≤ acc.length + l.length := by
  induction n with
  | zero =>
    intro l acc cur hl
    obtain rfl : l = [] := List.eq_nil_of_length_eq_zero (by omega)
    by_cases hc : cur = [] <;> simp [pz, hc]
  | succ n ih =>
    intro l acc cur hl
    match l, hl with
    | [], hl => exact ih [] acc cur (by simp)
    | [c], hl => simp [pz]
    | c :: d :: l, hl =>
      simp only [List.length_cons] at hl
      rw [pz]
      split
      · split
        · have := ih l acc (cur ++ [0]) (by omega); simp only [List.length_cons]; omega
        · split
          · have := ih l (acc ++ [⟨cur.toArray⟩]) [] (by omega); simp only [List.length_append, List.length_cons, List.length_nil] at this ⊢; omega
          · simp
      · have := ih (d :: l) acc (cur ++ [c]) (by simp; omega); simp only [List.length_cons] at this ⊢; omega
theorem pz_err (n : Nat) : ∀ (l : List UInt8) (acc : List ByteArray) (cur : List UInt8), l.length ≤ n → (pz acc cur l).2 ≠ 0 → (pz acc cur l).1 = [] := by
  induction n with
  | zero =>
    intro l acc cur hl h
    obtain rfl : l = [] := List.eq_nil_of_length_eq_zero (by omega)
    by_cases hc : cur = []
    · simp [pz, hc] at h
    · simp [pz, hc]
  | succ n ih =>
    intro l acc cur hl h
    match l, hl, h with
    | [], hl, h => exact ih [] acc cur (by simp) h
    | [c], hl, h => simp [pz]
    | c :: d :: l, hl, h =>
      simp only [List.length_cons] at hl
      rw [pz] at h ⊢
      split
      · rename_i hc
        rw [if_pos hc] at h
        split
        · rename_i hd; rw [if_pos hd] at h; exact ih l _ _ (by omega) h
        · rename_i hd; rw [if_neg hd] at h
          split
          · rename_i hd1; rw [if_pos hd1] at h; exact ih l _ _ (by omega) h
          · rfl
      · rename_i hc; rw [if_neg hc] at h; exact ih (d :: l) _ _ (by simp; omega) h
end Go.Proofs.YtndekeigagjfiaaDoor

namespace Go.Proofs.YtndekeigagjfiaaDoor
open Go.RowKit Go.Proofs.YtndekeigagjfiaaDoorW.PrintWords
def ByteRow (w : World) (e g : Nat) (l : List UInt8) : Prop :=
  ∃ pad m, w.heap[g]? = some (.cells ((l.map fun b => Value.int .u8 b.toNat) ++ pad).toArray e m) ∧ l.length ≤ m.1
theorem ByteRow.cell {w : World} {e g : Nat} {l : List UInt8} (h : ByteRow w e g l) (i : Nat) (hi : i < l.length) : w.cell? ⟨g, i, none⟩ = some (.int .u8 (l.getD i 0).toNat) := by
  obtain ⟨pad, m, hb, hm⟩ := h
  simp [World.cell?, hb, List.getElem?_append, hi]
theorem ByteRow.frozen {w : World} {e g : Nat} {l : List UInt8} (h : ByteRow w e g l) (i : Nat) (hi : i < l.length) : w.frozen? ⟨g, i, none⟩ = false := by
  obtain ⟨pad, m, hb, hm⟩ := h
  simp [World.frozen?, hb]
  omega
theorem ByteRow.set {w : World} {e g : Nat} {l : List UInt8} (h : ByteRow w e g l) (i : Nat) (hi : i < l.length) (b : UInt8) : ByteRow (w.setCell ⟨g, i, none⟩ (.int .u8 b.toNat)) e g (l.set i b) := by
  obtain ⟨pad, m, hb, hm⟩ := h
  refine ⟨pad, m, ?_, by simpa using hm⟩
  simp [World.setCell, Array.getElem?_modify, hb, hi, List.map_set]
theorem ByteRow.drew {w : World} {e g : Nat} {l : List UInt8} (h : ByteRow w e g l) (n : Nat) : ByteRow (w.drewN n) e g l := h
theorem ByteRow.of_conv (w : World) (e : Nat) (s : ByteArray) : ByteRow (Lib.bytesWorld w e s) e w.heap.size s.data.toList := by
  refine ⟨List.replicate (grownCap w s.size 0 e - s.size) (.int .u8 0), ((Lib.bytesCells w e s).size, (Lib.bytesCells w e s).size + 1), ?_, ?_⟩
  · rw [Lib.bytesWorld_at_new]
    congr 2
    apply Array.ext'
    simp [Lib.bytesCells]
  · simp [Lib.bytesCells]
theorem below_conv (w : World) (e : Nat) (s : ByteArray) : Below w.heap.size w (Lib.bytesWorld w e s) :=
  ⟨rfl, rfl, rfl, by rw [Lib.bytesWorld_size]; omega, fun k hk => Lib.bytesWorld_at_old w e s k hk⟩
end Go.Proofs.YtndekeigagjfiaaDoor

namespace Go.Proofs.YtndekeigagjfiaaDoor
open Go.RowKit Go.Proofs.YtndekeigagjfiaaDoorW.PrintWords Go.Proofs.YtndekeigagjfiaaDoorW.PrintLast
def KeepT (w w1 : World) (ts : List Nat) : Prop := w.heap.size ≤ w1.heap.size ∧ ∀ i, i < w.heap.size → (∀ cells q fr, w.heap[i]? = some (.cells cells q fr) → q ∉ ts) → w1.heap[i]? = w.heap[i]?
theorem KeepT.refl (w : World) (ts : List Nat) : KeepT w w ts := ⟨Nat.le_refl _, fun _ _ _ => rfl⟩
theorem KeepT.trans {a b c : World} {ts : List Nat} (h : KeepT a b ts) (k : KeepT b c ts) : KeepT a c ts :=
  ⟨Nat.le_trans h.1 k.1, fun i hi ht => (k.2 i (Nat.lt_of_lt_of_le hi h.1) (fun cells q fr hb => ht cells q fr ((h.2 i hi ht).symm.trans hb))).trans (h.2 i hi ht)⟩
theorem KeepT.of_below {a b : World} {ts : List Nat} (h : Below a.heap.size a b) : KeepT a b ts := ⟨h.size, fun i hi _ => h.block i hi⟩
theorem KeepT.set {a b : World} {ts : List Nat} (h : KeepT a b ts) {g : Nat} {cells : Array Value} {q : Nat} {fr : Nat × Nat} (hb : b.heap[g]? = some (.cells cells q fr)) (hq : q ∈ ts) (i : Nat) (u : Value) : KeepT a (b.setCell ⟨g, i, none⟩ u) ts := by
  refine ⟨by simpa using h.1, fun j hj ht => ?_⟩
  by_cases e : j = g
  · subst e
    exact absurd hq (ht cells q fr ((h.2 j hj ht).symm.trans hb))
  · exact (Below.heap_setCell b ⟨g, i, none⟩ u j e).trans (h.2 j hj ht)
theorem KeepT.grown {a b c : World} {ts : List Nat} (h : KeepT a b ts) {row : Option Nat} (hg : b.grownBy c row) (hr : ∀ k, row = some k → ∃ cells q fr, b.heap[k]? = some (.cells cells q fr) ∧ q ∈ ts) : KeepT a c ts := by
  refine ⟨Nat.le_trans h.1 hg.size, fun j hj ht => ?_⟩
  by_cases e : some j = row
  · obtain ⟨cells, q, fr, hb, hq⟩ := hr j e.symm
    exact absurd hq (ht cells q fr ((h.2 j hj ht).symm.trans hb))
  · exact (hg.block j (Nat.lt_of_lt_of_le hj h.1) e).trans (h.2 j hj ht)
theorem KeepT.R {α : Type} {d : Kd α} {e base : Nat} {w w1 : World} {ok : Nat → Prop} {v : Value} {xs : List α} {ts : List Nat} (h : d.R e w base ok v xs) (hk : KeepT w w1 ts) (ht : ∀ q, q ∈ e :: d.E → q ∉ ts) : d.R e w1 base ok v xs :=
  Kd.R_mono (Kd.R_move (Kd.R_bound h) (fun k hk2 => by
    obtain ⟨_, _, hlt, q, hq, cells, hc⟩ := hk2
    exact hk.2 k hlt (fun cells' q' fr hb => by
      rw [hc] at hb
      injection hb with hb
      injection hb with _ e2 _
      rw [← e2]; exact ht q hq))) (fun k h => h.1)
theorem KeepT.blk {w w1 : World} {ts : List Nat} {g : Nat} {cells : Array Value} {q : Nat} {fr : Nat × Nat} (hb : w.heap[g]? = some (.cells cells q fr)) (hk : KeepT w w1 ts) (hq : q ∉ ts) : w1.heap[g]? = some (.cells cells q fr) :=
  (hk.2 g (blk_lt hb) (fun cells' q' fr' hb' => by
    rw [hb] at hb'
    injection hb' with hb'
    injection hb' with _ e2 _
    rw [← e2]; exact hq)).trans hb
theorem KeepT.size {w w1 : World} {ts : List Nat} (hk : KeepT w w1 ts) : w.heap.size ≤ w1.heap.size := hk.1
def OutT (w : World) (g : Nat) (t : TypeId) : Prop := ∃ cs, w.heap[g]? = some (.cells cs t (0, 0))
theorem OutT.mk {w : World} {g : Nat} {t : TypeId} {cs : Array Value} (h : w.heap[g]? = some (.cells cs t (0, 0))) : OutT w g t := ⟨cs, h⟩
theorem OutT.set {w : World} {g : Nat} {t : TypeId} (h : OutT w g t) (k i : Nat) (u : Value) : OutT (w.setCell ⟨k, i, none⟩ u) g t := by
  obtain ⟨cs, h⟩ := h
  by_cases e : g = k
  · subst e; exact ⟨_, blk_set h i u⟩
  · exact ⟨cs, blk_far h e u⟩
theorem C_one {k : IntKind} {W : World} {g : Nat} {n : Int} {e : Nat} {fr : Nat × Nat} (hb : W.heap[g]? = some (.cells #[.int k n] e fr)) : Kd.C (Kd.int k) W (some ⟨g, 0, none⟩) 1 [n] := by
  refine ⟨rfl, by omega, fun _ => ⟨⟨g, 0, none⟩, rfl, fun j p hj => ?_⟩⟩
  cases j with
  | zero =>
    simp only [List.getElem?_cons_zero, Option.some.injEq] at hj
    subst hj
    refine ⟨[.int k n], rfl, rfl, fun i u hu => ?_⟩
    cases i with
    | zero =>
      simp only [List.getElem?_cons_zero, Option.some.injEq] at hu
      subst hu
      simp [World.cell?, hb, Addr.add]
    | succ i => simp at hu
  | succ j => simp at hj
section
variable {P : Program} {ops : Array Oper} {o : Oper} {a : Act} {Q : Exit → Act → World → Prop} {Kc : Act → World → Prop}
theorem byte_step {E : Prop} {w0 w1 : World} (W : World) (hgd : o.guard = none) (s x : Operand) (t e : TypeId) (ho : o.op = .call { callee := .builtin .append, args := #[s, x], argTypes := #[t, t] })
    (ht : P.underlying t = some (.slice e)) (hinfo : (P.info? e).map (fun i => (i.zero, i.size, i.bytes)) = some (some (.int .u8 0), 1, 1))
    (v : Value) (xs : List Int) (p : Int) (hw1 : w1 = W.alloc (.cells #[.int .u8 p] e)) (g : Nat) (hs : a.eval s = v) (hx : a.eval x = .slice (some ⟨W.heap.size, 0, none⟩) 1 1) (hg : g < W.heap.size)
    (HO : Kd.R (Kd.int .u8) e W w0.heap.size (fun k => k ≠ g) v xs) (HB : Below w0.heap.size w0 W) (hl : xs.length + 1 ≤ 140737488355328)
    (h : ∀ v1 w1, Kd.R (Kd.int .u8) e w1 w0.heap.size (fun k => k ≠ g) v1 (xs ++ [p]) → Below w0.heap.size w0 w1 → W.grownBy w1 v.ownBlock → Kc (a.put o.dst v1) w1) :
    if Region.wanted o (yielded ops a.tmps) = true then Oper.wp P o a w1 Kc Q else E := by
  subst hw1
  have hw : Region.wanted o (yielded ops a.tmps) = true := by simp [Region.wanted, hgd]
  have h1 := Kd.R_append_step (P := P) (Q := Q) (Kc := Kc) (Kd.int .u8) (w0 := w0) (W := W) w0.heap.size hw s x t e (.int .u8 0) 1 ho ht hinfo rfl (by decide) (by omega) v xs p [.int .u8 p] (fun k => k ≠ g) (fun _ => False) hs hx rfl (fun _ hk => hk.elim) (fun k hk e => by omega) HO HB HB.size (by omega)
    (fun v1 w1 a1 a2 a3 _ => h v1 w1 a1 a2 a3)
  rw [if_pos hw] at h1 ⊢
  exact h1
end
def IsS54 (w0 W : World) (g : Nat) (s : ByteArray) : Prop :=
  w0.heap.size ≤ g ∧ ∃ v, W.heap[g]? = some (.cells #[v] 54 (0, 0)) ∧ Kd.R (Kd.int .u8) 5 W w0.heap.size (fun k => k ≠ g) v (bytesOf s)
section
variable {w0 W : World} {g : Nat} {s : ByteArray}
theorem IsS54.ge (h : IsS54 w0 W g s) : w0.heap.size ≤ g := h.1
theorem IsS54.below {W1 : World} (h : IsS54 w0 W g s) (hb : Below W.heap.size W W1) : IsS54 w0 W1 g s := by
  obtain ⟨hg, v, h1, h2⟩ := h
  exact ⟨hg, v, kbl h1 hb, Kd.R_below h2 hb⟩
theorem IsS54.alloc (h : IsS54 w0 W g s) (o : Obj) : IsS54 w0 (W.alloc o) g s := h.below (bal (Below.refl _ _) o)
theorem IsS54.drewN (h : IsS54 w0 W g s) (m : Nat) : IsS54 w0 (W.drewN m) g s := h
theorem IsS54.drew (h : IsS54 w0 W g s) : IsS54 w0 W.drew g s := h
theorem IsS54.at_ {w' : World} {m : Nat} (hq : W.drewN m = w') (h : IsS54 w0 W g s) : IsS54 w0 w' g s := by subst hq; exact h
theorem IsS54.grown {W1 : World} {row : Option Nat} (h : IsS54 w0 W g s) (hw : W.grownBy W1 row) (hr : ∀ k, row = some k → ∃ cells q fr, W.heap[k]? = some (.cells cells q fr) ∧ q ≠ 54 ∧ q ≠ 5) : IsS54 w0 W1 g s := by
  obtain ⟨hg, v, h1, h2⟩ := h
  refine ⟨hg, v, blk_grown h1 hw (fun e => ?_), Kd.R_mono (Kd.R_grown (Kd.R_bound h2) hw (fun k hk e => ?_)) (fun k hk => hk.1)⟩
  · obtain ⟨cells, q, fr, hb, hq, _⟩ := hr g e.symm
    rw [h1] at hb
    injection hb with hb
    injection hb with _ e2 _
    exact hq e2.symm
  · obtain ⟨_, _, _, q2, hq2, cells2, hc2⟩ := hk
    obtain ⟨cells, q, fr, hb, _, hq⟩ := hr k e.symm
    rw [hc2] at hb
    injection hb with hb
    injection hb with _ e2 _
    have : q2 = 5 := by
      rcases List.mem_cons.1 hq2 with h | h
      · exact h
      · exact absurd (show q2 ∈ ([] : List Nat) from h) (by simp)
    exact hq (e2.symm.trans this)
theorem IsS54.box {W1 : World} (hb : W1.heap[g]? = some (.cells #[.slice none 0 0] 54 (0, 0))) (hg : w0.heap.size ≤ g) : IsS54 w0 W1 g (⟨#[]⟩ : ByteArray) := ⟨hg, _, hb, Kd.R_nil _ _ _ _ _⟩
theorem IsS54.stored {v v1 : Value} {s' : ByteArray} (hg : w0.heap.size ≤ g) (hb : W.heap[g]? = some (.cells #[v] 54 (0, 0))) (ho : Kd.R (Kd.int .u8) 5 W w0.heap.size (fun k => k ≠ g) v1 (bytesOf s')) : IsS54 w0 (W.setCell ⟨g, 0, none⟩ v1) g s' :=
  ⟨hg, v1, by simpa using blk_set hb 0 v1, Kd.R_far ho (fun _ hk => hk) v1⟩
end
end Go.Proofs.YtndekeigagjfiaaDoor

