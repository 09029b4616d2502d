import Derived.Test.YtndekeigagjfiaaDoorQTkMOutText
import Derived.Test.YtndekeigagjfiaaDoorQTkMFold
import Derived.Lib.Strings
import Derived.Laws.BitsLemmas
import Derived.Test.YtndekeigagjfiaaDoorQTkPAx1
import Derived.Test.YtndekeigagjfiaaDoorQTkPAx2
namespace Go.Proofs.YtndekeigagjfiaaDoor
open Go.RowKit Go.Proofs.YtndekeigagjfiaaDoorW.PrintWords Go.Proofs.YtndekeigagjfiaaDoorW.PrintLast Go.Proofs.YtndekeigagjfiaaDoorW.PrintMore
theorem bytes_ext {s t : ByteArray} (h : s.data.toList = t.data.toList) : s = t := ByteArray.ext (Array.ext' h)
theorem ba_size (s : ByteArray) : s.size = s.data.toList.length := by rw [Array.length_toList]; rfl
theorem ba_toList (s : ByteArray) : s.toList = s.data.toList := ByteArray.toList_eq s
theorem ba_extract (s : ByteArray) (a b : Nat) : (s.extract a b).data.toList = (s.data.toList.drop a).take (b - a) := Lib.extract_data s a b
theorem ba_empty_extract (a b : Nat) : (⟨#[]⟩ : ByteArray).extract a b = ⟨#[]⟩ := bytes_ext (by rw [ba_extract]; simp)
theorem beN_lt (l : List UInt8) : beN 0 l < 18446744073709551616 := by
  suffices h : ∀ n, n < 18446744073709551616 → beN n l < 18446744073709551616 from h 0 (by decide)
  induction l with
  | nil => intro n h; exact h
  | cons c l ih => intro n h; exact ih _ (Nat.mod_lt _ (by decide))
def fl (s : ByteArray) (e x : Int) : ByteArray × Int := if e = 0 then (if x = 0 then (s, e) else (⟨#[]⟩, x)) else (s, e)
def tk (s : ByteArray) (e : Int) (n : Nat) : ByteArray × ByteArray × Int := if n > s.size then (⟨#[]⟩, fl s e 1) else (s.extract 0 n, s.extract n s.size, e)
def tU (s : ByteArray) (e : Int) : Int × ByteArray × Int :=
  if (tk s e 1).2.2 ≠ 0 then (0, (tk s e 1).2)
  else if ((tk s e 1).1.data.toList.getD 0 0).toNat > 8 then (0, fl (tk s e 1).2.1 (tk s e 1).2.2 2)
  else
    let b := tk (tk s e 1).2.1 (tk s e 1).2.2 ((tk s e 1).1.data.toList.getD 0 0).toNat
    if b.1.size ≠ 0 ∧ b.1.data.toList.getD 0 0 = 0 then (0, fl b.2.1 b.2.2 2) else ((beN 0 b.1.data.toList : Nat), b.2)
def tN (s : ByteArray) (e m : Int) : Int × ByteArray × Int := if (tU s e).1 > IntKind.u64.wrap (mx m 0) then (0, fl (tU s e).2.1 (tU s e).2.2 3) else (wrap64 (tU s e).1, (tU s e).2)
def tS (s : ByteArray) (e m : Int) : ByteArray × ByteArray × Int := tk (tN s e m).2.1 (tN s e m).2.2 (tN s e m).1.toNat
def uns (n : Int) : Int := if n % 2 = 1 then -(n / 2) - 1 else n / 2
def tI (s : ByteArray) (e : Int) : Int × ByteArray × Int := (uns (tU s e).1, (tU s e).2)
def Val (s : ByteArray) (e : Int) : Prop := s.size ≤ 140737488351232 ∧ (e ≠ 0 → s = ⟨#[]⟩)
theorem Val.fl {s : ByteArray} {e : Int} (h : Val s e) (x : Int) : Val (fl s e x).1 (fl s e x).2 := by
  unfold Go.Proofs.YtndekeigagjfiaaDoor.fl
  split
  · split
    · exact h
    · exact ⟨Nat.zero_le _, fun _ => rfl⟩
  · exact h
theorem Val.tk {s : ByteArray} {e : Int} (h : Val s e) (n : Nat) : Val (tk s e n).2.1 (tk s e n).2.2 := by
  unfold Go.Proofs.YtndekeigagjfiaaDoor.tk
  split
  · exact h.fl 1
  · refine ⟨?_, fun he => ?_⟩
    · show (s.extract n s.size).size ≤ _
      have := h.1
      rw [ba_size] at this
      rw [ba_size, ba_extract, List.length_take, List.length_drop]; omega
    · show s.extract n s.size = _
      rw [h.2 he, ba_empty_extract]
theorem tk_size {s : ByteArray} {e : Int} {n : Nat} (hn : n < 9223372036854775808) : (tk s e n).1.size ≤ s.size ∧ (tk s e n).1.size ≤ n ∧ (tk s e n).2.1.size ≤ s.size := by
  unfold tk
  split
  · refine ⟨Nat.zero_le _, Nat.zero_le _, ?_⟩
    show (fl s e 1).1.size ≤ _
    unfold fl
    split
    · split
      · exact Nat.le_refl _
      · exact Nat.zero_le _
    · exact Nat.le_refl _
  · refine ⟨?_, ?_, ?_⟩
    · show (s.extract 0 n).size ≤ _
      rw [ba_size, ba_extract, List.length_take, List.length_drop, ba_size]; omega
    · show (s.extract 0 n).size ≤ _
      rw [ba_size, ba_extract, List.length_take, List.length_drop]; omega
    · show (s.extract n s.size).size ≤ _
      rw [ba_size, ba_extract, List.length_take, List.length_drop, ba_size]; omega
theorem Val.tU {s : ByteArray} {e : Int} (h : Val s e) : Val (tU s e).2.1 (tU s e).2.2 := by
  unfold Go.Proofs.YtndekeigagjfiaaDoor.tU
  split
  · exact h.tk 1
  · split
    · exact (h.tk 1).fl 2
    · dsimp only
      split
      · exact ((h.tk 1).tk _).fl 2
      · exact (h.tk 1).tk _
theorem Val.tN {s : ByteArray} {e : Int} (h : Val s e) (m : Int) : Val (tN s e m).2.1 (tN s e m).2.2 := by
  unfold Go.Proofs.YtndekeigagjfiaaDoor.tN
  split
  · exact h.tU.fl 3
  · exact h.tU
theorem Val.tS {s : ByteArray} {e : Int} (h : Val s e) (m : Int) : Val (tS s e m).2.1 (tS s e m).2.2 := (h.tN m).tk _
theorem Val.tI {s : ByteArray} {e : Int} (h : Val s e) : Val (tI s e).2.1 (tI s e).2.2 := h.tU
theorem tU_range (s : ByteArray) (e : Int) : 0 ≤ (tU s e).1 ∧ (tU s e).1 < 18446744073709551616 := by
  unfold tU
  split
  · exact ⟨Int.le_refl 0, (by decide : (0 : Int) < 18446744073709551616)⟩
  · split
    · exact ⟨Int.le_refl 0, (by decide : (0 : Int) < 18446744073709551616)⟩
    · dsimp only
      split
      · exact ⟨Int.le_refl 0, (by decide : (0 : Int) < 18446744073709551616)⟩
      · have := beN_lt (tk (tk s e 1).2.1 (tk s e 1).2.2 ((tk s e 1).1.data.toList.getD 0 0).toNat).1.data.toList
        exact ⟨by omega, by omega⟩
end Go.Proofs.YtndekeigagjfiaaDoor

namespace Go.Proofs.YtndekeigagjfiaaDoor.PA
set_option linter.unusedSimpArgs false
open Go.RowKit Go.Proofs.YtndekeigagjfiaaDoorW.PrintWords Go.Proofs.YtndekeigagjfiaaDoorW.PrintLast Go.Proofs.YtndekeigagjfiaaDoorW.PrintMore Go.Proofs.YtndekeigagjfiaaDoor
theorem cut_f (s : ByteArray) (n : Nat) : armoirelaw01_Cut.f s (n : Int) = some (s.extract 0 (min n s.size)) := by
  unfold armoirelaw01_Cut.f
  by_cases h : (s.size : Int) > n
  · rw [if_pos h, if_pos (by omega), if_pos (by omega), show min n s.size = n by omega]
    rfl
  · rw [if_neg h, show min n s.size = s.size by omega]
    simp
theorem cut_size (s : ByteArray) (n : Nat) : (s.extract 0 (min n s.size)).size ≤ n := by
  rw [ba_size, ba_extract, List.length_take]; omega
end Go.Proofs.YtndekeigagjfiaaDoor.PA

namespace Go.Proofs.YtndekeigagjfiaaDoor.PA
open Go.RowKit Go.Proofs.YtndekeigagjfiaaDoorW.PrintWords Go.Proofs.YtndekeigagjfiaaDoorW.PrintLast Go.Proofs.YtndekeigagjfiaaDoorW.PrintMore Go.Proofs.YtndekeigagjfiaaDoor Go.Proofs.YtndekeigagjfiaaDoor.PL
theorem bt_at0 (s : ByteArray) (i : Nat) : bt s (i : Int) = ((s.data.toList.getD i 0).toNat : Int) := by
  by_cases h : i < s.size
  · simp [bt, h, List.getD_eq_getElem?_getD]
    rfl
  · have h2 : ¬ i < s.data.toList.length := by rw [ba_size] at h; exact h
    have e : bt s (i : Int) = 0 := by unfold bt; rw [dif_neg (by rw [Int.toNat_natCast]; exact h)]
    rw [e, List.getD_eq_getElem?_getD, List.getElem?_eq_none (by omega)]
    rfl
theorem fl_f (s : ByteArray) (e x : Int) : codec_In_Fail.f s e x = some (fl s e x) := by
  unfold codec_In_Fail.f fl
  by_cases h : e = 0
  · by_cases h2 : x = 0
    · rw [if_pos h, if_pos h2, if_pos h, if_pos h2]
    · rw [if_pos h, if_neg h2, if_pos h, if_neg h2]
  · rw [if_neg h, if_neg h]
theorem tk_f (s : ByteArray) (e : Int) (n : Nat) : codec_In_take.f s e (n : Int) = some (tk s e n) := by
  unfold codec_In_take.f tk
  by_cases h : n > s.size
  · rw [if_pos (by omega), if_pos h, fl_f]; rfl
  · rw [if_neg (by omega), if_neg h, if_pos (by omega), if_pos (by omega), Int.toNat_natCast]
theorem tk_err {s : ByteArray} {e : Int} {n : Nat} (he : e = 0) (h : (tk s e n).2.2 ≠ 0) : (tk s e n).1 = ⟨#[]⟩ := by
  by_cases c : n > s.size
  · unfold tk
    rw [if_pos c]
  · have : (tk s e n).2.2 = e := by unfold tk; rw [if_neg c]
    exact absurd (this.trans he) h
theorem tU_f (s : ByteArray) (e : Int) (_hv : Val s e) : codec_In_U.f s e = some (tU s e) := by
  have h1 := tk_f s e 1
  rw [show ((1 : Nat) : Int) = 1 from rfl] at h1
  unfold codec_In_U.f tU
  rw [h1, Option.bind_some]
  by_cases c : (tk s e 1).2.2 ≠ 0
  · rw [if_pos c, if_pos c]
  · rw [if_neg c, if_neg c]
    have hz : (tk s e 1).1.size = 1 := by
      have h3 : ¬ 1 > s.size := by
        intro h3
        have e2 : (tk s e 1).2.2 = (fl s e 1).2 := by unfold tk; rw [if_pos h3]
        rw [e2] at c
        unfold fl at c
        by_cases he : e = 0
        · rw [if_pos he, if_neg (by decide)] at c; exact c (by decide)
        · rw [if_neg he] at c; exact c he
      unfold tk
      rw [if_neg h3]
      show (s.extract 0 1).size = 1
      rw [ba_size, ba_extract, List.length_take, List.length_drop, ← ba_size]; omega
    rw [if_neg (by omega)]
    by_cases c2 : ((tk s e 1).1.data.toList.getD 0 0).toNat > 8
    · rw [if_pos c2, if_pos c2, fl_f]; rfl
    · rw [if_neg c2, if_neg c2, tk_f, Option.bind_some]
      dsimp only
      split
      · rw [fl_f]; rfl
      · rw [if_pos (by
          have h4 := (tk_size (s := (tk s e 1).2.1) (e := (tk s e 1).2.2) (n := ((tk s e 1).1.data.toList.getD 0 0).toNat) (by omega)).2.1
          omega)]
theorem tN_f (s : ByteArray) (e m : Int) (hv : Val s e) : codec_In_N.f s e m = some (tN s e m) := by
  unfold codec_In_N.f tN
  rw [tU_f s e hv, Option.bind_some]
  by_cases c : (tU s e).1 > IntKind.u64.wrap (mx m 0)
  · rw [if_pos c, if_pos c, fl_f]; rfl
  · rw [if_neg c, if_neg c]
theorem tN_nonneg (s : ByteArray) (e m : Int) (hm : m < 9223372036854775808) : 0 ≤ (tN s e m).1 ∧ (tN s e m).1 ≤ mx m 0 := by
  have h := tU_range s e
  have hw : IntKind.u64.wrap (mx m 0) = mx m 0 := by rw [wrap_u64]; unfold mx; split <;> omega
  have hm0 : 0 ≤ mx m 0 ∧ mx m 0 < 9223372036854775808 := by unfold mx; split <;> omega
  unfold tN
  rw [hw]
  split
  · exact ⟨Int.le_refl 0, hm0.1⟩
  · rename_i c
    show 0 ≤ wrap64 (tU s e).1 ∧ wrap64 (tU s e).1 ≤ mx m 0
    have : wrap64 (tU s e).1 = (tU s e).1 := by unfold wrap64; omega
    rw [this]
    exact ⟨h.1, by omega⟩
theorem tS_f (s : ByteArray) (e m : Int) (hv : Val s e) (hm : m < 9223372036854775808) : codec_In_S.f s e m = some (tS s e m) := by
  have h := (tN_nonneg s e m hm).1
  have e1 : (((tN s e m).1.toNat : Nat) : Int) = (tN s e m).1 := by omega
  have h2 := tk_f (tN s e m).2.1 (tN s e m).2.2 (tN s e m).1.toNat
  rw [e1] at h2
  unfold codec_In_S.f tS
  rw [tN_f s e m hv, Option.bind_some, h2]
  rfl
theorem rfl_f (s : ByteArray) (e x : Int) : armoireref02_Fail.f s e x = some (fl s e x) := by
  unfold armoireref02_Fail.f fl
  by_cases h : e = 0
  · by_cases h2 : x = 0
    · rw [if_pos h, if_pos h2, if_pos h, if_pos h2]
    · rw [if_pos h, if_neg h2, if_pos h, if_neg h2]
  · rw [if_neg h, if_neg h]
theorem rtk_f (s : ByteArray) (e : Int) (n : Nat) (hv : Val s e) : armoireref02_take.f s e (n : Int) = some ((tk s e n).2.1, (tk s e n).2.2, (tk s e n).1) := by
  unfold armoireref02_take.f tk fl
  by_cases he : e = 0
  · subst he
    by_cases h : n > s.size
    · rw [if_pos rfl, if_pos (by omega), if_pos h, if_pos rfl, if_neg (by decide)]
    · rw [if_pos rfl, if_neg (by omega), if_neg h, if_pos (by omega), if_pos (by omega), Int.toNat_natCast]
  · obtain rfl := hv.2 he
    rw [if_neg he]
    by_cases h : n > (⟨#[]⟩ : ByteArray).size
    · rw [if_pos h, if_neg he]
    · rw [if_neg h, ba_empty_extract, ba_empty_extract]
theorem rU_l0 (b : ByteArray) (s : ByteArray) (e : Int) (hb : b.size ≤ 255) (d : Nat) : ∀ i n : Nat, i + d = b.size → n < 18446744073709551616 →
    Ev (fun k => armoireref02_TakeU.l0 k b (n : Int) (i : Int) s e) (s, e, ((beN n (b.data.toList.drop i) : Nat) : Int)) := by
  induction d with
  | zero =>
    intro i n hi hn
    refine Ev.step (f := fun _ => some (s, e, (n : Int))) (fun k => ?_) ?_
    · simp only [armoireref02_TakeU.l0]
      rw [if_neg (by omega)]
    · rw [List.drop_eq_nil_of_le (by rw [← ba_size]; omega)]
      exact Ev.now _
  | succ d ih =>
    intro i n hi hn
    have hc := UInt8.toNat_lt (b.data.toList.getD i 0)
    have hd : b.data.toList.drop i = b.data.toList.getD i 0 :: b.data.toList.drop (i + 1) := by
      have hl : i < b.data.toList.length := by rw [← ba_size]; omega
      rw [List.drop_eq_getElem_cons hl, List.getD_eq_getElem?_getD, List.getElem?_eq_getElem hl]
      rfl
    have h1 := ih (i + 1) ((n * 256 + (b.data.toList.getD i 0).toNat) % 18446744073709551616) (by omega) (Nat.mod_lt _ (by decide))
    rw [hd]
    refine Ev.step (fun k => ?_) h1
    have e1 : IntKind.u64.wrap ((IntKind.u64.wrap ((n : Int) * 256)) + (IntKind.u64.wrap (((b.data.toList.getD i 0).toNat : Nat) : Int))) = (((n * 256 + (b.data.toList.getD i 0).toNat) % 18446744073709551616 : Nat) : Int) := by
      simp only [wrap_u64]; omega
    have e2 : wrap64 ((i : Int) + 1) = ((i + 1 : Nat) : Int) := by unfold wrap64; omega
    simp only [armoireref02_TakeU.l0]
    rw [if_pos (by clear e1 e2; omega), if_pos (by clear e1 e2; omega), bt_at0, e1, e2]
theorem rU_f (s : ByteArray) (e : Int) (hv : Val s e) : Ev (fun k => armoireref02_TakeU.f k s e) ((tU s e).2.1, (tU s e).2.2, (tU s e).1) := by
  have h1 := rtk_f s e 1 hv
  rw [show ((1 : Nat) : Int) = 1 from rfl] at h1
  by_cases c : (tk s e 1).2.2 = 0
  rotate_left
  · have ht : tU s e = (0, (tk s e 1).2) := by unfold tU; rw [if_pos c]
    refine Ev.congr (f := fun _ => some ((tU s e).2.1, (tU s e).2.2, (tU s e).1)) (fun k => ?_) (Ev.now _)
    unfold armoireref02_TakeU.f
    rw [h1, Option.bind_some, if_neg c, ht]
  have hz : (tk s e 1).1.size = 1 := by
    have h3 : ¬ 1 > s.size := by
      intro h3
      have e2 : (tk s e 1).2.2 = (fl s e 1).2 := by unfold tk; rw [if_pos h3]
      rw [e2] at c
      unfold fl at c
      by_cases he : e = 0
      · rw [if_pos he, if_neg (by decide)] at c; exact absurd c (by decide)
      · rw [if_neg he] at c; exact he c
    unfold tk
    rw [if_neg h3]
    show (s.extract 0 1).size = 1
    rw [ba_size, ba_extract, List.length_take, List.length_drop, ← ba_size]; omega
  have hb0 : bt (tk s e 1).1 0 = (((tk s e 1).1.data.toList.getD 0 0).toNat : Int) := bt_at0 _ 0
  have hb8 := UInt8.toNat_lt ((tk s e 1).1.data.toList.getD 0 0)
  by_cases c2 : ((tk s e 1).1.data.toList.getD 0 0).toNat > 8
  · have ht : tU s e = (0, fl (tk s e 1).2.1 (tk s e 1).2.2 2) := by unfold tU; rw [if_neg (by simp [c]), if_pos c2]
    refine Ev.congr (f := fun _ => some ((tU s e).2.1, (tU s e).2.2, (tU s e).1)) (fun k => ?_) (Ev.now _)
    unfold armoireref02_TakeU.f
    rw [h1, Option.bind_some]
    dsimp only
    rw [if_pos c, if_pos (by omega), hb0, if_pos (by omega), ht]
    unfold fl
    rw [if_pos c, if_neg (by decide)]
  have hv1 := hv.tk 1
  have h2 := rtk_f (tk s e 1).2.1 (tk s e 1).2.2 ((tk s e 1).1.data.toList.getD 0 0).toNat hv1
  have hw : wrap64 (((tk s e 1).1.data.toList.getD 0 0).toNat : Int) = (((tk s e 1).1.data.toList.getD 0 0).toNat : Int) := by unfold wrap64; omega
  have hz2 := (tk_size (s := (tk s e 1).2.1) (e := (tk s e 1).2.2) (n := ((tk s e 1).1.data.toList.getD 0 0).toNat) (by omega)).2.1
  obtain ⟨b, hb⟩ : ∃ b, b = tk (tk s e 1).2.1 (tk s e 1).2.2 ((tk s e 1).1.data.toList.getD 0 0).toNat := ⟨_, rfl⟩
  have hb2 : bt b.1 0 = ((b.1.data.toList.getD 0 0).toNat : Int) := bt_at0 _ 0
  have ht : tU s e = if b.1.size ≠ 0 ∧ b.1.data.toList.getD 0 0 = 0 then ((0 : Int), fl b.2.1 b.2.2 2) else (((beN 0 b.1.data.toList : Nat) : Int), b.2) := by
    unfold tU; rw [if_neg (by simp [c]), if_neg c2, ← hb]
  rw [← hb] at h2 hz2
  have hl := rU_l0 b.1 b.2.1 b.2.2 (by omega) b.1.size 0 0 (by omega) (by decide)
  rw [List.drop_zero] at hl
  have hstart : ∀ k, armoireref02_TakeU.f k s e = (if b.2.2 = 0 then (if (b.1.size : Int) > 0 then (if 0 < (b.1.size : Int) then (armoireref02_TakeU.j0 k b.1 ((bt b.1 0) == 0) b.2.1 b.2.2) else (none)) else (armoireref02_TakeU.j0 k b.1 false b.2.1 b.2.2)) else (armoireref02_TakeU.j0 k b.1 false b.2.1 b.2.2)) := by
    intro k
    unfold armoireref02_TakeU.f
    rw [h1, Option.bind_some]
    dsimp only
    rw [if_pos c, if_pos (by omega), hb0, if_neg (by omega), hw, h2, Option.bind_some]
  refine Ev.congr hstart ?_
  have hgo : Ev (fun k => armoireref02_TakeU.j0 k b.1 false b.2.1 b.2.2) (b.2.1, b.2.2, ((beN 0 b.1.data.toList : Nat) : Int)) := by
    refine Ev.step (fun k => ?_) hl
    simp only [armoireref02_TakeU.j0]
    rw [if_neg (by decide)]
    rfl
  by_cases c3 : b.2.2 = 0
  · simp only [if_pos c3]
    by_cases c4 : b.1.size = 0
    · rw [ht, if_neg (by simp [c4])]
      refine Ev.congr (fun k => ?_) hgo
      rw [if_neg (by omega)]
    · by_cases c5 : b.1.data.toList.getD 0 0 = 0
      · rw [ht, if_pos ⟨c4, c5⟩]
        refine Ev.step (f := fun _ => some ((⟨#[]⟩ : ByteArray), 2, 0)) (fun k => ?_) ?_
        · rw [if_pos (by omega), if_pos (by omega), hb2, c5]
          simp only [armoireref02_TakeU.j0]
          rw [if_pos (by decide)]
        · unfold fl
          rw [if_pos c3, if_neg (by decide)]
          exact Ev.now _
      · rw [ht, if_neg (fun h => c5 h.2)]
        refine Ev.congr (fun k => ?_) hgo
        rw [if_pos (by omega), if_pos (by omega), hb2]
        have : (((b.1.data.toList.getD 0 0).toNat : Int) == 0) = false := by
          rw [beq_eq_false_iff_ne]
          intro h
          exact c5 (UInt8.toNat_inj.1 (by have : (0 : UInt8).toNat = 0 := rfl
                                          omega))
        rw [this]
  · simp only [if_neg c3]
    have hbv : b.1 = ⟨#[]⟩ := by
      rw [hb] at c3 ⊢
      exact tk_err c c3
    rw [ht, if_neg (fun h => h.1 (by rw [hbv]; rfl))]
    exact hgo
theorem rN_f (s : ByteArray) (e m : Int) (hv : Val s e) : Ev (fun k => armoireref02_TakeN.f k s e m) ((tN s e m).2.1, (tN s e m).2.2, (tN s e m).1) := by
  unfold armoireref02_TakeN.f
  refine Ev.bind (rU_f s e hv) ?_
  unfold tN
  by_cases c : (tU s e).1 > IntKind.u64.wrap (mx m 0)
  · simp only [if_pos c, rfl_f, Option.bind_some]
    exact Ev.now _
  · simp only [if_neg c]
    exact Ev.now _
theorem rS_f (s : ByteArray) (e m : Int) (hv : Val s e) (hm : m < 9223372036854775808) : Ev (fun k => armoireref02_TakeS.f k s e m) ((tS s e m).2.1, (tS s e m).2.2, (tS s e m).1) := by
  have h := (tN_nonneg s e m hm).1
  have e1 : (((tN s e m).1.toNat : Nat) : Int) = (tN s e m).1 := by omega
  have h2 := rtk_f (tN s e m).2.1 (tN s e m).2.2 (tN s e m).1.toNat (hv.tN m)
  rw [e1] at h2
  unfold armoireref02_TakeS.f
  refine Ev.bind (rN_f s e m hv) ?_
  simp only [h2, Option.bind_some]
  exact Ev.now _
end Go.Proofs.YtndekeigagjfiaaDoor.PA

namespace Go.Proofs.YtndekeigagjfiaaDoor.PA
open Go.RowKit Go.Proofs.YtndekeigagjfiaaDoorW.PrintWords Go.Proofs.YtndekeigagjfiaaDoorW.PrintLast Go.Proofs.YtndekeigagjfiaaDoorW.PrintMore Go.Proofs.YtndekeigagjfiaaDoor Go.Proofs.YtndekeigagjfiaaDoor.PL
theorem u64_and_1 (n : Int) (h0 : 0 ≤ n) (h1 : n < 18446744073709551616) : Go.bits .and .u64 n 1 = n % 2 := by
  have h := (bits_nat .u64 64 (by decide) (fun n h0 h1 => by rw [wrap_u64]; omega) n.toNat 1 (by omega) (by decide)).1
  rw [Nat.and_one_is_mod, show ((n.toNat : Nat) : Int) = n by omega] at h
  refine h.trans ?_
  omega
theorem uns_wrap (n : Int) (h0 : 0 ≤ n) (h1 : n < 18446744073709551616) : wrap64 ((wrap64 (-(wrap64 (n / 2)))) - 1) = -(n / 2) - 1 ∧ wrap64 (n / 2) = n / 2 ∧ wrap64 ((wrap64 (-(n / 2))) - 1) = -(n / 2) - 1 := by
  unfold wrap64; omega
theorem tI_f (s : ByteArray) (e : Int) (hv : Val s e) : codec_In_I.f s e = some (tI s e) := by
  have h := tU_range s e
  have h2 := uns_wrap _ h.1 h.2
  unfold codec_In_I.f tI uns
  rw [tU_f s e hv, Option.bind_some, u64_and_1 _ h.1 h.2, h2.1, h2.2.1]
  by_cases c : (tU s e).1 % 2 = 1
  · rw [if_pos c, if_pos c]
  · rw [if_neg c, if_neg c]
theorem rI_f (s : ByteArray) (e : Int) (hv : Val s e) : Ev (fun k => armoireref02_TakeI.f k s e) ((tI s e).2.1, (tI s e).2.2, (tI s e).1) := by
  have h := tU_range s e
  have h2 := uns_wrap _ h.1 h.2
  have e1 : IntKind.u64.wrap (Int.tdiv (tU s e).1 2) = (tU s e).1 / 2 := by
    rw [Int.tdiv_eq_ediv_of_nonneg h.1, wrap_u64]; omega
  have e2 : Int.tmod (tU s e).1 2 = (tU s e).1 % 2 := Int.tmod_eq_emod_of_nonneg h.1
  unfold armoireref02_TakeI.f
  refine Ev.bind (rU_f s e hv) ?_
  simp only [e1, e2, h2.2.1, h2.2.2]
  unfold tI uns
  by_cases c : (tU s e).1 % 2 = 1
  · simp only [if_pos c]
    exact Ev.now _
  · simp only [if_neg c]
    exact Ev.now _
end Go.Proofs.YtndekeigagjfiaaDoor.PA

