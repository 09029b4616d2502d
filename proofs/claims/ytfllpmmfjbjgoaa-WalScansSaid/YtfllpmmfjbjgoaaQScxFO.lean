import Derived.Test.YtfllpmmfjbjgoaaQScxFCB
import Derived.Test.YtfllpmmfjbjgoaaQScxPAx2
import Derived.Test.YtfllpmmfjbjgoaaQScxPAx3
import Derived.Test.YtfllpmmfjbjgoaaQScxPAx4
namespace Go.Proofs.Ytfllpmmfjbjgoaa.PA
open Go.RowKit Go.Proofs.YtfllpmmfjbjgoaaW.PrintWords Go.Proofs.YtfllpmmfjbjgoaaW.PrintLast Go.Proofs.YtfllpmmfjbjgoaaW.PrintMore Go.Proofs.Ytfllpmmfjbjgoaa Go.Proofs.Ytfllpmmfjbjgoaa.PL
theorem bt_at0 (s : ByteArray) (i : Nat) : bt s (i : Int) = ((s.data.toList.getD i 0).toNat : Int) := by
  by_cases h : i < s.size
  · simp [bt, h, List.getD_eq_getElem?_getD]
    rfl
  · have h2 : ¬ i < s.data.toList.length := by rw [ba_size] at h; exact h
    have e : bt s (i : Int) = 0 := by unfold bt; rw [dif_neg (by rw [Int.toNat_natCast]; exact h)]
    rw [e, List.getD_eq_getElem?_getD, List.getElem?_eq_none (by omega)]
    rfl
theorem fl_f (s : ByteArray) (e x : Int) : codec_In_Fail.f s e x = some (fl s e x) := by
  unfold codec_In_Fail.f fl
  by_cases h : e = 0
  · by_cases h2 : x = 0
    · rw [if_pos h, if_pos h2, if_pos h, if_pos h2]
    · rw [if_pos h, if_neg h2, if_pos h, if_neg h2]
  · rw [if_neg h, if_neg h]
theorem tk_f (s : ByteArray) (e : Int) (n : Nat) : codec_In_take.f s e (n : Int) = some (tk s e n) := by
  unfold codec_In_take.f tk
  by_cases h : n > s.size
  · rw [if_pos (by omega), if_pos h, fl_f]; rfl
  · rw [if_neg (by omega), if_neg h, if_pos (by omega), if_pos (by omega), Int.toNat_natCast]
theorem tk_err {s : ByteArray} {e : Int} {n : Nat} (he : e = 0) (h : (tk s e n).2.2 ≠ 0) : (tk s e n).1 = ⟨#[]⟩ := by
  by_cases c : n > s.size
  · unfold tk
    rw [if_pos c]
  · have : (tk s e n).2.2 = e := by unfold tk; rw [if_neg c]
    exact absurd (this.trans he) h
theorem tU_f (s : ByteArray) (e : Int) (_hv : Val s e) : codec_In_U.f s e = some (tU s e) := by
  have h1 := tk_f s e 1
  rw [show ((1 : Nat) : Int) = 1 from rfl] at h1
  unfold codec_In_U.f tU
  rw [h1, Option.bind_some]
  by_cases c : (tk s e 1).2.2 ≠ 0
  · rw [if_pos c, if_pos c]
  · rw [if_neg c, if_neg c]
    have hz : (tk s e 1).1.size = 1 := by
      have h3 : ¬ 1 > s.size := by
        intro h3
        have e2 : (tk s e 1).2.2 = (fl s e 1).2 := by unfold tk; rw [if_pos h3]
        rw [e2] at c
        unfold fl at c
        by_cases he : e = 0
        · rw [if_pos he, if_neg (by decide)] at c; exact c (by decide)
        · rw [if_neg he] at c; exact c he
      unfold tk
      rw [if_neg h3]
      show (s.extract 0 1).size = 1
      rw [ba_size, ba_extract, List.length_take, List.length_drop, ← ba_size]; omega
    rw [if_neg (by omega)]
    by_cases c2 : ((tk s e 1).1.data.toList.getD 0 0).toNat > 8
    · rw [if_pos c2, if_pos c2, fl_f]; rfl
    · rw [if_neg c2, if_neg c2, tk_f, Option.bind_some]
      dsimp only
      split
      · rw [fl_f]; rfl
      · rw [if_pos (by
          have h4 := (tk_size (s := (tk s e 1).2.1) (e := (tk s e 1).2.2) (n := ((tk s e 1).1.data.toList.getD 0 0).toNat) (by omega)).2.1
          omega)]
theorem tN_f (s : ByteArray) (e m : Int) (hv : Val s e) : codec_In_N.f s e m = some (tN s e m) := by
  unfold codec_In_N.f tN
  rw [tU_f s e hv, Option.bind_some]
  by_cases c : (tU s e).1 > IntKind.u64.wrap (mx m 0)
  · rw [if_pos c, if_pos c, fl_f]; rfl
  · rw [if_neg c, if_neg c]
theorem tN_nonneg (s : ByteArray) (e m : Int) (hm : m < 9223372036854775808) : 0 ≤ (tN s e m).1 ∧ (tN s e m).1 ≤ mx m 0 := by
  have h := tU_range s e
  have hw : IntKind.u64.wrap (mx m 0) = mx m 0 := by rw [wrap_u64]; unfold mx; split <;> omega
  have hm0 : 0 ≤ mx m 0 ∧ mx m 0 < 9223372036854775808 := by unfold mx; split <;> omega
  unfold tN
  rw [hw]
  split
  · exact ⟨Int.le_refl 0, hm0.1⟩
  · rename_i c
    show 0 ≤ wrap64 (tU s e).1 ∧ wrap64 (tU s e).1 ≤ mx m 0
    have : wrap64 (tU s e).1 = (tU s e).1 := by unfold wrap64; omega
    rw [this]
    exact ⟨h.1, by omega⟩
theorem tS_f (s : ByteArray) (e m : Int) (hv : Val s e) (hm : m < 9223372036854775808) : codec_In_S.f s e m = some (tS s e m) := by
  have h := (tN_nonneg s e m hm).1
  have e1 : (((tN s e m).1.toNat : Nat) : Int) = (tN s e m).1 := by omega
  have h2 := tk_f (tN s e m).2.1 (tN s e m).2.2 (tN s e m).1.toNat
  rw [e1] at h2
  unfold codec_In_S.f tS
  rw [tN_f s e m hv, Option.bind_some, h2]
  rfl
theorem rfl_f (s : ByteArray) (e x : Int) : armoireref02_Fail.f s e x = some (fl s e x) := by
  unfold armoireref02_Fail.f fl
  by_cases h : e = 0
  · by_cases h2 : x = 0
    · rw [if_pos h, if_pos h2, if_pos h, if_pos h2]
    · rw [if_pos h, if_neg h2, if_pos h, if_neg h2]
  · rw [if_neg h, if_neg h]
theorem rtk_f (s : ByteArray) (e : Int) (n : Nat) (hv : Val s e) : armoireref02_take.f s e (n : Int) = some ((tk s e n).2.1, (tk s e n).2.2, (tk s e n).1) := by
  unfold armoireref02_take.f tk fl
  by_cases he : e = 0
  · subst he
    by_cases h : n > s.size
    · rw [if_pos rfl, if_pos (by omega), if_pos h, if_pos rfl, if_neg (by decide)]
    · rw [if_pos rfl, if_neg (by omega), if_neg h, if_pos (by omega), if_pos (by omega), Int.toNat_natCast]
  · obtain rfl := hv.2 he
    rw [if_neg he]
    by_cases h : n > (⟨#[]⟩ : ByteArray).size
    · rw [if_pos h, if_neg he]
    · rw [if_neg h, ba_empty_extract, ba_empty_extract]
theorem rU_l0 (b : ByteArray) (s : ByteArray) (e : Int) (hb : b.size ≤ 255) (d : Nat) : ∀ i n : Nat, i + d = b.size → n < 18446744073709551616 →
    Ev (fun k => armoireref02_TakeU.l0 k b (n : Int) (i : Int) s e) (s, e, ((beN n (b.data.toList.drop i) : Nat) : Int)) := by
  induction d with
  | zero =>
    intro i n hi hn
    refine Ev.step (f := fun _ => some (s, e, (n : Int))) (fun k => ?_) ?_
    · simp only [armoireref02_TakeU.l0]
      rw [if_neg (by omega)]
    · rw [List.drop_eq_nil_of_le (by rw [← ba_size]; omega)]
      exact Ev.now _
  | succ d ih =>
    intro i n hi hn
    have hc := UInt8.toNat_lt (b.data.toList.getD i 0)
    have hd : b.data.toList.drop i = b.data.toList.getD i 0 :: b.data.toList.drop (i + 1) := by
      have hl : i < b.data.toList.length := by rw [← ba_size]; omega
      rw [List.drop_eq_getElem_cons hl, List.getD_eq_getElem?_getD, List.getElem?_eq_getElem hl]
      rfl
    have h1 := ih (i + 1) ((n * 256 + (b.data.toList.getD i 0).toNat) % 18446744073709551616) (by omega) (Nat.mod_lt _ (by decide))
    rw [hd]
    refine Ev.step (fun k => ?_) h1
    have e1 : IntKind.u64.wrap ((IntKind.u64.wrap ((n : Int) * 256)) + (IntKind.u64.wrap (((b.data.toList.getD i 0).toNat : Nat) : Int))) = (((n * 256 + (b.data.toList.getD i 0).toNat) % 18446744073709551616 : Nat) : Int) := by
      simp only [wrap_u64]; omega
    have e2 : wrap64 ((i : Int) + 1) = ((i + 1 : Nat) : Int) := by unfold wrap64; omega
    simp only [armoireref02_TakeU.l0]
    rw [if_pos (by clear e1 e2; omega), if_pos (by clear e1 e2; omega), bt_at0, e1, e2]
theorem rU_f (s : ByteArray) (e : Int) (hv : Val s e) : Ev (fun k => armoireref02_TakeU.f k s e) ((tU s e).2.1, (tU s e).2.2, (tU s e).1) := by
  have h1 := rtk_f s e 1 hv
  rw [show ((1 : Nat) : Int) = 1 from rfl] at h1
  by_cases c : (tk s e 1).2.2 = 0
  rotate_left
  · have ht : tU s e = (0, (tk s e 1).2) := by unfold tU; rw [if_pos c]
    refine Ev.congr (f := fun _ => some ((tU s e).2.1, (tU s e).2.2, (tU s e).1)) (fun k => ?_) (Ev.now _)
    unfold armoireref02_TakeU.f
    rw [h1, Option.bind_some, if_neg c, ht]
  have hz : (tk s e 1).1.size = 1 := by
    have h3 : ¬ 1 > s.size := by
      intro h3
      have e2 : (tk s e 1).2.2 = (fl s e 1).2 := by unfold tk; rw [if_pos h3]
      rw [e2] at c
      unfold fl at c
      by_cases he : e = 0
      · rw [if_pos he, if_neg (by decide)] at c; exact absurd c (by decide)
      · rw [if_neg he] at c; exact he c
    unfold tk
    rw [if_neg h3]
    show (s.extract 0 1).size = 1
    rw [ba_size, ba_extract, List.length_take, List.length_drop, ← ba_size]; omega
  have hb0 : bt (tk s e 1).1 0 = (((tk s e 1).1.data.toList.getD 0 0).toNat : Int) := bt_at0 _ 0
  have hb8 := UInt8.toNat_lt ((tk s e 1).1.data.toList.getD 0 0)
  by_cases c2 : ((tk s e 1).1.data.toList.getD 0 0).toNat > 8
  · have ht : tU s e = (0, fl (tk s e 1).2.1 (tk s e 1).2.2 2) := by unfold tU; rw [if_neg (by simp [c]), if_pos c2]
    refine Ev.congr (f := fun _ => some ((tU s e).2.1, (tU s e).2.2, (tU s e).1)) (fun k => ?_) (Ev.now _)
    unfold armoireref02_TakeU.f
    rw [h1, Option.bind_some]
    dsimp only
    rw [if_pos c, if_pos (by omega), hb0, if_pos (by omega), ht]
    unfold fl
    rw [if_pos c, if_neg (by decide)]
  have hv1 := hv.tk 1
  have h2 := rtk_f (tk s e 1).2.1 (tk s e 1).2.2 ((tk s e 1).1.data.toList.getD 0 0).toNat hv1
  have hw : wrap64 (((tk s e 1).1.data.toList.getD 0 0).toNat : Int) = (((tk s e 1).1.data.toList.getD 0 0).toNat : Int) := by unfold wrap64; omega
  have hz2 := (tk_size (s := (tk s e 1).2.1) (e := (tk s e 1).2.2) (n := ((tk s e 1).1.data.toList.getD 0 0).toNat) (by omega)).2.1
  obtain ⟨b, hb⟩ : ∃ b, b = tk (tk s e 1).2.1 (tk s e 1).2.2 ((tk s e 1).1.data.toList.getD 0 0).toNat := ⟨_, rfl⟩
  have hb2 : bt b.1 0 = ((b.1.data.toList.getD 0 0).toNat : Int) := bt_at0 _ 0
  have ht : tU s e = if b.1.size ≠ 0 ∧ b.1.data.toList.getD 0 0 = 0 then ((0 : Int), fl b.2.1 b.2.2 2) else (((beN 0 b.1.data.toList : Nat) : Int), b.2) := by
    unfold tU; rw [if_neg (by simp [c]), if_neg c2, ← hb]
  rw [← hb] at h2 hz2
  have hl := rU_l0 b.1 b.2.1 b.2.2 (by omega) b.1.size 0 0 (by omega) (by decide)
  rw [List.drop_zero] at hl
  have hstart : ∀ k, armoireref02_TakeU.f k s e = (if b.2.2 = 0 then (if (b.1.size : Int) > 0 then (if 0 < (b.1.size : Int) then (armoireref02_TakeU.j0 k b.1 ((bt b.1 0) == 0) b.2.1 b.2.2) else (none)) else (armoireref02_TakeU.j0 k b.1 false b.2.1 b.2.2)) else (armoireref02_TakeU.j0 k b.1 false b.2.1 b.2.2)) := by
    intro k
    unfold armoireref02_TakeU.f
    rw [h1, Option.bind_some]
    dsimp only
    rw [if_pos c, if_pos (by omega), hb0, if_neg (by omega), hw, h2, Option.bind_some]
  refine Ev.congr hstart ?_
  have hgo : Ev (fun k => armoireref02_TakeU.j0 k b.1 false b.2.1 b.2.2) (b.2.1, b.2.2, ((beN 0 b.1.data.toList : Nat) : Int)) := by
    refine Ev.step (fun k => ?_) hl
    simp only [armoireref02_TakeU.j0]
    rw [if_neg (by decide)]
    rfl
  by_cases c3 : b.2.2 = 0
  · simp only [if_pos c3]
    by_cases c4 : b.1.size = 0
    · rw [ht, if_neg (by simp [c4])]
      refine Ev.congr (fun k => ?_) hgo
      rw [if_neg (by omega)]
    · by_cases c5 : b.1.data.toList.getD 0 0 = 0
      · rw [ht, if_pos ⟨c4, c5⟩]
        refine Ev.step (f := fun _ => some ((⟨#[]⟩ : ByteArray), 2, 0)) (fun k => ?_) ?_
        · rw [if_pos (by omega), if_pos (by omega), hb2, c5]
          simp only [armoireref02_TakeU.j0]
          rw [if_pos (by decide)]
        · unfold fl
          rw [if_pos c3, if_neg (by decide)]
          exact Ev.now _
      · rw [ht, if_neg (fun h => c5 h.2)]
        refine Ev.congr (fun k => ?_) hgo
        rw [if_pos (by omega), if_pos (by omega), hb2]
        have : (((b.1.data.toList.getD 0 0).toNat : Int) == 0) = false := by
          rw [beq_eq_false_iff_ne]
          intro h
          exact c5 (UInt8.toNat_inj.1 (by have : (0 : UInt8).toNat = 0 := rfl
                                          omega))
        rw [this]
  · simp only [if_neg c3]
    have hbv : b.1 = ⟨#[]⟩ := by
      rw [hb] at c3 ⊢
      exact tk_err c c3
    rw [ht, if_neg (fun h => h.1 (by rw [hbv]; rfl))]
    exact hgo
theorem rN_f (s : ByteArray) (e m : Int) (hv : Val s e) : Ev (fun k => armoireref02_TakeN.f k s e m) ((tN s e m).2.1, (tN s e m).2.2, (tN s e m).1) := by
  unfold armoireref02_TakeN.f
  refine Ev.bind (rU_f s e hv) ?_
  unfold tN
  by_cases c : (tU s e).1 > IntKind.u64.wrap (mx m 0)
  · simp only [if_pos c, rfl_f, Option.bind_some]
    exact Ev.now _
  · simp only [if_neg c]
    exact Ev.now _
theorem rS_f (s : ByteArray) (e m : Int) (hv : Val s e) (hm : m < 9223372036854775808) : Ev (fun k => armoireref02_TakeS.f k s e m) ((tS s e m).2.1, (tS s e m).2.2, (tS s e m).1) := by
  have h := (tN_nonneg s e m hm).1
  have e1 : (((tN s e m).1.toNat : Nat) : Int) = (tN s e m).1 := by omega
  have h2 := rtk_f (tN s e m).2.1 (tN s e m).2.2 (tN s e m).1.toNat (hv.tN m)
  rw [e1] at h2
  unfold armoireref02_TakeS.f
  refine Ev.bind (rN_f s e m hv) ?_
  simp only [h2, Option.bind_some]
  exact Ev.now _
end Go.Proofs.Ytfllpmmfjbjgoaa.PA

namespace Go.Proofs.Ytfllpmmfjbjgoaa.PA
open Go.RowKit Go.Proofs.YtfllpmmfjbjgoaaW.PrintWords Go.Proofs.YtfllpmmfjbjgoaaW.PrintLast Go.Proofs.YtfllpmmfjbjgoaaW.PrintMore Go.Proofs.Ytfllpmmfjbjgoaa
theorem one_byte (n : Nat) (_h : n < 256) : strOfNums [(n : Int)] = ⟨#[UInt8.ofNat n]⟩ := by
  refine bytes_ext ?_
  rw [strOfNums_data]
  simp
theorem rw_l0 (d : Nat) : ∀ (i m : Nat) (t : List UInt8), i + d = 8 → nlen m ≤ d → t.length = i → m < 18446744073709551616 →
    Ev (fun k => armoireref02_U.l0 k (m : Int) ⟨t.toArray⟩ (i : Int)) ⟨(UInt8.ofNat (nlen m + i) :: (digs m (nlen m) ++ t)).toArray⟩ := by
  induction d with
  | zero =>
    intro i m t hi hm ht hlt
    obtain rfl : i = 8 := by omega
    obtain rfl : m = 0 := by
      by_cases h : m = 0
      · exact h
      · rw [nlen_pos m h] at hm; omega
    refine Ev.step (f := fun _ => some ⟨(UInt8.ofNat (nlen 0 + 8) :: (digs 0 (nlen 0) ++ t)).toArray⟩) (fun k => ?_) (Ev.now _)
    have e1 : (((⟨t.toArray⟩ : ByteArray).size : Int)) % 256 = ((8 : Nat) : Int) := by rw [ba_mk_size, ht]; rfl
    have hs : (strOfNums [((8 : Nat) : Int)]).size = 1 := by rw [one_byte 8 (by decide)]; rfl
    simp only [armoireref02_U.l0]
    rw [if_neg (by omega)]
    simp only [Option.bind_some, e1]
    rw [if_pos (by rw [hs, ba_mk_size]; omega), one_byte 8 (by decide), nlen_zero]
    rfl
  | succ d ih =>
    intro i m t hi hm ht hlt
    have hi8 : (i : Int) < 8 := by omega
    by_cases h : m = 0
    · subst h
      refine Ev.step (f := fun _ => some ⟨(UInt8.ofNat (nlen 0 + i) :: (digs 0 (nlen 0) ++ t)).toArray⟩) (fun k => ?_) (Ev.now _)
      have e1 : (((⟨t.toArray⟩ : ByteArray).size : Int)) % 256 = (i : Int) := by rw [ba_mk_size, ht]; omega
      have hs : (strOfNums [(i : Int)]).size = 1 := by rw [one_byte i (by omega)]; rfl
      simp only [armoireref02_U.l0]
      rw [if_pos hi8, if_neg (by omega)]
      simp only [Option.bind_some, e1]
      rw [if_pos (by rw [hs, ba_mk_size]; omega), one_byte i (by omega), nlen_zero, Nat.zero_add]
      rfl
    · have hp := nlen_pos m h
      have hs : (strOfNums [((m % 256 : Nat) : Int)]).size = 1 := by rw [one_byte _ (Nat.mod_lt _ (by decide))]; rfl
      have htz : (⟨t.toArray⟩ : ByteArray).size = i := (ba_mk_size t).trans ht
      have hm0 : (m : Int) > 0 := by omega
      have hl : nlen m + i = nlen (m / 256) + (i + 1) := by omega
      have hi9 : 1 + i ≤ 9223372036854775807 := by omega
      have hsz : (strOfNums [((m % 256 : Nat) : Int)]).size + (⟨t.toArray⟩ : ByteArray).size ≤ 9223372036854775807 := by rw [hs, htz]; exact hi9
      have h1 := ih (i + 1) (m / 256) (UInt8.ofNat (m % 256) :: t) (by omega) (by omega) (by simp [ht]) (by omega)
      have e1 : Int.tmod (m : Int) 256 % 256 = ((m % 256 : Nat) : Int) := by rw [Int.tmod_eq_emod_of_nonneg (by omega)]; omega
      have e2 : IntKind.u64.wrap (Int.tdiv (m : Int) 256) = ((m / 256 : Nat) : Int) := by rw [Int.tdiv_eq_ediv_of_nonneg (by omega), wrap_u64]; omega
      have e3 : wrap64 ((i : Int) + 1) = ((i + 1 : Nat) : Int) := by unfold wrap64; omega
      have e4 : (⟨#[UInt8.ofNat (m % 256)]⟩ : ByteArray) ++ ⟨t.toArray⟩ = ⟨(UInt8.ofNat (m % 256) :: t).toArray⟩ := by
        refine bytes_ext ?_
        rw [ba_append]
        rfl
      have hd : digs m (nlen m) ++ t = digs (m / 256) (nlen (m / 256)) ++ (UInt8.ofNat (m % 256) :: t) := by
        rw [hp, digs_last, List.append_assoc]; rfl
      rw [hd, hl]
      refine Ev.step (fun k => ?_) h1
      simp only [armoireref02_U.l0]
      rw [if_pos hi8, if_pos hm0]
      simp only [Option.bind_some, e1, e2, e3]
      rw [if_pos hsz, one_byte _ (Nat.mod_lt _ (by decide)), e4]
theorem rw_f (n : Nat) (hn : n < 18446744073709551616) : Ev (fun k => armoireref02_U.f k (n : Int)) ⟨(numB n).toArray⟩ := by
  have h := rw_l0 8 0 n [] rfl (nlen_le 8 n (by simpa using hn)) rfl hn
  rw [List.append_nil, Nat.add_zero] at h
  exact h
theorem rwN_f (a : Int) (ha : a < 9223372036854775808) : Ev (fun k => armoireref02_N.f k a) ⟨(numB a.toNat).toArray⟩ := by
  have e : IntKind.u64.wrap (mx a 0) = (a.toNat : Int) := by rw [wrap_u64]; unfold mx; split <;> omega
  unfold armoireref02_N.f
  rw [e]
  exact Ev.bind (f := fun _ t => some t) (rw_f a.toNat (by omega)) (Ev.now _)
theorem rwS_f (s : ByteArray) (hs : s.size ≤ 140737488351232) : Ev (fun k => armoireref02_S.f k s) ⟨(strB s).toArray⟩ := by
  have hl := numB_length s.size (by omega)
  have e : (⟨(numB s.size).toArray⟩ : ByteArray) ++ s = ⟨(strB s).toArray⟩ := bytes_ext (by rw [ba_append]; rfl)
  have hz : (⟨(numB s.size).toArray⟩ : ByteArray).size + s.size ≤ 9223372036854775807 := by rw [ba_mk_size]; omega
  unfold armoireref02_S.f
  refine Ev.bind (rw_f s.size (by omega)) ?_
  simp only [if_pos hz, e]
  exact Ev.now _
theorem wN2 (s : ByteArray) (a b : Int) (hs : s.size ≤ 1000000) (ha : a < 9223372036854775808) (hb : b < 9223372036854775808) : codec_Out_N.f s [a, b] = some ⟨(s.data.toList ++ numB a.toNat ++ numB b.toNat).toArray⟩ := by
  unfold codec_Out_N.f
  rw [if_pos ⟨by simp only [List.length_cons, List.length_nil]; omega, by intro n hn; simp only [List.mem_cons, List.not_mem_nil, or_false] at hn; rcases hn with rfl | rfl <;> assumption⟩]
  simp
theorem wS1 (s a : ByteArray) (hs : s.size ≤ 1000000) (ha : a.size ≤ 1000000) : codec_Out_S.f s [a] = some ⟨(s.data.toList ++ strB a).toArray⟩ := by
  unfold codec_Out_S.f
  rw [if_pos (by simp only [List.map_cons, List.map_nil, List.sum_cons, List.sum_nil]; omega)]
  simp
end Go.Proofs.Ytfllpmmfjbjgoaa.PA

