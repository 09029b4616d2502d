import Derived.Test.YtkkkmbgflflcnaaQSxFCB
import Derived.Test.YtkkkmbgflflcnaaQSxPSx11
import Derived.Test.YtkkkmbgflflcnaaQSxPSx12
import Derived.Test.YtkkkmbgflflcnaaQSxPSx9
import Derived.Test.YtkkkmbgflflcnaaQSxPSx13
import Derived.Test.YtkkkmbgflflcnaaQSxPSx6
import Derived.Test.YtkkkmbgflflcnaaQSxPSx15
import Derived.Test.YtkkkmbgflflcnaaQSxPSx16
import Derived.Test.YtkkkmbgflflcnaaQSxPSx7
import Derived.Test.YtkkkmbgflflcnaaQSxPSx10
import Derived.Test.YtkkkmbgflflcnaaQSxPSx8
namespace Go.Proofs.Ytkkkmbgflflcnaa.PS
open Go.RowKit Go.Proofs.YtkkkmbgflflcnaaW.PrintWords Go.Proofs.YtkkkmbgflflcnaaW.PrintLast Go.Proofs.YtkkkmbgflflcnaaW.PrintMore Go.Proofs.Ytkkkmbgflflcnaa Go.Proofs.Ytkkkmbgflflcnaa.PL
theorem bt_at0 (s : ByteArray) (i : Nat) : bt s (i : Int) = ((s.data.toList.getD i 0).toNat : Int) := by
  by_cases h : i < s.size
  · simp [bt, h, List.getD_eq_getElem?_getD]
    rfl
  · have h2 : ¬ i < s.data.toList.length := by rw [ba_size] at h; exact h
    have e : bt s (i : Int) = 0 := by unfold bt; rw [dif_neg (by rw [Int.toNat_natCast]; exact h)]
    rw [e, List.getD_eq_getElem?_getD, List.getElem?_eq_none (by omega)]
    rfl
theorem fl_f (s : ByteArray) (e x : Int) : codec_In_Fail.f s e x = some (fl s e x) := by
  unfold codec_In_Fail.f fl
  by_cases h : e = 0
  · by_cases h2 : x = 0
    · rw [if_pos h, if_pos h2, if_pos h, if_pos h2]
    · rw [if_pos h, if_neg h2, if_pos h, if_neg h2]
  · rw [if_neg h, if_neg h]
theorem tk_f (s : ByteArray) (e : Int) (n : Nat) : codec_In_take.f s e (n : Int) = some (tk s e n) := by
  unfold codec_In_take.f tk
  by_cases h : n > s.size
  · rw [if_pos (by omega), if_pos h, fl_f]; rfl
  · rw [if_neg (by omega), if_neg h, if_pos (by omega), if_pos (by omega), Int.toNat_natCast]
theorem tk_err {s : ByteArray} {e : Int} {n : Nat} (he : e = 0) (h : (tk s e n).2.2 ≠ 0) : (tk s e n).1 = ⟨#[]⟩ := by
  by_cases c : n > s.size
  · unfold tk
    rw [if_pos c]
  · have : (tk s e n).2.2 = e := by unfold tk; rw [if_neg c]
    exact absurd (this.trans he) h
theorem tU_f (s : ByteArray) (e : Int) (_hv : Val s e) : codec_In_U.f s e = some (tU s e) := by
  have h1 := tk_f s e 1
  rw [show ((1 : Nat) : Int) = 1 from rfl] at h1
  unfold codec_In_U.f tU
  rw [h1, Option.bind_some]
  by_cases c : (tk s e 1).2.2 ≠ 0
  · rw [if_pos c, if_pos c]
  · rw [if_neg c, if_neg c]
    have hz : (tk s e 1).1.size = 1 := by
      have h3 : ¬ 1 > s.size := by
        intro h3
        have e2 : (tk s e 1).2.2 = (fl s e 1).2 := by unfold tk; rw [if_pos h3]
        rw [e2] at c
        unfold fl at c
        by_cases he : e = 0
        · rw [if_pos he, if_neg (by decide)] at c; exact c (by decide)
        · rw [if_neg he] at c; exact c he
      unfold tk
      rw [if_neg h3]
      show (s.extract 0 1).size = 1
      rw [ba_size, ba_extract, List.length_take, List.length_drop, ← ba_size]; omega
    rw [if_neg (by omega)]
    by_cases c2 : ((tk s e 1).1.data.toList.getD 0 0).toNat > 8
    · rw [if_pos c2, if_pos c2, fl_f]; rfl
    · rw [if_neg c2, if_neg c2, tk_f, Option.bind_some]
      dsimp only
      split
      · rw [fl_f]; rfl
      · rw [if_pos (by
          have h4 := (tk_size (s := (tk s e 1).2.1) (e := (tk s e 1).2.2) (n := ((tk s e 1).1.data.toList.getD 0 0).toNat) (by omega)).2.1
          omega)]
theorem tN_f (s : ByteArray) (e m : Int) (hv : Val s e) : codec_In_N.f s e m = some (tN s e m) := by
  unfold codec_In_N.f tN
  rw [tU_f s e hv, Option.bind_some]
  by_cases c : (tU s e).1 > IntKind.u64.wrap (mx m 0)
  · rw [if_pos c, if_pos c, fl_f]; rfl
  · rw [if_neg c, if_neg c]
theorem tN_nonneg (s : ByteArray) (e m : Int) (hm : m < 9223372036854775808) : 0 ≤ (tN s e m).1 ∧ (tN s e m).1 ≤ mx m 0 := by
  have h := tU_range s e
  have hw : IntKind.u64.wrap (mx m 0) = mx m 0 := by rw [wrap_u64]; unfold mx; split <;> omega
  have hm0 : 0 ≤ mx m 0 ∧ mx m 0 < 9223372036854775808 := by unfold mx; split <;> omega
  unfold tN
  rw [hw]
  split
  · exact ⟨Int.le_refl 0, hm0.1⟩
  · rename_i c
    show 0 ≤ wrap64 (tU s e).1 ∧ wrap64 (tU s e).1 ≤ mx m 0
    have : wrap64 (tU s e).1 = (tU s e).1 := by unfold wrap64; omega
    rw [this]
    exact ⟨h.1, by omega⟩
theorem tS_f (s : ByteArray) (e m : Int) (hv : Val s e) (hm : m < 9223372036854775808) : codec_In_S.f s e m = some (tS s e m) := by
  have h := (tN_nonneg s e m hm).1
  have e1 : (((tN s e m).1.toNat : Nat) : Int) = (tN s e m).1 := by omega
  have h2 := tk_f (tN s e m).2.1 (tN s e m).2.2 (tN s e m).1.toNat
  rw [e1] at h2
  unfold codec_In_S.f tS
  rw [tN_f s e m hv, Option.bind_some, h2]
  rfl
theorem rfl_f (s : ByteArray) (e x : Int) : armoireref02_Fail.f s e x = some (fl s e x) := by
  unfold armoireref02_Fail.f fl
  by_cases h : e = 0
  · by_cases h2 : x = 0
    · rw [if_pos h, if_pos h2, if_pos h, if_pos h2]
    · rw [if_pos h, if_neg h2, if_pos h, if_neg h2]
  · rw [if_neg h, if_neg h]
theorem rtk_f (s : ByteArray) (e : Int) (n : Nat) (hv : Val s e) : armoireref02_take.f s e (n : Int) = some ((tk s e n).2.1, (tk s e n).2.2, (tk s e n).1) := by
  unfold armoireref02_take.f tk fl
  by_cases he : e = 0
  · subst he
    by_cases h : n > s.size
    · rw [if_pos rfl, if_pos (by omega), if_pos h, if_pos rfl, if_neg (by decide)]
    · rw [if_pos rfl, if_neg (by omega), if_neg h, if_pos (by omega), if_pos (by omega), Int.toNat_natCast]
  · obtain rfl := hv.2 he
    rw [if_neg he]
    by_cases h : n > (⟨#[]⟩ : ByteArray).size
    · rw [if_pos h, if_neg he]
    · rw [if_neg h, ba_empty_extract, ba_empty_extract]
theorem rU_l0 (b : ByteArray) (s : ByteArray) (e : Int) (hb : b.size ≤ 255) (d : Nat) : ∀ i n : Nat, i + d = b.size → n < 18446744073709551616 →
    Ev (fun k => armoireref02_TakeU.l0 k b (n : Int) (i : Int) s e) (s, e, ((beN n (b.data.toList.drop i) : Nat) : Int)) := by
  induction d with
  | zero =>
    intro i n hi hn
    refine Ev.step (f := fun _ => some (s, e, (n : Int))) (fun k => ?_) ?_
    · simp only [armoireref02_TakeU.l0]
      rw [if_neg (by omega)]
    · rw [List.drop_eq_nil_of_le (by rw [← ba_size]; omega)]
      exact Ev.now _
  | succ d ih =>
    intro i n hi hn
    have hc := UInt8.toNat_lt (b.data.toList.getD i 0)
    have hd : b.data.toList.drop i = b.data.toList.getD i 0 :: b.data.toList.drop (i + 1) := by
      have hl : i < b.data.toList.length := by rw [← ba_size]; omega
      rw [List.drop_eq_getElem_cons hl, List.getD_eq_getElem?_getD, List.getElem?_eq_getElem hl]
      rfl
    have h1 := ih (i + 1) ((n * 256 + (b.data.toList.getD i 0).toNat) % 18446744073709551616) (by omega) (Nat.mod_lt _ (by decide))
    rw [hd]
    refine Ev.step (fun k => ?_) h1
    have e1 : IntKind.u64.wrap ((IntKind.u64.wrap ((n : Int) * 256)) + (IntKind.u64.wrap (((b.data.toList.getD i 0).toNat : Nat) : Int))) = (((n * 256 + (b.data.toList.getD i 0).toNat) % 18446744073709551616 : Nat) : Int) := by
      simp only [wrap_u64]; omega
    have e2 : wrap64 ((i : Int) + 1) = ((i + 1 : Nat) : Int) := by unfold wrap64; omega
    simp only [armoireref02_TakeU.l0]
    rw [if_pos (by clear e1 e2; omega), if_pos (by clear e1 e2; omega), bt_at0, e1, e2]
theorem rU_f (s : ByteArray) (e : Int) (hv : Val s e) : Ev (fun k => armoireref02_TakeU.f k s e) ((tU s e).2.1, (tU s e).2.2, (tU s e).1) := by
  have h1 := rtk_f s e 1 hv
  rw [show ((1 : Nat) : Int) = 1 from rfl] at h1
  by_cases c : (tk s e 1).2.2 = 0
  rotate_left
  · have ht : tU s e = (0, (tk s e 1).2) := by unfold tU; rw [if_pos c]
    refine Ev.congr (f := fun _ => some ((tU s e).2.1, (tU s e).2.2, (tU s e).1)) (fun k => ?_) (Ev.now _)
    unfold armoireref02_TakeU.f
    rw [h1, Option.bind_some, if_neg c, ht]
  have hz : (tk s e 1).1.size = 1 := by
    have h3 : ¬ 1 > s.size := by
      intro h3
      have e2 : (tk s e 1).2.2 = (fl s e 1).2 := by unfold tk; rw [if_pos h3]
      rw [e2] at c
      unfold fl at c
      by_cases he : e = 0
      · rw [if_pos he, if_neg (by decide)] at c; exact absurd c (by decide)
      · rw [if_neg he] at c; exact he c
    unfold tk
    rw [if_neg h3]
    show (s.extract 0 1).size = 1
    rw [ba_size, ba_extract, List.length_take, List.length_drop, ← ba_size]; omega
  have hb0 : bt (tk s e 1).1 0 = (((tk s e 1).1.data.toList.getD 0 0).toNat : Int) := bt_at0 _ 0
  have hb8 := UInt8.toNat_lt ((tk s e 1).1.data.toList.getD 0 0)
  by_cases c2 : ((tk s e 1).1.data.toList.getD 0 0).toNat > 8
  · have ht : tU s e = (0, fl (tk s e 1).2.1 (tk s e 1).2.2 2) := by unfold tU; rw [if_neg (by simp [c]), if_pos c2]
    refine Ev.congr (f := fun _ => some ((tU s e).2.1, (tU s e).2.2, (tU s e).1)) (fun k => ?_) (Ev.now _)
    unfold armoireref02_TakeU.f
    rw [h1, Option.bind_some]
    dsimp only
    rw [if_pos c, if_pos (by omega), hb0, if_pos (by omega), ht]
    unfold fl
    rw [if_pos c, if_neg (by decide)]
  have hv1 := hv.tk 1
  have h2 := rtk_f (tk s e 1).2.1 (tk s e 1).2.2 ((tk s e 1).1.data.toList.getD 0 0).toNat hv1
  have hw : wrap64 (((tk s e 1).1.data.toList.getD 0 0).toNat : Int) = (((tk s e 1).1.data.toList.getD 0 0).toNat : Int) := by unfold wrap64; omega
  have hz2 := (tk_size (s := (tk s e 1).2.1) (e := (tk s e 1).2.2) (n := ((tk s e 1).1.data.toList.getD 0 0).toNat) (by omega)).2.1
  obtain ⟨b, hb⟩ : ∃ b, b = tk (tk s e 1).2.1 (tk s e 1).2.2 ((tk s e 1).1.data.toList.getD 0 0).toNat := ⟨_, rfl⟩
  have hb2 : bt b.1 0 = ((b.1.data.toList.getD 0 0).toNat : Int) := bt_at0 _ 0
  have ht : tU s e = if b.1.size ≠ 0 ∧ b.1.data.toList.getD 0 0 = 0 then ((0 : Int), fl b.2.1 b.2.2 2) else (((beN 0 b.1.data.toList : Nat) : Int), b.2) := by
    unfold tU; rw [if_neg (by simp [c]), if_neg c2, ← hb]
  rw [← hb] at h2 hz2
  have hl := rU_l0 b.1 b.2.1 b.2.2 (by omega) b.1.size 0 0 (by omega) (by decide)
  rw [List.drop_zero] at hl
  have hstart : ∀ k, armoireref02_TakeU.f k s e = (if b.2.2 = 0 then (if (b.1.size : Int) > 0 then (if 0 < (b.1.size : Int) then (armoireref02_TakeU.j0 k b.1 ((bt b.1 0) == 0) b.2.1 b.2.2) else (none)) else (armoireref02_TakeU.j0 k b.1 false b.2.1 b.2.2)) else (armoireref02_TakeU.j0 k b.1 false b.2.1 b.2.2)) := by
    intro k
    unfold armoireref02_TakeU.f
    rw [h1, Option.bind_some]
    dsimp only
    rw [if_pos c, if_pos (by omega), hb0, if_neg (by omega), hw, h2, Option.bind_some]
  refine Ev.congr hstart ?_
  have hgo : Ev (fun k => armoireref02_TakeU.j0 k b.1 false b.2.1 b.2.2) (b.2.1, b.2.2, ((beN 0 b.1.data.toList : Nat) : Int)) := by
    refine Ev.step (fun k => ?_) hl
    simp only [armoireref02_TakeU.j0]
    rw [if_neg (by decide)]
    rfl
  by_cases c3 : b.2.2 = 0
  · simp only [if_pos c3]
    by_cases c4 : b.1.size = 0
    · rw [ht, if_neg (by simp [c4])]
      refine Ev.congr (fun k => ?_) hgo
      rw [if_neg (by omega)]
    · by_cases c5 : b.1.data.toList.getD 0 0 = 0
      · rw [ht, if_pos ⟨c4, c5⟩]
        refine Ev.step (f := fun _ => some ((⟨#[]⟩ : ByteArray), 2, 0)) (fun k => ?_) ?_
        · rw [if_pos (by omega), if_pos (by omega), hb2, c5]
          simp only [armoireref02_TakeU.j0]
          rw [if_pos (by decide)]
        · unfold fl
          rw [if_pos c3, if_neg (by decide)]
          exact Ev.now _
      · rw [ht, if_neg (fun h => c5 h.2)]
        refine Ev.congr (fun k => ?_) hgo
        rw [if_pos (by omega), if_pos (by omega), hb2]
        have : (((b.1.data.toList.getD 0 0).toNat : Int) == 0) = false := by
          rw [beq_eq_false_iff_ne]
          intro h
          exact c5 (UInt8.toNat_inj.1 (by have : (0 : UInt8).toNat = 0 := rfl
                                          omega))
        rw [this]
  · simp only [if_neg c3]
    have hbv : b.1 = ⟨#[]⟩ := by
      rw [hb] at c3 ⊢
      exact tk_err c c3
    rw [ht, if_neg (fun h => h.1 (by rw [hbv]; rfl))]
    exact hgo
theorem rN_f (s : ByteArray) (e m : Int) (hv : Val s e) : Ev (fun k => armoireref02_TakeN.f k s e m) ((tN s e m).2.1, (tN s e m).2.2, (tN s e m).1) := by
  unfold armoireref02_TakeN.f
  refine Ev.bind (rU_f s e hv) ?_
  unfold tN
  by_cases c : (tU s e).1 > IntKind.u64.wrap (mx m 0)
  · simp only [if_pos c, rfl_f, Option.bind_some]
    exact Ev.now _
  · simp only [if_neg c]
    exact Ev.now _
theorem rS_f (s : ByteArray) (e m : Int) (hv : Val s e) (hm : m < 9223372036854775808) : Ev (fun k => armoireref02_TakeS.f k s e m) ((tS s e m).2.1, (tS s e m).2.2, (tS s e m).1) := by
  have h := (tN_nonneg s e m hm).1
  have e1 : (((tN s e m).1.toNat : Nat) : Int) = (tN s e m).1 := by omega
  have h2 := rtk_f (tN s e m).2.1 (tN s e m).2.2 (tN s e m).1.toNat (hv.tN m)
  rw [e1] at h2
  unfold armoireref02_TakeS.f
  refine Ev.bind (rN_f s e m hv) ?_
  simp only [h2, Option.bind_some]
  exact Ev.now _
end Go.Proofs.Ytkkkmbgflflcnaa.PS

namespace Go.Proofs.Ytkkkmbgflflcnaa.PS
open Go.RowKit Go.Proofs.YtkkkmbgflflcnaaW.PrintWords Go.Proofs.YtkkkmbgflflcnaaW.PrintLast Go.Proofs.YtkkkmbgflflcnaaW.PrintMore Go.Proofs.Ytkkkmbgflflcnaa Go.Proofs.Ytkkkmbgflflcnaa.PL
theorem u64_and_1 (n : Int) (h0 : 0 ≤ n) (h1 : n < 18446744073709551616) : Go.bits .and .u64 n 1 = n % 2 := by
  have h := (bits_nat .u64 64 (by decide) (fun n h0 h1 => by rw [wrap_u64]; omega) n.toNat 1 (by omega) (by decide)).1
  rw [Nat.and_one_is_mod, show ((n.toNat : Nat) : Int) = n by omega] at h
  refine h.trans ?_
  omega
theorem uns_wrap (n : Int) (h0 : 0 ≤ n) (h1 : n < 18446744073709551616) : wrap64 ((wrap64 (-(wrap64 (n / 2)))) - 1) = -(n / 2) - 1 ∧ wrap64 (n / 2) = n / 2 ∧ wrap64 ((wrap64 (-(n / 2))) - 1) = -(n / 2) - 1 := by
  unfold wrap64; omega
theorem tI_f (s : ByteArray) (e : Int) (hv : Val s e) : codec_In_I.f s e = some (tI s e) := by
  have h := tU_range s e
  have h2 := uns_wrap _ h.1 h.2
  unfold codec_In_I.f tI uns
  rw [tU_f s e hv, Option.bind_some, u64_and_1 _ h.1 h.2, h2.1, h2.2.1]
  by_cases c : (tU s e).1 % 2 = 1
  · rw [if_pos c, if_pos c]
  · rw [if_neg c, if_neg c]
theorem rI_f (s : ByteArray) (e : Int) (hv : Val s e) : Ev (fun k => armoireref02_TakeI.f k s e) ((tI s e).2.1, (tI s e).2.2, (tI s e).1) := by
  have h := tU_range s e
  have h2 := uns_wrap _ h.1 h.2
  have e1 : IntKind.u64.wrap (Int.tdiv (tU s e).1 2) = (tU s e).1 / 2 := by
    rw [Int.tdiv_eq_ediv_of_nonneg h.1, wrap_u64]; omega
  have e2 : Int.tmod (tU s e).1 2 = (tU s e).1 % 2 := Int.tmod_eq_emod_of_nonneg h.1
  unfold armoireref02_TakeI.f
  refine Ev.bind (rU_f s e hv) ?_
  simp only [e1, e2, h2.2.1, h2.2.2]
  unfold tI uns
  by_cases c : (tU s e).1 % 2 = 1
  · simp only [if_pos c]
    exact Ev.now _
  · simp only [if_neg c]
    exact Ev.now _
end Go.Proofs.Ytkkkmbgflflcnaa.PS

namespace Go.Proofs.Ytkkkmbgflflcnaa.PS
open Go.RowKit Go.Proofs.YtkkkmbgflflcnaaW.PrintWords Go.Proofs.YtkkkmbgflflcnaaW.PrintLast Go.Proofs.YtkkkmbgflflcnaaW.PrintMore Go.Proofs.Ytkkkmbgflflcnaa
theorem strB_length (s : ByteArray) (hs : s.size ≤ 140737488351232) : (strB s).length ≤ s.size + 9 := by
  have hl := numB_length s.size (by omega)
  unfold strB
  rw [List.length_append, ← ba_size]; omega
theorem wN1 (s : ByteArray) (a : Int) (hs : s.size ≤ 1000000) (ha : a < 9223372036854775808) : codec_Out_N.f s [a] = some ⟨(s.data.toList ++ numB a.toNat).toArray⟩ := by
  unfold codec_Out_N.f
  rw [if_pos ⟨by simp only [List.length_cons, List.length_nil]; omega, by intro n hn; rw [List.mem_singleton.1 hn]; exact ha⟩]
  simp
theorem wN2 (s : ByteArray) (a b : Int) (hs : s.size ≤ 1000000) (ha : a < 9223372036854775808) (hb : b < 9223372036854775808) : codec_Out_N.f s [a, b] = some ⟨(s.data.toList ++ numB a.toNat ++ numB b.toNat).toArray⟩ := by
  unfold codec_Out_N.f
  rw [if_pos ⟨by simp only [List.length_cons, List.length_nil]; omega, by intro n hn; simp only [List.mem_cons, List.not_mem_nil, or_false] at hn; rcases hn with rfl | rfl <;> assumption⟩]
  simp
theorem wS1 (s a : ByteArray) (hs : s.size ≤ 1000000) (ha : a.size ≤ 1000000) : codec_Out_S.f s [a] = some ⟨(s.data.toList ++ strB a).toArray⟩ := by
  unfold codec_Out_S.f
  rw [if_pos (by simp only [List.map_cons, List.map_nil, List.sum_cons, List.sum_nil]; omega)]
  simp
theorem wS2 (s a b : ByteArray) (hs : s.size ≤ 1000000) (ha : a.size ≤ 1000000) (hb : b.size ≤ 1000000) : codec_Out_S.f s [a, b] = some ⟨(s.data.toList ++ strB a ++ strB b).toArray⟩ := by
  unfold codec_Out_S.f
  rw [if_pos (by simp only [List.map_cons, List.map_nil, List.sum_cons, List.sum_nil]; omega)]
  simp
end Go.Proofs.Ytkkkmbgflflcnaa.PS

namespace Go.Proofs.Ytkkkmbgflflcnaa.PS
open Go.RowKit Go.Proofs.YtkkkmbgflflcnaaW.PrintWords Go.Proofs.YtkkkmbgflflcnaaW.PrintLast Go.Proofs.YtkkkmbgflflcnaaW.PrintMore Go.Proofs.Ytkkkmbgflflcnaa
theorem wI1 (s : ByteArray) (a : Int) (hs : s.size ≤ 1000000) (h0 : -9223372036854775808 ≤ a) (h1 : a < 9223372036854775808) : codec_Out_I.f s [a] = some ⟨(s.data.toList ++ numB (zig a)).toArray⟩ := by
  unfold codec_Out_I.f
  rw [if_pos ⟨by simp only [List.length_cons, List.length_nil]; omega, by intro n hn; rw [List.mem_singleton.1 hn]; exact ⟨h0, h1⟩⟩]
  simp
end Go.Proofs.Ytkkkmbgflflcnaa.PS

namespace Go.Proofs.Ytkkkmbgflflcnaa.PS
set_option linter.unusedSimpArgs false
open Go.RowKit Go.Proofs.YtkkkmbgflflcnaaW.PrintWords Go.Proofs.YtkkkmbgflflcnaaW.PrintLast Go.Proofs.YtkkkmbgflflcnaaW.PrintMore Go.Proofs.Ytkkkmbgflflcnaa Go.Proofs.Ytkkkmbgflflcnaa.PL
def hasA (op : Int) : Bool := op == 2 || (decide (8 ≤ op) && decide (op ≤ 14)) || op == 16
def hasN (op : Int) : Bool := op == 3 || op == 5 || op == 6
def chk (op : Int) (a b : ByteArray) (n : Int) : Int :=
  if op < 1 ∨ 17 < op then 6
  else if (hasA op = false ∧ ¬ a.toList = []) ∨ (¬ op = 11 ∧ ¬ b.toList = []) ∨ (hasN op = false ∧ ¬ n = 0) then 2
  else if a.size > 24 ∨ b.size > 24 then 3
  else if (op = 5 ∨ op = 6) ∧ (n < 1 ∨ n > 1048576) then 4 else 0
theorem ops17 (op : Int) (h0 : 1 ≤ op) (h1 : op ≤ 17) : op = 1 ∨ op = 2 ∨ op = 3 ∨ op = 4 ∨ op = 5 ∨ op = 6 ∨ op = 7 ∨ op = 8 ∨ op = 9 ∨ op = 10 ∨ op = 11 ∨ op = 12 ∨ op = 13 ∨ op = 14 ∨ op = 15 ∨ op = 16 ∨ op = 17 := by omega
theorem shape_f (op : Int) (h0 : 1 ≤ op) (h1 : op ≤ 17) : ∃ kd w, ¬ kd = 0 ∧ method_Op_shape.f op = some (kd, w, hasA op, op == 11, hasN op) := by
  have h : (method_Op_shape.f op).map (fun r => (r.1 != 0, r.2.2)) = some (true, hasA op, op == 11, hasN op) := by
    rcases ops17 op h0 h1 with rfl | rfl | rfl | rfl | rfl | rfl | rfl | rfl | rfl | rfl | rfl | rfl | rfl | rfl | rfl | rfl | rfl <;> decide +kernel
  obtain ⟨⟨kd, w, x⟩, hx, he⟩ := Option.map_eq_some_iff.1 h
  simp only [Prod.mk.injEq, bne_iff_ne] at he
  exact ⟨kd, w, he.1, by rw [hx, he.2]⟩
theorem shape_out (op : Int) (h : op < 1 ∨ 17 < op) : method_Op_shape.f op = some (0, ⟨#[]⟩, false, false, false) := by
  unfold method_Op_shape.f
  by_cases c : op < 1
  · rw [if_pos c]
  · rw [if_neg c, if_pos (by omega)]
theorem j2_tail (k : Nat) (op : Int) (a b : ByteArray) (n : Int) (hh : 1 ≤ op ∧ op ≤ 17) (c2 : ¬ ((hasA op = false ∧ ¬ a.toList = []) ∨ (¬ op = 11 ∧ ¬ b.toList = []) ∨ (hasN op = false ∧ ¬ n = 0))) :
    method_Call_Check.j1 (k + 2) false op a b n = some (chk op a b n) ∧ armoireref12_Check.j1 (k + 2) false op a b n = some (chk op a b n) := by
  unfold chk
  rw [if_neg (by omega), if_neg c2]
  simp only [method_Call_Check.j1, method_Call_Check.j2, armoireref12_Check.j1, armoireref12_Check.j2]
  by_cases ha : a.size > 24
  · have ha' : (a.size : Int) > 24 := by omega
    simp [ha, ha']
  · have ha' : ¬ (a.size : Int) > 24 := by omega
    by_cases hb : b.size > 24
    · have hb' : (b.size : Int) > 24 := by omega
      simp [ha, ha', hb, hb']
    · have hb' : ¬ (b.size : Int) > 24 := by omega
      by_cases h5 : op = 5 <;> by_cases h6 : op = 6 <;> by_cases h7 : n < 1 <;> by_cases h8 : n > 1048576 <;> simp [ha, ha', hb, hb', h5, h6, h7, h8] <;> omega
theorem j1_true (k : Nat) (op : Int) (a b : ByteArray) (n : Int) : method_Call_Check.j1 (k + 2) true op a b n = some 2 ∧ armoireref12_Check.j1 (k + 2) true op a b n = some 2 := by
  simp [method_Call_Check.j1, armoireref12_Check.j1]
theorem check_k (k : Nat) (op : Int) (a b : ByteArray) (n : Int) : method_Call_Check.f (k + 3) op a b n = some (chk op a b n) := by
  by_cases ho : op < 1 ∨ 17 < op
  · unfold method_Call_Check.f chk
    rw [shape_out op ho, if_pos ho]
    rfl
  · have hh : 1 ≤ op ∧ op ≤ 17 := by omega
    obtain ⟨kd, w, hk, hs⟩ := shape_f op hh.1 hh.2
    unfold method_Call_Check.f
    rw [hs, Option.bind_some]
    dsimp only
    rw [if_neg hk]
    have h2 : ((hasA op = false ∧ ¬ a.toList = []) ∨ (¬ op = 11 ∧ ¬ b.toList = []) ∨ (hasN op = false ∧ ¬ n = 0)) → chk op a b n = 2 := by
      intro c; unfold chk; rw [if_neg ho, if_pos c]
    have h1 := (j1_true k op a b n).1
    have h3 := fun c => (j2_tail k op a b n hh c).1
    cases hA : hasA op <;> cases hN : hasN op <;> by_cases h11 : op = 11 <;> by_cases ha : a.toList = [] <;> by_cases hb : b.toList = [] <;> by_cases hn : n = 0 <;>
      ((first | have qn : (n != 0) = true := bne_iff_ne.mpr hn | have qn : (n != 0) = false := bne_eq_false_iff_eq.mpr hn)
       (first | have qa : (a.toList != []) = true := bne_iff_ne.mpr ha | have qa : (a.toList != []) = false := bne_eq_false_iff_eq.mpr ha)
       (first | have qb : (b.toList != []) = true := bne_iff_ne.mpr hb | have qb : (b.toList != []) = false := bne_eq_false_iff_eq.mpr hb)
       simp only [method_Call_Check.j0, qn, qa, qb]
       simp_all)
theorem hasA_f (op : Int) : armoireref12_HasA.f op = some (hasA op) := by
  unfold armoireref12_HasA.f hasA
  by_cases h2 : op = 2
  · simp [h2]
  · by_cases h8 : op ≥ 8
    · by_cases h14 : op ≤ 14
      · simp [h2, h8, h14]
      · simp [h2, h8, h14]
    · simp [h2, h8]
theorem hasN_f (op : Int) : armoireref12_HasN.f op = some (hasN op) := by
  unfold armoireref12_HasN.f hasN
  by_cases h3 : op = 3
  · simp [h3]
  · by_cases h5 : op = 5
    · simp [h5]
    · simp [h3, h5]
theorem rcheck_k (k : Nat) (op : Int) (a b : ByteArray) (n : Int) : armoireref12_Check.f (k + 3) op a b n = some (chk op a b n) := by
  by_cases ho : op < 1 ∨ 17 < op
  · unfold armoireref12_Check.f chk
    rw [if_pos ho]
    by_cases c : op < 1
    · rw [if_pos c]
      simp [armoireref12_Check.j0]
    · rw [if_neg c, decide_eq_true (by omega)]
      simp [armoireref12_Check.j0]
  · have hh : 1 ≤ op ∧ op ≤ 17 := by omega
    unfold armoireref12_Check.f
    rw [if_neg (by omega), decide_eq_false (by omega)]
    have h2 : ((hasA op = false ∧ ¬ a.toList = []) ∨ (¬ op = 11 ∧ ¬ b.toList = []) ∨ (hasN op = false ∧ ¬ n = 0)) → chk op a b n = 2 := by
      intro c; unfold chk; rw [if_neg ho, if_pos c]
    have h1 := (j1_true k op a b n).2
    have h3 := fun c => (j2_tail k op a b n hh c).2
    cases hA : hasA op <;> cases hN : hasN op <;> by_cases h11 : op = 11 <;> by_cases ha : a.toList = [] <;> by_cases hb : b.toList = [] <;> by_cases hn : n = 0 <;>
      ((first | have qn : (n != 0) = true := bne_iff_ne.mpr hn | have qn : (n != 0) = false := bne_eq_false_iff_eq.mpr hn)
       (first | have qa : (a.toList != []) = true := bne_iff_ne.mpr ha | have qa : (a.toList != []) = false := bne_eq_false_iff_eq.mpr ha)
       (first | have qb : (b.toList != []) = true := bne_iff_ne.mpr hb | have qb : (b.toList != []) = false := bne_eq_false_iff_eq.mpr hb)
       simp only [armoireref12_Check.j0, hasA_f, hasN_f, Option.bind_some, qn, qa, qb]
       simp_all)
theorem check_f (op : Int) (a b : ByteArray) (n : Int) : Ev (fun k => method_Call_Check.f k op a b n) (chk op a b n) :=
  ⟨3, fun k hk => by obtain ⟨m, rfl⟩ : ∃ m, k = m + 3 := ⟨k - 3, by omega⟩
                     exact check_k m op a b n⟩
theorem rcheck_f (op : Int) (a b : ByteArray) (n : Int) : Ev (fun k => armoireref12_Check.f k op a b n) (chk op a b n) :=
  ⟨3, fun k hk => by obtain ⟨m, rfl⟩ : ∃ m, k = m + 3 := ⟨k - 3, by omega⟩
                     exact rcheck_k m op a b n⟩
def chkR (c : Int) (t : ByteArray) (n : Int) : Int :=
  if ¬ c = 1 ∧ ¬ c = 2 then 6 else if t.size > 24 then 3 else if ¬ t.toList = [] ∧ ¬ n = 0 then 2 else 0
theorem checkR_k (k : Nat) (c : Int) (t : ByteArray) (n : Int) : method_Result_Check.f (k + 1) c t n = some (chkR c t n) ∧ armoireref12_CheckResult.f (k + 1) c t n = some (chkR c t n) := by
  unfold method_Result_Check.f armoireref12_CheckResult.f chkR
  simp only [method_Result_Check.j0, armoireref12_CheckResult.j0]
  have e : (t.size > 24) = ((t.size : Int) > 24) := propext (by omega)
  simp only [e]
  by_cases h1 : c = 1 <;> by_cases h2 : c = 2 <;> by_cases h3 : (t.size : Int) > 24 <;> by_cases h4 : t.toList = [] <;> by_cases h5 : n = 0 <;>
    ((first | have q2 : (c != 2) = true := bne_iff_ne.mpr h2 | have q2 : (c != 2) = false := bne_eq_false_iff_eq.mpr h2)
     simp only [q2, h1, h2, h3, h4, h5, if_true, if_false, and_true, and_self, not_true, not_false_iff, and_false, false_and, Bool.false_eq_true]
     try simp_all)
theorem checkR_f (c : Int) (t : ByteArray) (n : Int) : Ev (fun k => method_Result_Check.f k c t n) (chkR c t n) :=
  ⟨1, fun k hk => by obtain ⟨m, rfl⟩ : ∃ m, k = m + 1 := ⟨k - 1, by omega⟩
                     exact (checkR_k m c t n).1⟩
theorem rcheckR_f (c : Int) (t : ByteArray) (n : Int) : Ev (fun k => armoireref12_CheckResult.f k c t n) (chkR c t n) :=
  ⟨1, fun k hk => by obtain ⟨m, rfl⟩ : ∃ m, k = m + 1 := ⟨k - 1, by omega⟩
                     exact (checkR_k m c t n).2⟩
def rC (s : ByteArray) (e : Int) : Int × ByteArray × ByteArray × Int × ByteArray × Int :=
  let x1 := tN s e 17
  let x2 := tS x1.2.1 x1.2.2 24
  let x3 := tS x2.2.1 x2.2.2 24
  let x4 := tI x3.2.1 x3.2.2
  if x4.2.2 = 0 ∧ chk x1.1 x2.1 x3.1 x4.1 = 0 then (x1.1, x2.1, x3.1, x4.1, x4.2.1, 0) else (0, ⟨#[]⟩, ⟨#[]⟩, 0, fl x4.2.1 x4.2.2 (chk x1.1 x2.1 x3.1 x4.1))
theorem fl_no (s : ByteArray) (e x : Int) (h : ¬ e = 0) : fl s e x = (s, e) := by unfold fl; rw [if_neg h]
theorem fl_yes (s : ByteArray) (x : Int) (h : ¬ x = 0) : fl s 0 x = (⟨#[]⟩, x) := by unfold fl; rw [if_pos rfl, if_neg h]
theorem fl_zero (s : ByteArray) : fl s 0 0 = (s, 0) := by unfold fl; rw [if_pos rfl, if_pos rfl]
def rR (s : ByteArray) (e : Int) : Int × ByteArray × Int × ByteArray × Int :=
  let x1 := tN s e 2
  let x2 := tS x1.2.1 x1.2.2 24
  let x4 := tI x2.2.1 x2.2.2
  if x4.2.2 = 0 ∧ chkR x1.1 x2.1 x4.1 = 0 then (x1.1, x2.1, x4.1, x4.2.1, 0) else (0, ⟨#[]⟩, 0, fl x4.2.1 x4.2.2 (chkR x1.1 x2.1 x4.1))
end Go.Proofs.Ytkkkmbgflflcnaa.PS

namespace Go.Proofs.Ytkkkmbgflflcnaa.PS
set_option linter.unusedSimpArgs false
open Go.RowKit Go.Proofs.YtkkkmbgflflcnaaW.PrintWords Go.Proofs.YtkkkmbgflflcnaaW.PrintLast Go.Proofs.YtkkkmbgflflcnaaW.PrintMore Go.Proofs.Ytkkkmbgflflcnaa Go.Proofs.Ytkkkmbgflflcnaa.PL
theorem rC_j0 (s : ByteArray) (e op : Int) (a b : ByteArray) (n : Int) : Ev (fun k => method_ReadCall.j0 k s e op a b n) (if e = 0 then (op, a, b, n, s, e) else (0, ⟨#[]⟩, ⟨#[]⟩, 0, s, e)) := by
  refine Ev.step (fun k => by simp only [method_ReadCall.j0, codec_In_Err.f, Option.bind_some]; rfl) ?_
  by_cases c : e = 0
  · simp only [if_pos c]; exact Ev.now _
  · simp only [if_neg c]; exact Ev.now _
theorem rC_f (s : ByteArray) (e : Int) (hv : Val s e) : Ev (fun k => method_ReadCall.f k s e) (rC s e) := by
  have h1 := tN_f s e 17 hv
  have v1 := hv.tN 17
  have h2 := tS_f _ _ 24 v1 (by decide)
  have v2 := v1.tS 24
  have h3 := tS_f _ _ 24 v2 (by decide)
  have v3 := v2.tS 24
  have h4 := tI_f _ _ v3
  unfold method_ReadCall.f rC
  simp only [h1, Option.bind_some, h2, h3, h4, codec_In_Err.f]
  generalize tN s e 17 = x1
  generalize tS x1.2.1 x1.2.2 24 = x2
  generalize tS x2.2.1 x2.2.2 24 = x3
  generalize tI x3.2.1 x3.2.2 = x4
  obtain ⟨n, s4, e4⟩ := x4
  dsimp only
  by_cases c : e4 = 0
  · subst c
    simp only [if_true]
    refine Ev.bind (check_f _ _ _ _) ?_
    by_cases c2 : chk x1.1 x2.1 x3.1 n = 0
    · have h := rC_j0 s4 0 x1.1 x2.1 x3.1 n
      rw [c2]
      simp only [fl_f, fl_zero, Option.bind_some, if_true, and_self]
      exact h
    · have h := rC_j0 ⟨#[]⟩ (chk x1.1 x2.1 x3.1 n) x1.1 x2.1 x3.1 n
      rw [if_neg c2] at h
      simp only [fl_f, fl_yes _ _ c2, Option.bind_some, c2, and_false, if_false]
      exact h
  · have h := rC_j0 s4 e4 x1.1 x2.1 x3.1 n
    rw [if_neg c] at h
    simp only [if_neg c, c, false_and, if_false, fl_no _ _ _ c]
    exact h
theorem rR_j0 (s : ByteArray) (e op : Int) (a : ByteArray) (n : Int) : Ev (fun k => method_ReadResult.j0 k s e op a n) (if e = 0 then (op, a, n, s, e) else (0, ⟨#[]⟩, 0, s, e)) := by
  refine Ev.step (fun k => by simp only [method_ReadResult.j0, codec_In_Err.f, Option.bind_some]; rfl) ?_
  by_cases c : e = 0
  · simp only [if_pos c]; exact Ev.now _
  · simp only [if_neg c]; exact Ev.now _
theorem rR_f (s : ByteArray) (e : Int) (hv : Val s e) : Ev (fun k => method_ReadResult.f k s e) (rR s e) := by
  have h1 := tN_f s e 2 hv
  have v1 := hv.tN 2
  have h2 := tS_f _ _ 24 v1 (by decide)
  have v2 := v1.tS 24
  have h4 := tI_f _ _ v2
  unfold method_ReadResult.f rR
  simp only [h1, Option.bind_some, h2, h4, codec_In_Err.f]
  generalize tN s e 2 = x1
  generalize tS x1.2.1 x1.2.2 24 = x2
  generalize tI x2.2.1 x2.2.2 = x4
  obtain ⟨n, s4, e4⟩ := x4
  dsimp only
  by_cases c : e4 = 0
  · subst c
    simp only [if_true]
    refine Ev.bind (checkR_f _ _ _) ?_
    by_cases c2 : chkR x1.1 x2.1 n = 0
    · have h := rR_j0 s4 0 x1.1 x2.1 n
      rw [c2]
      simp only [fl_f, fl_zero, Option.bind_some, if_true, and_self]
      exact h
    · have h := rR_j0 ⟨#[]⟩ (chkR x1.1 x2.1 n) x1.1 x2.1 n
      rw [if_neg c2] at h
      simp only [fl_f, fl_yes _ _ c2, Option.bind_some, c2, and_false, if_false]
      exact h
  · have h := rR_j0 s4 e4 x1.1 x2.1 n
    rw [if_neg c] at h
    simp only [if_neg c, c, false_and, if_false, fl_no _ _ _ c]
    exact h
end Go.Proofs.Ytkkkmbgflflcnaa.PS

namespace Go.Proofs.Ytkkkmbgflflcnaa.PS
set_option linter.unusedSimpArgs false
open Go.RowKit Go.Proofs.YtkkkmbgflflcnaaW.PrintWords Go.Proofs.YtkkkmbgflflcnaaW.PrintLast Go.Proofs.YtkkkmbgflflcnaaW.PrintMore Go.Proofs.Ytkkkmbgflflcnaa Go.Proofs.Ytkkkmbgflflcnaa.PL CrcM
theorem seal_f (s : ByteArray) (hs : s.size ≤ 1000000) : Ev (fun k => frame_seal.f k s) (sealB s) := by
  have hz : (⟨(cB (sm s)).toArray⟩ : ByteArray).size + s.size ≤ 9223372036854775807 := by rw [ba_mk_size, cB_length]; omega
  have e : (⟨(cB (sm s)).toArray⟩ : ByteArray) ++ s = sealB s := bytes_ext (by rw [ba_append]; rfl)
  unfold frame_seal.f
  refine Ev.bind (sum_f s hs) ?_
  simp only [cB_f _ (sm_lt s), Option.bind_some, if_pos hz, e]
  exact Ev.now _
def op4 (a : ByteArray) : ByteArray × Int :=
  if a.size < 4 then (⟨#[]⟩, 1) else if (a.extract 0 4).data.toList = cB (sm (a.extract 4 a.size)) then (a.extract 4 a.size, 0) else (⟨#[]⟩, 5)
theorem open_f (a : ByteArray) (ha : a.size ≤ 1000000) : Ev (fun k => frame_open.f k a) (op4 a) := by
  unfold frame_open.f op4
  by_cases c : a.size < 4
  · rw [if_pos c]
    simp only [if_pos (show (a.size : Int) < 4 by omega)]
    exact Ev.now _
  · rw [if_neg c]
    have c1 : ¬ (a.size : Int) < 4 := by omega
    have c2 : (4 : Int) ≤ (a.size : Int) := by omega
    have c3 : (0 : Int) ≤ 4 := by decide
    simp only [if_neg c1, if_pos c2, if_pos c3]
    have hz : (a.extract 4 a.size).size ≤ 1000000 := by rw [ba_size, ba_extract, List.length_take, List.length_drop, ← ba_size]; omega
    refine Ev.bind (sum_f _ hz) ?_
    simp only [cB_f _ (sm_lt _), Option.bind_some, ba_toList, ba_mk]
    by_cases e : (a.extract 0 4).data.toList = cB (sm (a.extract 4 a.size))
    · simp only [if_pos e]; exact Ev.now _
    · simp only [if_neg e]; exact Ev.now _
theorem op4_seal (s : ByteArray) : op4 (sealB s) = (s, 0) := by
  unfold op4
  rw [if_neg (by rw [sealB_size]; omega), sealB_head, sealB_tail, if_pos rfl]
def en (s : ByteArray) (e : Int) : ByteArray × Int := if s.data.toList = [] then (s, e) else fl s e 2
theorem end_f (s : ByteArray) (e : Int) : codec_In_End.f s e = some ((en s e).2, (en s e).1, (en s e).2) := by
  unfold codec_In_End.f en
  rw [ba_toList]
  by_cases c : s.data.toList = []
  · rw [if_pos c, if_pos c]
  · rw [if_neg c, if_neg c, fl_f]; rfl
abbrev Q := Int × Int × ByteArray × Int × ByteArray × ByteArray × Int
def callB (op : Int) (a b : ByteArray) (n : Int) : List UInt8 := numB op.toNat ++ strB a ++ strB b ++ numB (zig n)
def bodyQ (q : Q) : List UInt8 :=
  if q.1 = 2 then numB q.1.toNat ++ strB q.2.2.1 ++ callB q.2.2.2.1 q.2.2.2.2.1 q.2.2.2.2.2.1 q.2.2.2.2.2.2
  else if q.1 = 4 ∨ q.1 = 7 then numB q.1.toNat ++ numB q.2.1.toNat else numB q.1.toNat
def FitQ (q : Q) : Prop := q.1 < 9223372036854775808 ∧ q.2.1 < 9223372036854775808 ∧ q.2.2.1.size ≤ 1000 ∧ q.2.2.2.1 < 9223372036854775808 ∧ q.2.2.2.2.1.size ≤ 1000 ∧ q.2.2.2.2.2.1.size ≤ 1000 ∧ -9223372036854775808 ≤ q.2.2.2.2.2.2 ∧ q.2.2.2.2.2.2 < 9223372036854775808
theorem callB_length (op : Int) (a b : ByteArray) (n : Int) (ho : op < 9223372036854775808) (ha : a.size ≤ 1000) (hb : b.size ≤ 1000) (h0 : -9223372036854775808 ≤ n) (h1 : n < 9223372036854775808) : (callB op a b n).length ≤ 3000 := by
  have l1 : (numB op.toNat).length ≤ 9 := numB_length _ (by omega)
  have l2 := strB_length a (by omega)
  have l3 := strB_length b (by omega)
  have l4 : (numB (zig n)).length ≤ 9 := numB_length _ (zig_lt n h0 h1)
  unfold callB
  rw [List.length_append, List.length_append, List.length_append]; omega
theorem bodyQ_length (q : Q) (h : FitQ q) : (bodyQ q).length ≤ 5000 := by
  obtain ⟨h1, h2, h3, h4, h5, h6, h7, h8⟩ := h
  have l1 : (numB q.1.toNat).length ≤ 9 := numB_length _ (by omega)
  have l2 : (numB q.2.1.toNat).length ≤ 9 := numB_length _ (by omega)
  have l3 := strB_length q.2.2.1 (by omega)
  have l4 := callB_length _ _ _ _ h4 h5 h6 h7 h8
  unfold bodyQ
  split
  · rw [List.length_append, List.length_append]; omega
  · split
    · rw [List.length_append]; omega
    · omega
theorem put_f (op : Int) (a b : ByteArray) (n : Int) (s : ByteArray) (hs : s.size ≤ 100000) (ho : op < 9223372036854775808) (ha : a.size ≤ 1000) (hb : b.size ≤ 1000) (h0 : -9223372036854775808 ≤ n) (h1 : n < 9223372036854775808) :
    method_Call_Put.f op a b n s = some ⟨(s.data.toList ++ callB op a b n).toArray⟩ := by
  have l1 : (numB op.toNat).length ≤ 9 := numB_length _ (by omega)
  have l2 := strB_length a (by omega)
  have l3 := strB_length b (by omega)
  have hz := ba_size s
  unfold method_Call_Put.f callB
  rw [wN1 s op (by omega) ho, Option.bind_some, wS2 _ a b (by rw [ba_mk_size, List.length_append]; omega) (by omega) (by omega), Option.bind_some,
    wI1 _ n (by rw [ba_mk_size]; rw [List.length_append, List.length_append, List.length_append]; omega) h0 h1, Option.bind_some]
  simp only [List.append_assoc]
theorem text_fin (b : List UInt8) (hb : b.length ≤ 100000) : Ev (fun k => (codec_Out_Text.f ⟨b.toArray⟩).bind fun bt => (frame_seal.f k bt.1).bind fun t => some t) (sealB ⟨b.toArray⟩) := by
  simp only [codec_Out_Text.f, Option.bind_some]
  exact Ev.bind (f := fun _ t => some t) (seal_f _ (by rw [ba_mk_size]; omega)) (Ev.now _)
theorem reqText_f (q : Q) (h : FitQ q) : Ev (fun k => frame_Request_Text.f k q.1 q.2.1 q.2.2.1 q.2.2.2.1 q.2.2.2.2.1 q.2.2.2.2.2.1 q.2.2.2.2.2.2) (sealB ⟨(bodyQ q).toArray⟩) := by
  have hl := bodyQ_length q h
  obtain ⟨h1, h2, h3, h4, h5, h6, h7, h8⟩ := h
  obtain ⟨kind, nn, obj, op, a, b, n⟩ := q
  dsimp only at *
  have l1 : (numB kind.toNat).length ≤ 9 := numB_length _ (by omega)
  have l2 : (numB nn.toNat).length ≤ 9 := numB_length _ (by omega)
  have l3 := strB_length obj (by omega)
  unfold frame_Request_Text.f
  have e0 := wN1 ⟨#[]⟩ kind (by decide) h1
  rw [show (⟨#[]⟩ : ByteArray).data.toList = [] from rfl, List.nil_append] at e0
  simp only [e0, Option.bind_some]
  unfold bodyQ at hl ⊢
  dsimp only at hl ⊢
  by_cases c2 : kind = 2
  · rw [if_pos c2] at hl ⊢
    have e1 := wS1 ⟨(numB kind.toNat).toArray⟩ obj (by rw [ba_mk_size]; omega) (by omega)
    have e2 := put_f op a b n ⟨(numB kind.toNat ++ strB obj).toArray⟩ (by rw [ba_mk_size, List.length_append]; omega) h4 h5 h6 h7 h8
    rw [ba_mk] at e1 e2
    simp only [if_pos c2, e1, Option.bind_some, e2]
    exact text_fin _ (by omega)
  · rw [if_neg c2] at hl ⊢
    simp only [if_neg c2]
    by_cases c4 : kind = 4 ∨ kind = 7
    · rw [if_pos c4] at hl ⊢
      have e1 := wN1 ⟨(numB kind.toNat).toArray⟩ nn (by rw [ba_mk_size]; omega) h2
      rw [ba_mk] at e1
      have hj : Ev (fun k => frame_Request_Text.j0 k true kind nn obj op a b n ⟨(numB kind.toNat).toArray⟩) (sealB ⟨(numB kind.toNat ++ numB nn.toNat).toArray⟩) := by
        refine Ev.step (fun k => ?_) (text_fin (numB kind.toNat ++ numB nn.toNat) (by omega))
        simp only [frame_Request_Text.j0]
        rw [if_pos trivial, e1, Option.bind_some]
      rcases c4 with c4 | c4
      · have e4 : (kind == 4) = true := beq_iff_eq.mpr c4
        simp only [if_pos c4, e4]; exact hj
      · have e4 : ¬ kind = 4 := by omega
        have e7 : (kind == 7) = true := beq_iff_eq.mpr c4
        simp only [if_neg e4, e7]; exact hj
    · rw [if_neg c4] at hl ⊢
      have e4 : ¬ kind = 4 := fun h => c4 (.inl h)
      have e7 : (kind == 7) = false := beq_eq_false_iff_ne.mpr (fun h => c4 (.inr h))
      simp only [if_neg e4, e7]
      refine Ev.step (fun k => ?_) (text_fin (numB kind.toNat) (by omega))
      simp only [frame_Request_Text.j0]
      rw [if_neg (by decide)]
def Q0 : Q := (0, 0, ⟨#[]⟩, 0, ⟨#[]⟩, ⟨#[]⟩, 0)
def pQ (a : ByteArray) : Q × Int :=
  if (op4 a).2 ≠ 0 then (Q0, (op4 a).2) else
  let x := tN (op4 a).1 0 7
  let r : Q × ByteArray × Int :=
    if x.1 = 0 then ((x.1, 0, ⟨#[]⟩, 0, ⟨#[]⟩, ⟨#[]⟩, 0), fl x.2.1 x.2.2 6)
    else if x.1 = 2 then
      let y := tS x.2.1 x.2.2 16
      let z := rC y.2.1 y.2.2
      ((x.1, 0, y.1, z.1, z.2.1, z.2.2.1, z.2.2.2.1), z.2.2.2.2)
    else if x.1 = 4 ∨ x.1 = 7 then ((x.1, (tN x.2.1 x.2.2 1099511627776).1, ⟨#[]⟩, 0, ⟨#[]⟩, ⟨#[]⟩, 0), (tN x.2.1 x.2.2 1099511627776).2)
    else ((x.1, 0, ⟨#[]⟩, 0, ⟨#[]⟩, ⟨#[]⟩, 0), x.2)
  if (en r.2.1 r.2.2).2 = 0 then (r.1, 0) else (Q0, (en r.2.1 r.2.2).2)
def flat8 (r : Q × Int) : Int × Int × ByteArray × Int × ByteArray × ByteArray × Int × Int := (r.1.1, r.1.2.1, r.1.2.2.1, r.1.2.2.2.1, r.1.2.2.2.2.1, r.1.2.2.2.2.2.1, r.1.2.2.2.2.2.2, r.2)
theorem parse_fin (s : ByteArray) (e : Int) (q : Q) : Ev (fun _ => (codec_In_End.f s e).bind fun bt => if bt.1 = 0 then some (q.1, q.2.1, q.2.2.1, q.2.2.2.1, q.2.2.2.2.1, q.2.2.2.2.2.1, q.2.2.2.2.2.2, (0 : Int)) else some (0, 0, (⟨#[]⟩ : ByteArray), 0, (⟨#[]⟩ : ByteArray), (⟨#[]⟩ : ByteArray), 0, bt.1)) (flat8 (if (en s e).2 = 0 then (q, 0) else (Q0, (en s e).2))) := by
  simp only [end_f, Option.bind_some]
  by_cases c : (en s e).2 = 0
  · simp only [if_pos c]; exact Ev.now _
  · simp only [if_neg c]; exact Ev.now _
theorem op4_val (a : ByteArray) (ha : a.size ≤ 1000000) : Val (op4 a).1 0 := by
  refine ⟨?_, fun h => absurd rfl h⟩
  unfold op4
  split
  · exact Nat.zero_le _
  · split
    · show (a.extract 4 a.size).size ≤ _
      rw [ba_size, ba_extract, List.length_take, List.length_drop, ← ba_size]; omega
    · exact Nat.zero_le _
theorem parse_f (a : ByteArray) (ha : a.size ≤ 1000000) : Ev (fun k => frame_ParseRequest.f k a) (flat8 (pQ a)) := by
  have hv := op4_val a ha
  unfold frame_ParseRequest.f
  refine Ev.bind (open_f a ha) ?_
  unfold pQ
  by_cases c : (op4 a).2 = 0
  rotate_left
  · rw [if_pos c]
    simp only [if_neg c]
    exact Ev.now _
  rw [if_neg (fun h => h c)]
  simp only [if_pos c, codec_Read.f, Option.bind_some, tN_f _ _ _ hv]
  have hv1 := hv.tN 7
  generalize tN (op4 a).1 0 7 = x at hv1 ⊢
  by_cases c0 : x.1 = 0
  · simp only [if_pos c0, fl_f, Option.bind_some]
    exact parse_fin _ _ (x.1, 0, ⟨#[]⟩, 0, ⟨#[]⟩, ⟨#[]⟩, 0)
  simp only [if_neg c0]
  by_cases c2 : x.1 = 2
  · have hy := tS_f _ _ 16 hv1 (by decide)
    have hv2 := hv1.tS 16
    simp only [if_pos c2, hy, Option.bind_some]
    generalize tS x.2.1 x.2.2 16 = y at hv2 ⊢
    refine Ev.bind (rC_f y.2.1 y.2.2 hv2) ?_
    generalize rC y.2.1 y.2.2 = z
    exact parse_fin _ _ (x.1, 0, y.1, z.1, z.2.1, z.2.2.1, z.2.2.2.1)
  simp only [if_neg c2]
  have hb : ∀ b : Bool, (b = true ↔ (x.1 = 4 ∨ x.1 = 7)) → Ev (fun k => frame_ParseRequest.j0 k b x.2.1 x.2.2 x.1 0 (⟨#[]⟩ : ByteArray) 0 (⟨#[]⟩ : ByteArray) (⟨#[]⟩ : ByteArray) 0)
      (flat8 (let r : Q × ByteArray × Int := if x.1 = 4 ∨ x.1 = 7 then ((x.1, (tN x.2.1 x.2.2 1099511627776).1, ⟨#[]⟩, 0, ⟨#[]⟩, ⟨#[]⟩, 0), (tN x.2.1 x.2.2 1099511627776).2) else ((x.1, 0, ⟨#[]⟩, 0, ⟨#[]⟩, ⟨#[]⟩, 0), x.2)
        if (en r.2.1 r.2.2).2 = 0 then (r.1, 0) else (Q0, (en r.2.1 r.2.2).2))) := by
    intro b hb
    by_cases c4 : x.1 = 4 ∨ x.1 = 7
    · rw [hb.2 c4, if_pos c4]
      refine Ev.step (fun k => by simp only [frame_ParseRequest.j0, if_true, tN_f _ _ _ hv1, Option.bind_some]; rfl) ?_
      exact parse_fin _ _ (x.1, (tN x.2.1 x.2.2 1099511627776).1, ⟨#[]⟩, 0, ⟨#[]⟩, ⟨#[]⟩, 0)
    · have hf : b = false := by cases b with
        | false => rfl
        | true => exact absurd (hb.1 rfl) c4
      rw [hf, if_neg c4]
      refine Ev.step (fun k => by simp only [frame_ParseRequest.j0, Bool.false_eq_true, if_false]; rfl) ?_
      exact parse_fin _ _ (x.1, 0, ⟨#[]⟩, 0, ⟨#[]⟩, ⟨#[]⟩, 0)
  by_cases c4 : x.1 = 4
  · simp only [if_pos c4]
    exact hb _ (by rw [beq_iff_eq]; omega)
  · simp only [if_neg c4]
    exact hb _ (by rw [beq_iff_eq]; omega)
def chkQ (q : Q) : Int :=
  if q.1 < 1 ∨ 7 < q.1 then 6
  else if (¬ q.1 = 2 ∧ (¬ q.2.2.1.toList = [] ∨ ¬ q.2.2.2.1 = 0 ∨ ¬ q.2.2.2.2.1.toList = [] ∨ ¬ q.2.2.2.2.2.1.toList = [] ∨ ¬ q.2.2.2.2.2.2 = 0)) ∨ (¬ q.1 = 4 ∧ ¬ q.1 = 7 ∧ ¬ q.2.1 = 0) then 2
  else if q.2.2.1.size > 16 then 3
  else if q.2.1 < 0 ∨ q.2.1 > 1099511627776 then 4
  else if q.1 = 2 then chk q.2.2.2.1 q.2.2.2.2.1 q.2.2.2.2.2.1 q.2.2.2.2.2.2 else 0
end Go.Proofs.Ytkkkmbgflflcnaa.PS

