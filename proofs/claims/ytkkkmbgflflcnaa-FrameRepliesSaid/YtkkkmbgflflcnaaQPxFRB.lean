import Derived.Test.YtkkkmbgflflcnaaQPxFCB
import Derived.Test.YtkkkmbgflflcnaaQPxPAx12
import Derived.Test.YtkkkmbgflflcnaaQPxPAx1
import Derived.Test.YtkkkmbgflflcnaaQPxPAx18
import Derived.Test.YtkkkmbgflflcnaaQPxPAx16
import Derived.Test.YtkkkmbgflflcnaaQPxMOutN
import Derived.Test.YtkkkmbgflflcnaaQPxPAx10
import Derived.Test.YtkkkmbgflflcnaaQPxPAx21
import Derived.Test.YtkkkmbgflflcnaaQPxPAx23
import Derived.Test.YtkkkmbgflflcnaaQPxPAx9
import Derived.Test.YtkkkmbgflflcnaaQPxPAx13
import Derived.Test.YtkkkmbgflflcnaaQPxPAx14
namespace Go.Proofs.Ytkkkmbgflflcnaa.PA
open Go.RowKit Go.Proofs.YtkkkmbgflflcnaaW.PrintWords Go.Proofs.YtkkkmbgflflcnaaW.PrintLast Go.Proofs.YtkkkmbgflflcnaaW.PrintMore Go.Proofs.Ytkkkmbgflflcnaa Go.Proofs.Ytkkkmbgflflcnaa.PL
theorem fl_f (s : ByteArray) (e x : Int) : codec_In_Fail.f s e x = some (fl s e x) := by
  unfold codec_In_Fail.f fl
  by_cases h : e = 0
  · by_cases h2 : x = 0
    · rw [if_pos h, if_pos h2, if_pos h, if_pos h2]
    · rw [if_pos h, if_neg h2, if_pos h, if_neg h2]
  · rw [if_neg h, if_neg h]
theorem tk_f (s : ByteArray) (e : Int) (n : Nat) : codec_In_take.f s e (n : Int) = some (tk s e n) := by
  unfold codec_In_take.f tk
  by_cases h : n > s.size
  · rw [if_pos (by omega), if_pos h, fl_f]; rfl
  · rw [if_neg (by omega), if_neg h, if_pos (by omega), if_pos (by omega), Int.toNat_natCast]
theorem tU_f (s : ByteArray) (e : Int) (_hv : Val s e) : codec_In_U.f s e = some (tU s e) := by
  have h1 := tk_f s e 1
  rw [show ((1 : Nat) : Int) = 1 from rfl] at h1
  unfold codec_In_U.f tU
  rw [h1, Option.bind_some]
  by_cases c : (tk s e 1).2.2 ≠ 0
  · rw [if_pos c, if_pos c]
  · rw [if_neg c, if_neg c]
    have hz : (tk s e 1).1.size = 1 := by
      have h3 : ¬ 1 > s.size := by
        intro h3
        have e2 : (tk s e 1).2.2 = (fl s e 1).2 := by unfold tk; rw [if_pos h3]
        rw [e2] at c
        unfold fl at c
        by_cases he : e = 0
        · rw [if_pos he, if_neg (by decide)] at c; exact c (by decide)
        · rw [if_neg he] at c; exact c he
      unfold tk
      rw [if_neg h3]
      show (s.extract 0 1).size = 1
      rw [ba_size, ba_extract, List.length_take, List.length_drop, ← ba_size]; omega
    rw [if_neg (by omega)]
    by_cases c2 : ((tk s e 1).1.data.toList.getD 0 0).toNat > 8
    · rw [if_pos c2, if_pos c2, fl_f]; rfl
    · rw [if_neg c2, if_neg c2, tk_f, Option.bind_some]
      dsimp only
      split
      · rw [fl_f]; rfl
      · rw [if_pos (by
          have h4 := (tk_size (s := (tk s e 1).2.1) (e := (tk s e 1).2.2) (n := ((tk s e 1).1.data.toList.getD 0 0).toNat) (by omega)).2.1
          omega)]
theorem tN_f (s : ByteArray) (e m : Int) (hv : Val s e) : codec_In_N.f s e m = some (tN s e m) := by
  unfold codec_In_N.f tN
  rw [tU_f s e hv, Option.bind_some]
  by_cases c : (tU s e).1 > IntKind.u64.wrap (mx m 0)
  · rw [if_pos c, if_pos c, fl_f]; rfl
  · rw [if_neg c, if_neg c]
theorem tN_nonneg (s : ByteArray) (e m : Int) (hm : m < 9223372036854775808) : 0 ≤ (tN s e m).1 ∧ (tN s e m).1 ≤ mx m 0 := by
  have h := tU_range s e
  have hw : IntKind.u64.wrap (mx m 0) = mx m 0 := by rw [wrap_u64]; unfold mx; split <;> omega
  have hm0 : 0 ≤ mx m 0 ∧ mx m 0 < 9223372036854775808 := by unfold mx; split <;> omega
  unfold tN
  rw [hw]
  split
  · exact ⟨Int.le_refl 0, hm0.1⟩
  · rename_i c
    show 0 ≤ wrap64 (tU s e).1 ∧ wrap64 (tU s e).1 ≤ mx m 0
    have : wrap64 (tU s e).1 = (tU s e).1 := by unfold wrap64; omega
    rw [this]
    exact ⟨h.1, by omega⟩
theorem tS_f (s : ByteArray) (e m : Int) (hv : Val s e) (hm : m < 9223372036854775808) : codec_In_S.f s e m = some (tS s e m) := by
  have h := (tN_nonneg s e m hm).1
  have e1 : (((tN s e m).1.toNat : Nat) : Int) = (tN s e m).1 := by omega
  have h2 := tk_f (tN s e m).2.1 (tN s e m).2.2 (tN s e m).1.toNat
  rw [e1] at h2
  unfold codec_In_S.f tS
  rw [tN_f s e m hv, Option.bind_some, h2]
  rfl
end Go.Proofs.Ytkkkmbgflflcnaa.PA

namespace Go.Proofs.Ytkkkmbgflflcnaa
open Go.RowKit Go.Proofs.YtkkkmbgflflcnaaW.PrintWords Go.Proofs.YtkkkmbgflflcnaaW.PrintLast Go.Proofs.YtkkkmbgflflcnaaW.PrintMore
theorem zig_lt (n : Int) (h0 : -9223372036854775808 ≤ n) (h1 : n < 9223372036854775808) : zig n < 18446744073709551616 := by unfold zig; split <;> omega
theorem uns_zig (n : Int) : uns (zig n : Nat) = n := by unfold uns zig; split <;> split <;> omega
theorem tI_num (n : Int) (h0 : -9223372036854775808 ≤ n) (h1 : n < 9223372036854775808) (r : List UInt8) : tI ⟨(numB (zig n) ++ r).toArray⟩ 0 = (n, ⟨r.toArray⟩, 0) := by
  unfold tI
  rw [tU_num _ (zig_lt n h0 h1)]
  show (uns (zig n : Nat), _) = _
  rw [uns_zig]
end Go.Proofs.Ytkkkmbgflflcnaa

namespace Go.Proofs.Ytkkkmbgflflcnaa.PA
open Go.RowKit Go.Proofs.YtkkkmbgflflcnaaW.PrintWords Go.Proofs.YtkkkmbgflflcnaaW.PrintLast Go.Proofs.YtkkkmbgflflcnaaW.PrintMore Go.Proofs.Ytkkkmbgflflcnaa Go.Proofs.Ytkkkmbgflflcnaa.PL
theorem u64_and_1 (n : Int) (h0 : 0 ≤ n) (h1 : n < 18446744073709551616) : Go.bits .and .u64 n 1 = n % 2 := by
  have h := (bits_nat .u64 64 (by decide) (fun n h0 h1 => by rw [wrap_u64]; omega) n.toNat 1 (by omega) (by decide)).1
  rw [Nat.and_one_is_mod, show ((n.toNat : Nat) : Int) = n by omega] at h
  refine h.trans ?_
  omega
theorem uns_wrap (n : Int) (h0 : 0 ≤ n) (h1 : n < 18446744073709551616) : wrap64 ((wrap64 (-(wrap64 (n / 2)))) - 1) = -(n / 2) - 1 ∧ wrap64 (n / 2) = n / 2 ∧ wrap64 ((wrap64 (-(n / 2))) - 1) = -(n / 2) - 1 := by
  unfold wrap64; omega
theorem tI_f (s : ByteArray) (e : Int) (hv : Val s e) : codec_In_I.f s e = some (tI s e) := by
  have h := tU_range s e
  have h2 := uns_wrap _ h.1 h.2
  unfold codec_In_I.f tI uns
  rw [tU_f s e hv, Option.bind_some, u64_and_1 _ h.1 h.2, h2.1, h2.2.1]
  by_cases c : (tU s e).1 % 2 = 1
  · rw [if_pos c, if_pos c]
  · rw [if_neg c, if_neg c]
end Go.Proofs.Ytkkkmbgflflcnaa.PA

namespace Go.Proofs.Ytkkkmbgflflcnaa.PA
open Go.RowKit Go.Proofs.YtkkkmbgflflcnaaW.PrintWords Go.Proofs.YtkkkmbgflflcnaaW.PrintLast Go.Proofs.YtkkkmbgflflcnaaW.PrintMore Go.Proofs.Ytkkkmbgflflcnaa
theorem one_byte (n : Nat) (_h : n < 256) : strOfNums [(n : Int)] = ⟨#[UInt8.ofNat n]⟩ := by
  refine bytes_ext ?_
  rw [strOfNums_data]
  simp
theorem rw_l0 (d : Nat) : ∀ (i m : Nat) (t : List UInt8), i + d = 8 → nlen m ≤ d → t.length = i → m < 18446744073709551616 →
    Ev (fun k => armoireref02_U.l0 k (m : Int) ⟨t.toArray⟩ (i : Int)) ⟨(UInt8.ofNat (nlen m + i) :: (digs m (nlen m) ++ t)).toArray⟩ := by
  induction d with
  | zero =>
    intro i m t hi hm ht hlt
    obtain rfl : i = 8 := by omega
    obtain rfl : m = 0 := by
      by_cases h : m = 0
      · exact h
      · rw [nlen_pos m h] at hm; omega
    refine Ev.step (f := fun _ => some ⟨(UInt8.ofNat (nlen 0 + 8) :: (digs 0 (nlen 0) ++ t)).toArray⟩) (fun k => ?_) (Ev.now _)
    have e1 : (((⟨t.toArray⟩ : ByteArray).size : Int)) % 256 = ((8 : Nat) : Int) := by rw [ba_mk_size, ht]; rfl
    have hs : (strOfNums [((8 : Nat) : Int)]).size = 1 := by rw [one_byte 8 (by decide)]; rfl
    simp only [armoireref02_U.l0]
    rw [if_neg (by omega)]
    simp only [Option.bind_some, e1]
    rw [if_pos (by rw [hs, ba_mk_size]; omega), one_byte 8 (by decide), nlen_zero]
    rfl
  | succ d ih =>
    intro i m t hi hm ht hlt
    have hi8 : (i : Int) < 8 := by omega
    by_cases h : m = 0
    · subst h
      refine Ev.step (f := fun _ => some ⟨(UInt8.ofNat (nlen 0 + i) :: (digs 0 (nlen 0) ++ t)).toArray⟩) (fun k => ?_) (Ev.now _)
      have e1 : (((⟨t.toArray⟩ : ByteArray).size : Int)) % 256 = (i : Int) := by rw [ba_mk_size, ht]; omega
      have hs : (strOfNums [(i : Int)]).size = 1 := by rw [one_byte i (by omega)]; rfl
      simp only [armoireref02_U.l0]
      rw [if_pos hi8, if_neg (by omega)]
      simp only [Option.bind_some, e1]
      rw [if_pos (by rw [hs, ba_mk_size]; omega), one_byte i (by omega), nlen_zero, Nat.zero_add]
      rfl
    · have hp := nlen_pos m h
      have hs : (strOfNums [((m % 256 : Nat) : Int)]).size = 1 := by rw [one_byte _ (Nat.mod_lt _ (by decide))]; rfl
      have htz : (⟨t.toArray⟩ : ByteArray).size = i := (ba_mk_size t).trans ht
      have hm0 : (m : Int) > 0 := by omega
      have hl : nlen m + i = nlen (m / 256) + (i + 1) := by omega
      have hi9 : 1 + i ≤ 9223372036854775807 := by omega
      have hsz : (strOfNums [((m % 256 : Nat) : Int)]).size + (⟨t.toArray⟩ : ByteArray).size ≤ 9223372036854775807 := by rw [hs, htz]; exact hi9
      have h1 := ih (i + 1) (m / 256) (UInt8.ofNat (m % 256) :: t) (by omega) (by omega) (by simp [ht]) (by omega)
      have e1 : Int.tmod (m : Int) 256 % 256 = ((m % 256 : Nat) : Int) := by rw [Int.tmod_eq_emod_of_nonneg (by omega)]; omega
      have e2 : IntKind.u64.wrap (Int.tdiv (m : Int) 256) = ((m / 256 : Nat) : Int) := by rw [Int.tdiv_eq_ediv_of_nonneg (by omega), wrap_u64]; omega
      have e3 : wrap64 ((i : Int) + 1) = ((i + 1 : Nat) : Int) := by unfold wrap64; omega
      have e4 : (⟨#[UInt8.ofNat (m % 256)]⟩ : ByteArray) ++ ⟨t.toArray⟩ = ⟨(UInt8.ofNat (m % 256) :: t).toArray⟩ := by
        refine bytes_ext ?_
        rw [ba_append]
        rfl
      have hd : digs m (nlen m) ++ t = digs (m / 256) (nlen (m / 256)) ++ (UInt8.ofNat (m % 256) :: t) := by
        rw [hp, digs_last, List.append_assoc]; rfl
      rw [hd, hl]
      refine Ev.step (fun k => ?_) h1
      simp only [armoireref02_U.l0]
      rw [if_pos hi8, if_pos hm0]
      simp only [Option.bind_some, e1, e2, e3]
      rw [if_pos hsz, one_byte _ (Nat.mod_lt _ (by decide)), e4]
theorem rw_f (n : Nat) (hn : n < 18446744073709551616) : Ev (fun k => armoireref02_U.f k (n : Int)) ⟨(numB n).toArray⟩ := by
  have h := rw_l0 8 0 n [] rfl (nlen_le 8 n (by simpa using hn)) rfl hn
  rw [List.append_nil, Nat.add_zero] at h
  exact h
theorem rwN_f (a : Int) (ha : a < 9223372036854775808) : Ev (fun k => armoireref02_N.f k a) ⟨(numB a.toNat).toArray⟩ := by
  have e : IntKind.u64.wrap (mx a 0) = (a.toNat : Int) := by rw [wrap_u64]; unfold mx; split <;> omega
  unfold armoireref02_N.f
  rw [e]
  exact Ev.bind (f := fun _ t => some t) (rw_f a.toNat (by omega)) (Ev.now _)
theorem rwS_f (s : ByteArray) (hs : s.size ≤ 140737488351232) : Ev (fun k => armoireref02_S.f k s) ⟨(strB s).toArray⟩ := by
  have hl := numB_length s.size (by omega)
  have e : (⟨(numB s.size).toArray⟩ : ByteArray) ++ s = ⟨(strB s).toArray⟩ := bytes_ext (by rw [ba_append]; rfl)
  have hz : (⟨(numB s.size).toArray⟩ : ByteArray).size + s.size ≤ 9223372036854775807 := by rw [ba_mk_size]; omega
  unfold armoireref02_S.f
  refine Ev.bind (rw_f s.size (by omega)) ?_
  simp only [if_pos hz, e]
  exact Ev.now _
theorem strB_length (s : ByteArray) (hs : s.size ≤ 140737488351232) : (strB s).length ≤ s.size + 9 := by
  have hl := numB_length s.size (by omega)
  unfold strB
  rw [List.length_append, ← ba_size]; omega
theorem wN1 (s : ByteArray) (a : Int) (hs : s.size ≤ 1000000) (ha : a < 9223372036854775808) : codec_Out_N.f s [a] = some ⟨(s.data.toList ++ numB a.toNat).toArray⟩ := by
  unfold codec_Out_N.f
  rw [if_pos ⟨by simp only [List.length_cons, List.length_nil]; omega, by intro n hn; rw [List.mem_singleton.1 hn]; exact ha⟩]
  simp
theorem wN2 (s : ByteArray) (a b : Int) (hs : s.size ≤ 1000000) (ha : a < 9223372036854775808) (hb : b < 9223372036854775808) : codec_Out_N.f s [a, b] = some ⟨(s.data.toList ++ numB a.toNat ++ numB b.toNat).toArray⟩ := by
  unfold codec_Out_N.f
  rw [if_pos ⟨by simp only [List.length_cons, List.length_nil]; omega, by intro n hn; simp only [List.mem_cons, List.not_mem_nil, or_false] at hn; rcases hn with rfl | rfl <;> assumption⟩]
  simp
theorem wS1 (s a : ByteArray) (hs : s.size ≤ 1000000) (ha : a.size ≤ 1000000) : codec_Out_S.f s [a] = some ⟨(s.data.toList ++ strB a).toArray⟩ := by
  unfold codec_Out_S.f
  rw [if_pos (by simp only [List.map_cons, List.map_nil, List.sum_cons, List.sum_nil]; omega)]
  simp
theorem wS2 (s a b : ByteArray) (hs : s.size ≤ 1000000) (ha : a.size ≤ 1000000) (hb : b.size ≤ 1000000) : codec_Out_S.f s [a, b] = some ⟨(s.data.toList ++ strB a ++ strB b).toArray⟩ := by
  unfold codec_Out_S.f
  rw [if_pos (by simp only [List.map_cons, List.map_nil, List.sum_cons, List.sum_nil]; omega)]
  simp
end Go.Proofs.Ytkkkmbgflflcnaa.PA

namespace Go.Proofs.Ytkkkmbgflflcnaa.PA
open Go.RowKit Go.Proofs.YtkkkmbgflflcnaaW.PrintWords Go.Proofs.YtkkkmbgflflcnaaW.PrintLast Go.Proofs.YtkkkmbgflflcnaaW.PrintMore Go.Proofs.Ytkkkmbgflflcnaa
theorem rwI_f (a : Int) (h0 : -9223372036854775808 ≤ a) (h1 : a < 9223372036854775808) : Ev (fun k => armoireref02_I.f k a) ⟨(numB (zig a)).toArray⟩ := by
  have hz := zig_lt a h0 h1
  unfold armoireref02_I.f
  by_cases c : a ≥ 0
  · have e : IntKind.u64.wrap (2 * (IntKind.u64.wrap (a))) = (zig a : Int) := by unfold zig; simp only [wrap_u64]; rw [if_neg (by omega)]; omega
    simp only [if_pos c, e]
    exact Ev.bind (f := fun _ t => some t) (rw_f _ hz) (Ev.now _)
  · have e : IntKind.u64.wrap ((IntKind.u64.wrap (2 * (IntKind.u64.wrap (wrap64 (-(wrap64 (a + 1))))))) + 1) = (zig a : Int) := by
      have e1 : wrap64 (a + 1) = a + 1 := by unfold wrap64; omega
      have e2 : wrap64 (-(a + 1)) = -(a + 1) := by unfold wrap64; omega
      rw [e1, e2]
      unfold zig; simp only [wrap_u64]; rw [if_pos (by omega)]; omega
    simp only [if_neg c, e]
    exact Ev.bind (f := fun _ t => some t) (rw_f _ hz) (Ev.now _)
theorem wI1 (s : ByteArray) (a : Int) (hs : s.size ≤ 1000000) (h0 : -9223372036854775808 ≤ a) (h1 : a < 9223372036854775808) : codec_Out_I.f s [a] = some ⟨(s.data.toList ++ numB (zig a)).toArray⟩ := by
  unfold codec_Out_I.f
  rw [if_pos ⟨by simp only [List.length_cons, List.length_nil]; omega, by intro n hn; rw [List.mem_singleton.1 hn]; exact ⟨h0, h1⟩⟩]
  simp
end Go.Proofs.Ytkkkmbgflflcnaa.PA

namespace Go.Proofs.Ytkkkmbgflflcnaa.PA
set_option linter.unusedSimpArgs false
open Go.RowKit Go.Proofs.YtkkkmbgflflcnaaW.PrintWords Go.Proofs.YtkkkmbgflflcnaaW.PrintLast Go.Proofs.YtkkkmbgflflcnaaW.PrintMore Go.Proofs.Ytkkkmbgflflcnaa Go.Proofs.Ytkkkmbgflflcnaa.PL
def hasA (op : Int) : Bool := op == 2 || (decide (8 ≤ op) && decide (op ≤ 14)) || op == 16
def hasN (op : Int) : Bool := op == 3 || op == 5 || op == 6
def chk (op : Int) (a b : ByteArray) (n : Int) : Int :=
  if op < 1 ∨ 17 < op then 6
  else if (hasA op = false ∧ ¬ a.toList = []) ∨ (¬ op = 11 ∧ ¬ b.toList = []) ∨ (hasN op = false ∧ ¬ n = 0) then 2
  else if a.size > 24 ∨ b.size > 24 then 3
  else if (op = 5 ∨ op = 6) ∧ (n < 1 ∨ n > 1048576) then 4 else 0
theorem ops17 (op : Int) (h0 : 1 ≤ op) (h1 : op ≤ 17) : op = 1 ∨ op = 2 ∨ op = 3 ∨ op = 4 ∨ op = 5 ∨ op = 6 ∨ op = 7 ∨ op = 8 ∨ op = 9 ∨ op = 10 ∨ op = 11 ∨ op = 12 ∨ op = 13 ∨ op = 14 ∨ op = 15 ∨ op = 16 ∨ op = 17 := by omega
theorem shape_f (op : Int) (h0 : 1 ≤ op) (h1 : op ≤ 17) : ∃ kd w, ¬ kd = 0 ∧ method_Op_shape.f op = some (kd, w, hasA op, op == 11, hasN op) := by
  have h : (method_Op_shape.f op).map (fun r => (r.1 != 0, r.2.2)) = some (true, hasA op, op == 11, hasN op) := by
    rcases ops17 op h0 h1 with rfl | rfl | rfl | rfl | rfl | rfl | rfl | rfl | rfl | rfl | rfl | rfl | rfl | rfl | rfl | rfl | rfl <;> decide +kernel
  obtain ⟨⟨kd, w, x⟩, hx, he⟩ := Option.map_eq_some_iff.1 h
  simp only [Prod.mk.injEq, bne_iff_ne] at he
  exact ⟨kd, w, he.1, by rw [hx, he.2]⟩
theorem shape_out (op : Int) (h : op < 1 ∨ 17 < op) : method_Op_shape.f op = some (0, ⟨#[]⟩, false, false, false) := by
  unfold method_Op_shape.f
  by_cases c : op < 1
  · rw [if_pos c]
  · rw [if_neg c, if_pos (by omega)]
theorem j2_tail (k : Nat) (op : Int) (a b : ByteArray) (n : Int) (hh : 1 ≤ op ∧ op ≤ 17) (c2 : ¬ ((hasA op = false ∧ ¬ a.toList = []) ∨ (¬ op = 11 ∧ ¬ b.toList = []) ∨ (hasN op = false ∧ ¬ n = 0))) :
    method_Call_Check.j1 (k + 2) false op a b n = some (chk op a b n) ∧ armoireref12_Check.j1 (k + 2) false op a b n = some (chk op a b n) := by
  unfold chk
  rw [if_neg (by omega), if_neg c2]
  simp only [method_Call_Check.j1, method_Call_Check.j2, armoireref12_Check.j1, armoireref12_Check.j2]
  by_cases ha : a.size > 24
  · have ha' : (a.size : Int) > 24 := by omega
    simp [ha, ha']
  · have ha' : ¬ (a.size : Int) > 24 := by omega
    by_cases hb : b.size > 24
    · have hb' : (b.size : Int) > 24 := by omega
      simp [ha, ha', hb, hb']
    · have hb' : ¬ (b.size : Int) > 24 := by omega
      by_cases h5 : op = 5 <;> by_cases h6 : op = 6 <;> by_cases h7 : n < 1 <;> by_cases h8 : n > 1048576 <;> simp [ha, ha', hb, hb', h5, h6, h7, h8] <;> omega
theorem j1_true (k : Nat) (op : Int) (a b : ByteArray) (n : Int) : method_Call_Check.j1 (k + 2) true op a b n = some 2 ∧ armoireref12_Check.j1 (k + 2) true op a b n = some 2 := by
  simp [method_Call_Check.j1, armoireref12_Check.j1]
theorem check_k (k : Nat) (op : Int) (a b : ByteArray) (n : Int) : method_Call_Check.f (k + 3) op a b n = some (chk op a b n) := by
  by_cases ho : op < 1 ∨ 17 < op
  · unfold method_Call_Check.f chk
    rw [shape_out op ho, if_pos ho]
    rfl
  · have hh : 1 ≤ op ∧ op ≤ 17 := by omega
    obtain ⟨kd, w, hk, hs⟩ := shape_f op hh.1 hh.2
    unfold method_Call_Check.f
    rw [hs, Option.bind_some]
    dsimp only
    rw [if_neg hk]
    have h2 : ((hasA op = false ∧ ¬ a.toList = []) ∨ (¬ op = 11 ∧ ¬ b.toList = []) ∨ (hasN op = false ∧ ¬ n = 0)) → chk op a b n = 2 := by
      intro c; unfold chk; rw [if_neg ho, if_pos c]
    have h1 := (j1_true k op a b n).1
    have h3 := fun c => (j2_tail k op a b n hh c).1
    cases hA : hasA op <;> cases hN : hasN op <;> by_cases h11 : op = 11 <;> by_cases ha : a.toList = [] <;> by_cases hb : b.toList = [] <;> by_cases hn : n = 0 <;>
      ((first | have qn : (n != 0) = true := bne_iff_ne.mpr hn | have qn : (n != 0) = false := bne_eq_false_iff_eq.mpr hn)
       (first | have qa : (a.toList != []) = true := bne_iff_ne.mpr ha | have qa : (a.toList != []) = false := bne_eq_false_iff_eq.mpr ha)
       (first | have qb : (b.toList != []) = true := bne_iff_ne.mpr hb | have qb : (b.toList != []) = false := bne_eq_false_iff_eq.mpr hb)
       simp only [method_Call_Check.j0, qn, qa, qb]
       simp_all)
theorem check_f (op : Int) (a b : ByteArray) (n : Int) : Ev (fun k => method_Call_Check.f k op a b n) (chk op a b n) :=
  ⟨3, fun k hk => by obtain ⟨m, rfl⟩ : ∃ m, k = m + 3 := ⟨k - 3, by omega⟩
                     exact check_k m op a b n⟩
def chkR (c : Int) (t : ByteArray) (n : Int) : Int :=
  if ¬ c = 1 ∧ ¬ c = 2 then 6 else if t.size > 24 then 3 else if ¬ t.toList = [] ∧ ¬ n = 0 then 2 else 0
theorem checkR_k (k : Nat) (c : Int) (t : ByteArray) (n : Int) : method_Result_Check.f (k + 1) c t n = some (chkR c t n) ∧ armoireref12_CheckResult.f (k + 1) c t n = some (chkR c t n) := by
  unfold method_Result_Check.f armoireref12_CheckResult.f chkR
  simp only [method_Result_Check.j0, armoireref12_CheckResult.j0]
  have e : (t.size > 24) = ((t.size : Int) > 24) := propext (by omega)
  simp only [e]
  by_cases h1 : c = 1 <;> by_cases h2 : c = 2 <;> by_cases h3 : (t.size : Int) > 24 <;> by_cases h4 : t.toList = [] <;> by_cases h5 : n = 0 <;>
    ((first | have q2 : (c != 2) = true := bne_iff_ne.mpr h2 | have q2 : (c != 2) = false := bne_eq_false_iff_eq.mpr h2)
     simp only [q2, h1, h2, h3, h4, h5, if_true, if_false, and_true, and_self, not_true, not_false_iff, and_false, false_and, Bool.false_eq_true]
     try simp_all)
theorem checkR_f (c : Int) (t : ByteArray) (n : Int) : Ev (fun k => method_Result_Check.f k c t n) (chkR c t n) :=
  ⟨1, fun k hk => by obtain ⟨m, rfl⟩ : ∃ m, k = m + 1 := ⟨k - 1, by omega⟩
                     exact (checkR_k m c t n).1⟩
theorem rcheckR_f (c : Int) (t : ByteArray) (n : Int) : Ev (fun k => armoireref12_CheckResult.f k c t n) (chkR c t n) :=
  ⟨1, fun k hk => by obtain ⟨m, rfl⟩ : ∃ m, k = m + 1 := ⟨k - 1, by omega⟩
                     exact (checkR_k m c t n).2⟩
def rC (s : ByteArray) (e : Int) : Int × ByteArray × ByteArray × Int × ByteArray × Int :=
  let x1 := tN s e 17
  let x2 := tS x1.2.1 x1.2.2 24
  let x3 := tS x2.2.1 x2.2.2 24
  let x4 := tI x3.2.1 x3.2.2
  if x4.2.2 = 0 ∧ chk x1.1 x2.1 x3.1 x4.1 = 0 then (x1.1, x2.1, x3.1, x4.1, x4.2.1, 0) else (0, ⟨#[]⟩, ⟨#[]⟩, 0, fl x4.2.1 x4.2.2 (chk x1.1 x2.1 x3.1 x4.1))
theorem fl_no (s : ByteArray) (e x : Int) (h : ¬ e = 0) : fl s e x = (s, e) := by unfold fl; rw [if_neg h]
theorem fl_yes (s : ByteArray) (x : Int) (h : ¬ x = 0) : fl s 0 x = (⟨#[]⟩, x) := by unfold fl; rw [if_pos rfl, if_neg h]
theorem fl_zero (s : ByteArray) : fl s 0 0 = (s, 0) := by unfold fl; rw [if_pos rfl, if_pos rfl]
def rR (s : ByteArray) (e : Int) : Int × ByteArray × Int × ByteArray × Int :=
  let x1 := tN s e 2
  let x2 := tS x1.2.1 x1.2.2 24
  let x4 := tI x2.2.1 x2.2.2
  if x4.2.2 = 0 ∧ chkR x1.1 x2.1 x4.1 = 0 then (x1.1, x2.1, x4.1, x4.2.1, 0) else (0, ⟨#[]⟩, 0, fl x4.2.1 x4.2.2 (chkR x1.1 x2.1 x4.1))
end Go.Proofs.Ytkkkmbgflflcnaa.PA

namespace Go.Proofs.Ytkkkmbgflflcnaa.PA
set_option linter.unusedSimpArgs false
open Go.RowKit Go.Proofs.YtkkkmbgflflcnaaW.PrintWords Go.Proofs.YtkkkmbgflflcnaaW.PrintLast Go.Proofs.YtkkkmbgflflcnaaW.PrintMore Go.Proofs.Ytkkkmbgflflcnaa Go.Proofs.Ytkkkmbgflflcnaa.PL
theorem rC_j0 (s : ByteArray) (e op : Int) (a b : ByteArray) (n : Int) : Ev (fun k => method_ReadCall.j0 k s e op a b n) (if e = 0 then (op, a, b, n, s, e) else (0, ⟨#[]⟩, ⟨#[]⟩, 0, s, e)) := by
  refine Ev.step (fun k => by simp only [method_ReadCall.j0, codec_In_Err.f, Option.bind_some]; rfl) ?_
  by_cases c : e = 0
  · simp only [if_pos c]; exact Ev.now _
  · simp only [if_neg c]; exact Ev.now _
theorem rC_f (s : ByteArray) (e : Int) (hv : Val s e) : Ev (fun k => method_ReadCall.f k s e) (rC s e) := by
  have h1 := tN_f s e 17 hv
  have v1 := hv.tN 17
  have h2 := tS_f _ _ 24 v1 (by decide)
  have v2 := v1.tS 24
  have h3 := tS_f _ _ 24 v2 (by decide)
  have v3 := v2.tS 24
  have h4 := tI_f _ _ v3
  unfold method_ReadCall.f rC
  simp only [h1, Option.bind_some, h2, h3, h4, codec_In_Err.f]
  generalize tN s e 17 = x1
  generalize tS x1.2.1 x1.2.2 24 = x2
  generalize tS x2.2.1 x2.2.2 24 = x3
  generalize tI x3.2.1 x3.2.2 = x4
  obtain ⟨n, s4, e4⟩ := x4
  dsimp only
  by_cases c : e4 = 0
  · subst c
    simp only [if_true]
    refine Ev.bind (check_f _ _ _ _) ?_
    by_cases c2 : chk x1.1 x2.1 x3.1 n = 0
    · have h := rC_j0 s4 0 x1.1 x2.1 x3.1 n
      rw [c2]
      simp only [fl_f, fl_zero, Option.bind_some, if_true, and_self]
      exact h
    · have h := rC_j0 ⟨#[]⟩ (chk x1.1 x2.1 x3.1 n) x1.1 x2.1 x3.1 n
      rw [if_neg c2] at h
      simp only [fl_f, fl_yes _ _ c2, Option.bind_some, c2, and_false, if_false]
      exact h
  · have h := rC_j0 s4 e4 x1.1 x2.1 x3.1 n
    rw [if_neg c] at h
    simp only [if_neg c, c, false_and, if_false, fl_no _ _ _ c]
    exact h
theorem rR_j0 (s : ByteArray) (e op : Int) (a : ByteArray) (n : Int) : Ev (fun k => method_ReadResult.j0 k s e op a n) (if e = 0 then (op, a, n, s, e) else (0, ⟨#[]⟩, 0, s, e)) := by
  refine Ev.step (fun k => by simp only [method_ReadResult.j0, codec_In_Err.f, Option.bind_some]; rfl) ?_
  by_cases c : e = 0
  · simp only [if_pos c]; exact Ev.now _
  · simp only [if_neg c]; exact Ev.now _
theorem rR_f (s : ByteArray) (e : Int) (hv : Val s e) : Ev (fun k => method_ReadResult.f k s e) (rR s e) := by
  have h1 := tN_f s e 2 hv
  have v1 := hv.tN 2
  have h2 := tS_f _ _ 24 v1 (by decide)
  have v2 := v1.tS 24
  have h4 := tI_f _ _ v2
  unfold method_ReadResult.f rR
  simp only [h1, Option.bind_some, h2, h4, codec_In_Err.f]
  generalize tN s e 2 = x1
  generalize tS x1.2.1 x1.2.2 24 = x2
  generalize tI x2.2.1 x2.2.2 = x4
  obtain ⟨n, s4, e4⟩ := x4
  dsimp only
  by_cases c : e4 = 0
  · subst c
    simp only [if_true]
    refine Ev.bind (checkR_f _ _ _) ?_
    by_cases c2 : chkR x1.1 x2.1 n = 0
    · have h := rR_j0 s4 0 x1.1 x2.1 n
      rw [c2]
      simp only [fl_f, fl_zero, Option.bind_some, if_true, and_self]
      exact h
    · have h := rR_j0 ⟨#[]⟩ (chkR x1.1 x2.1 n) x1.1 x2.1 n
      rw [if_neg c2] at h
      simp only [fl_f, fl_yes _ _ c2, Option.bind_some, c2, and_false, if_false]
      exact h
  · have h := rR_j0 s4 e4 x1.1 x2.1 n
    rw [if_neg c] at h
    simp only [if_neg c, c, false_and, if_false, fl_no _ _ _ c]
    exact h
end Go.Proofs.Ytkkkmbgflflcnaa.PA

namespace Go.Proofs.Ytkkkmbgflflcnaa.PA
set_option linter.unusedSimpArgs false
open Go.RowKit Go.Proofs.YtkkkmbgflflcnaaW.PrintWords Go.Proofs.YtkkkmbgflflcnaaW.PrintLast Go.Proofs.YtkkkmbgflflcnaaW.PrintMore Go.Proofs.Ytkkkmbgflflcnaa Go.Proofs.Ytkkkmbgflflcnaa.PL CrcM
theorem seal_f (s : ByteArray) (hs : s.size ≤ 1000000) : Ev (fun k => frame_seal.f k s) (sealB s) := by
  have hz : (⟨(cB (sm s)).toArray⟩ : ByteArray).size + s.size ≤ 9223372036854775807 := by rw [ba_mk_size, cB_length]; omega
  have e : (⟨(cB (sm s)).toArray⟩ : ByteArray) ++ s = sealB s := bytes_ext (by rw [ba_append]; rfl)
  unfold frame_seal.f
  refine Ev.bind (sum_f s hs) ?_
  simp only [cB_f _ (sm_lt s), Option.bind_some, if_pos hz, e]
  exact Ev.now _
def op4 (a : ByteArray) : ByteArray × Int :=
  if a.size < 4 then (⟨#[]⟩, 1) else if (a.extract 0 4).data.toList = cB (sm (a.extract 4 a.size)) then (a.extract 4 a.size, 0) else (⟨#[]⟩, 5)
theorem open_f (a : ByteArray) (ha : a.size ≤ 1000000) : Ev (fun k => frame_open.f k a) (op4 a) := by
  unfold frame_open.f op4
  by_cases c : a.size < 4
  · rw [if_pos c]
    simp only [if_pos (show (a.size : Int) < 4 by omega)]
    exact Ev.now _
  · rw [if_neg c]
    have c1 : ¬ (a.size : Int) < 4 := by omega
    have c2 : (4 : Int) ≤ (a.size : Int) := by omega
    have c3 : (0 : Int) ≤ 4 := by decide
    simp only [if_neg c1, if_pos c2, if_pos c3]
    have hz : (a.extract 4 a.size).size ≤ 1000000 := by rw [ba_size, ba_extract, List.length_take, List.length_drop, ← ba_size]; omega
    refine Ev.bind (sum_f _ hz) ?_
    simp only [cB_f _ (sm_lt _), Option.bind_some, ba_toList, ba_mk]
    by_cases e : (a.extract 0 4).data.toList = cB (sm (a.extract 4 a.size))
    · simp only [if_pos e]; exact Ev.now _
    · simp only [if_neg e]; exact Ev.now _
theorem op4_seal (s : ByteArray) : op4 (sealB s) = (s, 0) := by
  unfold op4
  rw [if_neg (by rw [sealB_size]; omega), sealB_head, sealB_tail, if_pos rfl]
def en (s : ByteArray) (e : Int) : ByteArray × Int := if s.data.toList = [] then (s, e) else fl s e 2
theorem end_f (s : ByteArray) (e : Int) : codec_In_End.f s e = some ((en s e).2, (en s e).1, (en s e).2) := by
  unfold codec_In_End.f en
  rw [ba_toList]
  by_cases c : s.data.toList = []
  · rw [if_pos c, if_pos c]
  · rw [if_neg c, if_neg c, fl_f]; rfl
abbrev Q := Int × Int × ByteArray × Int × ByteArray × ByteArray × Int
def callB (op : Int) (a b : ByteArray) (n : Int) : List UInt8 := numB op.toNat ++ strB a ++ strB b ++ numB (zig n)
def bodyQ (q : Q) : List UInt8 :=
  if q.1 = 2 then numB q.1.toNat ++ strB q.2.2.1 ++ callB q.2.2.2.1 q.2.2.2.2.1 q.2.2.2.2.2.1 q.2.2.2.2.2.2
  else if q.1 = 4 ∨ q.1 = 7 then numB q.1.toNat ++ numB q.2.1.toNat else numB q.1.toNat
def FitQ (q : Q) : Prop := q.1 < 9223372036854775808 ∧ q.2.1 < 9223372036854775808 ∧ q.2.2.1.size ≤ 1000 ∧ q.2.2.2.1 < 9223372036854775808 ∧ q.2.2.2.2.1.size ≤ 1000 ∧ q.2.2.2.2.2.1.size ≤ 1000 ∧ -9223372036854775808 ≤ q.2.2.2.2.2.2 ∧ q.2.2.2.2.2.2 < 9223372036854775808
theorem callB_length (op : Int) (a b : ByteArray) (n : Int) (ho : op < 9223372036854775808) (ha : a.size ≤ 1000) (hb : b.size ≤ 1000) (h0 : -9223372036854775808 ≤ n) (h1 : n < 9223372036854775808) : (callB op a b n).length ≤ 3000 := by
  have l1 : (numB op.toNat).length ≤ 9 := numB_length _ (by omega)
  have l2 := strB_length a (by omega)
  have l3 := strB_length b (by omega)
  have l4 : (numB (zig n)).length ≤ 9 := numB_length _ (zig_lt n h0 h1)
  unfold callB
  rw [List.length_append, List.length_append, List.length_append]; omega
theorem bodyQ_length (q : Q) (h : FitQ q) : (bodyQ q).length ≤ 5000 := by
  obtain ⟨h1, h2, h3, h4, h5, h6, h7, h8⟩ := h
  have l1 : (numB q.1.toNat).length ≤ 9 := numB_length _ (by omega)
  have l2 : (numB q.2.1.toNat).length ≤ 9 := numB_length _ (by omega)
  have l3 := strB_length q.2.2.1 (by omega)
  have l4 := callB_length _ _ _ _ h4 h5 h6 h7 h8
  unfold bodyQ
  split
  · rw [List.length_append, List.length_append]; omega
  · split
    · rw [List.length_append]; omega
    · omega
theorem put_f (op : Int) (a b : ByteArray) (n : Int) (s : ByteArray) (hs : s.size ≤ 100000) (ho : op < 9223372036854775808) (ha : a.size ≤ 1000) (hb : b.size ≤ 1000) (h0 : -9223372036854775808 ≤ n) (h1 : n < 9223372036854775808) :
    method_Call_Put.f op a b n s = some ⟨(s.data.toList ++ callB op a b n).toArray⟩ := by
  have l1 : (numB op.toNat).length ≤ 9 := numB_length _ (by omega)
  have l2 := strB_length a (by omega)
  have l3 := strB_length b (by omega)
  have hz := ba_size s
  unfold method_Call_Put.f callB
  rw [wN1 s op (by omega) ho, Option.bind_some, wS2 _ a b (by rw [ba_mk_size, List.length_append]; omega) (by omega) (by omega), Option.bind_some,
    wI1 _ n (by rw [ba_mk_size]; rw [List.length_append, List.length_append, List.length_append]; omega) h0 h1, Option.bind_some]
  simp only [List.append_assoc]
theorem text_fin (b : List UInt8) (hb : b.length ≤ 100000) : Ev (fun k => (codec_Out_Text.f ⟨b.toArray⟩).bind fun bt => (frame_seal.f k bt.1).bind fun t => some t) (sealB ⟨b.toArray⟩) := by
  simp only [codec_Out_Text.f, Option.bind_some]
  exact Ev.bind (f := fun _ t => some t) (seal_f _ (by rw [ba_mk_size]; omega)) (Ev.now _)
theorem reqText_f (q : Q) (h : FitQ q) : Ev (fun k => frame_Request_Text.f k q.1 q.2.1 q.2.2.1 q.2.2.2.1 q.2.2.2.2.1 q.2.2.2.2.2.1 q.2.2.2.2.2.2) (sealB ⟨(bodyQ q).toArray⟩) := by
  have hl := bodyQ_length q h
  obtain ⟨h1, h2, h3, h4, h5, h6, h7, h8⟩ := h
  obtain ⟨kind, nn, obj, op, a, b, n⟩ := q
  dsimp only at *
  have l1 : (numB kind.toNat).length ≤ 9 := numB_length _ (by omega)
  have l2 : (numB nn.toNat).length ≤ 9 := numB_length _ (by omega)
  have l3 := strB_length obj (by omega)
  unfold frame_Request_Text.f
  have e0 := wN1 ⟨#[]⟩ kind (by decide) h1
  rw [show (⟨#[]⟩ : ByteArray).data.toList = [] from rfl, List.nil_append] at e0
  simp only [e0, Option.bind_some]
  unfold bodyQ at hl ⊢
  dsimp only at hl ⊢
  by_cases c2 : kind = 2
  · rw [if_pos c2] at hl ⊢
    have e1 := wS1 ⟨(numB kind.toNat).toArray⟩ obj (by rw [ba_mk_size]; omega) (by omega)
    have e2 := put_f op a b n ⟨(numB kind.toNat ++ strB obj).toArray⟩ (by rw [ba_mk_size, List.length_append]; omega) h4 h5 h6 h7 h8
    rw [ba_mk] at e1 e2
    simp only [if_pos c2, e1, Option.bind_some, e2]
    exact text_fin _ (by omega)
  · rw [if_neg c2] at hl ⊢
    simp only [if_neg c2]
    by_cases c4 : kind = 4 ∨ kind = 7
    · rw [if_pos c4] at hl ⊢
      have e1 := wN1 ⟨(numB kind.toNat).toArray⟩ nn (by rw [ba_mk_size]; omega) h2
      rw [ba_mk] at e1
      have hj : Ev (fun k => frame_Request_Text.j0 k true kind nn obj op a b n ⟨(numB kind.toNat).toArray⟩) (sealB ⟨(numB kind.toNat ++ numB nn.toNat).toArray⟩) := by
        refine Ev.step (fun k => ?_) (text_fin (numB kind.toNat ++ numB nn.toNat) (by omega))
        simp only [frame_Request_Text.j0]
        rw [if_pos trivial, e1, Option.bind_some]
      rcases c4 with c4 | c4
      · have e4 : (kind == 4) = true := beq_iff_eq.mpr c4
        simp only [if_pos c4, e4]; exact hj
      · have e4 : ¬ kind = 4 := by omega
        have e7 : (kind == 7) = true := beq_iff_eq.mpr c4
        simp only [if_neg e4, e7]; exact hj
    · rw [if_neg c4] at hl ⊢
      have e4 : ¬ kind = 4 := fun h => c4 (.inl h)
      have e7 : (kind == 7) = false := beq_eq_false_iff_ne.mpr (fun h => c4 (.inr h))
      simp only [if_neg e4, e7]
      refine Ev.step (fun k => ?_) (text_fin (numB kind.toNat) (by omega))
      simp only [frame_Request_Text.j0]
      rw [if_neg (by decide)]
def Q0 : Q := (0, 0, ⟨#[]⟩, 0, ⟨#[]⟩, ⟨#[]⟩, 0)
def pQ (a : ByteArray) : Q × Int :=
  if (op4 a).2 ≠ 0 then (Q0, (op4 a).2) else
  let x := tN (op4 a).1 0 7
  let r : Q × ByteArray × Int :=
    if x.1 = 0 then ((x.1, 0, ⟨#[]⟩, 0, ⟨#[]⟩, ⟨#[]⟩, 0), fl x.2.1 x.2.2 6)
    else if x.1 = 2 then
      let y := tS x.2.1 x.2.2 16
      let z := rC y.2.1 y.2.2
      ((x.1, 0, y.1, z.1, z.2.1, z.2.2.1, z.2.2.2.1), z.2.2.2.2)
    else if x.1 = 4 ∨ x.1 = 7 then ((x.1, (tN x.2.1 x.2.2 1099511627776).1, ⟨#[]⟩, 0, ⟨#[]⟩, ⟨#[]⟩, 0), (tN x.2.1 x.2.2 1099511627776).2)
    else ((x.1, 0, ⟨#[]⟩, 0, ⟨#[]⟩, ⟨#[]⟩, 0), x.2)
  if (en r.2.1 r.2.2).2 = 0 then (r.1, 0) else (Q0, (en r.2.1 r.2.2).2)
def flat8 (r : Q × Int) : Int × Int × ByteArray × Int × ByteArray × ByteArray × Int × Int := (r.1.1, r.1.2.1, r.1.2.2.1, r.1.2.2.2.1, r.1.2.2.2.2.1, r.1.2.2.2.2.2.1, r.1.2.2.2.2.2.2, r.2)
theorem parse_fin (s : ByteArray) (e : Int) (q : Q) : Ev (fun _ => (codec_In_End.f s e).bind fun bt => if bt.1 = 0 then some (q.1, q.2.1, q.2.2.1, q.2.2.2.1, q.2.2.2.2.1, q.2.2.2.2.2.1, q.2.2.2.2.2.2, (0 : Int)) else some (0, 0, (⟨#[]⟩ : ByteArray), 0, (⟨#[]⟩ : ByteArray), (⟨#[]⟩ : ByteArray), 0, bt.1)) (flat8 (if (en s e).2 = 0 then (q, 0) else (Q0, (en s e).2))) := by
  simp only [end_f, Option.bind_some]
  by_cases c : (en s e).2 = 0
  · simp only [if_pos c]; exact Ev.now _
  · simp only [if_neg c]; exact Ev.now _
theorem op4_val (a : ByteArray) (ha : a.size ≤ 1000000) : Val (op4 a).1 0 := by
  refine ⟨?_, fun h => absurd rfl h⟩
  unfold op4
  split
  · exact Nat.zero_le _
  · split
    · show (a.extract 4 a.size).size ≤ _
      rw [ba_size, ba_extract, List.length_take, List.length_drop, ← ba_size]; omega
    · exact Nat.zero_le _
theorem parse_f (a : ByteArray) (ha : a.size ≤ 1000000) : Ev (fun k => frame_ParseRequest.f k a) (flat8 (pQ a)) := by
  have hv := op4_val a ha
  unfold frame_ParseRequest.f
  refine Ev.bind (open_f a ha) ?_
  unfold pQ
  by_cases c : (op4 a).2 = 0
  rotate_left
  · rw [if_pos c]
    simp only [if_neg c]
    exact Ev.now _
  rw [if_neg (fun h => h c)]
  simp only [if_pos c, codec_Read.f, Option.bind_some, tN_f _ _ _ hv]
  have hv1 := hv.tN 7
  generalize tN (op4 a).1 0 7 = x at hv1 ⊢
  by_cases c0 : x.1 = 0
  · simp only [if_pos c0, fl_f, Option.bind_some]
    exact parse_fin _ _ (x.1, 0, ⟨#[]⟩, 0, ⟨#[]⟩, ⟨#[]⟩, 0)
  simp only [if_neg c0]
  by_cases c2 : x.1 = 2
  · have hy := tS_f _ _ 16 hv1 (by decide)
    have hv2 := hv1.tS 16
    simp only [if_pos c2, hy, Option.bind_some]
    generalize tS x.2.1 x.2.2 16 = y at hv2 ⊢
    refine Ev.bind (rC_f y.2.1 y.2.2 hv2) ?_
    generalize rC y.2.1 y.2.2 = z
    exact parse_fin _ _ (x.1, 0, y.1, z.1, z.2.1, z.2.2.1, z.2.2.2.1)
  simp only [if_neg c2]
  have hb : ∀ b : Bool, (b = true ↔ (x.1 = 4 ∨ x.1 = 7)) → Ev (fun k => frame_ParseRequest.j0 k b x.2.1 x.2.2 x.1 0 (⟨#[]⟩ : ByteArray) 0 (⟨#[]⟩ : ByteArray) (⟨#[]⟩ : ByteArray) 0)
      (flat8 (let r : Q × ByteArray × Int := if x.1 = 4 ∨ x.1 = 7 then ((x.1, (tN x.2.1 x.2.2 1099511627776).1, ⟨#[]⟩, 0, ⟨#[]⟩, ⟨#[]⟩, 0), (tN x.2.1 x.2.2 1099511627776).2) else ((x.1, 0, ⟨#[]⟩, 0, ⟨#[]⟩, ⟨#[]⟩, 0), x.2)
        if (en r.2.1 r.2.2).2 = 0 then (r.1, 0) else (Q0, (en r.2.1 r.2.2).2))) := by
    intro b hb
    by_cases c4 : x.1 = 4 ∨ x.1 = 7
    · rw [hb.2 c4, if_pos c4]
      refine Ev.step (fun k => by simp only [frame_ParseRequest.j0, if_true, tN_f _ _ _ hv1, Option.bind_some]; rfl) ?_
      exact parse_fin _ _ (x.1, (tN x.2.1 x.2.2 1099511627776).1, ⟨#[]⟩, 0, ⟨#[]⟩, ⟨#[]⟩, 0)
    · have hf : b = false := by cases b with
        | false => rfl
        | true => exact absurd (hb.1 rfl) c4
      rw [hf, if_neg c4]
      refine Ev.step (fun k => by simp only [frame_ParseRequest.j0, Bool.false_eq_true, if_false]; rfl) ?_
      exact parse_fin _ _ (x.1, 0, ⟨#[]⟩, 0, ⟨#[]⟩, ⟨#[]⟩, 0)
  by_cases c4 : x.1 = 4
  · simp only [if_pos c4]
    exact hb _ (by rw [beq_iff_eq]; omega)
  · simp only [if_neg c4]
    exact hb _ (by rw [beq_iff_eq]; omega)
def chkQ (q : Q) : Int :=
  if q.1 < 1 ∨ 7 < q.1 then 6
  else if (¬ q.1 = 2 ∧ (¬ q.2.2.1.toList = [] ∨ ¬ q.2.2.2.1 = 0 ∨ ¬ q.2.2.2.2.1.toList = [] ∨ ¬ q.2.2.2.2.2.1.toList = [] ∨ ¬ q.2.2.2.2.2.2 = 0)) ∨ (¬ q.1 = 4 ∧ ¬ q.1 = 7 ∧ ¬ q.2.1 = 0) then 2
  else if q.2.2.1.size > 16 then 3
  else if q.2.1 < 0 ∨ q.2.1 > 1099511627776 then 4
  else if q.1 = 2 then chk q.2.2.2.1 q.2.2.2.2.1 q.2.2.2.2.2.1 q.2.2.2.2.2.2 else 0
end Go.Proofs.Ytkkkmbgflflcnaa.PA

namespace Go.Proofs.Ytkkkmbgflflcnaa.PA
open Go.RowKit Go.Proofs.YtkkkmbgflflcnaaW.PrintWords Go.Proofs.YtkkkmbgflflcnaaW.PrintLast CrcM
theorem odd_sum (n c : Nat) : ((((n : Int) + (c : Int)) % 4294967296) % 2 = 1) ↔ (n ^^^ c) % 2 = 1 := by
  rw [mod2_xor]
  omega
theorem ref_l1 (s : ByteArray) (i : Nat) (d : Nat) : ∀ (j n c : Nat) (r : Int), j + d = 8 → n < 4294967296 → c < 2 ^ d →
    Ev (fun k => armoireref01_Of.l0 k s ((iter d (n ^^^ c) : Nat) : Int) (wrap64 ((i : Int) + 1))) r → Ev (fun k => armoireref01_Of.l1 k s (n : Int) (i : Int) (c : Int) (j : Int)) r := by
  induction d with
  | zero =>
    intro j n c r hj hn hc h
    obtain rfl : c = 0 := by simpa using hc
    rw [Nat.xor_zero] at h
    refine Ev.step (fun k => ?_) h
    simp only [armoireref01_Of.l1]
    rw [if_neg (by omega)]
    rfl
  | succ d ih =>
    intro j n c r hj hn hc h
    have hc8 : c < 256 := Nat.lt_of_lt_of_le hc (Nat.le_trans (Nat.pow_le_pow_right (by decide) (show d + 1 ≤ 8 by omega)) (Nat.le_refl 256))
    have e1 : (Int.tdiv (n : Int) 2) % 4294967296 = ((n / 2 : Nat) : Int) := by
      rw [Int.tdiv_eq_ediv_of_nonneg (by omega)]; omega
    have e2 : (Int.tdiv (c : Int) 2) % 4294967296 = ((c / 2 : Nat) : Int) := by
      rw [Int.tdiv_eq_ediv_of_nonneg (by omega)]; omega
    have hc2 : c / 2 < 2 ^ d := by rw [Nat.pow_succ] at hc; omega
    have hj8 : (j : Int) < 8 := by omega
    have hj9 : j + 1 + d = 8 := by omega
    have hn2 : n / 2 < 4294967296 := by omega
    have e3 : wrap64 ((j : Int) + 1) = ((j + 1 : Nat) : Int) := by unfold wrap64; omega
    by_cases ho : (n ^^^ c) % 2 = 1
    · have hb : bstep (n ^^^ c) = (n / 2 ^^^ poly) ^^^ (c / 2) := by
        unfold bstep
        rw [if_pos ho, div2_xor, Nat.xor_assoc, Nat.xor_comm (c / 2), ← Nat.xor_assoc]
      have ex := bits_xor_32 (n / 2) poly hn2 poly_lt32
      rw [show ((poly : Nat) : Int) = 3988292384 from rfl] at ex
      refine Ev.step (fun k => ?_) (ih (j + 1) (n / 2 ^^^ poly) (c / 2) r hj9 (xor_lt32 hn2 poly_lt32) hc2 (by rw [iter, hb] at h; exact h))
      simp only [armoireref01_Of.l1]
      rw [if_pos hj8, if_pos ((odd_sum n c).2 ho), e1, e2, e3, ex]
    · have hb : bstep (n ^^^ c) = (n / 2) ^^^ (c / 2) := by
        unfold bstep
        rw [if_neg ho, div2_xor, Nat.xor_zero]
      refine Ev.step (fun k => ?_) (ih (j + 1) (n / 2) (c / 2) r hj9 hn2 hc2 (by rw [iter, hb] at h; exact h))
      simp only [armoireref01_Of.l1]
      rw [if_pos hj8, if_neg (fun h => ho ((odd_sum n c).1 h)), e1, e2, e3]
theorem ref_l0 (s : ByteArray) (hs : s.size ≤ 140737488351232) (d : Nat) : ∀ i n : Nat, i + d = s.size → n < 4294967296 →
    Ev (fun k => armoireref01_Of.l0 k s (n : Int) (i : Int)) ((4294967295 ^^^ run n (s.data.toList.drop i) : Nat) : Int) := by
  induction d with
  | zero =>
    intro i n hi hn
    refine Ev.step (f := fun _ => some ((4294967295 ^^^ n : Nat) : Int)) (fun k => ?_) ?_
    · simp only [armoireref01_Of.l0]
      rw [if_neg (by omega), xor_ff n hn]
      congr 1
      omega
    · rw [List.drop_eq_nil_of_le (by simp; omega)]
      exact Ev.now _
  | succ d ih =>
    intro i n hi hn
    have h1 := ih (i + 1) (byteStep n (s.data.toList.getD i 0).toNat) (by omega) (iter_lt 8 _ (Nat.xor_lt_two_pow hn (Nat.lt_trans (UInt8.toNat_lt _) (by decide))))
    have e : run n (s.data.toList.drop i) = run (byteStep n (s.data.toList.getD i 0).toNat) (s.data.toList.drop (i + 1)) := by
      rw [drop_cons _ _ (by simp; omega)]
      rfl
    rw [e]
    have hb : (((s.data.toList.getD i 0).toNat : Int)) % 4294967296 = ((s.data.toList.getD i 0).toNat : Int) := by
      have := UInt8.toNat_lt (s.data.toList.getD i 0); omega
    refine Ev.step (fun k => ?_) (ref_l1 s i 8 0 n (s.data.toList.getD i 0).toNat _ (by omega) hn (UInt8.toNat_lt _) (by rw [wrap_in _ (by omega) (by omega)]; exact h1))
    simp only [armoireref01_Of.l0]
    rw [if_pos (by omega), if_pos (by omega), bt_get s i (by omega), hb]
    rfl
theorem ref_f (s : ByteArray) (hs : s.size ≤ 140737488351232) : Ev (fun k => armoireref01_Of.f k s) ((sum s.data.toList : Nat) : Int) := by
  have h := ref_l0 s hs s.size 0 4294967295 (by omega) (by decide)
  rw [List.drop_zero] at h
  exact h
end Go.Proofs.Ytkkkmbgflflcnaa.PA

namespace Go.Proofs.Ytkkkmbgflflcnaa.PA
open Go.RowKit Go.Proofs.YtkkkmbgflflcnaaW.PrintWords Go.Proofs.YtkkkmbgflflcnaaW.PrintLast Go.Proofs.YtkkkmbgflflcnaaW.PrintMore Go.Proofs.Ytkkkmbgflflcnaa CrcM
theorem rcB_f (n : Nat) (hn : n < 4294967296) : armoireref01_Bytes.f (n : Int) = some ⟨(cB n).toArray⟩ := by
  unfold armoireref01_Bytes.f
  refine congrArg some (bytes_ext ?_)
  rw [strOfNums_data]
  simp only [List.map_cons, List.map_nil, cB]
  have h0 : (0 : Int) ≤ (n : Int) := by omega
  rw [Int.tmod_eq_emod_of_nonneg h0, Int.tdiv_eq_ediv_of_nonneg h0, Int.tdiv_eq_ediv_of_nonneg h0, Int.tdiv_eq_ediv_of_nonneg h0]
  rw [show ((n : Int) % 256 % 256).toNat = n % 256 by omega, show ((n : Int) / 256 % 4294967296 % 256).toNat = n / 256 % 256 by omega, show ((n : Int) / 65536 % 4294967296 % 256).toNat = n / 65536 % 256 by omega, show ((n : Int) / 16777216 % 4294967296 % 256).toNat = n / 16777216 % 256 by omega]
theorem rsum_f (s : ByteArray) (hs : s.size ≤ 1000000) : Ev (fun k => armoireref01_Of.f k s) ((sm s : Nat) : Int) := ref_f s (by omega)
theorem rseal_f (x : ByteArray) (hx : x.size ≤ 1000000) : Ev (fun k => (armoireref01_Of.f k x).bind fun t => (armoireref01_Bytes.f t).bind fun u => if u.size + x.size ≤ 9223372036854775807 then some (u ++ x) else none) (sealB x) := by
  have c3 : (⟨(cB (sm x)).toArray⟩ : ByteArray).size + x.size ≤ 9223372036854775807 := by rw [ba_mk_size, cB_length]; omega
  have e : (⟨(cB (sm x)).toArray⟩ : ByteArray) ++ x = sealB x := bytes_ext (by rw [ba_append]; rfl)
  refine Ev.bind (rsum_f x hx) ?_
  simp only [rcB_f _ (sm_lt x), Option.bind_some, if_pos c3, e]
  exact Ev.now _
end Go.Proofs.Ytkkkmbgflflcnaa.PA

