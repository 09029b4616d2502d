import Derived.Test.YtodikgjanhihhaaQLtFCB
import Derived.Test.YtodikgjanhihhaaQLtPAx4
import Derived.Test.YtodikgjanhihhaaQLtPAx3
import Derived.Test.YtodikgjanhihhaaQLtPAx5
import Derived.Test.YtodikgjanhihhaaQLtMCrcMath
namespace Go.Proofs.Ytodikgjanhihhaa.PA
open Go.RowKit Go.Proofs.YtodikgjanhihhaaW.PrintWords Go.Proofs.YtodikgjanhihhaaW.PrintLast Go.Proofs.YtodikgjanhihhaaW.PrintMore Go.Proofs.Ytodikgjanhihhaa Go.Proofs.Ytodikgjanhihhaa.PL
theorem fl_f (s : ByteArray) (e x : Int) : codec_In_Fail.f s e x = some (fl s e x) := by
  unfold codec_In_Fail.f fl
  by_cases h : e = 0
  · by_cases h2 : x = 0
    · rw [if_pos h, if_pos h2, if_pos h, if_pos h2]
    · rw [if_pos h, if_neg h2, if_pos h, if_neg h2]
  · rw [if_neg h, if_neg h]
theorem tk_f (s : ByteArray) (e : Int) (n : Nat) : codec_In_take.f s e (n : Int) = some (tk s e n) := by
  unfold codec_In_take.f tk
  by_cases h : n > s.size
  · rw [if_pos (by omega), if_pos h, fl_f]; rfl
  · rw [if_neg (by omega), if_neg h, if_pos (by omega), if_pos (by omega), Int.toNat_natCast]
theorem tU_f (s : ByteArray) (e : Int) (_hv : Val s e) : codec_In_U.f s e = some (tU s e) := by
  have h1 := tk_f s e 1
  rw [show ((1 : Nat) : Int) = 1 from rfl] at h1
  unfold codec_In_U.f tU
  rw [h1, Option.bind_some]
  by_cases c : (tk s e 1).2.2 ≠ 0
  · rw [if_pos c, if_pos c]
  · rw [if_neg c, if_neg c]
    have hz : (tk s e 1).1.size = 1 := by
      have h3 : ¬ 1 > s.size := by
        intro h3
        have e2 : (tk s e 1).2.2 = (fl s e 1).2 := by unfold tk; rw [if_pos h3]
        rw [e2] at c
        unfold fl at c
        by_cases he : e = 0
        · rw [if_pos he, if_neg (by decide)] at c; exact c (by decide)
        · rw [if_neg he] at c; exact c he
      unfold tk
      rw [if_neg h3]
      show (s.extract 0 1).size = 1
      rw [ba_size, ba_extract, List.length_take, List.length_drop, ← ba_size]; omega
    rw [if_neg (by omega)]
    by_cases c2 : ((tk s e 1).1.data.toList.getD 0 0).toNat > 8
    · rw [if_pos c2, if_pos c2, fl_f]; rfl
    · rw [if_neg c2, if_neg c2, tk_f, Option.bind_some]
      dsimp only
      split
      · rw [fl_f]; rfl
      · rw [if_pos (by
          have h4 := (tk_size (s := (tk s e 1).2.1) (e := (tk s e 1).2.2) (n := ((tk s e 1).1.data.toList.getD 0 0).toNat) (by omega)).2.1
          omega)]
theorem tN_f (s : ByteArray) (e m : Int) (hv : Val s e) : codec_In_N.f s e m = some (tN s e m) := by
  unfold codec_In_N.f tN
  rw [tU_f s e hv, Option.bind_some]
  by_cases c : (tU s e).1 > IntKind.u64.wrap (mx m 0)
  · rw [if_pos c, if_pos c, fl_f]; rfl
  · rw [if_neg c, if_neg c]
theorem tN_nonneg (s : ByteArray) (e m : Int) (hm : m < 9223372036854775808) : 0 ≤ (tN s e m).1 ∧ (tN s e m).1 ≤ mx m 0 := by
  have h := tU_range s e
  have hw : IntKind.u64.wrap (mx m 0) = mx m 0 := by rw [wrap_u64]; unfold mx; split <;> omega
  have hm0 : 0 ≤ mx m 0 ∧ mx m 0 < 9223372036854775808 := by unfold mx; split <;> omega
  unfold tN
  rw [hw]
  split
  · exact ⟨Int.le_refl 0, hm0.1⟩
  · rename_i c
    show 0 ≤ wrap64 (tU s e).1 ∧ wrap64 (tU s e).1 ≤ mx m 0
    have : wrap64 (tU s e).1 = (tU s e).1 := by unfold wrap64; omega
    rw [this]
    exact ⟨h.1, by omega⟩
theorem tS_f (s : ByteArray) (e m : Int) (hv : Val s e) (hm : m < 9223372036854775808) : codec_In_S.f s e m = some (tS s e m) := by
  have h := (tN_nonneg s e m hm).1
  have e1 : (((tN s e m).1.toNat : Nat) : Int) = (tN s e m).1 := by omega
  have h2 := tk_f (tN s e m).2.1 (tN s e m).2.2 (tN s e m).1.toNat
  rw [e1] at h2
  unfold codec_In_S.f tS
  rw [tN_f s e m hv, Option.bind_some, h2]
  rfl
end Go.Proofs.Ytodikgjanhihhaa.PA

namespace Go.Proofs.Ytodikgjanhihhaa.PA
open Go.RowKit Go.Proofs.YtodikgjanhihhaaW.PrintWords Go.Proofs.YtodikgjanhihhaaW.PrintLast Go.Proofs.YtodikgjanhihhaaW.PrintMore Go.Proofs.Ytodikgjanhihhaa
theorem wN2 (s : ByteArray) (a b : Int) (hs : s.size ≤ 1000000) (ha : a < 9223372036854775808) (hb : b < 9223372036854775808) : codec_Out_N.f s [a, b] = some ⟨(s.data.toList ++ numB a.toNat ++ numB b.toNat).toArray⟩ := by
  unfold codec_Out_N.f
  rw [if_pos ⟨by simp only [List.length_cons, List.length_nil]; omega, by intro n hn; simp only [List.mem_cons, List.not_mem_nil, or_false] at hn; rcases hn with rfl | rfl <;> assumption⟩]
  simp
theorem wS1 (s a : ByteArray) (hs : s.size ≤ 1000000) (ha : a.size ≤ 1000000) : codec_Out_S.f s [a] = some ⟨(s.data.toList ++ strB a).toArray⟩ := by
  unfold codec_Out_S.f
  rw [if_pos (by simp only [List.map_cons, List.map_nil, List.sum_cons, List.sum_nil]; omega)]
  simp
end Go.Proofs.Ytodikgjanhihhaa.PA

namespace Go.Proofs.Ytodikgjanhihhaa.PA
open Go.RowKit Go.Proofs.YtodikgjanhihhaaW.PrintWords Go.Proofs.YtodikgjanhihhaaW.PrintLast Go.Proofs.YtodikgjanhihhaaW.PrintMore Go.Proofs.Ytodikgjanhihhaa Go.Proofs.Ytodikgjanhihhaa.PL CrcM
set_option linter.unusedSimpArgs false
theorem cut_f (s : ByteArray) (n : Nat) : armoirelaw01_Cut.f s (n : Int) = some (s.extract 0 (min n s.size)) := by
  unfold armoirelaw01_Cut.f
  by_cases h : (s.size : Int) > n
  · rw [if_pos h, if_pos (by omega), if_pos (by omega), show min n s.size = n by omega]
    rfl
  · rw [if_neg h, show min n s.size = s.size by omega]
    simp
theorem cut_size (s : ByteArray) (n : Nat) : (s.extract 0 (min n s.size)).size ≤ n := by
  rw [ba_size, ba_extract, List.length_take]; omega
def secB (n m : Int) (d : ByteArray) : List UInt8 := numB n.toNat ++ numB m.toNat ++ strB d
def pad60 (l : List UInt8) : List UInt8 := l ++ List.replicate (60 - l.length) 0
def tx (n m : Int) (d : ByteArray) : ByteArray := sealB ⟨(pad60 (secB n m d)).toArray⟩
def FitS (n m : Int) (d : ByteArray) : Prop := n ≤ 1099511627776 ∧ 0 ≤ m ∧ m ≤ 255 ∧ d.size ≤ 44
theorem secB_length (n m : Int) (d : ByteArray) (h : FitS n m d) : (numB n.toNat).length ≤ 7 ∧ (numB m.toNat).length ≤ 2 ∧ (strB d).length ≤ 46 ∧ (secB n m d).length ≤ 55 := by
  obtain ⟨h1, h2, h3, h4⟩ := h
  have e : ∀ k j, nlen k ≤ j → (numB k).length ≤ j + 1 := fun k j hk => by rw [numB, List.length_cons, digs_length]; omega
  have l1 := e n.toNat 6 (nlen_le 6 _ (by have : (256 : Nat) ^ 6 = 281474976710656 := by decide
                                          omega))
  have l2 := e m.toNat 1 (nlen_le 1 _ (by omega))
  have l3 := e d.size 1 (nlen_le 1 _ (by omega))
  have l4 : (strB d).length ≤ 46 := by unfold strB; rw [List.length_append, ← ba_size]; omega
  refine ⟨l1, l2, l4, ?_⟩
  unfold secB
  rw [List.length_append, List.length_append]; omega
theorem pad60_length (l : List UInt8) (h : l.length ≤ 60) : (pad60 l).length = 60 := by
  unfold pad60; rw [List.length_append, List.length_replicate]; omega
theorem tx_size (n m : Int) (d : ByteArray) (h : FitS n m d) : (tx n m d).size = 64 := by
  unfold tx
  rw [sealB_size, ba_mk_size, pad60_length _ (by have := (secB_length n m d h).2.2.2; omega)]
theorem zeros_str (n : Nat) : strOfNums (List.replicate n 0) = ⟨(List.replicate n (0 : UInt8)).toArray⟩ := by
  refine bytes_ext ?_
  rw [strOfNums_data]
  simp
theorem text_f (n m : Int) (d : ByteArray) (h : FitS n m d) : Ev (fun k => stamp_Sector_Text.f k n m d) (tx n m d) := by
  have hl := secB_length n m d h
  obtain ⟨h1, h2, h3, h4⟩ := h
  have hm : wrap64 m = m := by unfold wrap64; omega
  have e1 := wN2 ⟨#[]⟩ n m (by decide) (by omega) (by omega)
  have e2 := wS1 ⟨(numB n.toNat ++ numB m.toNat).toArray⟩ d (by rw [ba_mk_size, List.length_append]; omega) (by omega)
  rw [show (⟨#[]⟩ : ByteArray).data.toList = [] from rfl, List.nil_append] at e1
  rw [ba_mk] at e2
  have hs : numB n.toNat ++ numB m.toNat ++ strB d = secB n m d := rfl
  rw [hs] at e2
  unfold stamp_Sector_Text.f
  rw [hm]
  simp only [e1, e2, codec_Out_Text.f, Option.bind_some]
  obtain ⟨b, hb⟩ : ∃ b, b = secB n m d := ⟨_, rfl⟩
  have ht : tx n m d = sealB ⟨(pad60 b).toArray⟩ := by rw [hb]; rfl
  rw [ht, ← hb]
  rw [← hb] at hl
  have hbl := hl.2.2.2
  clear hs e2 e1 ht hb hl hm
  have hw : wrap64 (60 - ((⟨b.toArray⟩ : ByteArray).size : Int)) = ((60 - b.length : Nat) : Int) := by rw [ba_mk_size]; unfold wrap64; omega
  have c0 : (0 : Int) ≤ ((60 - b.length : Nat) : Int) := by omega
  have c1 : 60 - b.length ≤ 281474976710656 := by omega
  have hz : (⟨b.toArray⟩ : ByteArray) ++ strOfNums (List.replicate (60 - b.length) 0) = ⟨(pad60 b).toArray⟩ := by
    rw [zeros_str, ba_mk_append]; rfl
  have c2 : (⟨b.toArray⟩ : ByteArray).size + (strOfNums (List.replicate (60 - b.length) 0)).size ≤ 9223372036854775807 := by
    rw [zeros_str, ba_mk_size, ba_mk_size, List.length_replicate]; omega
  have hp := pad60_length b (by omega)
  have c3 : (⟨(cB (sm ⟨(pad60 b).toArray⟩)).toArray⟩ : ByteArray).size + (⟨(pad60 b).toArray⟩ : ByteArray).size ≤ 9223372036854775807 := by rw [ba_mk_size, ba_mk_size, cB_length, hp]; omega
  have e : (⟨(cB (sm ⟨(pad60 b).toArray⟩)).toArray⟩ : ByteArray) ++ (⟨(pad60 b).toArray⟩ : ByteArray) = sealB ⟨(pad60 b).toArray⟩ := bytes_ext (by rw [ba_append]; rfl)
  simp only [hw, if_pos c0, if_pos c1, Int.toNat_natCast, if_pos c2, hz]
  refine Ev.bind (sum_f _ (by rw [ba_mk_size, hp]; omega)) ?_
  simp only [cB_f _ (sm_lt _), Option.bind_some, if_pos c3, e]
  exact Ev.now _
def chkS (n : Int) (d : ByteArray) : Int := if n < 1 ∨ n > 1099511627776 then 18 else if d.size > 44 then 3 else 0
theorem check_k (k : Nat) (n m : Int) (d : ByteArray) : stamp_Sector_Check.f (k + 1) n m d = some (chkS n d) ∧ armoireref04_Check.f (k + 1) n m d = some (chkS n d) := by
  unfold stamp_Sector_Check.f armoireref04_Check.f chkS
  simp only [stamp_Sector_Check.j0, armoireref04_Check.j0]
  by_cases c1 : n < 1
  · simp [c1]
  · by_cases c2 : n > 1099511627776
    · simp [c1, c2]
    · by_cases c3 : d.size > 44
      · have c4 : (d.size : Int) > 44 := by omega
        simp [c1, c2, c3, c4]
      · have c4 : ¬ (d.size : Int) > 44 := by omega
        simp [c1, c2, c3, c4]
theorem check_f (n m : Int) (d : ByteArray) : Ev (fun k => stamp_Sector_Check.f k n m d) (chkS n d) :=
  ⟨1, fun k hk => by obtain ⟨q, rfl⟩ : ∃ q, k = q + 1 := ⟨k - 1, by omega⟩
                     exact (check_k q n m d).1⟩
theorem rcheck_f (n m : Int) (d : ByteArray) : Ev (fun k => armoireref04_Check.f k n m d) (chkS n d) :=
  ⟨1, fun k hk => by obtain ⟨q, rfl⟩ : ∃ q, k = q + 1 := ⟨k - 1, by omega⟩
                     exact (check_k q n m d).2⟩
def pS (a : ByteArray) : Int × Int × ByteArray × Int :=
  if ¬ a.size = 64 then (0, 0, ⟨#[]⟩, 1)
  else if ¬ (a.extract 0 4).data.toList = cB (sm (a.extract 4 a.size)) then (0, 0, ⟨#[]⟩, 5)
  else
    let x := tN (a.extract 4 a.size) 0 1099511627776
    let y := tN x.2.1 x.2.2 255
    let z := tS y.2.1 y.2.2 44
    if ¬ z.2.2 = 0 then (0, 0, ⟨#[]⟩, z.2.2)
    else if x.1 < 1 then (0, 0, ⟨#[]⟩, 2)
    else if (tx x.1 y.1 z.1).data.toList = a.data.toList then (x.1, y.1, z.1, 0) else (0, 0, ⟨#[]⟩, 2)
theorem tS_size (s : ByteArray) (e m : Int) (hm : 0 ≤ m) (hm2 : m < 9223372036854775808) : (tS s e m).1.size ≤ m.toNat := by
  have h := tN_nonneg s e m hm2
  have hx : mx m 0 = m := by unfold mx; split <;> omega
  rw [hx] at h
  have := (tk_size (s := (tN s e m).2.1) (e := (tN s e m).2.2) (n := (tN s e m).1.toNat) (by omega)).2.1
  unfold tS
  omega
theorem mx_pos (m : Int) (h : 0 ≤ m) : mx m 0 = m := by unfold mx; split <;> omega
set_option maxHeartbeats 1000000 in
theorem parse_fit (a : ByteArray) : FitS (tN (a.extract 4 a.size) 0 1099511627776).1 (tN (tN (a.extract 4 a.size) 0 1099511627776).2.1 (tN (a.extract 4 a.size) 0 1099511627776).2.2 255).1 (tS (tN (tN (a.extract 4 a.size) 0 1099511627776).2.1 (tN (a.extract 4 a.size) 0 1099511627776).2.2 255).2.1 (tN (tN (a.extract 4 a.size) 0 1099511627776).2.1 (tN (a.extract 4 a.size) 0 1099511627776).2.2 255).2.2 44).1 := by
  have h1 := tN_nonneg (a.extract 4 a.size) 0 1099511627776 (by decide)
  rw [mx_pos _ (by decide)] at h1
  generalize tN (a.extract 4 a.size) 0 1099511627776 = x at h1 ⊢
  have h2 := tN_nonneg x.2.1 x.2.2 255 (by decide)
  rw [mx_pos _ (by decide)] at h2
  generalize tN x.2.1 x.2.2 255 = y at h2 ⊢
  have h3 := tS_size y.2.1 y.2.2 44 (by decide) (by decide)
  exact ⟨h1.2, h2.1, h2.2, h3⟩
set_option maxHeartbeats 1000000 in
theorem parse_f (a : ByteArray) (_ha : a.size ≤ 1000000) : Ev (fun k => stamp_Parse.f k a) (pS a) := by
  have hfit := parse_fit a
  unfold stamp_Parse.f pS
  by_cases c : a.size = 64
  rotate_left
  · have c' : ¬ (a.size : Int) = 64 := by omega
    rw [if_pos c]
    simp only [if_neg c']
    exact Ev.now _
  have c' : (a.size : Int) = 64 := by omega
  have c1 : (4 : Int) ≤ (a.size : Int) := by omega
  have c0 : (0 : Int) ≤ 4 := by decide
  have hz : (a.extract 4 a.size).size ≤ 1000000 := by rw [ba_size, ba_extract, List.length_take, List.length_drop, ← ba_size]; omega
  have hv : Val (a.extract 4 a.size) 0 := ⟨by omega, fun h => absurd rfl h⟩
  rw [if_neg (fun h => h c)]
  simp only [if_pos c', if_pos c1, if_pos c0]
  refine Ev.bind (sum_f _ hz) ?_
  simp only [cB_f _ (sm_lt _), Option.bind_some, ba_toList, ba_mk]
  by_cases e : (a.extract 0 4).data.toList = cB (sm (a.extract 4 a.size))
  rotate_left
  · rw [if_pos e]
    simp only [if_neg e]
    exact Ev.now _
  rw [if_neg (fun h => h e)]
  simp only [if_pos e, codec_Read.f, Option.bind_some]
  have h1 := tN_f _ 0 1099511627776 hv
  have v1 := hv.tN 1099511627776
  have h2 := tN_f _ _ 255 v1
  have v2 := v1.tN 255
  have h3 := tS_f _ _ 44 v2 (by decide)
  simp only [h1, h2, h3, Option.bind_some, codec_In_Err.f]
  generalize tN (a.extract 4 a.size) 0 1099511627776 = x at hfit ⊢
  generalize tN x.2.1 x.2.2 255 = y at hfit ⊢
  generalize tS y.2.1 y.2.2 44 = z at hfit ⊢
  have hy : y.1 % 256 = y.1 := by have := hfit.2.1; have := hfit.2.2.1; omega
  by_cases cz : z.2.2 = 0
  rotate_left
  · simp only [if_neg cz, if_pos cz]
    exact Ev.now _
  have cz' : ¬ ¬ z.2.2 = 0 := fun h => h cz
  simp only [if_pos cz, if_neg cz']
  by_cases cx : x.1 < 1
  · simp only [if_pos cx]
    exact Ev.now _
  simp only [if_neg cx, hy]
  refine Ev.bind (text_f _ _ _ hfit) ?_
  by_cases ct : (tx x.1 y.1 z.1).data.toList = a.data.toList
  · simp only [if_pos ct]; exact Ev.now _
  · simp only [if_neg ct]; exact Ev.now _
theorem pS_tx (n m : Int) (d : ByteArray) (h : FitS n m d) (hn : 1 ≤ n) : pS (tx n m d) = (n, m, d, 0) := by
  have hz := tx_size n m d h
  obtain ⟨h1, h2, h3, h4⟩ := h
  have e1 := tN_num n.toNat 1099511627776 (by omega) (by decide) (numB m.toNat ++ (strB d ++ List.replicate (60 - (secB n m d).length) 0))
  have e2 := tN_num m.toNat 255 (by omega) (by decide) (strB d ++ List.replicate (60 - (secB n m d).length) 0)
  have e3 := tS_str d 44 (by omega) (by decide) (List.replicate (60 - (secB n m d).length) 0)
  rw [show ((n.toNat : Nat) : Int) = n by omega] at e1
  rw [show ((m.toNat : Nat) : Int) = m by omega] at e2
  have ht : (tx n m d).extract 4 (tx n m d).size = ⟨(numB n.toNat ++ (numB m.toNat ++ (strB d ++ List.replicate (60 - (secB n m d).length) 0))).toArray⟩ := by
    unfold tx
    rw [sealB_tail]
    unfold pad60
    rw [show secB n m d = numB n.toNat ++ numB m.toNat ++ strB d from rfl]
    simp only [List.append_assoc]
  unfold pS
  rw [if_neg (by simp [hz]), if_neg (by
    unfold tx
    rw [sealB_head, sealB_tail, ba_mk]
    simp)]
  rw [ht, e1]
  dsimp only
  rw [e2]
  dsimp only
  rw [e3]
  dsimp only
  rw [if_neg (by simp), if_neg (by omega), if_pos rfl]
theorem awake_true : Ev (fun k => armoirelaw04_awake.f k) true := by
  have hf : FitS 1 2 (⟨#[]⟩ : ByteArray) := ⟨by decide, by decide, by decide, by decide⟩
  have hz := tx_size 1 2 ⟨#[]⟩ hf
  have hz' : ((tx 1 2 ⟨#[]⟩).size : Int) = 64 := by omega
  have hb : secB 1 2 (⟨#[]⟩ : ByteArray) = [1, 1, 1, 2, 0] := by
    have n1 : numB 1 = [1, 1] := by simp [numB, nlen, digs, dig]
    have n2 : numB 2 = [1, 2] := by simp [numB, nlen, digs, dig]
    have n0 : numB 0 = [0] := by simp [numB, nlen, digs]
    unfold secB strB
    rw [show (1 : Int).toNat = 1 from rfl, show (2 : Int).toNat = 2 from rfl, show (⟨#[]⟩ : ByteArray).size = 0 from rfl, n1, n2, n0]
    rfl
  have he : ((tx 1 2 ⟨#[]⟩).extract 4 10).toList = [1, 1, 1, 2, 0, 0] := by
    rw [ba_toList, ba_extract]
    unfold tx sealB
    rw [hb]
    rfl
  have hp := parse_f (tx 1 2 ⟨#[]⟩) (by omega)
  rw [pS_tx 1 2 ⟨#[]⟩ hf (by decide)] at hp
  have c1 : (10 : Int) ≤ ((tx 1 2 ⟨#[]⟩).size : Int) := by omega
  have c0 : (4 : Int) ≤ 10 := by decide
  have q : ((1 : Int) == 1 && ((2 : Int) == 2 && ((⟨#[]⟩ : ByteArray).toList == ([] : List UInt8)))) = true := by rw [ba_toList]; rfl
  unfold armoirelaw04_awake.f
  refine Ev.bind (text_f 1 2 ⟨#[]⟩ hf) ?_
  refine Ev.bind hp ?_
  simp only [if_pos hz', if_pos c0, if_pos c1, he, if_true, q]
  refine Ev.bind (check_f 0 0 ⟨#[]⟩) ?_
  rw [show chkS 0 (⟨#[]⟩ : ByteArray) = 18 from rfl]
  exact Ev.now _
end Go.Proofs.Ytodikgjanhihhaa.PA

namespace Go.Proofs.Ytodikgjanhihhaa.PA
set_option linter.unusedSimpArgs false
open Go.RowKit Go.Proofs.YtodikgjanhihhaaW.PrintWords Go.Proofs.YtodikgjanhihhaaW.PrintLast Go.Proofs.YtodikgjanhihhaaW.PrintMore Go.Proofs.Ytodikgjanhihhaa Go.Proofs.Ytodikgjanhihhaa.PL
def stW (d : Dv) (a n m : Int) (t : ByteArray) : Int × Dv := if chkS n t = 0 then dvWrite d a (tx n m t) else (chkS n t, d)
def stR (d : Dv) (a : Int) : Int × Int × ByteArray × Bool × Int := if (dvRead d a).2 = 0 then ((pS (dvRead d a).1).1, (pS (dvRead d a).1).2.1, (pS (dvRead d a).1).2.2.1, (pS (dvRead d a).1).2.2.2 == 0, 0) else (0, 0, ⟨#[]⟩, false, (dvRead d a).2)
theorem chkS_fit {n m : Int} {t : ByteArray} (h : chkS n t = 0) (h0 : 0 ≤ m) (h1 : m ≤ 255) : FitS n m t ∧ 1 ≤ n := by
  by_cases c1 : n < 1 ∨ n > 1099511627776
  · unfold chkS at h; rw [if_pos c1] at h; exact absurd h (by decide)
  · by_cases c2 : t.size > 44
    · unfold chkS at h; rw [if_neg c1, if_pos c2] at h; exact absurd h (by decide)
    · exact ⟨⟨by omega, h0, h1, by omega⟩, by omega⟩
set_option maxHeartbeats 1000000 in
set_option maxRecDepth 100000 in
theorem stamp_Write.calls (g : Nat) (d : Dv) (a n m : Int) (t : ByteArray) (w0 w : World) (hm : 0 ≤ m ∧ m ≤ 255) (hI : IsDev w0 w g d) (hB : Below w0.heap.size w0 w) (hl : -9223372036854775808 ≤ d.left ∧ d.left < 9223372036854775808) (hn : d.cache.length ≤ 1000000) :
    Calls Try.prog 20 #[.pointer (some ⟨g, 0, none⟩), .int .i64 a, .agg #[.int .i64 n, .int .u8 m, .string t]] w fun e w' => e = .returned (.int .i64 (stW d a n m t).1) ∧ IsDev w0 w' g (stW d a n m t).2 ∧ Below w0.heap.size w0 w' ∧ DevKeep w w' g := by
  have HI := Aside0.mk hI
  have HB := Aside0.mk hB
  obtain ⟨k1, hc⟩ := Ev.rounds (check_f n m t)
  have HC := Aside0.mk hc
  clear hI hB hc
  obtain ⟨o, ho⟩ : ∃ o : Obj, o = .cells #[.int .i64 n, .int .u8 m, .string t] 23 := ⟨_, rfl⟩
  have hA : Below w.heap.size w (w.alloc o) := bal (Below.refl _ _) o
  have HA := Aside0.mk hA
  clear hA
  have hb0 : (w.alloc o).heap[w.heap.size]? = some o := World.alloc_heap_new w o
  unfold stW
  by_cases q : chkS n t = 0
  · obtain ⟨hf, -⟩ := chkS_fit q hm.1 hm.2
    have htx := tx_size n m t hf
    obtain ⟨k2, hT⟩ := Ev.rounds (text_f n m t hf)
    have HT := Aside0.mk hT
    have HZ := Aside0.mk htx
    rw [if_pos q]
    rw [q] at HC
    clear hT htx hf q
    generalize tx n m t = x at HT HZ ⊢
    go_enter Try.func20, Try.ntmps20
    go_wp2_with fail
    refine (stamp_Sector_Check.calls k1 n m t 0 _ HC.out).mono ?_
    rintro e w1 ⟨rfl, hD⟩
    rw [← ho] at hD
    have hb1 := (hD.block w.heap.size (by simp)).trans hb0
    rw [ho] at hb1
    have c0 := (kcl hb1 0).trans rfl
    have c1 := (kcl hb1 1).trans rfl
    have c2 := (kcl hb1 2).trans rfl
    have HB1 := Aside0.mk (bsp HA.out hD)
    clear hD hb1 hb0
    go_wp2_with fail
    refine (stamp_Sector_Text.calls k2 n m t x _ HT.out).mono ?_
    rintro e w2 ⟨rfl, hD⟩
    have HB2 := Aside0.mk (bsp HB1.out hD)
    clear hD HB1 c0 c1 c2
    go_wp2_with fail
    refine (device_Write.calls g d a x w0 w2 (HI.out.below HB2.out) (HB.out.trans (HB2.out.mono HB.out.size)) hl hn (by have := HZ.out; omega)).mono ?_
    rintro e w3 ⟨rfl, hI3, hB3, hK3⟩
    obtain ⟨vs, vc, hD0⟩ := HI.out
    have HE := Aside0.mk (And.intro hI3 (And.intro hB3 ((DevKeep.of_below hD0.lt HB2.out).trans hK3)))
    clear hI3 hB3 hK3 hD0
    go_wp2
    go_ret
    exact ⟨rfl, HE.out⟩
  · rw [if_neg q]
    have q1 : (chkS n t != 0) = true := bne_iff_ne.2 q
    have q2 : (chkS n t == 0) = false := beq_eq_false_iff_ne.2 q
    clear q
    generalize chkS n t = x at q1 q2 HC ⊢
    go_enter Try.func20, Try.ntmps20
    go_wp2_with fail
    refine (stamp_Sector_Check.calls k1 n m t x _ HC.out).mono ?_
    rintro e w1 ⟨rfl, hD⟩
    rw [← ho] at hD
    have hb1 := (hD.block w.heap.size (by simp)).trans hb0
    rw [ho] at hb1
    have c0 := (kcl hb1 0).trans rfl
    have c1 := (kcl hb1 1).trans rfl
    have c2 := (kcl hb1 2).trans rfl
    have HB1 := Aside0.mk (bsp HA.out hD)
    clear hD hb1 hb0
    obtain ⟨vs, vc, hD0⟩ := HI.out
    have HE := Aside0.mk (And.intro (HI.out.below HB1.out) (And.intro (HB.out.trans (HB1.out.mono HB.out.size)) (DevKeep.of_below hD0.lt HB1.out)))
    clear hD0 c0 c1 c2
    go_wp2
    go_ret
    exact ⟨rfl, HE.out⟩
set_option maxHeartbeats 1000000 in
set_option maxRecDepth 100000 in
theorem stamp_Read.calls (g : Nat) (d : Dv) (a : Int) (w0 w : World) (hI : IsDev w0 w g d) (hz : (dvRead d a).1.size ≤ 1000000) :
    Calls Try.prog 24 #[.pointer (some ⟨g, 0, none⟩), .int .i64 a] w fun e w' => e = .returned (.tuple #[.agg #[.int .i64 (stR d a).1, .int .u8 (stR d a).2.1, .string (stR d a).2.2.1], .bool (stR d a).2.2.2.1, .int .i64 (stR d a).2.2.2.2]) ∧ Below w.heap.size w w' := by
  unfold stR
  have HI := Aside0.mk hI
  clear hI
  obtain ⟨x, hx⟩ : ∃ x, x = dvRead d a := ⟨_, rfl⟩
  have HX := Aside0.mk hx
  rw [← hx] at hz ⊢
  clear hx
  obtain ⟨s, e⟩ := x
  dsimp only at hz ⊢
  by_cases q : e = 0
  · subst q
    rw [if_pos rfl]
    have hp := parse_f s hz
    obtain ⟨y, hy⟩ : ∃ y, y = pS s := ⟨_, rfl⟩
    rw [← hy] at hp ⊢
    clear hy
    obtain ⟨n, m, t, f⟩ := y
    obtain ⟨k, hp⟩ := Ev.rounds hp
    have HP := Aside0.mk hp
    clear hp
    dsimp only
    go_enter Try.func24, Try.ntmps24
    go_wp2_with fail
    have hR := device_Read.calls g d a w0 _ (HI.out.below (bal (Below.refl _ _) (.cells #[.int .i64 0, .int .u8 0, .string ⟨#[]⟩] 23)))
    rw [← HX.out] at hR
    dsimp only at hR
    refine hR.mono ?_
    rintro e w1 ⟨rfl, hB⟩
    have hb1 := (hB.block w.heap.size (by simp)).trans (World.alloc_heap_new w _)
    have HA1 := Aside0.mk (bsp (bal (Below.refl _ w) (.cells #[.int .i64 0, .int .u8 0, .string ⟨#[]⟩] 23)) hB)
    clear hB hR
    go_wp2_with fail
    refine (stamp_Parse.calls k s n m t f w1 HP.out).mono ?_
    rintro e w2 ⟨rfl, hB⟩
    have hb2 := (hB.block w.heap.size (blk_lt hb1)).trans hb1
    have hb3 := fun o => (Below.heap_alloc w2 o _ (blk_lt hb2)).trans hb2
    have c0 := fun o => (kcl (hb3 o) 0).trans rfl
    have c1 := fun o => (kcl (hb3 o) 1).trans rfl
    have c2 := fun o => (kcl (hb3 o) 2).trans rfl
    have f0 := fun o => kfr (hb3 o) 0
    have f1 := fun o => kfr (hb3 o) 1
    have f2 := fun o => kfr (hb3 o) 2
    have HA2 := Aside0.mk (bsp HA1.out hB)
    have HB3 := Aside0.mk hb3
    clear hB hb1 hb2 hb3 HA1
    go_wp2
    have hblk : ((((w2.alloc (.cells #[.int .i64 n, .int .u8 m, .string t] 23)).setCell ⟨w.heap.size, 0, none⟩ (.int .i64 n)).setCell ⟨w.heap.size, 1, none⟩ (.int .u8 m)).setCell ⟨w.heap.size, 2, none⟩ (.string t)).heap[w.heap.size]? = some (.cells #[.int .i64 n, .int .u8 m, .string t] 23 (0, 0)) := blk_set (blk_set (blk_set (HB3.out _) 0 _) 1 _) 2 _
    refine bodyPost_ret (results_ctt rfl _ _ w.heap.size 23 #[.int .i64 n, .int .u8 m, .string t] (0, 0) _ rfl hblk Try.underlying23 rfl (by kernel_rfl)) rfl ?_
    exact ⟨rfl, (((bal HA2.out _).setCell (p := ⟨w.heap.size, 0, none⟩) (Nat.le_refl _) _).setCell (p := ⟨w.heap.size, 1, none⟩) (Nat.le_refl _) _).setCell (p := ⟨w.heap.size, 2, none⟩) (Nat.le_refl _) _⟩
  · rw [if_neg q]
    have q1 : (e != 0) = true := bne_iff_ne.2 q
    have q2 : (e == 0) = false := beq_eq_false_iff_ne.2 q
    clear q
    dsimp only
    go_enter Try.func24, Try.ntmps24
    go_wp2_with fail
    have hR := device_Read.calls g d a w0 _ (HI.out.below (bal (Below.refl _ _) (.cells #[.int .i64 0, .int .u8 0, .string ⟨#[]⟩] 23)))
    rw [← HX.out] at hR
    dsimp only at hR
    refine hR.mono ?_
    rintro e w1 ⟨rfl, hB⟩
    have hb1 := (hB.block w.heap.size (by simp)).trans (World.alloc_heap_new w _)
    have HA1 := Aside0.mk (bsp (bal (Below.refl _ w) (.cells #[.int .i64 0, .int .u8 0, .string ⟨#[]⟩] 23)) hB)
    have c0 := (kcl hb1 0).trans rfl
    have c1 := (kcl hb1 1).trans rfl
    have c2 := (kcl hb1 2).trans rfl
    have f0 := kfr hb1 0
    have f1 := kfr hb1 1
    have f2 := kfr hb1 2
    have HB3 := Aside0.mk hb1
    clear hB hR hb1
    go_wp2
    have hblk : (((w1.setCell ⟨w.heap.size, 0, none⟩ (.int .i64 0)).setCell ⟨w.heap.size, 1, none⟩ (.int .u8 0)).setCell ⟨w.heap.size, 2, none⟩ (.string ⟨#[]⟩)).heap[w.heap.size]? = some (.cells #[.int .i64 0, .int .u8 0, .string ⟨#[]⟩] 23 (0, 0)) := blk_set (blk_set (blk_set HB3.out 0 _) 1 _) 2 _
    refine bodyPost_ret (results_ctt rfl _ _ w.heap.size 23 #[.int .i64 0, .int .u8 0, .string ⟨#[]⟩] (0, 0) _ rfl hblk Try.underlying23 rfl (by kernel_rfl)) rfl ?_
    exact ⟨rfl, ((HA1.out.setCell (p := ⟨w.heap.size, 0, none⟩) (Nat.le_refl _) _).setCell (p := ⟨w.heap.size, 1, none⟩) (Nat.le_refl _) _).setCell (p := ⟨w.heap.size, 2, none⟩) (Nat.le_refl _) _⟩
def stL (x y : Int × Int × ByteArray × Bool × Int) (a b : Int) : Int × Int × ByteArray × Int × Int :=
  if ¬ x.2.2.2.2 = 0 then (0, 0, ⟨#[]⟩, -1, x.2.2.2.2) else if ¬ y.2.2.2.2 = 0 then (0, 0, ⟨#[]⟩, -1, y.2.2.2.2)
  else if y.2.2.2.1 = true ∧ (x.2.2.2.1 = false ∨ y.1 > x.1) then (y.1, y.2.1, y.2.2.1, b, 0) else if x.2.2.2.1 = true then (x.1, x.2.1, x.2.2.1, a, 0) else (0, 0, ⟨#[]⟩, -1, 0)
set_option maxHeartbeats 2000000 in
set_option maxRecDepth 100000 in
theorem stamp_Latest.calls (g : Nat) (d : Dv) (a b : Int) (w0 w : World) (hI : IsDev w0 w g d) (hz : (dvRead d a).1.size ≤ 1000000) (hz2 : (dvRead d b).1.size ≤ 1000000) :
    Calls Try.prog 23 #[.pointer (some ⟨g, 0, none⟩), .int .i64 a, .int .i64 b] w fun e w' => e = .returned (.tuple #[.agg #[.int .i64 (stL (stR d a) (stR d b) a b).1, .int .u8 (stL (stR d a) (stR d b) a b).2.1, .string (stL (stR d a) (stR d b) a b).2.2.1], .int .i64 (stL (stR d a) (stR d b) a b).2.2.2.1, .int .i64 (stL (stR d a) (stR d b) a b).2.2.2.2]) ∧ Below w.heap.size w w' := by
  have HI := Aside0.mk hI
  clear hI
  have h1 := fun W hI => stamp_Read.calls g d a w0 W hI hz
  have h2 := fun W hI => stamp_Read.calls g d b w0 W hI hz2
  generalize stR d a = x at h1 ⊢
  generalize stR d b = y at h2 ⊢
  obtain ⟨n, m, t, ok, e1⟩ := x
  obtain ⟨n2, m2, t2, is, e2⟩ := y
  obtain ⟨R, hR⟩ : ∃ R, R = stL (n, m, t, ok, e1) (n2, m2, t2, is, e2) a b := ⟨_, rfl⟩
  rw [← hR]
  unfold stL at hR
  dsimp only at h1 h2 hR
  have HR := Aside0.mk hR
  clear hR
  have H1 := Aside0.mk h1
  have H2 := Aside0.mk h2
  clear h1 h2 hz hz2
  by_cases q : e1 = 0
  rotate_left
  · have hr : R = (0, 0, ⟨#[]⟩, -1, e1) := HR.out.trans (if_pos q)
    subst hr
    have q1 : (e1 != 0) = true := bne_iff_ne.2 q
    have q2 : (e1 == 0) = false := beq_eq_false_iff_ne.2 q
    clear q
    dsimp only
    go_enter Try.func23, Try.ntmps23
    go_wp2_with fail
    refine (H1.out _ (HI.out.below (bal (Below.refl _ _) (.cells #[.int .i64 0, .int .u8 0, .string ⟨#[]⟩] 23)))).mono ?_
    rintro e w1 ⟨rfl, hB⟩
    have hb1 := (hB.block w.heap.size (by simp)).trans (World.alloc_heap_new w _)
    have hb3 := fun o => (Below.heap_alloc w1 o _ (blk_lt hb1)).trans hb1
    have HA1 := Aside0.mk (bsp (bal (Below.refl _ w) (.cells #[.int .i64 0, .int .u8 0, .string ⟨#[]⟩] 23)) hB)
    have c0 := fun o => (kcl (hb3 o) 0).trans rfl
    have c1 := fun o => (kcl (hb3 o) 1).trans rfl
    have c2 := fun o => (kcl (hb3 o) 2).trans rfl
    have f0 := fun o => kfr (hb3 o) 0
    have f1 := fun o => kfr (hb3 o) 1
    have f2 := fun o => kfr (hb3 o) 2
    have HB3 := Aside0.mk hb3
    clear hB hb1 hb3
    go_wp2
    have hblk : ((((w1.alloc (.cells #[.int .i64 n, .int .u8 m, .string t] 23)).setCell ⟨w.heap.size, 0, none⟩ (.int .i64 0)).setCell ⟨w.heap.size, 1, none⟩ (.int .u8 0)).setCell ⟨w.heap.size, 2, none⟩ (.string ⟨#[]⟩)).heap[w.heap.size]? = some (.cells #[.int .i64 0, .int .u8 0, .string ⟨#[]⟩] 23 (0, 0)) := blk_set (blk_set (blk_set (HB3.out _) 0 _) 1 _) 2 _
    refine bodyPost_ret (results_ctt rfl _ _ w.heap.size 23 #[.int .i64 0, .int .u8 0, .string ⟨#[]⟩] (0, 0) _ rfl hblk Try.underlying23 rfl (by kernel_rfl)) rfl ?_
    exact ⟨rfl, (((bal HA1.out _).setCell (p := ⟨w.heap.size, 0, none⟩) (Nat.le_refl _) _).setCell (p := ⟨w.heap.size, 1, none⟩) (Nat.le_refl _) _).setCell (p := ⟨w.heap.size, 2, none⟩) (Nat.le_refl _) _⟩
  subst q
  go_enter Try.func23, Try.ntmps23
  go_wp2_with fail
  refine (H1.out _ (HI.out.below (bal (Below.refl _ _) (.cells #[.int .i64 0, .int .u8 0, .string ⟨#[]⟩] 23)))).mono ?_
  rintro e w1 ⟨rfl, hB⟩
  have hb1 := (hB.block w.heap.size (by simp)).trans (World.alloc_heap_new w _)
  have HA1 := Aside0.mk (bsp (bal (Below.refl _ w) (.cells #[.int .i64 0, .int .u8 0, .string ⟨#[]⟩] 23)) hB)
  clear hB
  go_wp2_with fail
  obtain ⟨ox, hox⟩ : ∃ ox : Obj, ox = .cells #[.int .i64 n, .int .u8 m, .string t] 23 := ⟨_, rfl⟩
  have hlt1 : w.heap.size < w1.heap.size := blk_lt hb1
  refine (H2.out _ (HI.out.below (bal HA1.out (.cells #[.int .i64 n, .int .u8 m, .string t] 23)))).mono ?_
  rintro e w2 ⟨rfl, hB⟩
  have hz2 := (hB.block w.heap.size (by simp; omega)).trans ((Below.heap_alloc w1 _ _ hlt1).trans hb1)
  have hx2 := (hB.block w1.heap.size (by simp)).trans (World.alloc_heap_new w1 _)
  have hz3 := fun o => (Below.heap_alloc w2 o _ (blk_lt hz2)).trans hz2
  have hx3 := fun o => (Below.heap_alloc w2 o _ (blk_lt hx2)).trans hx2
  have HA2 := Aside0.mk (bsp (bal HA1.out _) hB)
  have c0 := fun o => (kcl (hz3 o) 0).trans rfl
  have c1 := fun o => (kcl (hz3 o) 1).trans rfl
  have c2 := fun o => (kcl (hz3 o) 2).trans rfl
  have f0 := fun o => kfr (hz3 o) 0
  have f1 := fun o => kfr (hz3 o) 1
  have f2 := fun o => kfr (hz3 o) 2
  have x0 := fun o => (kcl (hx3 o) 0).trans rfl
  have x1 := fun o => (kcl (hx3 o) 1).trans rfl
  have x2 := fun o => (kcl (hx3 o) 2).trans rfl
  have HB3 := Aside0.mk hz3
  clear hB hb1 hz2 hx2 hz3 hx3 HA1 hox ox
  by_cases q : e2 = 0
  rotate_left
  · have hr : R = (0, 0, ⟨#[]⟩, -1, e2) := HR.out.trans ((if_neg (fun h => h (by trivial))).trans (if_pos q))
    subst hr
    have q1 : (e2 != 0) = true := bne_iff_ne.2 q
    have q2 : (e2 == 0) = false := beq_eq_false_iff_ne.2 q
    go_wp2
    have hblk : ((((w2.alloc (.cells #[.int .i64 n2, .int .u8 m2, .string t2] 23)).setCell ⟨w.heap.size, 0, none⟩ (.int .i64 0)).setCell ⟨w.heap.size, 1, none⟩ (.int .u8 0)).setCell ⟨w.heap.size, 2, none⟩ (.string ⟨#[]⟩)).heap[w.heap.size]? = some (.cells #[.int .i64 0, .int .u8 0, .string ⟨#[]⟩] 23 (0, 0)) := blk_set (blk_set (blk_set (HB3.out _) 0 _) 1 _) 2 _
    refine bodyPost_ret (results_ctt rfl _ _ w.heap.size 23 #[.int .i64 0, .int .u8 0, .string ⟨#[]⟩] (0, 0) _ rfl hblk Try.underlying23 rfl (by kernel_rfl)) rfl ?_
    exact ⟨rfl, (((bal HA2.out _).setCell (p := ⟨w.heap.size, 0, none⟩) (Nat.le_refl _) _).setCell (p := ⟨w.heap.size, 1, none⟩) (Nat.le_refl _) _).setCell (p := ⟨w.heap.size, 2, none⟩) (Nat.le_refl _) _⟩
  subst q
  have HR2 := Aside0.mk (HR.out.trans ((if_neg (fun h => h (by trivial))).trans (if_neg (fun h => h (by trivial)))))
  clear HR
  cases is
  · cases ok
    · have hr : R = (0, 0, ⟨#[]⟩, -1, 0) := HR2.out.trans ((if_neg (fun h => absurd h.1 (by decide))).trans (if_neg (by decide)))
      subst hr
      go_wp2
      have hblk : ((((w2.alloc (.cells #[.int .i64 n2, .int .u8 m2, .string t2] 23)).setCell ⟨w.heap.size, 0, none⟩ (.int .i64 0)).setCell ⟨w.heap.size, 1, none⟩ (.int .u8 0)).setCell ⟨w.heap.size, 2, none⟩ (.string ⟨#[]⟩)).heap[w.heap.size]? = some (.cells #[.int .i64 0, .int .u8 0, .string ⟨#[]⟩] 23 (0, 0)) := blk_set (blk_set (blk_set (HB3.out _) 0 _) 1 _) 2 _
      refine bodyPost_ret (results_ctt rfl _ _ w.heap.size 23 #[.int .i64 0, .int .u8 0, .string ⟨#[]⟩] (0, 0) _ rfl hblk Try.underlying23 rfl (by kernel_rfl)) rfl ?_
      exact ⟨rfl, (((bal HA2.out _).setCell (p := ⟨w.heap.size, 0, none⟩) (Nat.le_refl _) _).setCell (p := ⟨w.heap.size, 1, none⟩) (Nat.le_refl _) _).setCell (p := ⟨w.heap.size, 2, none⟩) (Nat.le_refl _) _⟩
    · have hr : R = (n, m, t, a, 0) := HR2.out.trans ((if_neg (fun h => absurd h.1 (by decide))).trans (if_pos rfl))
      subst hr
      go_wp2
      have hblk : ((((w2.alloc (.cells #[.int .i64 n2, .int .u8 m2, .string t2] 23)).setCell ⟨w.heap.size, 0, none⟩ (.int .i64 n)).setCell ⟨w.heap.size, 1, none⟩ (.int .u8 m)).setCell ⟨w.heap.size, 2, none⟩ (.string t)).heap[w.heap.size]? = some (.cells #[.int .i64 n, .int .u8 m, .string t] 23 (0, 0)) := blk_set (blk_set (blk_set (HB3.out _) 0 _) 1 _) 2 _
      refine bodyPost_ret (results_ctt rfl _ _ w.heap.size 23 #[.int .i64 n, .int .u8 m, .string t] (0, 0) _ rfl hblk Try.underlying23 rfl (by kernel_rfl)) rfl ?_
      exact ⟨rfl, (((bal HA2.out _).setCell (p := ⟨w.heap.size, 0, none⟩) (Nat.le_refl _) _).setCell (p := ⟨w.heap.size, 1, none⟩) (Nat.le_refl _) _).setCell (p := ⟨w.heap.size, 2, none⟩) (Nat.le_refl _) _⟩
  · cases ok
    · have hr : R = (n2, m2, t2, b, 0) := HR2.out.trans (if_pos ⟨rfl, .inl rfl⟩)
      subst hr
      go_wp2
      have hblk : ((((w2.alloc (.cells #[.int .i64 n2, .int .u8 m2, .string t2] 23)).setCell ⟨w.heap.size, 0, none⟩ (.int .i64 n2)).setCell ⟨w.heap.size, 1, none⟩ (.int .u8 m2)).setCell ⟨w.heap.size, 2, none⟩ (.string t2)).heap[w.heap.size]? = some (.cells #[.int .i64 n2, .int .u8 m2, .string t2] 23 (0, 0)) := blk_set (blk_set (blk_set (HB3.out _) 0 _) 1 _) 2 _
      refine bodyPost_ret (results_ctt rfl _ _ w.heap.size 23 #[.int .i64 n2, .int .u8 m2, .string t2] (0, 0) _ rfl hblk Try.underlying23 rfl (by kernel_rfl)) rfl ?_
      exact ⟨rfl, (((bal HA2.out _).setCell (p := ⟨w.heap.size, 0, none⟩) (Nat.le_refl _) _).setCell (p := ⟨w.heap.size, 1, none⟩) (Nat.le_refl _) _).setCell (p := ⟨w.heap.size, 2, none⟩) (Nat.le_refl _) _⟩
    · by_cases q : n2 > n
      · have hr : R = (n2, m2, t2, b, 0) := HR2.out.trans (if_pos ⟨rfl, .inr q⟩)
        subst hr
        have q1 : decide (n < n2) = true := decide_eq_true q
        go_wp2
        have hblk : ((((w2.alloc (.cells #[.int .i64 n2, .int .u8 m2, .string t2] 23)).setCell ⟨w.heap.size, 0, none⟩ (.int .i64 n2)).setCell ⟨w.heap.size, 1, none⟩ (.int .u8 m2)).setCell ⟨w.heap.size, 2, none⟩ (.string t2)).heap[w.heap.size]? = some (.cells #[.int .i64 n2, .int .u8 m2, .string t2] 23 (0, 0)) := blk_set (blk_set (blk_set (HB3.out _) 0 _) 1 _) 2 _
        refine bodyPost_ret (results_ctt rfl _ _ w.heap.size 23 #[.int .i64 n2, .int .u8 m2, .string t2] (0, 0) _ rfl hblk Try.underlying23 rfl (by kernel_rfl)) rfl ?_
        exact ⟨rfl, (((bal HA2.out _).setCell (p := ⟨w.heap.size, 0, none⟩) (Nat.le_refl _) _).setCell (p := ⟨w.heap.size, 1, none⟩) (Nat.le_refl _) _).setCell (p := ⟨w.heap.size, 2, none⟩) (Nat.le_refl _) _⟩
      · have hr : R = (n, m, t, a, 0) := HR2.out.trans ((if_neg (fun h => h.2.elim (by decide) q)).trans (if_pos rfl))
        subst hr
        have q1 : decide (n < n2) = false := decide_eq_false q
        go_wp2
        have hblk : ((((w2.alloc (.cells #[.int .i64 n2, .int .u8 m2, .string t2] 23)).setCell ⟨w.heap.size, 0, none⟩ (.int .i64 n)).setCell ⟨w.heap.size, 1, none⟩ (.int .u8 m)).setCell ⟨w.heap.size, 2, none⟩ (.string t)).heap[w.heap.size]? = some (.cells #[.int .i64 n, .int .u8 m, .string t] 23 (0, 0)) := blk_set (blk_set (blk_set (HB3.out _) 0 _) 1 _) 2 _
        refine bodyPost_ret (results_ctt rfl _ _ w.heap.size 23 #[.int .i64 n, .int .u8 m, .string t] (0, 0) _ rfl hblk Try.underlying23 rfl (by kernel_rfl)) rfl ?_
        exact ⟨rfl, (((bal HA2.out _).setCell (p := ⟨w.heap.size, 0, none⟩) (Nat.le_refl _) _).setCell (p := ⟨w.heap.size, 1, none⟩) (Nat.le_refl _) _).setCell (p := ⟨w.heap.size, 2, none⟩) (Nat.le_refl _) _⟩
end Go.Proofs.Ytodikgjanhihhaa.PA

namespace Go.Proofs.Ytodikgjanhihhaa.PA
set_option linter.unusedSimpArgs false
open Go.RowKit Go.Proofs.YtodikgjanhihhaaW.PrintWords Go.Proofs.YtodikgjanhihhaaW.PrintLast Go.Proofs.YtodikgjanhihhaaW.PrintMore Go.Proofs.Ytodikgjanhihhaa Go.Proofs.Ytodikgjanhihhaa.PL
def Z60 : ByteArray := ⟨(List.replicate 60 (0 : UInt8)).toArray⟩
def NONE : ByteArray := ((⟨#[110, 111, 110, 101]⟩ : ByteArray) ++ Z64).extract 0 64
theorem z60_n : (tN Z60 0 1099511627776).1 = 0 := by decide +kernel
theorem pS_zero (s : ByteArray) (hs : s.size = 64) (hz : s.extract 4 s.size = Z60) : ∃ f, f ≠ 0 ∧ pS s = (0, 0, ⟨#[]⟩, f) := by
  unfold pS
  rw [if_neg (fun h => h hs)]
  rw [hz]
  split
  · exact ⟨5, by decide, rfl⟩
  · dsimp only
    split
    · exact ⟨_, by assumption, rfl⟩
    · rw [if_pos (by rw [z60_n]; decide)]
      exact ⟨2, by decide, rfl⟩
theorem stR_zero (d : Dv) (a : Int) (s : ByteArray) (h : dvRead d a = (s, 0)) (hs : s.size = 64) (hz : s.extract 4 s.size = Z60) : stR d a = (0, 0, ⟨#[]⟩, false, 0) := by
  obtain ⟨f, h1, h2⟩ := pS_zero s hs hz
  unfold stR
  rw [h, if_pos rfl, h2]
  simp [h1]
theorem stR_tx (d : Dv) (a n m : Int) (t : ByteArray) (h : dvRead d a = (tx n m t, 0)) (hf : FitS n m t) (hn : 1 ≤ n) : stR d a = (n, m, t, true, 0) := by
  unfold stR
  rw [h, if_pos rfl, pS_tx n m t hf hn]
  rfl
def sec3 : List ByteArray := [Z64, Z64, Z64]
def cl (oA oB : Option ByteArray) : List Wr := (oA.map fun s => ⟨0, s⟩).toList ++ (oB.map fun s => ⟨2, s⟩).toList
theorem new3 : Up (dvNew 3) sec3 (cl none none) := ⟨by decide +kernel, rfl, rfl, rfl⟩
theorem plain_reads {d : Dv} {oA oB : Option ByteArray} (h : Up d sec3 (cl oA oB)) : dvRead d 0 = (oA.getD Z64, 0) ∧ dvRead d 2 = (oB.getD Z64, 0) ∧ dvRead d 3 = (⟨#[]⟩, 4) := by
  refine ⟨(h.read 0).trans ?_, (h.read 2).trans ?_, (h.read 3).trans rfl⟩
  · rw [if_neg (by decide)]
    cases oA <;> cases oB <;> rfl
  · rw [if_neg (by decide)]
    cases oA <;> cases oB <;> rfl
theorem spoiled_reads {d : Dv} {oA oB : Option ByteArray} (h : Up d ((lastB sec3 (cl oA oB)).set 2 NONE) []) : dvRead d 0 = (oA.getD Z64, 0) ∧ dvRead d 2 = (NONE, 0) ∧ dvRead d 3 = (⟨#[]⟩, 4) := by
  have hl : ((lastB sec3 (cl oA oB)).set 2 NONE).length = 3 := by rw [List.length_set, lastB_length]; rfl
  refine ⟨(h.read 0).trans ?_, (h.read 2).trans ?_, (h.read 3).trans ?_⟩
  · rw [hl, if_neg (by decide)]
    cases oA <;> cases oB <;> rfl
  · rw [hl, if_neg (by decide)]
    cases oA <;> cases oB <;> rfl
  · rw [hl, if_pos (by decide)]
theorem z64_facts : Z64.size = 64 ∧ Z64.extract 4 Z64.size = Z60 := by decide +kernel
theorem none_facts : NONE.size = 64 ∧ NONE.extract 4 NONE.size = Z60 := by decide +kernel
def seen (oA : Option ByteArray) (n m : Int) (t : ByteArray) : Int × Int × ByteArray × Bool × Int := match oA with
  | some _ => (n, m, t, true, 0)
  | none => (0, 0, ⟨#[]⟩, false, 0)
theorem seen_of (d : Dv) (a n m : Int) (t : ByteArray) (oA : Option ByteArray) (z : ByteArray) (hz : z.size = 64 ∧ z.extract 4 z.size = Z60) (h : dvRead d a = (oA.getD z, 0)) (hA : ∀ s, oA = some s → s = tx n m t ∧ FitS n m t ∧ 1 ≤ n) : stR d a = seen oA n m t ∧ (dvRead d a).1.size ≤ 1000000 := by
  cases oA with
  | none => exact ⟨stR_zero d a z h hz.1 hz.2, by rw [h]; show z.size ≤ _; omega⟩
  | some s =>
    obtain ⟨rfl, hf, hn⟩ := hA s rfl
    exact ⟨stR_tx d a n m t h hf hn, by rw [h]; show (tx n m t).size ≤ _; rw [tx_size n m t hf]; decide⟩
theorem up_wA {d : Dv} {n m : Int} {t : ByteArray} (h : Up d sec3 (cl none none)) (hc : chkS n t = 0) (h0 : 0 ≤ m) (h1 : m ≤ 255) : (stW d 0 n m t).1 = 0 ∧ Up (stW d 0 n m t).2 sec3 (cl (some (tx n m t)) none) := by
  have hz := tx_size n m t (chkS_fit hc h0 h1).1
  have hw := h.write 0 (tx n m t) (by decide) (by decide) (by omega)
  unfold stW
  rw [if_pos hc]
  rw [pad_full _ hz] at hw
  exact hw
theorem up_wB {d : Dv} {oA : Option ByteArray} {n m : Int} {t : ByteArray} (h : Up d sec3 (cl oA none)) (hc : chkS n t = 0) (h0 : 0 ≤ m) (h1 : m ≤ 255) : (stW d 2 n m t).1 = 0 ∧ Up (stW d 2 n m t).2 sec3 (cl oA (some (tx n m t))) := by
  have hz := tx_size n m t (chkS_fit hc h0 h1).1
  have hw := h.write 2 (tx n m t) (by decide) (by decide) (by omega)
  unfold stW
  rw [if_pos hc]
  rw [pad_full _ hz] at hw
  cases oA <;> exact hw
theorem up_no {d : Dv} {a n m : Int} {t : ByteArray} (hc : ¬ chkS n t = 0) : stW d a n m t = (chkS n t, d) := by
  unfold stW; rw [if_neg hc]
theorem told_f (n m : Int) (t : ByteArray) (h0 : 0 ≤ m) (h1 : m ≤ 255) : armoirelaw04_Told.f n m t = some (n, m, t) := by
  have hw : wrap64 m = m := by unfold wrap64; omega
  simp only [armoirelaw04_Told.f, hw]
theorem up_left {d : Dv} {sec : List ByteArray} {cache : List Wr} (h : Up d sec cache) : -9223372036854775808 ≤ d.left ∧ d.left < 9223372036854775808 := by rw [h.left]; decide
theorem cl_len (oA oB : Option ByteArray) : (cl oA oB).length ≤ 1000000 := by cases oA <;> cases oB <;> simp [cl]
theorem cl_ok {d : Dv} {oA oB : Option ByteArray} (h : Up d sec3 (cl oA oB)) : DvOk d := by
  intro x hx
  rw [h.cache] at hx
  rw [h.sec]
  cases oA <;> cases oB <;> simp [cl] at hx
  · subst hx; exact ⟨by simp, by simp [sec3]⟩
  · subst hx; exact ⟨by simp, by simp [sec3]⟩
  · rcases hx with rfl | rfl <;> exact ⟨by simp, by simp [sec3]⟩
structure Sees (d : Dv) (oA oB : Option ByteArray) (n1 m1 : Int) (t1 : ByteArray) (n2 m2 : Int) (t2 : ByteArray) : Prop where
  r0 : stR d 0 = seen oA n1 m1 t1 ∧ (dvRead d 0).1.size ≤ 1000000
  r2 : stR d 2 = seen oB n2 m2 t2 ∧ (dvRead d 2).1.size ≤ 1000000
  r3 : stR d 3 = (0, 0, ⟨#[]⟩, false, 4) ∧ (dvRead d 3).1.size ≤ 1000000
theorem stR_out {d : Dv} (h : dvRead d 3 = (⟨#[]⟩, 4)) : stR d 3 = (0, 0, ⟨#[]⟩, false, 4) ∧ (dvRead d 3).1.size ≤ 1000000 := by
  unfold stR; rw [h]; exact ⟨rfl, by decide⟩
theorem sees_plain {d : Dv} {oA oB : Option ByteArray} {n1 m1 n2 m2 : Int} {t1 t2 : ByteArray} (h : Up d sec3 (cl oA oB)) (hA : ∀ s, oA = some s → s = tx n1 m1 t1 ∧ FitS n1 m1 t1 ∧ 1 ≤ n1) (hB : ∀ s, oB = some s → s = tx n2 m2 t2 ∧ FitS n2 m2 t2 ∧ 1 ≤ n2) : Sees d oA oB n1 m1 t1 n2 m2 t2 := by
  obtain ⟨h0, h2, h3⟩ := plain_reads h
  exact ⟨seen_of d 0 n1 m1 t1 oA Z64 z64_facts h0 hA, seen_of d 2 n2 m2 t2 oB Z64 z64_facts h2 hB, stR_out h3⟩
theorem sees_spoiled {d : Dv} {oA oB : Option ByteArray} {n1 m1 n2 m2 : Int} {t1 t2 : ByteArray} (h : Up d sec3 (cl oA oB)) (hA : ∀ s, oA = some s → s = tx n1 m1 t1 ∧ FitS n1 m1 t1 ∧ 1 ≤ n1) : Sees (dvSpoil (dvFlush d).2 2 ⟨#[110, 111, 110, 101]⟩) oA none n1 m1 t1 n2 m2 t2 := by
  have h1 := h.flush.2.spoil 2 ⟨#[110, 111, 110, 101]⟩ (by decide) (by rw [lastB_length]; decide)
  obtain ⟨h0, h2, h3⟩ := spoiled_reads (oA := oA) (oB := oB) h1
  exact ⟨seen_of _ 0 n1 m1 t1 oA Z64 z64_facts h0 hA, seen_of _ 2 n2 m2 t2 none NONE none_facts h2 (fun s hs => by cases hs), stR_out h3⟩
end Go.Proofs.Ytodikgjanhihhaa.PA

