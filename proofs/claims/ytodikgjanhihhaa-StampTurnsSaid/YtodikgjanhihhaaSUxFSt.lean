import Derived.Test.YtodikgjanhihhaaSUxFCB
import Derived.Test.YtodikgjanhihhaaSUxFC
import Derived.Test.YtodikgjanhihhaaSUxPAx6
import Derived.Test.YtodikgjanhihhaaSUxFA
import Derived.Test.YtodikgjanhihhaaSUxFO
import Derived.Test.YtodikgjanhihhaaSUxPAx3
import Derived.Test.YtodikgjanhihhaaSUxPAx4
import Derived.Test.YtodikgjanhihhaaSUxPAx5
import Derived.Test.YtodikgjanhihhaaSUxPAx0
namespace Go.Proofs.Ytodikgjanhihhaa.PA
open Go.RowKit Go.Proofs.YtodikgjanhihhaaW.PrintWords Go.Proofs.YtodikgjanhihhaaW.PrintLast Go.Proofs.YtodikgjanhihhaaW.PrintMore Go.Proofs.Ytodikgjanhihhaa Go.Proofs.Ytodikgjanhihhaa.PL CrcM
set_option linter.unusedSimpArgs false
theorem cut_f (s : ByteArray) (n : Nat) : armoirelaw01_Cut.f s (n : Int) = some (s.extract 0 (min n s.size)) := by
  unfold armoirelaw01_Cut.f
  by_cases h : (s.size : Int) > n
  · rw [if_pos h, if_pos (by omega), if_pos (by omega), show min n s.size = n by omega]
    rfl
  · rw [if_neg h, show min n s.size = s.size by omega]
    simp
theorem cut_size (s : ByteArray) (n : Nat) : (s.extract 0 (min n s.size)).size ≤ n := by
  rw [ba_size, ba_extract, List.length_take]; omega
def secB (n m : Int) (d : ByteArray) : List UInt8 := numB n.toNat ++ numB m.toNat ++ strB d
def pad60 (l : List UInt8) : List UInt8 := l ++ List.replicate (60 - l.length) 0
def tx (n m : Int) (d : ByteArray) : ByteArray := sealB ⟨(pad60 (secB n m d)).toArray⟩
def FitS (n m : Int) (d : ByteArray) : Prop := n ≤ 1099511627776 ∧ 0 ≤ m ∧ m ≤ 255 ∧ d.size ≤ 44
theorem secB_length (n m : Int) (d : ByteArray) (h : FitS n m d) : (numB n.toNat).length ≤ 7 ∧ (numB m.toNat).length ≤ 2 ∧ (strB d).length ≤ 46 ∧ (secB n m d).length ≤ 55 := by
  obtain ⟨h1, h2, h3, h4⟩ := h
  have e : ∀ k j, nlen k ≤ j → (numB k).length ≤ j + 1 := fun k j hk => by rw [numB, List.length_cons, digs_length]; omega
  have l1 := e n.toNat 6 (nlen_le 6 _ (by have : (256 : Nat) ^ 6 = 281474976710656 := by decide
                                          omega))
  have l2 := e m.toNat 1 (nlen_le 1 _ (by omega))
  have l3 := e d.size 1 (nlen_le 1 _ (by omega))
  have l4 : (strB d).length ≤ 46 := by unfold strB; rw [List.length_append, ← ba_size]; omega
  refine ⟨l1, l2, l4, ?_⟩
  unfold secB
  rw [List.length_append, List.length_append]; omega
theorem pad60_length (l : List UInt8) (h : l.length ≤ 60) : (pad60 l).length = 60 := by
  unfold pad60; rw [List.length_append, List.length_replicate]; omega
theorem tx_size (n m : Int) (d : ByteArray) (h : FitS n m d) : (tx n m d).size = 64 := by
  unfold tx
  rw [sealB_size, ba_mk_size, pad60_length _ (by have := (secB_length n m d h).2.2.2; omega)]
theorem zeros_str (n : Nat) : strOfNums (List.replicate n 0) = ⟨(List.replicate n (0 : UInt8)).toArray⟩ := by
  refine bytes_ext ?_
  rw [strOfNums_data]
  simp
theorem text_f (n m : Int) (d : ByteArray) (h : FitS n m d) : Ev (fun k => stamp_Sector_Text.f k n m d) (tx n m d) := by
  have hl := secB_length n m d h
  obtain ⟨h1, h2, h3, h4⟩ := h
  have hm : wrap64 m = m := by unfold wrap64; omega
  have e1 := wN2 ⟨#[]⟩ n m (by decide) (by omega) (by omega)
  have e2 := wS1 ⟨(numB n.toNat ++ numB m.toNat).toArray⟩ d (by rw [ba_mk_size, List.length_append]; omega) (by omega)
  rw [show (⟨#[]⟩ : ByteArray).data.toList = [] from rfl, List.nil_append] at e1
  rw [ba_mk] at e2
  have hs : numB n.toNat ++ numB m.toNat ++ strB d = secB n m d := rfl
  rw [hs] at e2
  unfold stamp_Sector_Text.f
  rw [hm]
  simp only [e1, e2, codec_Out_Text.f, Option.bind_some]
  obtain ⟨b, hb⟩ : ∃ b, b = secB n m d := ⟨_, rfl⟩
  have ht : tx n m d = sealB ⟨(pad60 b).toArray⟩ := by rw [hb]; rfl
  rw [ht, ← hb]
  rw [← hb] at hl
  have hbl := hl.2.2.2
  clear hs e2 e1 ht hb hl hm
  have hw : wrap64 (60 - ((⟨b.toArray⟩ : ByteArray).size : Int)) = ((60 - b.length : Nat) : Int) := by rw [ba_mk_size]; unfold wrap64; omega
  have c0 : (0 : Int) ≤ ((60 - b.length : Nat) : Int) := by omega
  have c1 : 60 - b.length ≤ 281474976710656 := by omega
  have hz : (⟨b.toArray⟩ : ByteArray) ++ strOfNums (List.replicate (60 - b.length) 0) = ⟨(pad60 b).toArray⟩ := by
    rw [zeros_str, ba_mk_append]; rfl
  have c2 : (⟨b.toArray⟩ : ByteArray).size + (strOfNums (List.replicate (60 - b.length) 0)).size ≤ 9223372036854775807 := by
    rw [zeros_str, ba_mk_size, ba_mk_size, List.length_replicate]; omega
  have hp := pad60_length b (by omega)
  have c3 : (⟨(cB (sm ⟨(pad60 b).toArray⟩)).toArray⟩ : ByteArray).size + (⟨(pad60 b).toArray⟩ : ByteArray).size ≤ 9223372036854775807 := by rw [ba_mk_size, ba_mk_size, cB_length, hp]; omega
  have e : (⟨(cB (sm ⟨(pad60 b).toArray⟩)).toArray⟩ : ByteArray) ++ (⟨(pad60 b).toArray⟩ : ByteArray) = sealB ⟨(pad60 b).toArray⟩ := bytes_ext (by rw [ba_append]; rfl)
  simp only [hw, if_pos c0, if_pos c1, Int.toNat_natCast, if_pos c2, hz]
  refine Ev.bind (sum_f _ (by rw [ba_mk_size, hp]; omega)) ?_
  simp only [cB_f _ (sm_lt _), Option.bind_some, if_pos c3, e]
  exact Ev.now _
def chkS (n : Int) (d : ByteArray) : Int := if n < 1 ∨ n > 1099511627776 then 18 else if d.size > 44 then 3 else 0
theorem check_k (k : Nat) (n m : Int) (d : ByteArray) : stamp_Sector_Check.f (k + 1) n m d = some (chkS n d) ∧ armoireref04_Check.f (k + 1) n m d = some (chkS n d) := by
  unfold stamp_Sector_Check.f armoireref04_Check.f chkS
  simp only [stamp_Sector_Check.j0, armoireref04_Check.j0]
  by_cases c1 : n < 1
  · simp [c1]
  · by_cases c2 : n > 1099511627776
    · simp [c1, c2]
    · by_cases c3 : d.size > 44
      · have c4 : (d.size : Int) > 44 := by omega
        simp [c1, c2, c3, c4]
      · have c4 : ¬ (d.size : Int) > 44 := by omega
        simp [c1, c2, c3, c4]
theorem check_f (n m : Int) (d : ByteArray) : Ev (fun k => stamp_Sector_Check.f k n m d) (chkS n d) :=
  ⟨1, fun k hk => by obtain ⟨q, rfl⟩ : ∃ q, k = q + 1 := ⟨k - 1, by omega⟩
                     exact (check_k q n m d).1⟩
def pS (a : ByteArray) : Int × Int × ByteArray × Int :=
  if ¬ a.size = 64 then (0, 0, ⟨#[]⟩, 1)
  else if ¬ (a.extract 0 4).data.toList = cB (sm (a.extract 4 a.size)) then (0, 0, ⟨#[]⟩, 5)
  else
    let x := tN (a.extract 4 a.size) 0 1099511627776
    let y := tN x.2.1 x.2.2 255
    let z := tS y.2.1 y.2.2 44
    if ¬ z.2.2 = 0 then (0, 0, ⟨#[]⟩, z.2.2)
    else if x.1 < 1 then (0, 0, ⟨#[]⟩, 2)
    else if (tx x.1 y.1 z.1).data.toList = a.data.toList then (x.1, y.1, z.1, 0) else (0, 0, ⟨#[]⟩, 2)
theorem tS_size (s : ByteArray) (e m : Int) (hm : 0 ≤ m) (hm2 : m < 9223372036854775808) : (tS s e m).1.size ≤ m.toNat := by
  have h := tN_nonneg s e m hm2
  have hx : mx m 0 = m := by unfold mx; split <;> omega
  rw [hx] at h
  have := (tk_size (s := (tN s e m).2.1) (e := (tN s e m).2.2) (n := (tN s e m).1.toNat) (by omega)).2.1
  unfold tS
  omega
theorem mx_pos (m : Int) (h : 0 ≤ m) : mx m 0 = m := by unfold mx; split <;> omega
set_option maxHeartbeats 1000000 in
theorem parse_fit (a : ByteArray) : FitS (tN (a.extract 4 a.size) 0 1099511627776).1 (tN (tN (a.extract 4 a.size) 0 1099511627776).2.1 (tN (a.extract 4 a.size) 0 1099511627776).2.2 255).1 (tS (tN (tN (a.extract 4 a.size) 0 1099511627776).2.1 (tN (a.extract 4 a.size) 0 1099511627776).2.2 255).2.1 (tN (tN (a.extract 4 a.size) 0 1099511627776).2.1 (tN (a.extract 4 a.size) 0 1099511627776).2.2 255).2.2 44).1 := by
  have h1 := tN_nonneg (a.extract 4 a.size) 0 1099511627776 (by decide)
  rw [mx_pos _ (by decide)] at h1
  generalize tN (a.extract 4 a.size) 0 1099511627776 = x at h1 ⊢
  have h2 := tN_nonneg x.2.1 x.2.2 255 (by decide)
  rw [mx_pos _ (by decide)] at h2
  generalize tN x.2.1 x.2.2 255 = y at h2 ⊢
  have h3 := tS_size y.2.1 y.2.2 44 (by decide) (by decide)
  exact ⟨h1.2, h2.1, h2.2, h3⟩
set_option maxHeartbeats 1000000 in
theorem parse_f (a : ByteArray) (_ha : a.size ≤ 1000000) : Ev (fun k => stamp_Parse.f k a) (pS a) := by
  have hfit := parse_fit a
  unfold stamp_Parse.f pS
  by_cases c : a.size = 64
  rotate_left
  · have c' : ¬ (a.size : Int) = 64 := by omega
    rw [if_pos c]
    simp only [if_neg c']
    exact Ev.now _
  have c' : (a.size : Int) = 64 := by omega
  have c1 : (4 : Int) ≤ (a.size : Int) := by omega
  have c0 : (0 : Int) ≤ 4 := by decide
  have hz : (a.extract 4 a.size).size ≤ 1000000 := by rw [ba_size, ba_extract, List.length_take, List.length_drop, ← ba_size]; omega
  have hv : Val (a.extract 4 a.size) 0 := ⟨by omega, fun h => absurd rfl h⟩
  rw [if_neg (fun h => h c)]
  simp only [if_pos c', if_pos c1, if_pos c0]
  refine Ev.bind (sum_f _ hz) ?_
  simp only [cB_f _ (sm_lt _), Option.bind_some, ba_toList, ba_mk]
  by_cases e : (a.extract 0 4).data.toList = cB (sm (a.extract 4 a.size))
  rotate_left
  · rw [if_pos e]
    simp only [if_neg e]
    exact Ev.now _
  rw [if_neg (fun h => h e)]
  simp only [if_pos e, codec_Read.f, Option.bind_some]
  have h1 := tN_f _ 0 1099511627776 hv
  have v1 := hv.tN 1099511627776
  have h2 := tN_f _ _ 255 v1
  have v2 := v1.tN 255
  have h3 := tS_f _ _ 44 v2 (by decide)
  simp only [h1, h2, h3, Option.bind_some, codec_In_Err.f]
  generalize tN (a.extract 4 a.size) 0 1099511627776 = x at hfit ⊢
  generalize tN x.2.1 x.2.2 255 = y at hfit ⊢
  generalize tS y.2.1 y.2.2 44 = z at hfit ⊢
  have hy : y.1 % 256 = y.1 := by have := hfit.2.1; have := hfit.2.2.1; omega
  by_cases cz : z.2.2 = 0
  rotate_left
  · simp only [if_neg cz, if_pos cz]
    exact Ev.now _
  have cz' : ¬ ¬ z.2.2 = 0 := fun h => h cz
  simp only [if_pos cz, if_neg cz']
  by_cases cx : x.1 < 1
  · simp only [if_pos cx]
    exact Ev.now _
  simp only [if_neg cx, hy]
  refine Ev.bind (text_f _ _ _ hfit) ?_
  by_cases ct : (tx x.1 y.1 z.1).data.toList = a.data.toList
  · simp only [if_pos ct]; exact Ev.now _
  · simp only [if_neg ct]; exact Ev.now _
theorem pS_tx (n m : Int) (d : ByteArray) (h : FitS n m d) (hn : 1 ≤ n) : pS (tx n m d) = (n, m, d, 0) := by
  have hz := tx_size n m d h
  obtain ⟨h1, h2, h3, h4⟩ := h
  have e1 := tN_num n.toNat 1099511627776 (by omega) (by decide) (numB m.toNat ++ (strB d ++ List.replicate (60 - (secB n m d).length) 0))
  have e2 := tN_num m.toNat 255 (by omega) (by decide) (strB d ++ List.replicate (60 - (secB n m d).length) 0)
  have e3 := tS_str d 44 (by omega) (by decide) (List.replicate (60 - (secB n m d).length) 0)
  rw [show ((n.toNat : Nat) : Int) = n by omega] at e1
  rw [show ((m.toNat : Nat) : Int) = m by omega] at e2
  have ht : (tx n m d).extract 4 (tx n m d).size = ⟨(numB n.toNat ++ (numB m.toNat ++ (strB d ++ List.replicate (60 - (secB n m d).length) 0))).toArray⟩ := by
    unfold tx
    rw [sealB_tail]
    unfold pad60
    rw [show secB n m d = numB n.toNat ++ numB m.toNat ++ strB d from rfl]
    simp only [List.append_assoc]
  unfold pS
  rw [if_neg (by simp [hz]), if_neg (by
    unfold tx
    rw [sealB_head, sealB_tail, ba_mk]
    simp)]
  rw [ht, e1]
  dsimp only
  rw [e2]
  dsimp only
  rw [e3]
  dsimp only
  rw [if_neg (by simp), if_neg (by omega), if_pos rfl]
theorem awake_true : Ev (fun k => armoirelaw04_awake.f k) true := by
  have hf : FitS 1 2 (⟨#[]⟩ : ByteArray) := ⟨by decide, by decide, by decide, by decide⟩
  have hz := tx_size 1 2 ⟨#[]⟩ hf
  have hz' : ((tx 1 2 ⟨#[]⟩).size : Int) = 64 := by omega
  have hb : secB 1 2 (⟨#[]⟩ : ByteArray) = [1, 1, 1, 2, 0] := by
    have n1 : numB 1 = [1, 1] := by simp [numB, nlen, digs, dig]
    have n2 : numB 2 = [1, 2] := by simp [numB, nlen, digs, dig]
    have n0 : numB 0 = [0] := by simp [numB, nlen, digs]
    unfold secB strB
    rw [show (1 : Int).toNat = 1 from rfl, show (2 : Int).toNat = 2 from rfl, show (⟨#[]⟩ : ByteArray).size = 0 from rfl, n1, n2, n0]
    rfl
  have he : ((tx 1 2 ⟨#[]⟩).extract 4 10).toList = [1, 1, 1, 2, 0, 0] := by
    rw [ba_toList, ba_extract]
    unfold tx sealB
    rw [hb]
    rfl
  have hp := parse_f (tx 1 2 ⟨#[]⟩) (by omega)
  rw [pS_tx 1 2 ⟨#[]⟩ hf (by decide)] at hp
  have c1 : (10 : Int) ≤ ((tx 1 2 ⟨#[]⟩).size : Int) := by omega
  have c0 : (4 : Int) ≤ 10 := by decide
  have q : ((1 : Int) == 1 && ((2 : Int) == 2 && ((⟨#[]⟩ : ByteArray).toList == ([] : List UInt8)))) = true := by rw [ba_toList]; rfl
  unfold armoirelaw04_awake.f
  refine Ev.bind (text_f 1 2 ⟨#[]⟩ hf) ?_
  refine Ev.bind hp ?_
  simp only [if_pos hz', if_pos c0, if_pos c1, he, if_true, q]
  refine Ev.bind (check_f 0 0 ⟨#[]⟩) ?_
  rw [show chkS 0 (⟨#[]⟩ : ByteArray) = 18 from rfl]
  exact Ev.now _
end Go.Proofs.Ytodikgjanhihhaa.PA

