import Derived.Test.YtkkkmbgflflcnaaQQxFOI
import Derived.Test.YtkkkmbgflflcnaaQQxPAx10
import Derived.Test.YtkkkmbgflflcnaaQQxPAx16
import Derived.Test.YtkkkmbgflflcnaaQQxPAx2
import Derived.Test.YtkkkmbgflflcnaaQQxPAx12
import Derived.Test.YtkkkmbgflflcnaaQQxPAx7
import Derived.Test.YtkkkmbgflflcnaaQQxPAx18
import Derived.Test.YtkkkmbgflflcnaaQQxPAx8
import Derived.Test.YtkkkmbgflflcnaaQQxPAx9
import Derived.Test.YtkkkmbgflflcnaaQQxPAx13
import Derived.Test.YtkkkmbgflflcnaaQQxPAx14
import Derived.Test.YtkkkmbgflflcnaaQQxPAx11
import Derived.Test.YtkkkmbgflflcnaaQQxPAx3
namespace Go.Proofs.Ytkkkmbgflflcnaa.PA
set_option linter.unusedSimpArgs false
open Go.RowKit Go.Proofs.YtkkkmbgflflcnaaW.PrintWords Go.Proofs.YtkkkmbgflflcnaaW.PrintLast Go.Proofs.YtkkkmbgflflcnaaW.PrintMore Go.Proofs.Ytkkkmbgflflcnaa Go.Proofs.Ytkkkmbgflflcnaa.PL
def hasA (op : Int) : Bool := op == 2 || (decide (8 ≤ op) && decide (op ≤ 14)) || op == 16
def hasN (op : Int) : Bool := op == 3 || op == 5 || op == 6
def chk (op : Int) (a b : ByteArray) (n : Int) : Int :=
  if op < 1 ∨ 17 < op then 6
  else if (hasA op = false ∧ ¬ a.toList = []) ∨ (¬ op = 11 ∧ ¬ b.toList = []) ∨ (hasN op = false ∧ ¬ n = 0) then 2
  else if a.size > 24 ∨ b.size > 24 then 3
  else if (op = 5 ∨ op = 6) ∧ (n < 1 ∨ n > 1048576) then 4 else 0
theorem ops17 (op : Int) (h0 : 1 ≤ op) (h1 : op ≤ 17) : op = 1 ∨ op = 2 ∨ op = 3 ∨ op = 4 ∨ op = 5 ∨ op = 6 ∨ op = 7 ∨ op = 8 ∨ op = 9 ∨ op = 10 ∨ op = 11 ∨ op = 12 ∨ op = 13 ∨ op = 14 ∨ op = 15 ∨ op = 16 ∨ op = 17 := by omega
theorem shape_f (op : Int) (h0 : 1 ≤ op) (h1 : op ≤ 17) : ∃ kd w, ¬ kd = 0 ∧ method_Op_shape.f op = some (kd, w, hasA op, op == 11, hasN op) := by
  have h : (method_Op_shape.f op).map (fun r => (r.1 != 0, r.2.2)) = some (true, hasA op, op == 11, hasN op) := by
    rcases ops17 op h0 h1 with rfl | rfl | rfl | rfl | rfl | rfl | rfl | rfl | rfl | rfl | rfl | rfl | rfl | rfl | rfl | rfl | rfl <;> decide +kernel
  obtain ⟨⟨kd, w, x⟩, hx, he⟩ := Option.map_eq_some_iff.1 h
  simp only [Prod.mk.injEq, bne_iff_ne] at he
  exact ⟨kd, w, he.1, by rw [hx, he.2]⟩
theorem shape_out (op : Int) (h : op < 1 ∨ 17 < op) : method_Op_shape.f op = some (0, ⟨#[]⟩, false, false, false) := by
  unfold method_Op_shape.f
  by_cases c : op < 1
  · rw [if_pos c]
  · rw [if_neg c, if_pos (by omega)]
theorem j2_tail (k : Nat) (op : Int) (a b : ByteArray) (n : Int) (hh : 1 ≤ op ∧ op ≤ 17) (c2 : ¬ ((hasA op = false ∧ ¬ a.toList = []) ∨ (¬ op = 11 ∧ ¬ b.toList = []) ∨ (hasN op = false ∧ ¬ n = 0))) :
    method_Call_Check.j1 (k + 2) false op a b n = some (chk op a b n) ∧ armoireref12_Check.j1 (k + 2) false op a b n = some (chk op a b n) := by
  unfold chk
  rw [if_neg (by omega), if_neg c2]
  simp only [method_Call_Check.j1, method_Call_Check.j2, armoireref12_Check.j1, armoireref12_Check.j2]
  by_cases ha : a.size > 24
  · have ha' : (a.size : Int) > 24 := by omega
    simp [ha, ha']
  · have ha' : ¬ (a.size : Int) > 24 := by omega
    by_cases hb : b.size > 24
    · have hb' : (b.size : Int) > 24 := by omega
      simp [ha, ha', hb, hb']
    · have hb' : ¬ (b.size : Int) > 24 := by omega
      by_cases h5 : op = 5 <;> by_cases h6 : op = 6 <;> by_cases h7 : n < 1 <;> by_cases h8 : n > 1048576 <;> simp [ha, ha', hb, hb', h5, h6, h7, h8] <;> omega
theorem j1_true (k : Nat) (op : Int) (a b : ByteArray) (n : Int) : method_Call_Check.j1 (k + 2) true op a b n = some 2 ∧ armoireref12_Check.j1 (k + 2) true op a b n = some 2 := by
  simp [method_Call_Check.j1, armoireref12_Check.j1]
theorem check_k (k : Nat) (op : Int) (a b : ByteArray) (n : Int) : method_Call_Check.f (k + 3) op a b n = some (chk op a b n) := by
  by_cases ho : op < 1 ∨ 17 < op
  · unfold method_Call_Check.f chk
    rw [shape_out op ho, if_pos ho]
    rfl
  · have hh : 1 ≤ op ∧ op ≤ 17 := by omega
    obtain ⟨kd, w, hk, hs⟩ := shape_f op hh.1 hh.2
    unfold method_Call_Check.f
    rw [hs, Option.bind_some]
    dsimp only
    rw [if_neg hk]
    have h2 : ((hasA op = false ∧ ¬ a.toList = []) ∨ (¬ op = 11 ∧ ¬ b.toList = []) ∨ (hasN op = false ∧ ¬ n = 0)) → chk op a b n = 2 := by
      intro c; unfold chk; rw [if_neg ho, if_pos c]
    have h1 := (j1_true k op a b n).1
    have h3 := fun c => (j2_tail k op a b n hh c).1
    cases hA : hasA op <;> cases hN : hasN op <;> by_cases h11 : op = 11 <;> by_cases ha : a.toList = [] <;> by_cases hb : b.toList = [] <;> by_cases hn : n = 0 <;>
      ((first | have qn : (n != 0) = true := bne_iff_ne.mpr hn | have qn : (n != 0) = false := bne_eq_false_iff_eq.mpr hn)
       (first | have qa : (a.toList != []) = true := bne_iff_ne.mpr ha | have qa : (a.toList != []) = false := bne_eq_false_iff_eq.mpr ha)
       (first | have qb : (b.toList != []) = true := bne_iff_ne.mpr hb | have qb : (b.toList != []) = false := bne_eq_false_iff_eq.mpr hb)
       simp only [method_Call_Check.j0, qn, qa, qb]
       simp_all)
theorem hasA_f (op : Int) : armoireref12_HasA.f op = some (hasA op) := by
  unfold armoireref12_HasA.f hasA
  by_cases h2 : op = 2
  · simp [h2]
  · by_cases h8 : op ≥ 8
    · by_cases h14 : op ≤ 14
      · simp [h2, h8, h14]
      · simp [h2, h8, h14]
    · simp [h2, h8]
theorem hasN_f (op : Int) : armoireref12_HasN.f op = some (hasN op) := by
  unfold armoireref12_HasN.f hasN
  by_cases h3 : op = 3
  · simp [h3]
  · by_cases h5 : op = 5
    · simp [h5]
    · simp [h3, h5]
theorem rcheck_k (k : Nat) (op : Int) (a b : ByteArray) (n : Int) : armoireref12_Check.f (k + 3) op a b n = some (chk op a b n) := by
  by_cases ho : op < 1 ∨ 17 < op
  · unfold armoireref12_Check.f chk
    rw [if_pos ho]
    by_cases c : op < 1
    · rw [if_pos c]
      simp [armoireref12_Check.j0]
    · rw [if_neg c, decide_eq_true (by omega)]
      simp [armoireref12_Check.j0]
  · have hh : 1 ≤ op ∧ op ≤ 17 := by omega
    unfold armoireref12_Check.f
    rw [if_neg (by omega), decide_eq_false (by omega)]
    have h2 : ((hasA op = false ∧ ¬ a.toList = []) ∨ (¬ op = 11 ∧ ¬ b.toList = []) ∨ (hasN op = false ∧ ¬ n = 0)) → chk op a b n = 2 := by
      intro c; unfold chk; rw [if_neg ho, if_pos c]
    have h1 := (j1_true k op a b n).2
    have h3 := fun c => (j2_tail k op a b n hh c).2
    cases hA : hasA op <;> cases hN : hasN op <;> by_cases h11 : op = 11 <;> by_cases ha : a.toList = [] <;> by_cases hb : b.toList = [] <;> by_cases hn : n = 0 <;>
      ((first | have qn : (n != 0) = true := bne_iff_ne.mpr hn | have qn : (n != 0) = false := bne_eq_false_iff_eq.mpr hn)
       (first | have qa : (a.toList != []) = true := bne_iff_ne.mpr ha | have qa : (a.toList != []) = false := bne_eq_false_iff_eq.mpr ha)
       (first | have qb : (b.toList != []) = true := bne_iff_ne.mpr hb | have qb : (b.toList != []) = false := bne_eq_false_iff_eq.mpr hb)
       simp only [armoireref12_Check.j0, hasA_f, hasN_f, Option.bind_some, qn, qa, qb]
       simp_all)
theorem check_f (op : Int) (a b : ByteArray) (n : Int) : Ev (fun k => method_Call_Check.f k op a b n) (chk op a b n) :=
  ⟨3, fun k hk => by obtain ⟨m, rfl⟩ : ∃ m, k = m + 3 := ⟨k - 3, by omega⟩
                     exact check_k m op a b n⟩
theorem rcheck_f (op : Int) (a b : ByteArray) (n : Int) : Ev (fun k => armoireref12_Check.f k op a b n) (chk op a b n) :=
  ⟨3, fun k hk => by obtain ⟨m, rfl⟩ : ∃ m, k = m + 3 := ⟨k - 3, by omega⟩
                     exact rcheck_k m op a b n⟩
def rC (s : ByteArray) (e : Int) : Int × ByteArray × ByteArray × Int × ByteArray × Int :=
  let x1 := tN s e 17
  let x2 := tS x1.2.1 x1.2.2 24
  let x3 := tS x2.2.1 x2.2.2 24
  let x4 := tI x3.2.1 x3.2.2
  if x4.2.2 = 0 ∧ chk x1.1 x2.1 x3.1 x4.1 = 0 then (x1.1, x2.1, x3.1, x4.1, x4.2.1, 0) else (0, ⟨#[]⟩, ⟨#[]⟩, 0, fl x4.2.1 x4.2.2 (chk x1.1 x2.1 x3.1 x4.1))
theorem fl_no (s : ByteArray) (e x : Int) (h : ¬ e = 0) : fl s e x = (s, e) := by unfold fl; rw [if_neg h]
theorem fl_yes (s : ByteArray) (x : Int) (h : ¬ x = 0) : fl s 0 x = (⟨#[]⟩, x) := by unfold fl; rw [if_pos rfl, if_neg h]
theorem fl_zero (s : ByteArray) : fl s 0 0 = (s, 0) := by unfold fl; rw [if_pos rfl, if_pos rfl]
end Go.Proofs.Ytkkkmbgflflcnaa.PA

namespace Go.Proofs.Ytkkkmbgflflcnaa.PA
set_option linter.unusedSimpArgs false
open Go.RowKit Go.Proofs.YtkkkmbgflflcnaaW.PrintWords Go.Proofs.YtkkkmbgflflcnaaW.PrintLast Go.Proofs.YtkkkmbgflflcnaaW.PrintMore Go.Proofs.Ytkkkmbgflflcnaa Go.Proofs.Ytkkkmbgflflcnaa.PL
theorem rC_j0 (s : ByteArray) (e op : Int) (a b : ByteArray) (n : Int) : Ev (fun k => method_ReadCall.j0 k s e op a b n) (if e = 0 then (op, a, b, n, s, e) else (0, ⟨#[]⟩, ⟨#[]⟩, 0, s, e)) := by
  refine Ev.step (fun k => by simp only [method_ReadCall.j0, codec_In_Err.f, Option.bind_some]; rfl) ?_
  by_cases c : e = 0
  · simp only [if_pos c]; exact Ev.now _
  · simp only [if_neg c]; exact Ev.now _
theorem rC_f (s : ByteArray) (e : Int) (hv : Val s e) : Ev (fun k => method_ReadCall.f k s e) (rC s e) := by
  have h1 := tN_f s e 17 hv
  have v1 := hv.tN 17
  have h2 := tS_f _ _ 24 v1 (by decide)
  have v2 := v1.tS 24
  have h3 := tS_f _ _ 24 v2 (by decide)
  have v3 := v2.tS 24
  have h4 := tI_f _ _ v3
  unfold method_ReadCall.f rC
  simp only [h1, Option.bind_some, h2, h3, h4, codec_In_Err.f]
  generalize tN s e 17 = x1
  generalize tS x1.2.1 x1.2.2 24 = x2
  generalize tS x2.2.1 x2.2.2 24 = x3
  generalize tI x3.2.1 x3.2.2 = x4
  obtain ⟨n, s4, e4⟩ := x4
  dsimp only
  by_cases c : e4 = 0
  · subst c
    simp only [if_true]
    refine Ev.bind (check_f _ _ _ _) ?_
    by_cases c2 : chk x1.1 x2.1 x3.1 n = 0
    · have h := rC_j0 s4 0 x1.1 x2.1 x3.1 n
      rw [c2]
      simp only [fl_f, fl_zero, Option.bind_some, if_true, and_self]
      exact h
    · have h := rC_j0 ⟨#[]⟩ (chk x1.1 x2.1 x3.1 n) x1.1 x2.1 x3.1 n
      rw [if_neg c2] at h
      simp only [fl_f, fl_yes _ _ c2, Option.bind_some, c2, and_false, if_false]
      exact h
  · have h := rC_j0 s4 e4 x1.1 x2.1 x3.1 n
    rw [if_neg c] at h
    simp only [if_neg c, c, false_and, if_false, fl_no _ _ _ c]
    exact h
end Go.Proofs.Ytkkkmbgflflcnaa.PA

namespace Go.Proofs.Ytkkkmbgflflcnaa.PA
set_option linter.unusedSimpArgs false
open Go.RowKit Go.Proofs.YtkkkmbgflflcnaaW.PrintWords Go.Proofs.YtkkkmbgflflcnaaW.PrintLast Go.Proofs.YtkkkmbgflflcnaaW.PrintMore Go.Proofs.Ytkkkmbgflflcnaa Go.Proofs.Ytkkkmbgflflcnaa.PL CrcM
theorem seal_f (s : ByteArray) (hs : s.size ≤ 1000000) : Ev (fun k => frame_seal.f k s) (sealB s) := by
  have hz : (⟨(cB (sm s)).toArray⟩ : ByteArray).size + s.size ≤ 9223372036854775807 := by rw [ba_mk_size, cB_length]; omega
  have e : (⟨(cB (sm s)).toArray⟩ : ByteArray) ++ s = sealB s := bytes_ext (by rw [ba_append]; rfl)
  unfold frame_seal.f
  refine Ev.bind (sum_f s hs) ?_
  simp only [cB_f _ (sm_lt s), Option.bind_some, if_pos hz, e]
  exact Ev.now _
def op4 (a : ByteArray) : ByteArray × Int :=
  if a.size < 4 then (⟨#[]⟩, 1) else if (a.extract 0 4).data.toList = cB (sm (a.extract 4 a.size)) then (a.extract 4 a.size, 0) else (⟨#[]⟩, 5)
theorem open_f (a : ByteArray) (ha : a.size ≤ 1000000) : Ev (fun k => frame_open.f k a) (op4 a) := by
  unfold frame_open.f op4
  by_cases c : a.size < 4
  · rw [if_pos c]
    simp only [if_pos (show (a.size : Int) < 4 by omega)]
    exact Ev.now _
  · rw [if_neg c]
    have c1 : ¬ (a.size : Int) < 4 := by omega
    have c2 : (4 : Int) ≤ (a.size : Int) := by omega
    have c3 : (0 : Int) ≤ 4 := by decide
    simp only [if_neg c1, if_pos c2, if_pos c3]
    have hz : (a.extract 4 a.size).size ≤ 1000000 := by rw [ba_size, ba_extract, List.length_take, List.length_drop, ← ba_size]; omega
    refine Ev.bind (sum_f _ hz) ?_
    simp only [cB_f _ (sm_lt _), Option.bind_some, ba_toList, ba_mk]
    by_cases e : (a.extract 0 4).data.toList = cB (sm (a.extract 4 a.size))
    · simp only [if_pos e]; exact Ev.now _
    · simp only [if_neg e]; exact Ev.now _
theorem op4_seal (s : ByteArray) : op4 (sealB s) = (s, 0) := by
  unfold op4
  rw [if_neg (by rw [sealB_size]; omega), sealB_head, sealB_tail, if_pos rfl]
def en (s : ByteArray) (e : Int) : ByteArray × Int := if s.data.toList = [] then (s, e) else fl s e 2
theorem end_f (s : ByteArray) (e : Int) : codec_In_End.f s e = some ((en s e).2, (en s e).1, (en s e).2) := by
  unfold codec_In_End.f en
  rw [ba_toList]
  by_cases c : s.data.toList = []
  · rw [if_pos c, if_pos c]
  · rw [if_neg c, if_neg c, fl_f]; rfl
abbrev Q := Int × Int × ByteArray × Int × ByteArray × ByteArray × Int
def callB (op : Int) (a b : ByteArray) (n : Int) : List UInt8 := numB op.toNat ++ strB a ++ strB b ++ numB (zig n)
def bodyQ (q : Q) : List UInt8 :=
  if q.1 = 2 then numB q.1.toNat ++ strB q.2.2.1 ++ callB q.2.2.2.1 q.2.2.2.2.1 q.2.2.2.2.2.1 q.2.2.2.2.2.2
  else if q.1 = 4 ∨ q.1 = 7 then numB q.1.toNat ++ numB q.2.1.toNat else numB q.1.toNat
def FitQ (q : Q) : Prop := q.1 < 9223372036854775808 ∧ q.2.1 < 9223372036854775808 ∧ q.2.2.1.size ≤ 1000 ∧ q.2.2.2.1 < 9223372036854775808 ∧ q.2.2.2.2.1.size ≤ 1000 ∧ q.2.2.2.2.2.1.size ≤ 1000 ∧ -9223372036854775808 ≤ q.2.2.2.2.2.2 ∧ q.2.2.2.2.2.2 < 9223372036854775808
theorem callB_length (op : Int) (a b : ByteArray) (n : Int) (ho : op < 9223372036854775808) (ha : a.size ≤ 1000) (hb : b.size ≤ 1000) (h0 : -9223372036854775808 ≤ n) (h1 : n < 9223372036854775808) : (callB op a b n).length ≤ 3000 := by
  have l1 : (numB op.toNat).length ≤ 9 := numB_length _ (by omega)
  have l2 := strB_length a (by omega)
  have l3 := strB_length b (by omega)
  have l4 : (numB (zig n)).length ≤ 9 := numB_length _ (zig_lt n h0 h1)
  unfold callB
  rw [List.length_append, List.length_append, List.length_append]; omega
theorem bodyQ_length (q : Q) (h : FitQ q) : (bodyQ q).length ≤ 5000 := by
  obtain ⟨h1, h2, h3, h4, h5, h6, h7, h8⟩ := h
  have l1 : (numB q.1.toNat).length ≤ 9 := numB_length _ (by omega)
  have l2 : (numB q.2.1.toNat).length ≤ 9 := numB_length _ (by omega)
  have l3 := strB_length q.2.2.1 (by omega)
  have l4 := callB_length _ _ _ _ h4 h5 h6 h7 h8
  unfold bodyQ
  split
  · rw [List.length_append, List.length_append]; omega
  · split
    · rw [List.length_append]; omega
    · omega
theorem put_f (op : Int) (a b : ByteArray) (n : Int) (s : ByteArray) (hs : s.size ≤ 100000) (ho : op < 9223372036854775808) (ha : a.size ≤ 1000) (hb : b.size ≤ 1000) (h0 : -9223372036854775808 ≤ n) (h1 : n < 9223372036854775808) :
    method_Call_Put.f op a b n s = some ⟨(s.data.toList ++ callB op a b n).toArray⟩ := by
  have l1 : (numB op.toNat).length ≤ 9 := numB_length _ (by omega)
  have l2 := strB_length a (by omega)
  have l3 := strB_length b (by omega)
  have hz := ba_size s
  unfold method_Call_Put.f callB
  rw [wN1 s op (by omega) ho, Option.bind_some, wS2 _ a b (by rw [ba_mk_size, List.length_append]; omega) (by omega) (by omega), Option.bind_some,
    wI1 _ n (by rw [ba_mk_size]; rw [List.length_append, List.length_append, List.length_append]; omega) h0 h1, Option.bind_some]
  simp only [List.append_assoc]
theorem text_fin (b : List UInt8) (hb : b.length ≤ 100000) : Ev (fun k => (codec_Out_Text.f ⟨b.toArray⟩).bind fun bt => (frame_seal.f k bt.1).bind fun t => some t) (sealB ⟨b.toArray⟩) := by
  simp only [codec_Out_Text.f, Option.bind_some]
  exact Ev.bind (f := fun _ t => some t) (seal_f _ (by rw [ba_mk_size]; omega)) (Ev.now _)
theorem reqText_f (q : Q) (h : FitQ q) : Ev (fun k => frame_Request_Text.f k q.1 q.2.1 q.2.2.1 q.2.2.2.1 q.2.2.2.2.1 q.2.2.2.2.2.1 q.2.2.2.2.2.2) (sealB ⟨(bodyQ q).toArray⟩) := by
  have hl := bodyQ_length q h
  obtain ⟨h1, h2, h3, h4, h5, h6, h7, h8⟩ := h
  obtain ⟨kind, nn, obj, op, a, b, n⟩ := q
  dsimp only at *
  have l1 : (numB kind.toNat).length ≤ 9 := numB_length _ (by omega)
  have l2 : (numB nn.toNat).length ≤ 9 := numB_length _ (by omega)
  have l3 := strB_length obj (by omega)
  unfold frame_Request_Text.f
  have e0 := wN1 ⟨#[]⟩ kind (by decide) h1
  rw [show (⟨#[]⟩ : ByteArray).data.toList = [] from rfl, List.nil_append] at e0
  simp only [e0, Option.bind_some]
  unfold bodyQ at hl ⊢
  dsimp only at hl ⊢
  by_cases c2 : kind = 2
  · rw [if_pos c2] at hl ⊢
    have e1 := wS1 ⟨(numB kind.toNat).toArray⟩ obj (by rw [ba_mk_size]; omega) (by omega)
    have e2 := put_f op a b n ⟨(numB kind.toNat ++ strB obj).toArray⟩ (by rw [ba_mk_size, List.length_append]; omega) h4 h5 h6 h7 h8
    rw [ba_mk] at e1 e2
    simp only [if_pos c2, e1, Option.bind_some, e2]
    exact text_fin _ (by omega)
  · rw [if_neg c2] at hl ⊢
    simp only [if_neg c2]
    by_cases c4 : kind = 4 ∨ kind = 7
    · rw [if_pos c4] at hl ⊢
      have e1 := wN1 ⟨(numB kind.toNat).toArray⟩ nn (by rw [ba_mk_size]; omega) h2
      rw [ba_mk] at e1
      have hj : Ev (fun k => frame_Request_Text.j0 k true kind nn obj op a b n ⟨(numB kind.toNat).toArray⟩) (sealB ⟨(numB kind.toNat ++ numB nn.toNat).toArray⟩) := by
        refine Ev.step (fun k => ?_) (text_fin (numB kind.toNat ++ numB nn.toNat) (by omega))
        simp only [frame_Request_Text.j0]
        rw [if_pos trivial, e1, Option.bind_some]
      rcases c4 with c4 | c4
      · have e4 : (kind == 4) = true := beq_iff_eq.mpr c4
        simp only [if_pos c4, e4]; exact hj
      · have e4 : ¬ kind = 4 := by omega
        have e7 : (kind == 7) = true := beq_iff_eq.mpr c4
        simp only [if_neg e4, e7]; exact hj
    · rw [if_neg c4] at hl ⊢
      have e4 : ¬ kind = 4 := fun h => c4 (.inl h)
      have e7 : (kind == 7) = false := beq_eq_false_iff_ne.mpr (fun h => c4 (.inr h))
      simp only [if_neg e4, e7]
      refine Ev.step (fun k => ?_) (text_fin (numB kind.toNat) (by omega))
      simp only [frame_Request_Text.j0]
      rw [if_neg (by decide)]
def Q0 : Q := (0, 0, ⟨#[]⟩, 0, ⟨#[]⟩, ⟨#[]⟩, 0)
def pQ (a : ByteArray) : Q × Int :=
  if (op4 a).2 ≠ 0 then (Q0, (op4 a).2) else
  let x := tN (op4 a).1 0 7
  let r : Q × ByteArray × Int :=
    if x.1 = 0 then ((x.1, 0, ⟨#[]⟩, 0, ⟨#[]⟩, ⟨#[]⟩, 0), fl x.2.1 x.2.2 6)
    else if x.1 = 2 then
      let y := tS x.2.1 x.2.2 16
      let z := rC y.2.1 y.2.2
      ((x.1, 0, y.1, z.1, z.2.1, z.2.2.1, z.2.2.2.1), z.2.2.2.2)
    else if x.1 = 4 ∨ x.1 = 7 then ((x.1, (tN x.2.1 x.2.2 1099511627776).1, ⟨#[]⟩, 0, ⟨#[]⟩, ⟨#[]⟩, 0), (tN x.2.1 x.2.2 1099511627776).2)
    else ((x.1, 0, ⟨#[]⟩, 0, ⟨#[]⟩, ⟨#[]⟩, 0), x.2)
  if (en r.2.1 r.2.2).2 = 0 then (r.1, 0) else (Q0, (en r.2.1 r.2.2).2)
def flat8 (r : Q × Int) : Int × Int × ByteArray × Int × ByteArray × ByteArray × Int × Int := (r.1.1, r.1.2.1, r.1.2.2.1, r.1.2.2.2.1, r.1.2.2.2.2.1, r.1.2.2.2.2.2.1, r.1.2.2.2.2.2.2, r.2)
theorem parse_fin (s : ByteArray) (e : Int) (q : Q) : Ev (fun _ => (codec_In_End.f s e).bind fun bt => if bt.1 = 0 then some (q.1, q.2.1, q.2.2.1, q.2.2.2.1, q.2.2.2.2.1, q.2.2.2.2.2.1, q.2.2.2.2.2.2, (0 : Int)) else some (0, 0, (⟨#[]⟩ : ByteArray), 0, (⟨#[]⟩ : ByteArray), (⟨#[]⟩ : ByteArray), 0, bt.1)) (flat8 (if (en s e).2 = 0 then (q, 0) else (Q0, (en s e).2))) := by
  simp only [end_f, Option.bind_some]
  by_cases c : (en s e).2 = 0
  · simp only [if_pos c]; exact Ev.now _
  · simp only [if_neg c]; exact Ev.now _
theorem op4_val (a : ByteArray) (ha : a.size ≤ 1000000) : Val (op4 a).1 0 := by
  refine ⟨?_, fun h => absurd rfl h⟩
  unfold op4
  split
  · exact Nat.zero_le _
  · split
    · show (a.extract 4 a.size).size ≤ _
      rw [ba_size, ba_extract, List.length_take, List.length_drop, ← ba_size]; omega
    · exact Nat.zero_le _
theorem parse_f (a : ByteArray) (ha : a.size ≤ 1000000) : Ev (fun k => frame_ParseRequest.f k a) (flat8 (pQ a)) := by
  have hv := op4_val a ha
  unfold frame_ParseRequest.f
  refine Ev.bind (open_f a ha) ?_
  unfold pQ
  by_cases c : (op4 a).2 = 0
  rotate_left
  · rw [if_pos c]
    simp only [if_neg c]
    exact Ev.now _
  rw [if_neg (fun h => h c)]
  simp only [if_pos c, codec_Read.f, Option.bind_some, tN_f _ _ _ hv]
  have hv1 := hv.tN 7
  generalize tN (op4 a).1 0 7 = x at hv1 ⊢
  by_cases c0 : x.1 = 0
  · simp only [if_pos c0, fl_f, Option.bind_some]
    exact parse_fin _ _ (x.1, 0, ⟨#[]⟩, 0, ⟨#[]⟩, ⟨#[]⟩, 0)
  simp only [if_neg c0]
  by_cases c2 : x.1 = 2
  · have hy := tS_f _ _ 16 hv1 (by decide)
    have hv2 := hv1.tS 16
    simp only [if_pos c2, hy, Option.bind_some]
    generalize tS x.2.1 x.2.2 16 = y at hv2 ⊢
    refine Ev.bind (rC_f y.2.1 y.2.2 hv2) ?_
    generalize rC y.2.1 y.2.2 = z
    exact parse_fin _ _ (x.1, 0, y.1, z.1, z.2.1, z.2.2.1, z.2.2.2.1)
  simp only [if_neg c2]
  have hb : ∀ b : Bool, (b = true ↔ (x.1 = 4 ∨ x.1 = 7)) → Ev (fun k => frame_ParseRequest.j0 k b x.2.1 x.2.2 x.1 0 (⟨#[]⟩ : ByteArray) 0 (⟨#[]⟩ : ByteArray) (⟨#[]⟩ : ByteArray) 0)
      (flat8 (let r : Q × ByteArray × Int := if x.1 = 4 ∨ x.1 = 7 then ((x.1, (tN x.2.1 x.2.2 1099511627776).1, ⟨#[]⟩, 0, ⟨#[]⟩, ⟨#[]⟩, 0), (tN x.2.1 x.2.2 1099511627776).2) else ((x.1, 0, ⟨#[]⟩, 0, ⟨#[]⟩, ⟨#[]⟩, 0), x.2)
        if (en r.2.1 r.2.2).2 = 0 then (r.1, 0) else (Q0, (en r.2.1 r.2.2).2))) := by
    intro b hb
    by_cases c4 : x.1 = 4 ∨ x.1 = 7
    · rw [hb.2 c4, if_pos c4]
      refine Ev.step (fun k => by simp only [frame_ParseRequest.j0, if_true, tN_f _ _ _ hv1, Option.bind_some]; rfl) ?_
      exact parse_fin _ _ (x.1, (tN x.2.1 x.2.2 1099511627776).1, ⟨#[]⟩, 0, ⟨#[]⟩, ⟨#[]⟩, 0)
    · have hf : b = false := by cases b with
        | false => rfl
        | true => exact absurd (hb.1 rfl) c4
      rw [hf, if_neg c4]
      refine Ev.step (fun k => by simp only [frame_ParseRequest.j0, Bool.false_eq_true, if_false]; rfl) ?_
      exact parse_fin _ _ (x.1, 0, ⟨#[]⟩, 0, ⟨#[]⟩, ⟨#[]⟩, 0)
  by_cases c4 : x.1 = 4
  · simp only [if_pos c4]
    exact hb _ (by rw [beq_iff_eq]; omega)
  · simp only [if_neg c4]
    exact hb _ (by rw [beq_iff_eq]; omega)
def chkQ (q : Q) : Int :=
  if q.1 < 1 ∨ 7 < q.1 then 6
  else if (¬ q.1 = 2 ∧ (¬ q.2.2.1.toList = [] ∨ ¬ q.2.2.2.1 = 0 ∨ ¬ q.2.2.2.2.1.toList = [] ∨ ¬ q.2.2.2.2.2.1.toList = [] ∨ ¬ q.2.2.2.2.2.2 = 0)) ∨ (¬ q.1 = 4 ∧ ¬ q.1 = 7 ∧ ¬ q.2.1 = 0) then 2
  else if q.2.2.1.size > 16 then 3
  else if q.2.1 < 0 ∨ q.2.1 > 1099511627776 then 4
  else if q.1 = 2 then chk q.2.2.2.1 q.2.2.2.2.1 q.2.2.2.2.2.1 q.2.2.2.2.2.2 else 0
end Go.Proofs.Ytkkkmbgflflcnaa.PA

namespace Go.Proofs.Ytkkkmbgflflcnaa.PA
set_option linter.unusedSimpArgs false
open Go.RowKit Go.Proofs.YtkkkmbgflflcnaaW.PrintWords Go.Proofs.YtkkkmbgflflcnaaW.PrintLast Go.Proofs.YtkkkmbgflflcnaaW.PrintMore Go.Proofs.Ytkkkmbgflflcnaa
theorem cut_f (s : ByteArray) (n : Nat) : armoirelaw01_Cut.f s (n : Int) = some (s.extract 0 (min n s.size)) := by
  unfold armoirelaw01_Cut.f
  by_cases h : (s.size : Int) > n
  · rw [if_pos h, if_pos (by omega), if_pos (by omega), show min n s.size = n by omega]
    rfl
  · rw [if_neg h, show min n s.size = s.size by omega]
    simp
theorem cut_size (s : ByteArray) (n : Nat) : (s.extract 0 (min n s.size)).size ≤ n := by
  rw [ba_size, ba_extract, List.length_take]; omega
end Go.Proofs.Ytkkkmbgflflcnaa.PA

namespace Go.Proofs.Ytkkkmbgflflcnaa.PA
set_option linter.unusedSimpArgs false
open Go.RowKit Go.Proofs.YtkkkmbgflflcnaaW.PrintWords Go.Proofs.YtkkkmbgflflcnaaW.PrintLast Go.Proofs.YtkkkmbgflflcnaaW.PrintMore Go.Proofs.Ytkkkmbgflflcnaa Go.Proofs.Ytkkkmbgflflcnaa.PL
theorem tidy_f (op : Int) (a b : ByteArray) (n : Int) (h0 : -9223372036854775808 ≤ n) (h1 : n < 9223372036854775808) :
    ∃ op' a' b' n', Ev (fun k => armoirelaw12_Tidy.f k op a b n) (op', a', b', n') ∧ chk op' a' b' n' = 0 ∧ a'.size ≤ 24 ∧ b'.size ≤ 24 ∧ -9223372036854775808 ≤ n' ∧ n' < 9223372036854775808 := by
  have m1 := i64_mask 8 (by decide) (wrap64 (op - 1))
  have m2 := i64_mask 20 (by decide) (wrap64 (n - 1))
  rw [show (((2 ^ 8 - 1 : Nat)) : Int) = 255 from rfl, show (2 : Int) ^ 8 = 256 from rfl] at m1
  rw [show (((2 ^ 20 - 1 : Nat)) : Int) = 1048575 from rfl, show (2 : Int) ^ 20 = 1048576 from rfl] at m2
  unfold armoirelaw12_Tidy.f
  generalize Go.bits .and .i64 (wrap64 (op - 1)) 255 = q at m1
  have hq : wrap64 (1 + Int.tmod q 17) = 1 + q % 17 := by
    rw [Int.tmod_eq_emod_of_nonneg m1.1]; unfold wrap64; omega
  rw [hq]
  obtain ⟨p, hp⟩ : ∃ p, p = 1 + q % 17 := ⟨_, rfl⟩
  have hp1 : 1 ≤ p ∧ p ≤ 17 := by omega
  rw [← hp]
  clear hq hp m1
  have ca : armoirelaw01_Cut.f a 24 = some (a.extract 0 (min 24 a.size)) := cut_f a 24
  have cb : armoirelaw01_Cut.f b 24 = some (b.extract 0 (min 24 b.size)) := cut_f b 24
  have sa := cut_size a 24
  have sb := cut_size b 24
  have hw : wrap64 (1 + Go.bits .and .i64 (wrap64 (n - 1)) 1048575) = 1 + Go.bits .and .i64 (wrap64 (n - 1)) 1048575 := by
    generalize Go.bits .and .i64 (wrap64 (n - 1)) 1048575 = z at m2
    unfold wrap64; omega
  have HW : ∀ x y : Int, wrap64 (1 + Go.bits .and .i64 (wrap64 (n - 1)) 1048575) = x → x = y → wrap64 (1 + Go.bits .and .i64 (wrap64 (n - 1)) 1048575) = y := fun _ _ h1 h2 => h1.trans h2
  obtain ⟨z, hz⟩ : ∃ z, z = 1 + Go.bits .and .i64 (wrap64 (n - 1)) 1048575 := ⟨_, rfl⟩
  have hz1 : 1 ≤ z ∧ z ≤ 1048576 := by rw [hz]; clear hw HW hz; omega
  have hwz := hw.trans hz.symm
  clear hw HW hz m2
  obtain ⟨a', ha'⟩ : ∃ a', a' = if hasA p = true then a.extract 0 (min 24 a.size) else ⟨#[]⟩ := ⟨_, rfl⟩
  obtain ⟨b', hb'⟩ : ∃ b', b' = if p = 11 then b.extract 0 (min 24 b.size) else ⟨#[]⟩ := ⟨_, rfl⟩
  obtain ⟨n', hn'⟩ : ∃ n', n' = if hasN p = true then (if p > 3 then z else n) else 0 := ⟨_, rfl⟩
  have hsa : a'.size ≤ 24 := by rw [ha']; split <;> first | exact sa | exact Nat.zero_le _
  have hsb : b'.size ≤ 24 := by rw [hb']; split <;> first | exact sb | exact Nat.zero_le _
  have hn0 : -9223372036854775808 ≤ n' ∧ n' < 9223372036854775808 := by
    rw [hn']
    split
    · split
      · clear hwz; omega
      · exact ⟨h0, h1⟩
    · exact ⟨by decide, by decide⟩
  have hj1 : Ev (fun k => armoirelaw12_Tidy.j1 k op a b n p a' b' 0) (p, a', b', n') := by
    refine Ev.step (f := fun _ => some (p, a', b', n')) (fun k => ?_) (Ev.now _)
    simp only [armoirelaw12_Tidy.j1, hasN_f, Option.bind_some]
    rw [hn', hwz]
    cases hasN p
    · simp
    · by_cases h3 : p > 3
      · simp [h3]
      · simp [h3]
  have hj0 : Ev (fun k => armoirelaw12_Tidy.j0 k op a b n p a' ⟨#[]⟩ 0) (p, a', b', n') := by
    refine Ev.step (fun k => ?_) hj1
    simp only [armoirelaw12_Tidy.j0]
    by_cases h11 : p = 11
    · rw [if_pos h11, cb, Option.bind_some, hb', if_pos h11]
    · rw [if_neg h11, hb', if_neg h11]
  refine ⟨p, a', b', n', ?_, ?_, hsa, hsb, hn0.1, hn0.2⟩
  · refine Ev.congr (fun k => ?_) hj0
    rw [hasA_f, Option.bind_some, ha']
    cases hasA p
    · simp
    · simp only [if_true, ca, Option.bind_some]
  · unfold chk
    rw [if_neg (by omega), if_neg, if_neg (by omega), if_neg]
    · rintro ⟨h5, h6⟩
      have hN : hasN p = true := by unfold hasN; rcases h5 with rfl | rfl <;> rfl
      rw [hn', if_pos hN, if_pos (by omega)] at h6
      omega
    · rintro (⟨h5, h6⟩ | ⟨h5, h6⟩ | ⟨h5, h6⟩)
      · rw [ha', h5] at h6
        exact h6 (by rw [if_neg (by decide), ba_toList])
      · rw [hb', if_neg h5] at h6
        exact h6 (by rw [ba_toList])
      · rw [hn', h5] at h6
        exact h6 rfl
end Go.Proofs.Ytkkkmbgflflcnaa.PA

namespace Go.Proofs.Ytkkkmbgflflcnaa.PA
set_option linter.unusedSimpArgs false
open Go.RowKit Go.Proofs.YtkkkmbgflflcnaaW.PrintWords Go.Proofs.YtkkkmbgflflcnaaW.PrintLast Go.Proofs.YtkkkmbgflflcnaaW.PrintMore Go.Proofs.Ytkkkmbgflflcnaa Go.Proofs.Ytkkkmbgflflcnaa.PL CrcM
theorem rC_back (op : Int) (a b : ByteArray) (n : Int) (hc : chk op a b n = 0) (h0 : -9223372036854775808 ≤ n) (h1 : n < 9223372036854775808) :
    rC ⟨(numB op.toNat ++ strB a ++ strB b ++ numB (zig n)).toArray⟩ 0 = (op, a, b, n, ⟨#[]⟩, 0) := by
  have ho : 1 ≤ op ∧ op ≤ 17 := by
    by_cases c : op < 1 ∨ 17 < op
    · unfold chk at hc; rw [if_pos c] at hc; exact absurd hc (by decide)
    · omega
  have hab : a.size ≤ 24 ∧ b.size ≤ 24 := by
    by_cases c : a.size > 24 ∨ b.size > 24
    · unfold chk at hc; rw [if_neg (by omega)] at hc
      split at hc <;> first | exact absurd hc (by decide) | (rw [if_pos c] at hc; exact absurd hc (by decide))
    · omega
  have e1 := tN_num op.toNat 17 (by omega) (by decide) (strB a ++ (strB b ++ (numB (zig n) ++ [])))
  have e2 := tS_str a 24 (by omega) (by decide) (strB b ++ (numB (zig n) ++ []))
  have e3 := tS_str b 24 (by omega) (by decide) (numB (zig n) ++ [])
  have e4 := tI_num n h0 h1 []
  rw [show ((op.toNat : Nat) : Int) = op by omega] at e1
  unfold rC
  rw [show numB op.toNat ++ strB a ++ strB b ++ numB (zig n) = numB op.toNat ++ (strB a ++ (strB b ++ (numB (zig n) ++ []))) by simp only [List.append_assoc, List.append_nil]]
  rw [e1]
  dsimp only
  rw [e2]
  dsimp only
  rw [e3]
  dsimp only
  rw [e4]
  dsimp only
  rw [if_pos ⟨rfl, hc⟩]
theorem nil_of {s : ByteArray} (h : s.toList = []) : s = ⟨#[]⟩ := bytes_ext (by rw [ba_toList] at h; rw [h])
theorem chkQ_ok (q : Q) (h : chkQ q = 0) : 1 ≤ q.1 ∧ q.1 ≤ 7 ∧ (q.1 = 2 ∨ (q.2.2.1 = ⟨#[]⟩ ∧ q.2.2.2.1 = 0 ∧ q.2.2.2.2.1 = ⟨#[]⟩ ∧ q.2.2.2.2.2.1 = ⟨#[]⟩ ∧ q.2.2.2.2.2.2 = 0)) ∧ (q.1 = 4 ∨ q.1 = 7 ∨ q.2.1 = 0) ∧ q.2.2.1.size ≤ 16 ∧ 0 ≤ q.2.1 ∧ q.2.1 ≤ 1099511627776 ∧ (q.1 = 2 → chk q.2.2.2.1 q.2.2.2.2.1 q.2.2.2.2.2.1 q.2.2.2.2.2.2 = 0) := by
  unfold chkQ at h
  by_cases c1 : q.1 < 1 ∨ 7 < q.1
  · rw [if_pos c1] at h; exact absurd h (by decide)
  rw [if_neg c1] at h
  by_cases c2 : (¬ q.1 = 2 ∧ (¬ q.2.2.1.toList = [] ∨ ¬ q.2.2.2.1 = 0 ∨ ¬ q.2.2.2.2.1.toList = [] ∨ ¬ q.2.2.2.2.2.1.toList = [] ∨ ¬ q.2.2.2.2.2.2 = 0)) ∨ (¬ q.1 = 4 ∧ ¬ q.1 = 7 ∧ ¬ q.2.1 = 0)
  · rw [if_pos c2] at h; exact absurd h (by decide)
  rw [if_neg c2] at h
  by_cases c3 : q.2.2.1.size > 16
  · rw [if_pos c3] at h; exact absurd h (by decide)
  rw [if_neg c3] at h
  by_cases c4 : q.2.1 < 0 ∨ q.2.1 > 1099511627776
  · rw [if_pos c4] at h; exact absurd h (by decide)
  rw [if_neg c4] at h
  refine ⟨by omega, by omega, ?_, by omega, by omega, by omega, by omega, fun h2 => by rwa [if_pos h2] at h⟩
  by_cases c5 : q.1 = 2
  · exact .inl c5
  · right
    have c6 := fun x => c2 (.inl ⟨c5, x⟩)
    refine ⟨nil_of (Classical.byContradiction fun x => c6 (.inl x)), Classical.byContradiction fun x => c6 (.inr (.inl x)), nil_of (Classical.byContradiction fun x => c6 (.inr (.inr (.inl x)))), nil_of (Classical.byContradiction fun x => c6 (.inr (.inr (.inr (.inl x))))), Classical.byContradiction fun x => c6 (.inr (.inr (.inr (.inr x))))⟩
theorem en_empty : (en ⟨#[]⟩ 0).2 = 0 := rfl
theorem pQ_back (q : Q) (hf : FitQ q) (h : chkQ q = 0) : pQ (sealB ⟨(bodyQ q).toArray⟩) = (q, 0) := by
  obtain ⟨h1, h7, hc, hN, ho, n0, n1, hcall⟩ := chkQ_ok q h
  obtain ⟨f1, f2, f3, f4, f5, f6, f7, f8⟩ := hf
  obtain ⟨kind, nn, obj, op, a, b, n⟩ := q
  dsimp only at *
  unfold pQ
  rw [op4_seal]
  rw [if_neg (by simp)]
  dsimp only
  have hk0 : ¬ kind = 0 := by omega
  have ek : ((kind.toNat : Nat) : Int) = kind := by omega
  have en0 : ((nn.toNat : Nat) : Int) = nn := by omega
  by_cases c2 : kind = 2
  · have hN0 : nn = 0 := by omega
    have hb : bodyQ (kind, nn, obj, op, a, b, n) = numB kind.toNat ++ (strB obj ++ callB op a b n) := by
      unfold bodyQ; rw [if_pos c2, List.append_assoc]
    have e1 := tN_num kind.toNat 7 (by omega) (by decide) (strB obj ++ callB op a b n)
    have e2 := tS_str obj 16 (by omega) (by decide) (callB op a b n)
    have e3 := rC_back op a b n (hcall c2) f7 f8
    rw [ek] at e1
    rw [hb, e1]
    dsimp only
    rw [if_neg hk0, if_pos c2, e2]
    dsimp only
    rw [show numB op.toNat ++ strB a ++ strB b ++ numB (zig n) = callB op a b n from rfl] at e3
    rw [e3]
    dsimp only
    rw [if_pos en_empty, hN0]
  · obtain ⟨o1, o2, o3, o4, o5⟩ := hc.resolve_left c2
    subst o1 o2 o3 o4 o5
    by_cases c4 : kind = 4 ∨ kind = 7
    · have hb : bodyQ (kind, nn, ⟨#[]⟩, 0, ⟨#[]⟩, ⟨#[]⟩, 0) = numB kind.toNat ++ (numB nn.toNat ++ []) := by
        unfold bodyQ; rw [if_neg c2, if_pos c4, List.append_nil]
      have e1 := tN_num kind.toNat 7 (by omega) (by decide) (numB nn.toNat ++ [])
      have e2 := tN_num nn.toNat 1099511627776 (by omega) (by decide) []
      rw [ek] at e1
      rw [en0] at e2
      rw [hb, e1]
      dsimp only
      rw [if_neg hk0, if_neg c2, if_pos c4, e2]
      dsimp only
      rw [if_pos en_empty]
    · have hN0 : nn = 0 := by omega
      have hb : bodyQ (kind, nn, ⟨#[]⟩, 0, ⟨#[]⟩, ⟨#[]⟩, 0) = numB kind.toNat ++ [] := by
        unfold bodyQ; rw [if_neg c2, if_neg c4, List.append_nil]
      have e1 := tN_num kind.toNat 7 (by omega) (by decide) []
      rw [ek] at e1
      rw [hb, e1]
      dsimp only
      rw [if_neg hk0, if_neg c2, if_neg c4]
      dsimp only
      rw [if_pos en_empty, hN0]
theorem rq3 (x : Bool) (q : Q) : Ev (fun k => frame_Request_Check.j3 k x q.1 q.2.1 q.2.2.1 q.2.2.2.1 q.2.2.2.2.1 q.2.2.2.2.2.1 q.2.2.2.2.2.2) (if x = true then 4 else if q.1 = 2 then chk q.2.2.2.1 q.2.2.2.2.1 q.2.2.2.2.2.1 q.2.2.2.2.2.2 else 0) := by
  refine Ev.step (fun k => by simp only [frame_Request_Check.j3]; rfl) ?_
  cases x with
  | true => simp only [if_true]; exact Ev.now _
  | false =>
    simp only [Bool.false_eq_true, if_false]
    by_cases c : q.1 = 2
    · simp only [if_pos c]
      exact Ev.bind (f := fun _ t => some t) (check_f _ _ _ _) (Ev.now _)
    · simp only [if_neg c]; exact Ev.now _
theorem rq2 (x : Bool) (q : Q) : Ev (fun k => frame_Request_Check.j2 k x q.1 q.2.1 q.2.2.1 q.2.2.2.1 q.2.2.2.2.1 q.2.2.2.2.2.1 q.2.2.2.2.2.2) (if x = true then 2 else if q.2.2.1.size > 16 then 3 else if q.2.1 < 0 ∨ q.2.1 > 1099511627776 then 4 else if q.1 = 2 then chk q.2.2.2.1 q.2.2.2.2.1 q.2.2.2.2.2.1 q.2.2.2.2.2.2 else 0) := by
  refine Ev.step (fun k => by simp only [frame_Request_Check.j2]; rfl) ?_
  cases x with
  | true => simp only [if_true]; exact Ev.now _
  | false =>
    simp only [Bool.false_eq_true, if_false]
    by_cases c : q.2.2.1.size > 16
    · have c' : (q.2.2.1.size : Int) > 16 := by omega
      simp only [if_pos c, if_pos c']; exact Ev.now _
    · have c' : ¬ (q.2.2.1.size : Int) > 16 := by omega
      simp only [if_neg c, if_neg c']
      by_cases c1 : q.2.1 < 0
      · have h := rq3 true q
        simp only [if_true] at h
        simp only [if_pos c1, c1, true_or, if_true]; exact h
      · by_cases c2 : q.2.1 > 1099511627776
        · have h := rq3 true q
          simp only [if_true] at h
          simp only [if_neg c1, c1, false_or, if_pos c2, decide_eq_true c2]; exact h
        · have h := rq3 false q
          simp only [Bool.false_eq_true, if_false] at h
          simp only [if_neg c1, c1, false_or, if_neg c2, decide_eq_false c2]; exact h
theorem rq1 (x : Bool) (q : Q) : Ev (fun k => frame_Request_Check.j1 k x q.1 q.2.1 q.2.2.1 q.2.2.2.1 q.2.2.2.2.1 q.2.2.2.2.2.1 q.2.2.2.2.2.2) (if x = true ∨ (¬ q.1 = 4 ∧ ¬ q.1 = 7 ∧ ¬ q.2.1 = 0) then 2 else if q.2.2.1.size > 16 then 3 else if q.2.1 < 0 ∨ q.2.1 > 1099511627776 then 4 else if q.1 = 2 then chk q.2.2.2.1 q.2.2.2.2.1 q.2.2.2.2.2.1 q.2.2.2.2.2.2 else 0) := by
  refine Ev.step (fun k => by simp only [frame_Request_Check.j1]; rfl) ?_
  have ht := rq2 true q
  have hf := rq2 false q
  simp only [if_true] at ht
  simp only [Bool.false_eq_true, if_false] at hf
  cases x with
  | true => simp only [if_true, true_or]; exact ht
  | false =>
    simp only [Bool.false_eq_true, if_false, false_or]
    by_cases c4 : q.1 = 4
    · simp only [if_pos c4, c4, not_true, false_and, if_false] at hf ⊢
      exact hf
    · by_cases c7 : q.1 = 7
      · simp only [if_neg c4, if_pos c7, c7, not_true, false_and, and_false, if_false] at hf ⊢
        exact hf
      · by_cases c0 : q.2.1 = 0
        · simp only [if_neg c4, if_neg c7, c0, not_true, and_false, if_false, bne_self_eq_false] at hf ⊢
          exact hf
        · have e : (q.2.1 != 0) = true := bne_iff_ne.mpr c0
          simp only [if_neg c4, if_neg c7, e, c4, c7, c0, not_false_iff, and_self, if_true]
          exact ht
theorem reqCheck_f (q : Q) : Ev (fun k => frame_Request_Check.f k q.1 q.2.1 q.2.2.1 q.2.2.2.1 q.2.2.2.2.1 q.2.2.2.2.2.1 q.2.2.2.2.2.2) (chkQ q) := by
  have ht := rq1 true q
  have hf := rq1 false q
  simp only [true_or, if_true] at ht
  simp only [Bool.false_eq_true, false_or] at hf
  by_cases c1 : q.1 < 1 ∨ 7 < q.1
  · have h6 : chkQ q = 6 := by unfold chkQ; rw [if_pos c1]
    rw [h6]
    unfold frame_Request_Check.f
    have h : Ev (fun k => frame_Request_Check.j0 k true q.1 q.2.1 q.2.2.1 q.2.2.2.1 q.2.2.2.2.1 q.2.2.2.2.2.1 q.2.2.2.2.2.2) 6 := by
      refine Ev.step (f := fun _ => some 6) (fun k => by simp only [frame_Request_Check.j0, if_true]) (Ev.now _)
    by_cases c2 : q.1 < 1
    · simp only [if_pos c2]; exact h
    · simp only [if_neg c2, decide_eq_true (show q.1 > 7 by omega)]; exact h
  · have c2 : ¬ q.1 < 1 := fun h => c1 (.inl h)
    unfold frame_Request_Check.f chkQ
    simp only [if_neg c1, if_neg c2, decide_eq_false (show ¬ q.1 > 7 by omega)]
    refine Ev.step (fun k => by simp only [frame_Request_Check.j0, Bool.false_eq_true, if_false]; rfl) ?_
    by_cases k2 : q.1 = 2
    · simp only [if_pos k2, k2, not_true, false_and, false_or] at hf ⊢
      exact hf
    · simp only [if_neg k2, k2, not_false_iff, true_and] at hf ht ⊢
      by_cases e1 : q.2.2.1.toList = []
      · by_cases e2 : (!(q.2.2.2.1 == 0) || (!(q.2.2.2.2.1.toList == ([] : List UInt8)) || (!(q.2.2.2.2.2.1.toList == ([] : List UInt8)) || (!(q.2.2.2.2.2.2 == 0))))) = true
        · have e3 : ¬ q.2.2.2.1 = 0 ∨ ¬ q.2.2.2.2.1.toList = [] ∨ ¬ q.2.2.2.2.2.1.toList = [] ∨ ¬ q.2.2.2.2.2.2 = 0 := by
            simpa [Bool.or_eq_true, Bool.not_eq_true', beq_eq_false_iff_ne] using e2
          simp only [if_pos e1, e2, e1, not_true, false_or, e3, true_or, if_true]
          exact ht
        · have e2' : (!(q.2.2.2.1 == 0) || (!(q.2.2.2.2.1.toList == ([] : List UInt8)) || (!(q.2.2.2.2.2.1.toList == ([] : List UInt8)) || (!(q.2.2.2.2.2.2 == 0))))) = false := by simpa using e2
          have e3 : ¬ (¬ q.2.2.2.1 = 0 ∨ ¬ q.2.2.2.2.1.toList = [] ∨ ¬ q.2.2.2.2.2.1.toList = [] ∨ ¬ q.2.2.2.2.2.2 = 0) := by
            intro h; exact e2 (by simpa [Bool.or_eq_true, Bool.not_eq_true', beq_eq_false_iff_ne] using h)
          simp only [if_pos e1, e2', e1, not_true, false_or, e3] at hf ⊢
          exact hf
      · simp only [if_neg e1, e1, not_false_iff, true_or, if_true]
        exact ht
theorem tidyQ_f (q : Q) (f7 : -9223372036854775808 ≤ q.2.2.2.2.2.2) (f8 : q.2.2.2.2.2.2 < 9223372036854775808) :
    ∃ q' : Q, Ev (fun k => armoirelaw24_Tidy.f k q.1 q.2.1 q.2.2.1 q.2.2.2.1 q.2.2.2.2.1 q.2.2.2.2.2.1 q.2.2.2.2.2.2) q' ∧ FitQ q' ∧ chkQ q' = 0 := by
  have m1 := i64_mask 8 (by decide) (wrap64 (q.1 - 1))
  have m2 := i64_mask 24 (by decide) q.2.1
  rw [show (((2 ^ 8 - 1 : Nat)) : Int) = 255 from rfl, show (2 : Int) ^ 8 = 256 from rfl] at m1
  rw [show (((2 ^ 24 - 1 : Nat)) : Int) = 16777215 from rfl, show (2 : Int) ^ 24 = 16777216 from rfl] at m2
  unfold armoirelaw24_Tidy.f
  generalize Go.bits .and .i64 (wrap64 (q.1 - 1)) 255 = r at m1
  generalize Go.bits .and .i64 q.2.1 16777215 = z at m2
  have hq : wrap64 (1 + Int.tmod r 7) = 1 + r % 7 := by rw [Int.tmod_eq_emod_of_nonneg m1.1]; unfold wrap64; omega
  rw [hq]
  obtain ⟨p, hp⟩ : ∃ p, p = 1 + r % 7 := ⟨_, rfl⟩
  have hp1 : 1 ≤ p ∧ p ≤ 7 := by omega
  rw [← hp]
  clear hq hp m1
  have e0 : ((⟨#[]⟩ : ByteArray).toList) = [] := ba_toList _
  by_cases c2 : p = 2
  · have ca : armoirelaw01_Cut.f q.2.2.1 16 = some (q.2.2.1.extract 0 (min 16 q.2.2.1.size)) := cut_f q.2.2.1 16
    have sa := cut_size q.2.2.1 16
    obtain ⟨op', a', b', n', he, hc, s1, s2, r0, r1⟩ := tidy_f q.2.2.2.1 q.2.2.2.2.1 q.2.2.2.2.2.1 q.2.2.2.2.2.2 f7 f8
    have hop : op' < 9223372036854775808 := by
      by_cases c : op' < 1 ∨ 17 < op'
      · unfold chk at hc; rw [if_pos c] at hc; exact absurd hc (by decide)
      · omega
    refine ⟨(p, 0, q.2.2.1.extract 0 (min 16 q.2.2.1.size), op', a', b', n'), ?_, ?_, ?_⟩
    · simp only [if_pos c2, ca, Option.bind_some]
      refine Ev.bind he ?_
      simp only [armoirelaw12_Own.f, Option.bind_some]
      exact Ev.now _
    · refine ⟨?_, ?_, ?_, hop, ?_, ?_, r0, r1⟩ <;> dsimp only <;> omega
    · unfold chkQ
      dsimp only
      rw [if_neg (by omega), if_neg (by omega), if_neg (by omega), if_neg (by omega), if_pos c2, hc]
  · have h47 : ∀ N' : Int, 0 ≤ N' → N' < 16777216 → (p = 4 ∨ p = 7 ∨ N' = 0) → FitQ (p, N', (⟨#[]⟩ : ByteArray), 0, (⟨#[]⟩ : ByteArray), (⟨#[]⟩ : ByteArray), 0) ∧ chkQ (p, N', (⟨#[]⟩ : ByteArray), 0, (⟨#[]⟩ : ByteArray), (⟨#[]⟩ : ByteArray), 0) = 0 := by
      intro N' a0 a1 a2
      have z0 : (⟨#[]⟩ : ByteArray).size = 0 := rfl
      refine ⟨?_, ?_⟩
      · refine ⟨?_, ?_, ?_, ?_, ?_, ?_, ?_, ?_⟩ <;> dsimp only <;> omega
      · unfold chkQ
        dsimp only
        rw [if_neg (by omega), if_neg (by
          rintro (⟨_, h | h | h | h | h⟩ | h)
          · exact h e0
          · exact h rfl
          · exact h e0
          · exact h e0
          · exact h rfl
          · omega), if_neg (by omega), if_neg (by omega), if_neg c2]
    by_cases c4 : p = 4
    · refine ⟨(p, z, ⟨#[]⟩, 0, ⟨#[]⟩, ⟨#[]⟩, 0), ?_, h47 z m2.1 m2.2 (.inl c4)⟩
      simp only [if_neg c2, if_pos c4]
      exact Ev.now _
    · by_cases c7 : p = 7
      · refine ⟨(p, z, ⟨#[]⟩, 0, ⟨#[]⟩, ⟨#[]⟩, 0), ?_, h47 z m2.1 m2.2 (.inr (.inl c7))⟩
        simp only [if_neg c2, if_neg c4, if_pos c7]
        exact Ev.now _
      · refine ⟨(p, 0, ⟨#[]⟩, 0, ⟨#[]⟩, ⟨#[]⟩, 0), ?_, h47 0 (by omega) (by omega) (.inr (.inr rfl))⟩
        simp only [if_neg c2, if_neg c4, if_neg c7]
        exact Ev.now _
theorem awake_true : Ev (fun k => armoirelaw24_awake.f k) true := by
  have hf : FitQ ((1, 0, ⟨#[]⟩, 0, ⟨#[]⟩, ⟨#[]⟩, 0) : Q) := by refine ⟨?_, ?_, ?_, ?_, ?_, ?_, ?_, ?_⟩ <;> decide
  have e0 : ((⟨#[]⟩ : ByteArray).toList) = [] := ba_toList _
  have hc : chkQ ((1, 0, ⟨#[]⟩, 0, ⟨#[]⟩, ⟨#[]⟩, 0) : Q) = 0 := by
    unfold chkQ
    dsimp only
    rw [if_neg (by decide), if_neg (by simp [e0]), if_neg (by decide), if_neg (by decide), if_neg (by decide)]
  have ht := reqText_f (1, 0, ⟨#[]⟩, 0, ⟨#[]⟩, ⟨#[]⟩, 0) hf
  have hb : bodyQ ((1, 0, ⟨#[]⟩, 0, ⟨#[]⟩, ⟨#[]⟩, 0) : Q) = [1, 1] := by
    unfold bodyQ
    dsimp only
    rw [if_neg (by decide), if_neg (by decide)]
    simp [numB, nlen, digs, dig]
  have hp := pQ_back (1, 0, ⟨#[]⟩, 0, ⟨#[]⟩, ⟨#[]⟩, 0) hf hc
  rw [hb] at ht hp
  have hz : (sealB ⟨[1, 1].toArray⟩).size = 6 := by rw [sealB_size]; rfl
  have hz' : ((sealB ⟨[1, 1].toArray⟩).size : Int) = 6 := by omega
  have c4 : (4 : Int) ≤ ((sealB ⟨[1, 1].toArray⟩).size : Int) := by omega
  have hx : ((sealB ⟨[1, 1].toArray⟩).extract 4 (sealB ⟨[1, 1].toArray⟩).size).toList = [1, 1] := by rw [sealB_tail, ba_toList]
  have hpf := parse_f (sealB ⟨[1, 1].toArray⟩) (by omega)
  rw [hp] at hpf
  unfold armoirelaw24_awake.f
  refine Ev.bind ht ?_
  refine Ev.bind hpf ?_
  simp only [flat8, if_pos hz', if_pos c4, hx, if_true]
  refine Ev.bind (reqCheck_f (0, 0, ⟨#[]⟩, 0, ⟨#[]⟩, ⟨#[]⟩, 0)) ?_
  rw [show chkQ ((0, 0, ⟨#[]⟩, 0, ⟨#[]⟩, ⟨#[]⟩, 0) : Q) = 6 from by unfold chkQ; rw [if_pos (by decide)]]
  refine Ev.step (f := fun _ => some true) (fun k => by simp only [armoirelaw24_awake.j0]; rfl) (Ev.now _)
end Go.Proofs.Ytkkkmbgflflcnaa.PA

