import Derived.Test.YtkkkmbgflflcnaaQPxFRB
import Derived.Test.YtkkkmbgflflcnaaQPxPAx12
import Derived.Test.YtkkkmbgflflcnaaQPxPAx21
import Derived.Test.YtkkkmbgflflcnaaQPxPAx22
import Derived.Test.YtkkkmbgflflcnaaQPxPAx23
import Derived.Test.YtkkkmbgflflcnaaQPxPAx24
import Derived.Test.YtkkkmbgflflcnaaQPxFCB
import Derived.Test.YtkkkmbgflflcnaaQPxPAx1
import Derived.Test.YtkkkmbgflflcnaaQPxPAx11
import Derived.Test.YtkkkmbgflflcnaaQPxPAx15
namespace Go.Proofs.Ytkkkmbgflflcnaa.PA
set_option linter.unusedSimpArgs false
open Go.RowKit Go.Proofs.YtkkkmbgflflcnaaW.PrintWords Go.Proofs.YtkkkmbgflflcnaaW.PrintLast Go.Proofs.YtkkkmbgflflcnaaW.PrintMore Go.Proofs.Ytkkkmbgflflcnaa Go.Proofs.Ytkkkmbgflflcnaa.PL CrcM
abbrev nz (c : Int) (t : ByteArray) (m : Int) : Bool := !(c == 0) || (!(t.toList == ([] : List UInt8)) || (!(m == 0)))
def resB (c : Int) (t : ByteArray) (m : Int) : List UInt8 := numB c.toNat ++ strB t ++ numB (zig m)
def bodyP (e n c : Int) (t : ByteArray) (m : Int) : List UInt8 := numB e.toNat ++ numB n.toNat ++ (if nz c t m = true then resB c t m else [])
def chkP (e n c : Int) (t : ByteArray) (m : Int) : Int := if e < 0 ∨ e > 19 ∨ n < 0 ∨ n > 1099511627776 then 4 else if nz c t m = true then chkR c t m else 0
theorem rp_t (e n c : Int) (t : ByteArray) (m : Int) : Ev (fun k => frame_Reply_Check.j0 k true e n c t m) 4 :=
  Ev.step (fun k => by simp only [frame_Reply_Check.j0, if_true]) (Ev.now _)
theorem rp_n (e n c : Int) (t : ByteArray) (m : Int) : Ev (fun k => frame_Reply_Check.j0 k false e n c t m) (if nz c t m = true then chkR c t m else 0) := by
  refine Ev.step (fun k => by simp only [frame_Reply_Check.j0, Bool.false_eq_true, if_false]; rfl) ?_
  by_cases hc : nz c t m = true
  · simp only [if_pos hc]
    exact Ev.bind (f := fun _ t => some t) (checkR_f c t m) (Ev.now _)
  · simp only [if_neg hc]; exact Ev.now _
theorem replyCheck_f (e n c : Int) (t : ByteArray) (m : Int) : Ev (fun k => frame_Reply_Check.f k e n c t m) (chkP e n c t m) := by
  unfold frame_Reply_Check.f chkP
  by_cases c1 : e < 0
  · rw [if_pos (.inl c1)]; simp only [if_pos c1]; exact rp_t ..
  simp only [if_neg c1]
  by_cases c2 : e > 19
  · rw [if_pos (.inr (.inl c2))]; simp only [if_pos c2]; exact rp_t ..
  simp only [if_neg c2]
  by_cases c3 : n < 0
  · rw [if_pos (.inr (.inr (.inl c3)))]; simp only [if_pos c3]; exact rp_t ..
  simp only [if_neg c3]
  by_cases c4 : n > 1099511627776
  · rw [if_pos (.inr (.inr (.inr c4))), decide_eq_true c4]; exact rp_t ..
  · rw [if_neg (by omega), decide_eq_false c4]; exact rp_n ..
theorem rrp_t (e n c : Int) (t : ByteArray) (m : Int) : Ev (fun k => armoireref24_CheckReply.j0 k true e n c t m) 4 :=
  Ev.step (fun k => by simp only [armoireref24_CheckReply.j0, if_true]) (Ev.now _)
theorem rrp_n (e n c : Int) (t : ByteArray) (m : Int) : Ev (fun k => armoireref24_CheckReply.j0 k false e n c t m) (if nz c t m = true then chkR c t m else 0) := by
  refine Ev.step (fun k => by simp only [armoireref24_CheckReply.j0, Bool.false_eq_true, if_false]; rfl) ?_
  by_cases hc : nz c t m = true
  · simp only [if_pos hc]
    exact Ev.bind (f := fun _ t => some t) (rcheckR_f c t m) (Ev.now _)
  · simp only [if_neg hc]; exact Ev.now _
theorem rreplyCheck_f (e n c : Int) (t : ByteArray) (m : Int) : Ev (fun k => armoireref24_CheckReply.f k e n c t m) (chkP e n c t m) := by
  unfold armoireref24_CheckReply.f chkP
  by_cases c1 : e < 0
  · rw [if_pos (.inl c1)]; simp only [if_pos c1]; exact rrp_t ..
  simp only [if_neg c1]
  by_cases c2 : e > 19
  · rw [if_pos (.inr (.inl c2))]; simp only [if_pos c2]; exact rrp_t ..
  simp only [if_neg c2]
  by_cases c3 : n < 0
  · rw [if_pos (.inr (.inr (.inl c3)))]; simp only [if_pos c3]; exact rrp_t ..
  simp only [if_neg c3]
  by_cases c4 : n > 1099511627776
  · rw [if_pos (.inr (.inr (.inr c4))), decide_eq_true c4]; exact rrp_t ..
  · rw [if_neg (by omega), decide_eq_false c4]; exact rrp_n ..
theorem putR_f (c : Int) (t : ByteArray) (m : Int) (s : ByteArray) (hs : s.size ≤ 100000) (hc : c < 9223372036854775808) (ht : t.size ≤ 1000) (h0 : -9223372036854775808 ≤ m) (h1 : m < 9223372036854775808) :
    method_Result_Put.f c t m s = some ⟨(s.data.toList ++ resB c t m).toArray⟩ := by
  have l1 : (numB c.toNat).length ≤ 9 := numB_length _ (by omega)
  have l2 := strB_length t (by omega)
  have hz := ba_size s
  unfold method_Result_Put.f resB
  rw [wN1 s c (by omega) hc, Option.bind_some, wS1 _ t (by rw [ba_mk_size, List.length_append]; omega) (by omega), Option.bind_some,
    wI1 _ m (by rw [ba_mk_size]; rw [List.length_append, List.length_append]; omega) h0 h1, Option.bind_some]
  simp only [List.append_assoc]
theorem resB_length (c : Int) (t : ByteArray) (m : Int) (hc : c < 9223372036854775808) (ht : t.size ≤ 1000) (h0 : -9223372036854775808 ≤ m) (h1 : m < 9223372036854775808) : (resB c t m).length ≤ 3000 ∧ 1 ≤ (resB c t m).length := by
  have l1 : (numB c.toNat).length ≤ 9 := numB_length _ (by omega)
  have l2 := strB_length t (by omega)
  have l4 : (numB (zig m)).length ≤ 9 := numB_length _ (zig_lt m h0 h1)
  have l5 : 1 ≤ (numB c.toNat).length := by unfold numB; simp
  unfold resB
  rw [List.length_append, List.length_append]; omega
theorem bodyP_length (e n c : Int) (t : ByteArray) (m : Int) (he : e < 9223372036854775808) (hn : n < 9223372036854775808) (hc : c < 9223372036854775808) (ht : t.size ≤ 1000) (h0 : -9223372036854775808 ≤ m) (h1 : m < 9223372036854775808) : (bodyP e n c t m).length ≤ 4000 := by
  have l1 : (numB e.toNat).length ≤ 9 := numB_length _ (by omega)
  have l2 : (numB n.toNat).length ≤ 9 := numB_length _ (by omega)
  have l3 := resB_length c t m hc ht h0 h1
  unfold bodyP
  split
  · rw [List.length_append, List.length_append]; omega
  · rw [List.length_append, List.length_append, List.length_nil]; omega
theorem replyText_f (e n c : Int) (t : ByteArray) (m : Int) (he : e < 9223372036854775808) (hn : n < 9223372036854775808) (hc : c < 9223372036854775808) (ht : t.size ≤ 1000) (h0 : -9223372036854775808 ≤ m) (h1 : m < 9223372036854775808) :
    Ev (fun k => frame_Reply_Text.f k e n c t m) (sealB ⟨(bodyP e n c t m).toArray⟩) := by
  have l1 : (numB e.toNat).length ≤ 9 := numB_length _ (by omega)
  have l2 : (numB n.toNat).length ≤ 9 := numB_length _ (by omega)
  have l3 := resB_length c t m hc ht h0 h1
  unfold frame_Reply_Text.f bodyP
  have e0 := wN2 ⟨#[]⟩ e n (by decide) he hn
  rw [show (⟨#[]⟩ : ByteArray).data.toList = [] from rfl, List.nil_append] at e0
  simp only [e0, Option.bind_some]
  by_cases hz : nz c t m = true
  · have e1 := putR_f c t m ⟨(numB e.toNat ++ numB n.toNat).toArray⟩ (by rw [ba_mk_size, List.length_append]; omega) hc ht h0 h1
    rw [ba_mk] at e1
    simp only [if_pos hz, e1, Option.bind_some]
    exact text_fin _ (by rw [List.length_append, List.length_append]; omega)
  · simp only [if_neg hz, List.append_nil]
    exact text_fin _ (by rw [List.length_append]; omega)
theorem rtextR_f (c : Int) (t : ByteArray) (m : Int) (hc : c < 9223372036854775808) (ht : t.size ≤ 1000) (h0 : -9223372036854775808 ≤ m) (h1 : m < 9223372036854775808) :
    Ev (fun k => armoireref12_TextResult.f k c t m) ⟨(resB c t m).toArray⟩ := by
  have l1 : (numB c.toNat).length ≤ 9 := numB_length _ (by omega)
  have l2 := strB_length t (by omega)
  have l4 : (numB (zig m)).length ≤ 9 := numB_length _ (zig_lt m h0 h1)
  unfold armoireref12_TextResult.f resB
  refine Ev.bind (rwN_f c hc) ?_
  refine Ev.bind (rwS_f t (by omega)) ?_
  have s1 : (⟨(numB c.toNat).toArray⟩ : ByteArray).size + (⟨(strB t).toArray⟩ : ByteArray).size ≤ 9223372036854775807 := by rw [ba_mk_size, ba_mk_size]; omega
  simp only [if_pos s1, ba_mk_append]
  refine Ev.bind (rwI_f m h0 h1) ?_
  have s2 : (⟨(numB c.toNat ++ strB t).toArray⟩ : ByteArray).size + (⟨(numB (zig m)).toArray⟩ : ByteArray).size ≤ 9223372036854775807 := by rw [ba_mk_size, ba_mk_size, List.length_append]; omega
  simp only [if_pos s2, ba_mk_append]
  exact Ev.now _
theorem rr_j0 (x : ByteArray) (hx : x.size ≤ 1000000) : Ev (fun k => armoireref24_TextReply.j0 k x) (sealB x) :=
  Ev.step (fun k => by simp only [armoireref24_TextReply.j0]) (rseal_f x hx)
theorem rreplyText_f (e n c : Int) (t : ByteArray) (m : Int) (he : e < 9223372036854775808) (hn : n < 9223372036854775808) (hc : c < 9223372036854775808) (ht : t.size ≤ 1000) (h0 : -9223372036854775808 ≤ m) (h1 : m < 9223372036854775808) :
    Ev (fun k => armoireref24_TextReply.f k e n c t m) (sealB ⟨(bodyP e n c t m).toArray⟩) := by
  have l1 : (numB e.toNat).length ≤ 9 := numB_length _ (by omega)
  have l2 : (numB n.toNat).length ≤ 9 := numB_length _ (by omega)
  have l3 := resB_length c t m hc ht h0 h1
  unfold armoireref24_TextReply.f bodyP
  refine Ev.bind (rwN_f e he) ?_
  refine Ev.bind (rwN_f n hn) ?_
  have s1 : (⟨(numB e.toNat).toArray⟩ : ByteArray).size + (⟨(numB n.toNat).toArray⟩ : ByteArray).size ≤ 9223372036854775807 := by rw [ba_mk_size, ba_mk_size]; omega
  simp only [if_pos s1, ba_mk_append]
  by_cases hz : nz c t m = true
  · simp only [if_pos hz]
    refine Ev.bind (rtextR_f c t m hc ht h0 h1) ?_
    have s2 : (⟨(numB e.toNat ++ numB n.toNat).toArray⟩ : ByteArray).size + (⟨(resB c t m).toArray⟩ : ByteArray).size ≤ 9223372036854775807 := by rw [ba_mk_size, ba_mk_size, List.length_append]; omega
    simp only [if_pos s2, ba_mk_append]
    exact rr_j0 _ (by rw [ba_mk_size, List.length_append, List.length_append]; omega)
  · simp only [if_neg hz, List.append_nil]
    exact rr_j0 _ (by rw [ba_mk_size, List.length_append]; omega)
abbrev PP := Int × Int × Int × ByteArray × Int
def P0 : PP := (0, 0, 0, ⟨#[]⟩, 0)
def pP (a : ByteArray) : PP × Int :=
  let s := op4 a
  if ¬ s.2 = 0 then (P0, s.2)
  else
    let x := tN s.1 0 19
    let y := tN x.2.1 x.2.2 1099511627776
    let z : Int × ByteArray × Int × ByteArray × Int := if y.2.1.size > 0 then rR y.2.1 y.2.2 else (0, ⟨#[]⟩, 0, y.2.1, y.2.2)
    if (en z.2.2.2.1 z.2.2.2.2).2 = 0 then ((x.1, y.1, z.1, z.2.1, z.2.2.1), 0) else (P0, (en z.2.2.2.1 z.2.2.2.2).2)
def flat6 (r : PP × Int) : Int × Int × Int × ByteArray × Int × Int := (r.1.1, r.1.2.1, r.1.2.2.1, r.1.2.2.2.1, r.1.2.2.2.2, r.2)
theorem pj0 (s : ByteArray) (x : Int) (q : PP) : Ev (fun k => frame_ParseReply.j0 k s x q.1 q.2.1 q.2.2.1 q.2.2.2.1 q.2.2.2.2) (flat6 (if (en s x).2 = 0 then (q, 0) else (P0, (en s x).2))) := by
  refine Ev.step (fun k => by simp only [frame_ParseReply.j0, end_f, Option.bind_some]; rfl) ?_
  by_cases c : (en s x).2 = 0
  · simp only [if_pos c]; exact Ev.now _
  · simp only [if_neg c]; exact Ev.now _
theorem parseReply_f (a : ByteArray) (ha : a.size ≤ 1000000) : Ev (fun k => frame_ParseReply.f k a) (flat6 (pP a)) := by
  have hv := op4_val a ha
  unfold frame_ParseReply.f
  refine Ev.bind (open_f a ha) ?_
  unfold pP
  by_cases c : (op4 a).2 = 0
  rotate_left
  · rw [if_pos c]
    simp only [if_neg c]
    exact Ev.now _
  rw [if_neg (fun h => h c)]
  have hv1 := hv.tN 19
  have hv2 := hv1.tN 1099511627776
  simp only [if_pos c, codec_Read.f, Option.bind_some, tN_f _ _ _ hv, tN_f _ _ _ hv1, codec_In_Len.f]
  generalize tN (op4 a).1 0 19 = x at hv2 ⊢
  generalize tN x.2.1 x.2.2 1099511627776 = y at hv2 ⊢
  by_cases cz : y.2.1.size > 0
  · have cz' : (y.2.1.size : Int) > 0 := by omega
    simp only [if_pos cz, if_pos cz']
    refine Ev.bind (rR_f _ _ hv2) ?_
    exact pj0 _ _ (x.1, y.1, (rR y.2.1 y.2.2).1, (rR y.2.1 y.2.2).2.1, (rR y.2.1 y.2.2).2.2.1)
  · have cz' : ¬ (y.2.1.size : Int) > 0 := by omega
    simp only [if_neg cz, if_neg cz']
    exact pj0 _ _ (x.1, y.1, 0, ⟨#[]⟩, 0)
theorem rR_back (c : Int) (t : ByteArray) (m : Int) (hc : chkR c t m = 0) (h0 : -9223372036854775808 ≤ m) (h1 : m < 9223372036854775808) :
    rR ⟨(resB c t m).toArray⟩ 0 = (c, t, m, ⟨#[]⟩, 0) := by
  have ho : c = 1 ∨ c = 2 := by
    by_cases x : ¬ c = 1 ∧ ¬ c = 2
    · unfold chkR at hc; rw [if_pos x] at hc; exact absurd hc (by decide)
    · omega
  have hab : t.size ≤ 24 := by
    by_cases x : t.size > 24
    · unfold chkR at hc; rw [if_neg (by omega), if_pos x] at hc; exact absurd hc (by decide)
    · omega
  have e1 := tN_num c.toNat 2 (by omega) (by decide) (strB t ++ (numB (zig m) ++ []))
  have e2 := tS_str t 24 (by omega) (by decide) (numB (zig m) ++ [])
  have e4 := tI_num m h0 h1 []
  rw [show ((c.toNat : Nat) : Int) = c by omega] at e1
  unfold rR resB
  rw [show numB c.toNat ++ strB t ++ numB (zig m) = numB c.toNat ++ (strB t ++ (numB (zig m) ++ [])) by simp only [List.append_assoc, List.append_nil]]
  rw [e1]
  dsimp only
  rw [e2]
  dsimp only
  rw [e4]
  dsimp only
  rw [if_pos ⟨rfl, hc⟩]
theorem chkP_ok (e n c : Int) (t : ByteArray) (m : Int) (h : chkP e n c t m = 0) : 0 ≤ e ∧ e ≤ 19 ∧ 0 ≤ n ∧ n ≤ 1099511627776 ∧ (nz c t m = true → chkR c t m = 0) := by
  unfold chkP at h
  by_cases c1 : e < 0 ∨ e > 19 ∨ n < 0 ∨ n > 1099511627776
  · rw [if_pos c1] at h; exact absurd h (by decide)
  · rw [if_neg c1] at h
    exact ⟨by omega, by omega, by omega, by omega, fun hz => by rwa [if_pos hz] at h⟩
theorem nz_no (c : Int) (t : ByteArray) (m : Int) (h : ¬ nz c t m = true) : c = 0 ∧ t = ⟨#[]⟩ ∧ m = 0 := by
  simp only [nz, Bool.not_eq_true, Bool.or_eq_false_iff, Bool.not_eq_false', beq_iff_eq] at h
  exact ⟨h.1, bytes_ext (by have := h.2.1; rw [ba_toList] at this; rw [this]), h.2.2⟩
theorem pP_back (e n c : Int) (t : ByteArray) (m : Int) (h : chkP e n c t m = 0) (hc2 : c < 9223372036854775808) (ht : t.size ≤ 1000) (h0 : -9223372036854775808 ≤ m) (h1 : m < 9223372036854775808) :
    pP (sealB ⟨(bodyP e n c t m).toArray⟩) = ((e, n, c, t, m), 0) := by
  obtain ⟨a1, a2, a3, a4, a5⟩ := chkP_ok e n c t m h
  unfold pP
  rw [op4_seal]
  rw [if_neg (by simp)]
  dsimp only
  have ek : ((e.toNat : Nat) : Int) = e := by omega
  have en0 : ((n.toNat : Nat) : Int) = n := by omega
  unfold bodyP
  by_cases hz : nz c t m = true
  · have hl := resB_length c t m hc2 ht h0 h1
    have e1 := tN_num e.toNat 19 (by omega) (by decide) (numB n.toNat ++ resB c t m)
    have e2 := tN_num n.toNat 1099511627776 (by omega) (by decide) (resB c t m)
    rw [ek] at e1
    rw [en0] at e2
    rw [if_pos hz, List.append_assoc, e1]
    dsimp only
    rw [e2]
    dsimp only
    rw [if_pos (show (⟨(resB c t m).toArray⟩ : ByteArray).size > 0 by rw [ba_mk_size]; omega), rR_back c t m (a5 hz) h0 h1]
    dsimp only
    rw [if_pos (show (en ⟨#[]⟩ 0).2 = 0 from rfl)]
  · obtain ⟨rfl, rfl, rfl⟩ := nz_no c t m hz
    have e1 := tN_num e.toNat 19 (by omega) (by decide) (numB n.toNat ++ [])
    have e2 := tN_num n.toNat 1099511627776 (by omega) (by decide) []
    rw [ek] at e1
    rw [en0] at e2
    rw [if_neg hz, List.append_assoc, e1]
    dsimp only
    rw [e2]
    dsimp only
    rw [if_neg (show ¬ (⟨([] : List UInt8).toArray⟩ : ByteArray).size > 0 by rw [ba_mk_size]; decide)]
    dsimp only
    rw [if_pos (show (en ⟨([] : List UInt8).toArray⟩ 0).2 = 0 from rfl)]
end Go.Proofs.Ytkkkmbgflflcnaa.PA

namespace Go.Proofs.Ytkkkmbgflflcnaa.PA
set_option linter.unusedSimpArgs false
open Go.RowKit Go.Proofs.YtkkkmbgflflcnaaW.PrintWords Go.Proofs.YtkkkmbgflflcnaaW.PrintLast Go.Proofs.YtkkkmbgflflcnaaW.PrintMore Go.Proofs.Ytkkkmbgflflcnaa
theorem cut_f (s : ByteArray) (n : Nat) : armoirelaw01_Cut.f s (n : Int) = some (s.extract 0 (min n s.size)) := by
  unfold armoirelaw01_Cut.f
  by_cases h : (s.size : Int) > n
  · rw [if_pos h, if_pos (by omega), if_pos (by omega), show min n s.size = n by omega]
    rfl
  · rw [if_neg h, show min n s.size = s.size by omega]
    simp
theorem cut_size (s : ByteArray) (n : Nat) : (s.extract 0 (min n s.size)).size ≤ n := by
  rw [ba_size, ba_extract, List.length_take]; omega
end Go.Proofs.Ytkkkmbgflflcnaa.PA

namespace Go.Proofs.Ytkkkmbgflflcnaa.PA
set_option linter.unusedSimpArgs false
open Go.RowKit Go.Proofs.YtkkkmbgflflcnaaW.PrintWords Go.Proofs.YtkkkmbgflflcnaaW.PrintLast Go.Proofs.YtkkkmbgflflcnaaW.PrintMore Go.Proofs.Ytkkkmbgflflcnaa Go.Proofs.Ytkkkmbgflflcnaa.PL CrcM
theorem rC_back (op : Int) (a b : ByteArray) (n : Int) (hc : chk op a b n = 0) (h0 : -9223372036854775808 ≤ n) (h1 : n < 9223372036854775808) :
    rC ⟨(numB op.toNat ++ strB a ++ strB b ++ numB (zig n)).toArray⟩ 0 = (op, a, b, n, ⟨#[]⟩, 0) := by
  have ho : 1 ≤ op ∧ op ≤ 17 := by
    by_cases c : op < 1 ∨ 17 < op
    · unfold chk at hc; rw [if_pos c] at hc; exact absurd hc (by decide)
    · omega
  have hab : a.size ≤ 24 ∧ b.size ≤ 24 := by
    by_cases c : a.size > 24 ∨ b.size > 24
    · unfold chk at hc; rw [if_neg (by omega)] at hc
      split at hc <;> first | exact absurd hc (by decide) | (rw [if_pos c] at hc; exact absurd hc (by decide))
    · omega
  have e1 := tN_num op.toNat 17 (by omega) (by decide) (strB a ++ (strB b ++ (numB (zig n) ++ [])))
  have e2 := tS_str a 24 (by omega) (by decide) (strB b ++ (numB (zig n) ++ []))
  have e3 := tS_str b 24 (by omega) (by decide) (numB (zig n) ++ [])
  have e4 := tI_num n h0 h1 []
  rw [show ((op.toNat : Nat) : Int) = op by omega] at e1
  unfold rC
  rw [show numB op.toNat ++ strB a ++ strB b ++ numB (zig n) = numB op.toNat ++ (strB a ++ (strB b ++ (numB (zig n) ++ []))) by simp only [List.append_assoc, List.append_nil]]
  rw [e1]
  dsimp only
  rw [e2]
  dsimp only
  rw [e3]
  dsimp only
  rw [e4]
  dsimp only
  rw [if_pos ⟨rfl, hc⟩]
theorem nil_of {s : ByteArray} (h : s.toList = []) : s = ⟨#[]⟩ := bytes_ext (by rw [ba_toList] at h; rw [h])
theorem chkQ_ok (q : Q) (h : chkQ q = 0) : 1 ≤ q.1 ∧ q.1 ≤ 7 ∧ (q.1 = 2 ∨ (q.2.2.1 = ⟨#[]⟩ ∧ q.2.2.2.1 = 0 ∧ q.2.2.2.2.1 = ⟨#[]⟩ ∧ q.2.2.2.2.2.1 = ⟨#[]⟩ ∧ q.2.2.2.2.2.2 = 0)) ∧ (q.1 = 4 ∨ q.1 = 7 ∨ q.2.1 = 0) ∧ q.2.2.1.size ≤ 16 ∧ 0 ≤ q.2.1 ∧ q.2.1 ≤ 1099511627776 ∧ (q.1 = 2 → chk q.2.2.2.1 q.2.2.2.2.1 q.2.2.2.2.2.1 q.2.2.2.2.2.2 = 0) := by
  unfold chkQ at h
  by_cases c1 : q.1 < 1 ∨ 7 < q.1
  · rw [if_pos c1] at h; exact absurd h (by decide)
  rw [if_neg c1] at h
  by_cases c2 : (¬ q.1 = 2 ∧ (¬ q.2.2.1.toList = [] ∨ ¬ q.2.2.2.1 = 0 ∨ ¬ q.2.2.2.2.1.toList = [] ∨ ¬ q.2.2.2.2.2.1.toList = [] ∨ ¬ q.2.2.2.2.2.2 = 0)) ∨ (¬ q.1 = 4 ∧ ¬ q.1 = 7 ∧ ¬ q.2.1 = 0)
  · rw [if_pos c2] at h; exact absurd h (by decide)
  rw [if_neg c2] at h
  by_cases c3 : q.2.2.1.size > 16
  · rw [if_pos c3] at h; exact absurd h (by decide)
  rw [if_neg c3] at h
  by_cases c4 : q.2.1 < 0 ∨ q.2.1 > 1099511627776
  · rw [if_pos c4] at h; exact absurd h (by decide)
  rw [if_neg c4] at h
  refine ⟨by omega, by omega, ?_, by omega, by omega, by omega, by omega, fun h2 => by rwa [if_pos h2] at h⟩
  by_cases c5 : q.1 = 2
  · exact .inl c5
  · right
    have c6 := fun x => c2 (.inl ⟨c5, x⟩)
    refine ⟨nil_of (Classical.byContradiction fun x => c6 (.inl x)), Classical.byContradiction fun x => c6 (.inr (.inl x)), nil_of (Classical.byContradiction fun x => c6 (.inr (.inr (.inl x)))), nil_of (Classical.byContradiction fun x => c6 (.inr (.inr (.inr (.inl x))))), Classical.byContradiction fun x => c6 (.inr (.inr (.inr (.inr x))))⟩
theorem en_empty : (en ⟨#[]⟩ 0).2 = 0 := rfl
theorem pQ_back (q : Q) (hf : FitQ q) (h : chkQ q = 0) : pQ (sealB ⟨(bodyQ q).toArray⟩) = (q, 0) := by
  obtain ⟨h1, h7, hc, hN, ho, n0, n1, hcall⟩ := chkQ_ok q h
  obtain ⟨f1, f2, f3, f4, f5, f6, f7, f8⟩ := hf
  obtain ⟨kind, nn, obj, op, a, b, n⟩ := q
  dsimp only at *
  unfold pQ
  rw [op4_seal]
  rw [if_neg (by simp)]
  dsimp only
  have hk0 : ¬ kind = 0 := by omega
  have ek : ((kind.toNat : Nat) : Int) = kind := by omega
  have en0 : ((nn.toNat : Nat) : Int) = nn := by omega
  by_cases c2 : kind = 2
  · have hN0 : nn = 0 := by omega
    have hb : bodyQ (kind, nn, obj, op, a, b, n) = numB kind.toNat ++ (strB obj ++ callB op a b n) := by
      unfold bodyQ; rw [if_pos c2, List.append_assoc]
    have e1 := tN_num kind.toNat 7 (by omega) (by decide) (strB obj ++ callB op a b n)
    have e2 := tS_str obj 16 (by omega) (by decide) (callB op a b n)
    have e3 := rC_back op a b n (hcall c2) f7 f8
    rw [ek] at e1
    rw [hb, e1]
    dsimp only
    rw [if_neg hk0, if_pos c2, e2]
    dsimp only
    rw [show numB op.toNat ++ strB a ++ strB b ++ numB (zig n) = callB op a b n from rfl] at e3
    rw [e3]
    dsimp only
    rw [if_pos en_empty, hN0]
  · obtain ⟨o1, o2, o3, o4, o5⟩ := hc.resolve_left c2
    subst o1 o2 o3 o4 o5
    by_cases c4 : kind = 4 ∨ kind = 7
    · have hb : bodyQ (kind, nn, ⟨#[]⟩, 0, ⟨#[]⟩, ⟨#[]⟩, 0) = numB kind.toNat ++ (numB nn.toNat ++ []) := by
        unfold bodyQ; rw [if_neg c2, if_pos c4, List.append_nil]
      have e1 := tN_num kind.toNat 7 (by omega) (by decide) (numB nn.toNat ++ [])
      have e2 := tN_num nn.toNat 1099511627776 (by omega) (by decide) []
      rw [ek] at e1
      rw [en0] at e2
      rw [hb, e1]
      dsimp only
      rw [if_neg hk0, if_neg c2, if_pos c4, e2]
      dsimp only
      rw [if_pos en_empty]
    · have hN0 : nn = 0 := by omega
      have hb : bodyQ (kind, nn, ⟨#[]⟩, 0, ⟨#[]⟩, ⟨#[]⟩, 0) = numB kind.toNat ++ [] := by
        unfold bodyQ; rw [if_neg c2, if_neg c4, List.append_nil]
      have e1 := tN_num kind.toNat 7 (by omega) (by decide) []
      rw [ek] at e1
      rw [hb, e1]
      dsimp only
      rw [if_neg hk0, if_neg c2, if_neg c4]
      dsimp only
      rw [if_pos en_empty, hN0]
theorem rq3 (x : Bool) (q : Q) : Ev (fun k => frame_Request_Check.j3 k x q.1 q.2.1 q.2.2.1 q.2.2.2.1 q.2.2.2.2.1 q.2.2.2.2.2.1 q.2.2.2.2.2.2) (if x = true then 4 else if q.1 = 2 then chk q.2.2.2.1 q.2.2.2.2.1 q.2.2.2.2.2.1 q.2.2.2.2.2.2 else 0) := by
  refine Ev.step (fun k => by simp only [frame_Request_Check.j3]; rfl) ?_
  cases x with
  | true => simp only [if_true]; exact Ev.now _
  | false =>
    simp only [Bool.false_eq_true, if_false]
    by_cases c : q.1 = 2
    · simp only [if_pos c]
      exact Ev.bind (f := fun _ t => some t) (check_f _ _ _ _) (Ev.now _)
    · simp only [if_neg c]; exact Ev.now _
theorem rq2 (x : Bool) (q : Q) : Ev (fun k => frame_Request_Check.j2 k x q.1 q.2.1 q.2.2.1 q.2.2.2.1 q.2.2.2.2.1 q.2.2.2.2.2.1 q.2.2.2.2.2.2) (if x = true then 2 else if q.2.2.1.size > 16 then 3 else if q.2.1 < 0 ∨ q.2.1 > 1099511627776 then 4 else if q.1 = 2 then chk q.2.2.2.1 q.2.2.2.2.1 q.2.2.2.2.2.1 q.2.2.2.2.2.2 else 0) := by
  refine Ev.step (fun k => by simp only [frame_Request_Check.j2]; rfl) ?_
  cases x with
  | true => simp only [if_true]; exact Ev.now _
  | false =>
    simp only [Bool.false_eq_true, if_false]
    by_cases c : q.2.2.1.size > 16
    · have c' : (q.2.2.1.size : Int) > 16 := by omega
      simp only [if_pos c, if_pos c']; exact Ev.now _
    · have c' : ¬ (q.2.2.1.size : Int) > 16 := by omega
      simp only [if_neg c, if_neg c']
      by_cases c1 : q.2.1 < 0
      · have h := rq3 true q
        simp only [if_true] at h
        simp only [if_pos c1, c1, true_or, if_true]; exact h
      · by_cases c2 : q.2.1 > 1099511627776
        · have h := rq3 true q
          simp only [if_true] at h
          simp only [if_neg c1, c1, false_or, if_pos c2, decide_eq_true c2]; exact h
        · have h := rq3 false q
          simp only [Bool.false_eq_true, if_false] at h
          simp only [if_neg c1, c1, false_or, if_neg c2, decide_eq_false c2]; exact h
theorem rq1 (x : Bool) (q : Q) : Ev (fun k => frame_Request_Check.j1 k x q.1 q.2.1 q.2.2.1 q.2.2.2.1 q.2.2.2.2.1 q.2.2.2.2.2.1 q.2.2.2.2.2.2) (if x = true ∨ (¬ q.1 = 4 ∧ ¬ q.1 = 7 ∧ ¬ q.2.1 = 0) then 2 else if q.2.2.1.size > 16 then 3 else if q.2.1 < 0 ∨ q.2.1 > 1099511627776 then 4 else if q.1 = 2 then chk q.2.2.2.1 q.2.2.2.2.1 q.2.2.2.2.2.1 q.2.2.2.2.2.2 else 0) := by
  refine Ev.step (fun k => by simp only [frame_Request_Check.j1]; rfl) ?_
  have ht := rq2 true q
  have hf := rq2 false q
  simp only [if_true] at ht
  simp only [Bool.false_eq_true, if_false] at hf
  cases x with
  | true => simp only [if_true, true_or]; exact ht
  | false =>
    simp only [Bool.false_eq_true, if_false, false_or]
    by_cases c4 : q.1 = 4
    · simp only [if_pos c4, c4, not_true, false_and, if_false] at hf ⊢
      exact hf
    · by_cases c7 : q.1 = 7
      · simp only [if_neg c4, if_pos c7, c7, not_true, false_and, and_false, if_false] at hf ⊢
        exact hf
      · by_cases c0 : q.2.1 = 0
        · simp only [if_neg c4, if_neg c7, c0, not_true, and_false, if_false, bne_self_eq_false] at hf ⊢
          exact hf
        · have e : (q.2.1 != 0) = true := bne_iff_ne.mpr c0
          simp only [if_neg c4, if_neg c7, e, c4, c7, c0, not_false_iff, and_self, if_true]
          exact ht
theorem reqCheck_f (q : Q) : Ev (fun k => frame_Request_Check.f k q.1 q.2.1 q.2.2.1 q.2.2.2.1 q.2.2.2.2.1 q.2.2.2.2.2.1 q.2.2.2.2.2.2) (chkQ q) := by
  have ht := rq1 true q
  have hf := rq1 false q
  simp only [true_or, if_true] at ht
  simp only [Bool.false_eq_true, false_or] at hf
  by_cases c1 : q.1 < 1 ∨ 7 < q.1
  · have h6 : chkQ q = 6 := by unfold chkQ; rw [if_pos c1]
    rw [h6]
    unfold frame_Request_Check.f
    have h : Ev (fun k => frame_Request_Check.j0 k true q.1 q.2.1 q.2.2.1 q.2.2.2.1 q.2.2.2.2.1 q.2.2.2.2.2.1 q.2.2.2.2.2.2) 6 := by
      refine Ev.step (f := fun _ => some 6) (fun k => by simp only [frame_Request_Check.j0, if_true]) (Ev.now _)
    by_cases c2 : q.1 < 1
    · simp only [if_pos c2]; exact h
    · simp only [if_neg c2, decide_eq_true (show q.1 > 7 by omega)]; exact h
  · have c2 : ¬ q.1 < 1 := fun h => c1 (.inl h)
    unfold frame_Request_Check.f chkQ
    simp only [if_neg c1, if_neg c2, decide_eq_false (show ¬ q.1 > 7 by omega)]
    refine Ev.step (fun k => by simp only [frame_Request_Check.j0, Bool.false_eq_true, if_false]; rfl) ?_
    by_cases k2 : q.1 = 2
    · simp only [if_pos k2, k2, not_true, false_and, false_or] at hf ⊢
      exact hf
    · simp only [if_neg k2, k2, not_false_iff, true_and] at hf ht ⊢
      by_cases e1 : q.2.2.1.toList = []
      · by_cases e2 : (!(q.2.2.2.1 == 0) || (!(q.2.2.2.2.1.toList == ([] : List UInt8)) || (!(q.2.2.2.2.2.1.toList == ([] : List UInt8)) || (!(q.2.2.2.2.2.2 == 0))))) = true
        · have e3 : ¬ q.2.2.2.1 = 0 ∨ ¬ q.2.2.2.2.1.toList = [] ∨ ¬ q.2.2.2.2.2.1.toList = [] ∨ ¬ q.2.2.2.2.2.2 = 0 := by
            simpa [Bool.or_eq_true, Bool.not_eq_true', beq_eq_false_iff_ne] using e2
          simp only [if_pos e1, e2, e1, not_true, false_or, e3, true_or, if_true]
          exact ht
        · have e2' : (!(q.2.2.2.1 == 0) || (!(q.2.2.2.2.1.toList == ([] : List UInt8)) || (!(q.2.2.2.2.2.1.toList == ([] : List UInt8)) || (!(q.2.2.2.2.2.2 == 0))))) = false := by simpa using e2
          have e3 : ¬ (¬ q.2.2.2.1 = 0 ∨ ¬ q.2.2.2.2.1.toList = [] ∨ ¬ q.2.2.2.2.2.1.toList = [] ∨ ¬ q.2.2.2.2.2.2 = 0) := by
            intro h; exact e2 (by simpa [Bool.or_eq_true, Bool.not_eq_true', beq_eq_false_iff_ne] using h)
          simp only [if_pos e1, e2', e1, not_true, false_or, e3] at hf ⊢
          exact hf
      · simp only [if_neg e1, e1, not_false_iff, true_or, if_true]
        exact ht
theorem awake_true : Ev (fun k => armoirelaw24_awake.f k) true := by
  have hf : FitQ ((1, 0, ⟨#[]⟩, 0, ⟨#[]⟩, ⟨#[]⟩, 0) : Q) := by refine ⟨?_, ?_, ?_, ?_, ?_, ?_, ?_, ?_⟩ <;> decide
  have e0 : ((⟨#[]⟩ : ByteArray).toList) = [] := ba_toList _
  have hc : chkQ ((1, 0, ⟨#[]⟩, 0, ⟨#[]⟩, ⟨#[]⟩, 0) : Q) = 0 := by
    unfold chkQ
    dsimp only
    rw [if_neg (by decide), if_neg (by simp [e0]), if_neg (by decide), if_neg (by decide), if_neg (by decide)]
  have ht := reqText_f (1, 0, ⟨#[]⟩, 0, ⟨#[]⟩, ⟨#[]⟩, 0) hf
  have hb : bodyQ ((1, 0, ⟨#[]⟩, 0, ⟨#[]⟩, ⟨#[]⟩, 0) : Q) = [1, 1] := by
    unfold bodyQ
    dsimp only
    rw [if_neg (by decide), if_neg (by decide)]
    simp [numB, nlen, digs, dig]
  have hp := pQ_back (1, 0, ⟨#[]⟩, 0, ⟨#[]⟩, ⟨#[]⟩, 0) hf hc
  rw [hb] at ht hp
  have hz : (sealB ⟨[1, 1].toArray⟩).size = 6 := by rw [sealB_size]; rfl
  have hz' : ((sealB ⟨[1, 1].toArray⟩).size : Int) = 6 := by omega
  have c4 : (4 : Int) ≤ ((sealB ⟨[1, 1].toArray⟩).size : Int) := by omega
  have hx : ((sealB ⟨[1, 1].toArray⟩).extract 4 (sealB ⟨[1, 1].toArray⟩).size).toList = [1, 1] := by rw [sealB_tail, ba_toList]
  have hpf := parse_f (sealB ⟨[1, 1].toArray⟩) (by omega)
  rw [hp] at hpf
  unfold armoirelaw24_awake.f
  refine Ev.bind ht ?_
  refine Ev.bind hpf ?_
  simp only [flat8, if_pos hz', if_pos c4, hx, if_true]
  refine Ev.bind (reqCheck_f (0, 0, ⟨#[]⟩, 0, ⟨#[]⟩, ⟨#[]⟩, 0)) ?_
  rw [show chkQ ((0, 0, ⟨#[]⟩, 0, ⟨#[]⟩, ⟨#[]⟩, 0) : Q) = 6 from by unfold chkQ; rw [if_pos (by decide)]]
  refine Ev.step (f := fun _ => some true) (fun k => by simp only [armoirelaw24_awake.j0]; rfl) (Ev.now _)
end Go.Proofs.Ytkkkmbgflflcnaa.PA

