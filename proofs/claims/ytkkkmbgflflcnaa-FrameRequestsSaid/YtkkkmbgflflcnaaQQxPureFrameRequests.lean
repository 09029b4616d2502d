/- Any request (made tidy, or as it is): the program and the document say the same of whether it may be asked, write the same bytes, and read it back. -/
import Derived.OpenShut
import Derived.Test.YtkkkmbgflflcnaaQQxFRq
import Derived.Test.YtkkkmbgflflcnaaQQxPAx20
import Derived.Test.YtkkkmbgflflcnaaQQxPAx8
namespace Go.Proofs.Ytkkkmbgflflcnaa.Pure
set_option linter.unusedSimpArgs false
open Go.RowKit Go.Proofs.Ytkkkmbgflflcnaa.PA Go.Proofs.YtkkkmbgflflcnaaW.PrintWords Go.Proofs.YtkkkmbgflflcnaaW.PrintLast Go.Proofs.YtkkkmbgflflcnaaW.PrintMore Go.Proofs.Ytkkkmbgflflcnaa Go.Proofs.Ytkkkmbgflflcnaa.PL
theorem requests_j2 : Ev (fun k => armoirelaw24_FrameRequests.j2 k true) true :=
  Ev.step (fun k => by simp only [armoirelaw24_FrameRequests.j2]) (Ev.now _)
theorem requests_j1 (q : Q) (hf : FitQ q) : Ev (fun k => armoirelaw24_FrameRequests.j1 k false q.1 q.2.1 q.2.2.1 q.2.2.2.1 q.2.2.2.2.1 q.2.2.2.2.2.1 q.2.2.2.2.2.2) true := by
  refine Ev.step (fun k => by simp only [armoirelaw24_FrameRequests.j1, Bool.false_eq_true, if_false]; rfl) ?_
  refine Ev.bind (reqCheck_f q) ?_
  by_cases h0 : chkQ q = 0
  rotate_left
  · simp only [if_neg h0]; exact Ev.now _
  simp only [if_pos h0]
  have hl := bodyQ_length q hf
  refine Ev.bind (reqText_f q hf) ?_
  refine Ev.bind (parse_f _ (by rw [sealB_size, ba_mk_size]; omega)) ?_
  refine Ev.bind (reqText_f q hf) ?_
  simp only [told_f, Option.bind_some]
  refine Ev.bind (rreqText_f q hf) ?_
  rw [pQ_back q hf h0]
  simp only [if_true, flat8, beq_self_eq_true, Bool.and_self]
  exact requests_j2
theorem requests_j0 (q : Q) (hf : FitQ q) (tidy : Bool) (h : tidy = true → chkQ q = 0) : Ev (fun k => armoirelaw24_FrameRequests.j0 k tidy q.1 q.2.1 q.2.2.1 q.2.2.2.1 q.2.2.2.2.1 q.2.2.2.2.2.1 q.2.2.2.2.2.2) true := by
  refine Ev.step (fun k => by simp only [armoirelaw24_FrameRequests.j0]; rfl) ?_
  refine Ev.bind awake_true ?_
  simp only [if_true]
  refine Ev.bind (reqCheck_f q) ?_
  simp only [told_f, Option.bind_some]
  refine Ev.bind (rreqCheck_f q) ?_
  simp only [if_true]
  cases tidy with
  | false => simp only [Bool.false_eq_true, if_false]; exact requests_j1 q hf
  | true =>
    simp only [if_true]
    refine Ev.bind (reqCheck_f q) ?_
    have e : (chkQ q != 0) = false := by rw [h rfl]; rfl
    rw [e]
    exact requests_j1 q hf
theorem FrameRequests : armoirelaw24_FrameRequests.Pure := by
  intro kind nn obj0 op a0 b0 m tidy ⟨hk, hn, _, hop, _, _, hm⟩
  have b1 : kind < 9223372036854775808 := by simp [Lit.wf, IntKind.min, IntKind.max, IntKind.signed, IntKind.bits] at hk; omega
  have b2 : nn < 9223372036854775808 := by simp [Lit.wf, IntKind.min, IntKind.max, IntKind.signed, IntKind.bits] at hn; omega
  have b3 : op < 9223372036854775808 := by simp [Lit.wf, IntKind.min, IntKind.max, IntKind.signed, IntKind.bits] at hop; omega
  have b4 : -9223372036854775808 ≤ m ∧ m < 9223372036854775808 := by simp [Lit.wf, IntKind.min, IntKind.max, IntKind.signed, IntKind.bits] at hm; omega
  refine Ev.rounds ?_
  unfold armoirelaw24_FrameRequests.f
  have c1 : armoirelaw01_Cut.f obj0 20 = some (obj0.extract 0 (min 20 obj0.size)) := cut_f obj0 20
  have c2 : armoirelaw01_Cut.f a0 28 = some (a0.extract 0 (min 28 a0.size)) := cut_f a0 28
  have c3 : armoirelaw01_Cut.f b0 28 = some (b0.extract 0 (min 28 b0.size)) := cut_f b0 28
  have s1 : (obj0.extract 0 (min 20 obj0.size)).size ≤ 20 := cut_size obj0 20
  have s2 : (a0.extract 0 (min 28 a0.size)).size ≤ 28 := cut_size a0 28
  have s3 : (b0.extract 0 (min 28 b0.size)).size ≤ 28 := cut_size b0 28
  simp only [c1, c2, c3, Option.bind_some]
  generalize obj0.extract 0 (min 20 obj0.size) = obj at s1 ⊢
  generalize a0.extract 0 (min 28 a0.size) = a at s2 ⊢
  generalize b0.extract 0 (min 28 b0.size) = b at s3 ⊢
  cases tidy with
  | true =>
    obtain ⟨q, hq, hf, hc⟩ := tidyQ_f (kind, nn, obj, op, a, b, m) b4.1 b4.2
    simp only [if_true]
    refine Ev.bind hq ?_
    exact requests_j0 q hf true (fun _ => hc)
  | false =>
    simp only [Bool.false_eq_true, if_false]
    exact requests_j0 (kind, nn, obj, op, a, b, m) ⟨b1, b2, by show obj.size ≤ 1000; omega, b3, by show a.size ≤ 1000; omega, by show b.size ≤ 1000; omega, b4.1, b4.2⟩ false (fun h => absurd h (by decide))
end Go.Proofs.Ytkkkmbgflflcnaa.Pure

