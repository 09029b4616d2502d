/- Any reply (of its text the first 28 bytes): the program and the document say the same of whether it may be, write the same bytes, and read it back. -/
import Derived.OpenShut
import Derived.Test.YtkkkmbgflflcnaaQPxFBk
import Derived.Test.YtkkkmbgflflcnaaQPxPAx25
import Derived.Test.YtkkkmbgflflcnaaQPxPAx1
namespace Go.Proofs.Ytkkkmbgflflcnaa.Pure
set_option linter.unusedSimpArgs false
open Go.RowKit Go.Proofs.Ytkkkmbgflflcnaa.PA Go.Proofs.YtkkkmbgflflcnaaW.PrintWords Go.Proofs.YtkkkmbgflflcnaaW.PrintLast Go.Proofs.YtkkkmbgflflcnaaW.PrintMore Go.Proofs.Ytkkkmbgflflcnaa Go.Proofs.Ytkkkmbgflflcnaa.PL
theorem replies_j1 : Ev (fun k => armoirelaw24_FrameReplies.j1 k true) true :=
  Ev.step (fun k => by simp only [armoirelaw24_FrameReplies.j1]) (Ev.now _)
theorem FrameReplies : armoirelaw24_FrameReplies.Pure := by
  intro e n c t0 m he hn ⟨hc, _, hm⟩
  have b1 : e < 9223372036854775808 := by simp [Lit.wf, IntKind.min, IntKind.max, IntKind.signed, IntKind.bits] at he; omega
  have b2 : n < 9223372036854775808 := by simp [Lit.wf, IntKind.min, IntKind.max, IntKind.signed, IntKind.bits] at hn; omega
  have b3 : c < 9223372036854775808 := by simp [Lit.wf, IntKind.min, IntKind.max, IntKind.signed, IntKind.bits] at hc; omega
  have b4 : -9223372036854775808 ≤ m ∧ m < 9223372036854775808 := by simp [Lit.wf, IntKind.min, IntKind.max, IntKind.signed, IntKind.bits] at hm; omega
  refine Ev.rounds ?_
  unfold armoirelaw24_FrameReplies.f
  have hcut : armoirelaw01_Cut.f t0 28 = some (t0.extract 0 (min 28 t0.size)) := cut_f t0 28
  have hts : (t0.extract 0 (min 28 t0.size)).size ≤ 28 := cut_size t0 28
  rw [hcut]
  generalize t0.extract 0 (min 28 t0.size) = t at hts
  simp only [Option.bind_some]
  refine Ev.bind awake_true ?_
  simp only [if_true]
  refine Ev.bind (replyCheck_f e n c t m) ?_
  refine Ev.bind (rreplyCheck_f e n c t m) ?_
  have hf : (chkP e n c t m != chkP e n c t m) = false := bne_self_eq_false _
  rw [hf]
  refine Ev.step (fun k => by simp only [armoirelaw24_FrameReplies.j0, Bool.false_eq_true, if_false]; rfl) ?_
  refine Ev.bind (replyCheck_f e n c t m) ?_
  by_cases h0 : chkP e n c t m = 0
  rotate_left
  · simp only [if_neg h0]; exact Ev.now _
  simp only [if_pos h0]
  have hl := bodyP_length e n c t m b1 b2 b3 (by omega) b4.1 b4.2
  refine Ev.bind (replyText_f e n c t m b1 b2 b3 (by omega) b4.1 b4.2) ?_
  refine Ev.bind (parseReply_f _ (by rw [sealB_size, ba_mk_size]; omega)) ?_
  refine Ev.bind (replyText_f e n c t m b1 b2 b3 (by omega) b4.1 b4.2) ?_
  refine Ev.bind (rreplyText_f e n c t m b1 b2 b3 (by omega) b4.1 b4.2) ?_
  rw [pP_back e n c t m h0 b3 (by omega) b4.1 b4.2]
  simp only [if_true, flat6, beq_self_eq_true, Bool.and_self]
  exact replies_j1
end Go.Proofs.Ytkkkmbgflflcnaa.Pure

