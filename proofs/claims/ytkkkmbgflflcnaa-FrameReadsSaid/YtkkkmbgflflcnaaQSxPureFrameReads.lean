/- Any bytes (of them the first 120; if one likes with the sum that is right for them): the program and the document read the same request, the same reply, or the same error, and what is read has these very bytes. -/
import Derived.OpenShut
import Derived.Test.YtkkkmbgflflcnaaQSxFRf
import Derived.Test.YtkkkmbgflflcnaaQSxFCut
import Derived.Test.YtkkkmbgflflcnaaQSxPSx11
import Derived.Test.YtkkkmbgflflcnaaQSxPSx18
import Derived.Test.YtkkkmbgflflcnaaQSxPSx19
import Derived.Test.YtkkkmbgflflcnaaQSxPSx6
namespace Go.Proofs.Ytkkkmbgflflcnaa.Pure
set_option linter.unusedSimpArgs false
open Go.RowKit Go.Proofs.Ytkkkmbgflflcnaa.PS Go.Proofs.YtkkkmbgflflcnaaW.PrintWords Go.Proofs.YtkkkmbgflflcnaaW.PrintLast Go.Proofs.YtkkkmbgflflcnaaW.PrintMore Go.Proofs.Ytkkkmbgflflcnaa Go.Proofs.Ytkkkmbgflflcnaa.PL CrcM
theorem freads_j2 : Ev (fun k => armoirelaw24_FrameReads.j2 k true) true :=
  Ev.step (fun k => by simp only [armoirelaw24_FrameReads.j2]) (Ev.now _)
theorem freads_j1 (t : ByteArray) : Ev (fun k => armoirelaw24_FrameReads.j1 k t (pQ t).2 (pP t).2 false (pQ t).1.1 (pQ t).1.2.1 (pQ t).1.2.2.1 (pQ t).1.2.2.2.1 (pQ t).1.2.2.2.2.1 (pQ t).1.2.2.2.2.2.1 (pQ t).1.2.2.2.2.2.2 (pP t).1.1 (pP t).1.2.1 (pP t).1.2.2.1 (pP t).1.2.2.2.1 (pP t).1.2.2.2.2) true := by
  refine Ev.step (fun k => by simp only [armoirelaw24_FrameReads.j1, Bool.false_eq_true, if_false]; rfl) ?_
  have hp : Ev (fun k => if (pP t).2 = 0 then ((frame_Reply_Text.f k (pP t).1.1 (pP t).1.2.1 (pP t).1.2.2.1 (pP t).1.2.2.2.1 (pP t).1.2.2.2.2).bind fun x => armoirelaw24_FrameReads.j2 k (x.toList == t.toList)) else armoirelaw24_FrameReads.j2 k true) true := by
    by_cases c : (pP t).2 = 0
    · simp only [if_pos c]
      obtain ⟨h1, h2, h3, h4, h5, h6, h7⟩ := pP_canon t c
      have h := replyText_f _ _ _ _ _ h2 h3 h4 h5 h6 h7
      rw [h1] at h
      refine Ev.bind h ?_
      rw [beq_self_eq_true]
      exact freads_j2
    · simp only [if_neg c]
      exact freads_j2
  by_cases c : (pQ t).2 = 0
  · simp only [if_pos c]
    obtain ⟨h1, h2, h3⟩ := pQ_canon t c
    have h := reqText_f _ h3
    rw [h1] at h
    refine Ev.bind h ?_
    simp only [if_true]
    refine Ev.bind (reqCheck_f (pQ t).1) ?_
    simp only [if_pos h2]
    exact hp
  · simp only [if_neg c]
    exact hp
theorem freads_j0 (t : ByteArray) (ht : t.size ≤ 1000) : Ev (fun k => armoirelaw24_FrameReads.j0 k t) true := by
  refine Ev.step (fun k => by simp only [armoirelaw24_FrameReads.j0]; rfl) ?_
  refine Ev.bind awake_true ?_
  simp only [if_true]
  refine Ev.bind (parse_f t (by omega)) ?_
  refine Ev.bind (rparse_f t (by omega)) ?_
  refine Ev.bind (parseReply_f t (by omega)) ?_
  refine Ev.bind (rparseReply_f t (by omega)) ?_
  have hb : (armoirelaw24_Told.f (pQ t).1.1 (pQ t).1.2.1 (pQ t).1.2.2.1 (pQ t).1.2.2.2.1 (pQ t).1.2.2.2.2.1 (pQ t).1.2.2.2.2.2.1 (pQ t).1.2.2.2.2.2.2) = some (pQ t).1 := rfl
  simp only [flat8, flat6, if_true, hb, Option.bind_some, beq_self_eq_true, Bool.not_true, Bool.or_false, Bool.false_eq_true, if_false]
  exact freads_j1 t
theorem FrameReads : armoirelaw24_FrameReads.Pure := by
  intro s right _
  refine Ev.rounds ?_
  unfold armoirelaw24_FrameReads.f
  have hcut : armoirelaw01_Cut.f s 120 = some (s.extract 0 (min 120 s.size)) := cut_f s 120
  have hts : (s.extract 0 (min 120 s.size)).size ≤ 120 := cut_size s 120
  simp only [hcut, Option.bind_some]
  generalize s.extract 0 (min 120 s.size) = t at hts ⊢
  cases right with
  | false =>
    simp only [Bool.false_eq_true, if_false]
    exact freads_j0 t (by omega)
  | true =>
    simp only [if_true]
    refine Ev.bind (rsum_f t (by omega)) ?_
    have c3 : (⟨(cB (sm t)).toArray⟩ : ByteArray).size + t.size ≤ 9223372036854775807 := by rw [ba_mk_size, cB_length]; omega
    have e : (⟨(cB (sm t)).toArray⟩ : ByteArray) ++ t = sealB t := bytes_ext (by rw [ba_append]; rfl)
    simp only [rcB_f _ (sm_lt t), Option.bind_some, if_pos c3, e]
    exact freads_j0 _ (by rw [sealB_size]; omega)
end Go.Proofs.Ytkkkmbgflflcnaa.Pure

