/- Any bytes (of them the first 100) taken as a call, and as an answer, by the program and by the document: the same values, the same error, as much left. No condition. -/
import Derived.Test.YtkoojbkkkpljoaaQReaFAw
import Derived.Test.YtkoojbkkkpljoaaQReaPAx10
import Derived.Test.YtkoojbkkkpljoaaQReaPAx19
import Derived.Test.YtkoojbkkkpljoaaQReaPAx21
import Derived.Test.YtkoojbkkkpljoaaQReaPAx7
namespace Go.Proofs.Ytkoojbkkkpljoaa.Pure
open Go.RowKit Go.Proofs.Ytkoojbkkkpljoaa.PA Go.Proofs.YtkoojbkkkpljoaaW.PrintWords Go.Proofs.YtkoojbkkkpljoaaW.PrintLast Go.Proofs.YtkoojbkkkpljoaaW.PrintMore Go.Proofs.Ytkoojbkkkpljoaa Go.Proofs.Ytkoojbkkkpljoaa.PL
theorem reads_j0 (t : ByteArray) (hv : Val t 0) : Ev (fun k => armoirelaw12_MethodReads.j0 k t false) true := by
  refine Ev.step (fun k => by simp only [armoirelaw12_MethodReads.j0]; rw [if_neg (by decide)]) ?_
  simp only [codec_Read.f, Option.bind_some]
  refine Ev.bind (rR_f t 0 hv) ?_
  refine Ev.bind (rrR_f t 0 hv) ?_
  simp only [codec_In_Err.f, codec_In_Len.f, Option.bind_some, if_true, beq_self_eq_true, Bool.and_true]
  exact Ev.now _
theorem MethodReads : armoirelaw12_MethodReads.Pure := by
  intro s _
  refine Ev.rounds ?_
  have hc := cut_f s 100
  have hv : Val (s.extract 0 (min 100 s.size)) 0 := ⟨Nat.le_trans (cut_size s 100) (by decide), fun h => absurd rfl h⟩
  unfold armoirelaw12_MethodReads.f
  rw [show ((100 : Nat) : Int) = 100 from rfl] at hc
  simp only [hc, Option.bind_some]
  generalize s.extract 0 (min 100 s.size) = t at hv
  refine Ev.bind awake_true ?_
  simp only [if_true, codec_Read.f, Option.bind_some]
  refine Ev.bind (rC_f t 0 hv) ?_
  refine Ev.bind (rrC_f t 0 hv) ?_
  simp only [codec_In_Err.f, codec_In_Len.f, armoirelaw12_Told.f, Option.bind_some, if_true, beq_self_eq_true, Bool.not_true, Bool.or_false]
  exact reads_j0 t hv
end Go.Proofs.Ytkoojbkkkpljoaa.Pure

