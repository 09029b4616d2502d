/- Any sector: whether it may be is as the document says; if it may, its bytes are the document's, 64 of them, and read back they are this sector. Of its data the first 50 bytes. No condition. -/
import Derived.Test.YtodikgjanhihhaaSTxFSt
import Derived.Test.YtodikgjanhihhaaSTxPAx3
import Derived.Test.YtodikgjanhihhaaSTxPAx6
import Derived.Test.YtodikgjanhihhaaSTxPAx7
namespace Go.Proofs.Ytodikgjanhihhaa.Pure
open Go.RowKit Go.Proofs.Ytodikgjanhihhaa.PA Go.Proofs.YtodikgjanhihhaaW.PrintWords Go.Proofs.YtodikgjanhihhaaW.PrintLast Go.Proofs.YtodikgjanhihhaaW.PrintMore Go.Proofs.Ytodikgjanhihhaa Go.Proofs.Ytodikgjanhihhaa.PL
theorem texts_j0 (n m : Int) (d : ByteArray) (h0 : 0 ≤ m) (h1 : m ≤ 255) : Ev (fun k => armoirelaw04_StampTexts.j0 k false n m d) true := by
  refine Ev.step (fun k => by simp only [armoirelaw04_StampTexts.j0]; rw [if_neg (by decide)]) ?_
  refine Ev.bind (check_f n m d) ?_
  by_cases hc : chkS n d = 0
  rotate_left
  · simp only [if_neg hc]
    exact Ev.now _
  have hn : 1 ≤ n ∧ n ≤ 1099511627776 ∧ d.size ≤ 44 := by
    by_cases c1 : n < 1 ∨ n > 1099511627776
    · unfold chkS at hc; rw [if_pos c1] at hc; exact absurd hc (by decide)
    · by_cases c2 : d.size > 44
      · unfold chkS at hc; rw [if_neg c1, if_pos c2] at hc; exact absurd hc (by decide)
      · omega
  have hf : FitS n m d := ⟨hn.2.1, h0, h1, hn.2.2⟩
  have ht := text_f n m d hf
  have hz := tx_size n m d hf
  have hz' : ((tx n m d).size : Int) = 64 := by omega
  have hp := parse_f (tx n m d) (by omega)
  rw [pS_tx n m d hf hn.1] at hp
  have hm : wrap64 m = m := by unfold wrap64; omega
  simp only [if_pos hc]
  refine Ev.bind ht ?_
  refine Ev.bind hp ?_
  refine Ev.bind ht ?_
  simp only [armoirelaw04_Told.f, Option.bind_some, hm]
  refine Ev.bind (rtext_f n m d hf) ?_
  simp only [if_true]
  refine Ev.bind ht ?_
  simp only [if_pos hz', beq_self_eq_true, Bool.and_true, if_true]
  exact Ev.now _
theorem StampTexts : armoirelaw04_StampTexts.Pure := by
  intro n m d ⟨_, hm, _⟩
  have hm2 : 0 ≤ m ∧ m ≤ 255 := by
    simp [Lit.wf, IntKind.min, IntKind.max, IntKind.signed, IntKind.bits] at hm
    omega
  have hw : wrap64 m = m := by unfold wrap64; omega
  refine Ev.rounds ?_
  have ca : armoirelaw01_Cut.f d 50 = some (d.extract 0 (min 50 d.size)) := cut_f d 50
  unfold armoirelaw04_StampTexts.f
  simp only [ca, Option.bind_some]
  generalize d.extract 0 (min 50 d.size) = d1
  refine Ev.bind awake_true ?_
  simp only [if_true]
  refine Ev.bind (check_f n m d1) ?_
  simp only [armoirelaw04_Told.f, Option.bind_some, hw]
  refine Ev.bind (rcheck_f n m d1) ?_
  simp only [bne_self_eq_false]
  exact texts_j0 n m d1 hm2.1 hm2.2
end Go.Proofs.Ytodikgjanhihhaa.Pure

