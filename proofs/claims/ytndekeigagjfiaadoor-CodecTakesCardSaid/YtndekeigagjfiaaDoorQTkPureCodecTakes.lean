/- Any bytes (of them the first 120), taken as any things one behind the other (the first 15): each answer, what is left, and the error are the document's. No condition. -/
import Derived.Test.YtndekeigagjfiaaDoorQTkFAI
import Derived.Test.YtndekeigagjfiaaDoorQTkMAwake
import Derived.Test.YtndekeigagjfiaaDoorQTkPAx1
import Derived.Test.YtndekeigagjfiaaDoorQTkPAx3
import Derived.Test.YtndekeigagjfiaaDoorQTkPAx4
namespace Go.Proofs.YtndekeigagjfiaaDoor.Pure
open Go.RowKit Go.Proofs.YtndekeigagjfiaaDoor.PA Go.Proofs.YtndekeigagjfiaaDoorW.PrintWords Go.Proofs.YtndekeigagjfiaaDoorW.PrintLast Go.Proofs.YtndekeigagjfiaaDoorW.PrintMore Go.Proofs.YtndekeigagjfiaaDoor Go.Proofs.YtndekeigagjfiaaDoor.PL
theorem take_both (s : ByteArray) (e : Int) (hv : Val s e) (a b : Int) (hb : b < 9223372036854775808) : ∃ s2 e2, Val s2 e2 ∧ Ev (fun k => armoirelaw02_take.f k s e s e a b) (s2, e2, true, s2, e2) := by
  by_cases c1 : a = 1
  · refine ⟨_, _, hv.tU, ?_⟩
    simp only [armoirelaw02_take.f, if_pos c1, tU_f s e hv, Option.bind_some]
    refine Ev.bind (rU_f s e hv) ?_
    simp only [beq_self_eq_true]
    exact Ev.now _
  by_cases c2 : a = 2
  · refine ⟨_, _, hv.tI, ?_⟩
    simp only [armoirelaw02_take.f, if_neg c1, if_pos c2, tI_f s e hv, Option.bind_some]
    refine Ev.bind (rI_f s e hv) ?_
    simp only [beq_self_eq_true]
    exact Ev.now _
  by_cases c3 : a = 3
  · refine ⟨_, _, hv.tN b, ?_⟩
    simp only [armoirelaw02_take.f, if_neg c1, if_neg c2, if_pos c3, tN_f s e b hv, Option.bind_some]
    refine Ev.bind (rN_f s e b hv) ?_
    simp only [beq_self_eq_true]
    exact Ev.now _
  by_cases c4 : a = 4
  · refine ⟨_, _, hv.tS b, ?_⟩
    simp only [armoirelaw02_take.f, if_neg c1, if_neg c2, if_neg c3, if_pos c4, tS_f s e b hv hb, Option.bind_some]
    refine Ev.bind (rS_f s e b hv hb) ?_
    simp only [beq_self_eq_true]
    exact Ev.now _
  by_cases c5 : a = 5
  · refine ⟨_, _, hv.fl (Go.bits .and .i64 b 7), ?_⟩
    simp only [armoirelaw02_take.f, if_neg c1, if_neg c2, if_neg c3, if_neg c4, if_pos c5, fl_f, rfl_f, Option.bind_some]
    exact Ev.now _
  · refine ⟨_, _, hv, ?_⟩
    simp only [armoirelaw02_take.f, if_neg c1, if_neg c2, if_neg c3, if_neg c4, if_neg c5]
    exact Ev.now _
theorem end_both (s : ByteArray) (e : Int) (hv : Val s e) : ∃ x s2 e2, codec_In_End.f s e = some (x, s2, e2) ∧ armoireref02_End.f s e = some x := by
  unfold codec_In_End.f armoireref02_End.f
  by_cases h : s.toList = ([] : List UInt8)
  · exact ⟨e, s, e, by rw [if_pos h], by by_cases c : e = 0 <;> simp [h]⟩
  · have he : e = 0 := Classical.byContradiction fun c => h (by rw [hv.2 c, ba_toList])
    subst he
    refine ⟨2, ⟨#[]⟩, 2, ?_, ?_⟩
    · rw [if_neg h, fl_f]
      simp [fl]
    · rw [if_pos rfl, if_neg h]
theorem takes_l0 (l : List S43) (hl : l.length ≤ maxLen ∧ ∀ q ∈ l, ((Lit.int .i64 q.f0).wf = true ∧ (Lit.int .i64 q.f1).wf = true)) (d : Nat) : ∀ (i : Nat) (s : ByteArray) (e : Int), i + d = 15 → Val s e →
    Ev (fun k => armoirelaw02_CodecTakes.l0 k l (i : Int) s e s e) true := by
  have fin : ∀ (s : ByteArray) (e : Int), Val s e → Ev (fun _ : Nat => (codec_In_End.f s e).bind fun b => (armoireref02_End.f s e).bind fun t => some (b.1 == t)) true := by
    intro s e hv
    obtain ⟨x, s2, e2, h1, h2⟩ := end_both s e hv
    simp only [h1, h2, Option.bind_some, beq_self_eq_true]
    exact Ev.now _
  induction d with
  | zero =>
    intro i s e hi hv
    refine Ev.step (fun k => ?_) (fin s e hv)
    simp only [armoirelaw02_CodecTakes.l0]
    by_cases c : (i : Int) < (l.length : Int)
    · rw [if_pos c, if_neg (by omega)]
    · rw [if_neg c]
  | succ d ih =>
    intro i s e hi hv
    by_cases c : (i : Int) < (l.length : Int)
    · have hm : rd_T43 l (i : Int) ∈ l := by
        have : i < l.length := by omega
        simp only [rd_T43, Int.toNat_natCast, List.getD_eq_getElem?_getD, List.getElem?_eq_getElem this, Option.getD_some]
        exact List.getElem_mem this
      have hw := (hl.2 _ hm).2
      obtain ⟨s2, e2, hv2, ht⟩ := take_both s e hv (rd_T43 l (i : Int)).f0 (rd_T43 l (i : Int)).f1 (by simp [Lit.wf, IntKind.min, IntKind.max, IntKind.signed, IntKind.bits] at hw; omega)
      refine Ev.step (f := fun k => (armoirelaw02_take.f k s e s e (rd_T43 l (i : Int)).f0 (rd_T43 l (i : Int)).f1).bind fun bt217 => (if bt217.2.2.1 = true then ((codec_In_Err.f bt217.2.2.2.1 bt217.2.2.2.2).bind fun bt223 => (if bt223.1 = bt217.2.1 then ((codec_In_Len.f bt223.2.1 bt223.2.2).bind fun bt226 => (if bt226.1 = (bt217.1.size : Int) then (armoirelaw02_CodecTakes.l0 k l (wrap64 ((i : Int) + 1)) bt226.2.1 bt226.2.2 bt217.1 bt217.2.1) else (some false))) else (some false))) else (some false))) (fun k => ?_) ?_
      · simp only [armoirelaw02_CodecTakes.l0]
        rw [if_pos c, if_pos (by omega), if_pos (by omega)]
      · refine Ev.bind ht ?_
        simp only [if_true, codec_In_Err.f, codec_In_Len.f, Option.bind_some]
        rw [show wrap64 ((i : Int) + 1) = ((i + 1 : Nat) : Int) by unfold wrap64; omega]
        exact ih (i + 1) s2 e2 (by omega) hv2
    · refine Ev.step (fun k => ?_) (fin s e hv)
      simp only [armoirelaw02_CodecTakes.l0]
      rw [if_neg c]
theorem CodecTakes : armoirelaw02_CodecTakes.Pure := by
  intro a0 l1 _ hl
  refine Ev.rounds ?_
  have hc := cut_f a0 120
  have hv : Val (a0.extract 0 (min 120 a0.size)) 0 := ⟨Nat.le_trans (cut_size a0 120) (by decide), fun h => absurd rfl h⟩
  unfold armoirelaw02_CodecTakes.f
  rw [show ((120 : Nat) : Int) = 120 from rfl] at hc
  simp only [hc, Option.bind_some, codec_Read.f, armoirelaw02_awake.f, if_true]
  generalize a0.extract 0 (min 120 a0.size) = t at hv
  exact takes_l0 l1 hl 15 0 t 0 rfl hv
end Go.Proofs.YtndekeigagjfiaaDoor.Pure

