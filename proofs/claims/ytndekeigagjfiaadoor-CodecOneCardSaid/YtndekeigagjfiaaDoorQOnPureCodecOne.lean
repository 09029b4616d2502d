/- Any bytes (of them the first 12) taken as a number: where they are taken without an error, they begin with that number's only spelling and what is left stands behind it; where not, the number is 0. No condition. -/
import Derived.Test.YtndekeigagjfiaaDoorQOnMCanon
import Derived.Test.YtndekeigagjfiaaDoorQOnMAwake
import Derived.Test.YtndekeigagjfiaaDoorQOnPAx1
namespace Go.Proofs.YtndekeigagjfiaaDoor.Pure
open Go.RowKit Go.Proofs.YtndekeigagjfiaaDoor.PA Go.Proofs.YtndekeigagjfiaaDoorW.PrintWords Go.Proofs.YtndekeigagjfiaaDoorW.PrintLast Go.Proofs.YtndekeigagjfiaaDoorW.PrintMore Go.Proofs.YtndekeigagjfiaaDoor Go.Proofs.YtndekeigagjfiaaDoor.PL
theorem CodecOne : armoirelaw02_CodecOne.Pure := by
  intro a0 _
  refine Ev.rounds ?_
  have hc := cut_f a0 12
  have hv : Val (a0.extract 0 (min 12 a0.size)) 0 := ⟨Nat.le_trans (cut_size a0 12) (by decide), fun h => absurd rfl h⟩
  unfold armoirelaw02_CodecOne.f
  rw [show ((12 : Nat) : Int) = 12 from rfl] at hc
  simp only [hc, Option.bind_some, codec_Read.f, armoirelaw02_awake.f, if_true]
  generalize a0.extract 0 (min 12 a0.size) = t at hv
  simp only [tU_f t 0 hv, Option.bind_some, codec_In_Err.f, codec_In_Len.f]
  by_cases h : (tU t 0).2.2 = 0
  · obtain ⟨n, hn, e1, e2⟩ := tU_canon t h
    simp only [if_pos h, e1]
    refine Ev.bind (rw_f n hn) ?_
    have hl : t.size = (numB n).length + (tU t 0).2.1.size := by rw [ba_size t, e2, List.length_append, ← ba_size]
    have hs := hv.1
    rw [ba_mk_size, if_pos (by omega), if_pos (by omega), if_pos]
    · have e3 : wrap64 ((t.size : Int) - ((numB n).length : Int)) = ((tU t 0).2.1.size : Int) := by unfold wrap64; omega
      rw [e3, beq_self_eq_true]
      exact Ev.now _
    · rw [ba_toList, ba_toList, ba_extract, Int.toNat_natCast, e2]
      simp
  · simp only [if_neg h, tU_zero t h, beq_self_eq_true]
    exact Ev.now _
end Go.Proofs.YtndekeigagjfiaaDoor.Pure

