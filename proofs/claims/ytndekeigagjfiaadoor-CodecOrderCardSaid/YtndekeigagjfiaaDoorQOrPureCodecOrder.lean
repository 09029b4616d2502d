/- Any two lists of parts (of each the first 4, of each part the first 8 bytes): their keys stand to each other as the lists do. No condition. -/
import Derived.Test.YtndekeigagjfiaaDoorQOrFKy
import Derived.Test.YtndekeigagjfiaaDoorQOrPAx6
namespace Go.Proofs.YtndekeigagjfiaaDoor.Pure
set_option linter.unusedSimpArgs false
open Go.RowKit Go.Proofs.YtndekeigagjfiaaDoor.PA Go.Proofs.YtndekeigagjfiaaDoorW.PrintWords Go.Proofs.YtndekeigagjfiaaDoorW.PrintLast Go.Proofs.YtndekeigagjfiaaDoorW.PrintMore Go.Proofs.YtndekeigagjfiaaDoor Go.Proofs.YtndekeigagjfiaaDoor.PL
theorem CodecOrder : armoirelaw02_CodecOrder.Pure := by
  intro l0 l1 h0 h1
  refine Ev.rounds ?_
  have f0 := few_f l0 (by unfold maxLen at h0; omega) 4 8 (by omega)
  have f1 := few_f l1 (by unfold maxLen at h1; omega) 4 8 (by omega)
  have k0 := (few_key l0 4 8 (by omega) (by omega)).1
  have k1 := (few_key l1 4 8 (by omega) (by omega)).1
  unfold armoirelaw02_CodecOrder.f
  refine Ev.bind f0 ?_
  refine Ev.bind f1 ?_
  generalize (l0.take 4).map (cutm 8) = a at k0
  generalize (l1.take 4).map (cutm 8) = b at k1
  simp only [armoirelaw02_awake.f, Option.bind_some, if_true, key_f a (by omega), key_f b (by omega), armoireref02_Less.f, ba_toList, less_keys, beq_self_eq_true]
  rw [keys_same a b]
  cases lessB a b <;> cases lessB b a <;> exact Ev.now _
end Go.Proofs.YtndekeigagjfiaaDoor.Pure

