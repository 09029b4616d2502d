/- Any two lists of parts (of each the first 4, of each part the first 8 bytes): the key of all of them is the one's key and then the other's, and is read as all of them. No condition. -/
import Derived.Test.YtndekeigagjfiaaDoorQJnFKy
import Derived.Test.YtndekeigagjfiaaDoorQJnPAx6
namespace Go.Proofs.YtndekeigagjfiaaDoor.Pure
set_option linter.unusedSimpArgs false
open Go.RowKit Go.Proofs.YtndekeigagjfiaaDoor.PA Go.Proofs.YtndekeigagjfiaaDoorW.PrintWords Go.Proofs.YtndekeigagjfiaaDoorW.PrintLast Go.Proofs.YtndekeigagjfiaaDoorW.PrintMore Go.Proofs.YtndekeigagjfiaaDoor Go.Proofs.YtndekeigagjfiaaDoor.PL
theorem join_l0 (l : List ByteArray) (hl : l.length ≤ 100) (d : Nat) : ∀ i : Nat, i + d = l.length → Ev (fun k => armoirelaw02_CodecJoin.l0 k l l (l.length : Int) (i : Int)) true := by
  induction d with
  | zero =>
    intro i hi
    refine Ev.step (fun k => ?_) (Ev.now _)
    simp only [armoirelaw02_CodecJoin.l0]
    rw [if_neg (by omega)]
  | succ d ih =>
    intro i hi
    have hw := wr i (by omega)
    refine Ev.step (fun k => ?_) (ih (i + 1) (by omega))
    simp only [armoirelaw02_CodecJoin.l0]
    rw [if_pos (by omega), if_pos (by omega), if_pos (by omega), if_pos (by omega), if_pos trivial, hw]
theorem CodecJoin : armoirelaw02_CodecJoin.Pure := by
  intro l0 l1 h0 h1
  refine Ev.rounds ?_
  have f0 := few_f l0 (by unfold maxLen at h0; omega) 4 8 (by omega)
  have f1 := few_f l1 (by unfold maxLen at h1; omega) 4 8 (by omega)
  obtain ⟨k0, n0⟩ := few_key l0 4 8 (by omega) (by omega)
  obtain ⟨k1, n1⟩ := few_key l1 4 8 (by omega) (by omega)
  unfold armoirelaw02_CodecJoin.f
  refine Ev.bind f0 ?_
  refine Ev.bind f1 ?_
  generalize (l0.take 4).map (cutm 8) = a at k0 n0
  generalize (l1.take 4).map (cutm 8) = b at k1 n1
  have kab : (keyB (a ++ b)).length ≤ 10000 := by rw [keyB_append, List.length_append]; omega
  have hp := parts_f ⟨(keyB (a ++ b)).toArray⟩ (by rw [ba_mk_size]; omega)
  rw [ba_mk, pz_key] at hp
  simp only [armoirelaw02_awake.f, Option.bind_some, if_true, List.nil_append, List.length_nil, Nat.zero_add]
  have g1 : a.length < 8796093022208 := by omega
  have g2 : a.length + b.length < 8796093022208 := by omega
  have g3 : (keyB a).length + (keyB b).length ≤ 9223372036854775807 := by omega
  simp only [if_pos g1, if_pos g2, key_f a (by omega), key_f b (by omega), key_f (a ++ b) (by omega), Option.bind_some, ba_mk_size, ba_mk_append, ← keyB_append, if_pos g3]
  refine Ev.bind hp ?_
  simp only [List.nil_append, if_true]
  exact join_l0 (a ++ b) (by rw [List.length_append]; omega) (a ++ b).length 0 (Nat.zero_add _)
end Go.Proofs.YtndekeigagjfiaaDoor.Pure

