/- A request that may be asked, of whose bytes behind the sum up to 32 bits side by side are turned: it is read just if nothing has changed; else the error is that of another sum, and nothing is read. No condition. -/
import Derived.OpenShut
import Derived.Test.YtkkkmbgflflcnaaQBxMTurnMath
import Derived.Test.YtkkkmbgflflcnaaQBxPAx31
namespace Go.Proofs.Ytkkkmbgflflcnaa.Pure
set_option linter.unusedSimpArgs false
open Go.RowKit Go.Proofs.Ytkkkmbgflflcnaa.PA Go.Proofs.YtkkkmbgflflcnaaW.PrintWords Go.Proofs.YtkkkmbgflflcnaaW.PrintLast Go.Proofs.YtkkkmbgflflcnaaW.PrintMore Go.Proofs.Ytkkkmbgflflcnaa Go.Proofs.Ytkkkmbgflflcnaa.PL CrcM
theorem bent_j0 (q : Q) (hf : FitQ q) (hc : chkQ q = 0) (p : Int) (bits : Nat) (hb : bits < 4294967296) : Ev (fun k => armoirelaw24_FrameBent.j0 k p (bits : Int) (sealB ⟨(bodyQ q).toArray⟩) false) true := by
  have m1 := i64_mask 16 (by decide) p
  rw [show (((2 ^ 16 - 1 : Nat)) : Int) = 65535 from rfl, show (2 : Int) ^ 16 = 65536 from rfl] at m1
  have hl := bodyQ_length q hf
  have hl1 : 1 ≤ (bodyQ q).length := by
    unfold bodyQ
    split
    · rw [List.length_append, List.length_append]; unfold numB; simp; omega
    · split
      · rw [List.length_append]; unfold numB; simp; omega
      · unfold numB; simp
  have hback := pQ_back q hf hc
  obtain ⟨r, hr⟩ : ∃ r, r = bodyQ q := ⟨_, rfl⟩
  rw [← hr] at hl hl1 hback ⊢
  have hz : (sealB ⟨r.toArray⟩).size = 4 + r.length := by rw [sealB_size, ba_mk_size]
  refine Ev.step (fun k => by simp only [armoirelaw24_FrameBent.j0]; rw [if_neg (by decide)]) ?_
  generalize Go.bits .and .i64 p 65535 = z at m1
  have hw : wrap64 ((wrap64 (8 * ((sealB ⟨r.toArray⟩).size : Int))) - 32) = ((8 * r.length : Nat) : Int) := by rw [hz]; unfold wrap64; omega
  have c0 : (0 : Int) ≤ 4 := by decide
  have c4 : (4 : Int) ≤ ((sealB ⟨r.toArray⟩).size : Int) := by rw [hz]; omega
  have cn : ¬ ((8 * r.length : Nat) : Int) = 0 := by omega
  obtain ⟨p1, hp1, hp2⟩ : ∃ p1 : Nat, Int.tmod z ((8 * r.length : Nat) : Int) = (p1 : Int) ∧ p1 < 8 * r.length := by
    rw [Int.tmod_eq_emod_of_nonneg m1.1]
    have h1 := Int.emod_nonneg z cn
    have h2 := Int.emod_lt_of_pos z (show (0 : Int) < ((8 * r.length : Nat) : Int) by omega)
    exact ⟨(z % ((8 * r.length : Nat) : Int)).toNat, by omega, by omega⟩
  have hh : (sealB ⟨r.toArray⟩).extract 0 4 = ⟨(cB (sm ⟨r.toArray⟩)).toArray⟩ := sealB_head _
  have ht : (sealB ⟨r.toArray⟩).extract 4 (sealB ⟨r.toArray⟩).size = ⟨r.toArray⟩ := sealB_tail _
  have hd : (sealB ⟨r.toArray⟩) = ⟨(cB (sm ⟨r.toArray⟩) ++ r).toArray⟩ := rfl
  simp only [if_pos c0, if_pos c4, hw, if_neg cn, hp1, ht, hh]
  have hT : armoireref01_Turn.f ⟨r.toArray⟩ (p1 : Int) (bits : Int) = some ⟨(turnL 32 r p1 bits).toArray⟩ := by
    unfold armoireref01_Turn.f
    rw [if_pos ⟨by rw [ba_mk_size]; omega, by omega, by omega, by omega, by omega⟩]
    rfl
  have htl := turnL_length 32 r p1 bits
  have hS := turn_sum r p1 bits (by omega)
  obtain ⟨x, hx⟩ : ∃ x, x = turnL 32 r p1 bits := ⟨_, rfl⟩
  rw [← hx] at hT htl hS
  have c3 : (⟨(cB (sm ⟨r.toArray⟩)).toArray⟩ : ByteArray).size + (⟨x.toArray⟩ : ByteArray).size ≤ 9223372036854775807 := by rw [ba_mk_size, ba_mk_size, htl, cB_length]; omega
  simp only [hT, Option.bind_some, if_pos c3, ba_mk_append]
  have hu : (⟨(cB (sm ⟨r.toArray⟩) ++ x).toArray⟩ : ByteArray).size = 4 + r.length := by rw [ba_mk_size (cB (sm ⟨r.toArray⟩) ++ x), List.length_append, cB_length, htl]
  refine Ev.bind (parse_f _ (by rw [hu]; omega)) ?_
  by_cases hc2 : x = r
  · rw [hc2, ← hd, hback]
    simp only [if_true, flat8, beq_self_eq_true]
    exact Ev.now _
  · have hne : ¬ (⟨(cB (sm ⟨r.toArray⟩) ++ x).toArray⟩ : ByteArray).toList = (sealB ⟨r.toArray⟩).toList := by
      rw [ba_toList, ba_toList, hd]
      exact fun h => hc2 (List.append_cancel_left h)
    have h5 : op4 ⟨(cB (sm ⟨r.toArray⟩) ++ x).toArray⟩ = (⟨#[]⟩, 5) := by
      unfold op4
      rw [if_neg (by rw [hu]; omega), if_neg]
      intro he
      have e1 : ((⟨(cB (sm ⟨r.toArray⟩) ++ x).toArray⟩ : ByteArray).extract 0 4).data.toList = cB (sm ⟨r.toArray⟩) := by
        rw [ba_extract, ba_mk (cB (sm ⟨r.toArray⟩) ++ x), List.drop_zero, List.take_append_of_le_length (by rw [cB_length]; omega), List.take_of_length_le (by rw [cB_length]; omega)]
      have e2 : (⟨(cB (sm ⟨r.toArray⟩) ++ x).toArray⟩ : ByteArray).extract 4 (⟨(cB (sm ⟨r.toArray⟩) ++ x).toArray⟩ : ByteArray).size = ⟨x.toArray⟩ := by
        refine bytes_ext ?_
        rw [ba_extract, hu, ba_mk (cB (sm ⟨r.toArray⟩) ++ x), ba_mk x, List.drop_append_of_le_length (by rw [cB_length]; omega), List.drop_of_length_le (by rw [cB_length]; omega), List.nil_append, List.take_of_length_le (by omega)]
      rw [e1, e2] at he
      exact hc2 (hS.1 (cB_inj (sum_lt r) (sum_lt x) he).symm)
    have hq : pQ ⟨(cB (sm ⟨r.toArray⟩) ++ x).toArray⟩ = (Q0, 5) := by
      unfold pQ
      rw [h5, if_pos (by decide)]
    have e0 : ((⟨#[]⟩ : ByteArray).toList) = [] := ba_toList _
    rw [hq]
    simp only [if_neg hne, flat8, Q0, if_true, e0, beq_self_eq_true, Bool.and_self]
    exact Ev.now _
theorem FrameBent : armoirelaw24_FrameBent.Pure := by
  intro kind nn obj op a b n p bits ⟨_, _, _, _, _, _, hn⟩ _ hbits
  have hn2 : -9223372036854775808 ≤ n ∧ n < 9223372036854775808 := by
    simp [Lit.wf, IntKind.min, IntKind.max, IntKind.signed, IntKind.bits] at hn
    omega
  have hb := bounds_u32 hbits
  refine Ev.rounds ?_
  obtain ⟨q, hq, hf, hc⟩ := tidyQ_f (kind, nn, obj, op, a, b, n) hn2.1 hn2.2
  unfold armoirelaw24_FrameBent.f
  refine Ev.bind hq ?_
  refine Ev.bind (reqText_f q hf) ?_
  refine Ev.bind awake_true ?_
  have hl1 : 1 ≤ (bodyQ q).length := by
    unfold bodyQ
    split
    · rw [List.length_append, List.length_append]; unfold numB; simp; omega
    · split
      · rw [List.length_append]; unfold numB; simp; omega
      · unfold numB; simp
  have hz : ¬ ((sealB ⟨(bodyQ q).toArray⟩).size : Int) < 5 := by rw [sealB_size, ba_mk_size]; omega
  simp only [if_true, decide_eq_false hz]
  have h := bent_j0 q hf hc p bits.toNat (by omega)
  rw [show ((bits.toNat : Nat) : Int) = bits by omega] at h
  exact h
end Go.Proofs.Ytkkkmbgflflcnaa.Pure

