/- Any bytes (of them the first 66; if one likes with the sum that is right for them): the program and the document read the same sector or the same error, and what is read has these very bytes. No condition. -/
import Derived.Test.YtodikgjanhihhaaSPxFSt
import Derived.Test.YtodikgjanhihhaaSPxPAx10
import Derived.Test.YtodikgjanhihhaaSPxPAx3
import Derived.Test.YtodikgjanhihhaaSPxPAx6
namespace Go.Proofs.Ytodikgjanhihhaa.Pure
open Go.RowKit Go.Proofs.Ytodikgjanhihhaa.PA Go.Proofs.YtodikgjanhihhaaW.PrintWords Go.Proofs.YtodikgjanhihhaaW.PrintLast Go.Proofs.YtodikgjanhihhaaW.PrintMore Go.Proofs.Ytodikgjanhihhaa Go.Proofs.Ytodikgjanhihhaa.PL
theorem pS_ok (a : ByteArray) (h : (pS a).2.2.2 = 0) : FitS (pS a).1 (pS a).2.1 (pS a).2.2.1 ∧ (tx (pS a).1 (pS a).2.1 (pS a).2.2.1).data.toList = a.data.toList := by
  have hfit := parse_fit a
  unfold pS at h ⊢
  by_cases c1 : a.size = 64
  rotate_left
  · rw [if_pos c1] at h; exact absurd h (by decide)
  rw [if_neg (fun hh => hh c1)] at h ⊢
  by_cases c2 : (a.extract 0 4).data.toList = cB (sm (a.extract 4 a.size))
  rotate_left
  · rw [if_pos c2] at h; exact absurd h (by decide)
  rw [if_neg (fun hh => hh c2)] at h ⊢
  dsimp only at h ⊢
  generalize tN (a.extract 4 a.size) 0 1099511627776 = x at hfit h ⊢
  generalize tN x.2.1 x.2.2 255 = y at hfit h ⊢
  generalize tS y.2.1 y.2.2 44 = z at hfit h ⊢
  by_cases c3 : z.2.2 = 0
  rotate_left
  · rw [if_pos c3] at h; exact absurd h c3
  rw [if_neg (fun hh => hh c3)] at h ⊢
  by_cases c4 : x.1 < 1
  · rw [if_pos c4] at h; exact absurd h (by decide)
  rw [if_neg c4] at h ⊢
  by_cases c5 : (tx x.1 y.1 z.1).data.toList = a.data.toList
  · rw [if_pos c5]; exact ⟨hfit, c5⟩
  · rw [if_neg c5] at h; exact absurd h (by decide)
theorem pS_mark (a : ByteArray) : wrap64 (pS a).2.1 = (pS a).2.1 := by
  by_cases h : (pS a).2.2.2 = 0
  · have := (pS_ok a h).1
    have h2 := this.2.1
    have h3 := this.2.2.1
    unfold wrap64; omega
  · have e : (pS a).2.1 = 0 := by
      unfold pS at h ⊢
      by_cases c1 : a.size = 64
      rotate_left
      · rw [if_pos c1]
      rw [if_neg (fun hh => hh c1)] at h ⊢
      by_cases c2 : (a.extract 0 4).data.toList = cB (sm (a.extract 4 a.size))
      rotate_left
      · rw [if_pos c2]
      rw [if_neg (fun hh => hh c2)] at h ⊢
      dsimp only at h ⊢
      generalize tN (a.extract 4 a.size) 0 1099511627776 = x at h ⊢
      generalize tN x.2.1 x.2.2 255 = y at h ⊢
      generalize tS y.2.1 y.2.2 44 = z at h ⊢
      by_cases c3 : z.2.2 = 0
      rotate_left
      · rw [if_pos c3]
      rw [if_neg (fun hh => hh c3)] at h ⊢
      by_cases c4 : x.1 < 1
      · rw [if_pos c4]
      rw [if_neg c4] at h ⊢
      by_cases c5 : (tx x.1 y.1 z.1).data.toList = a.data.toList
      · rw [if_pos c5] at h; exact absurd rfl h
      · rw [if_neg c5]
    rw [e]
    unfold wrap64; omega
theorem parses_j1 (a : ByteArray) (ha : a.size ≤ 1000000) : Ev (fun k => armoirelaw04_StampParses.j1 k a) true := by
  refine Ev.step (fun k => by simp only [armoirelaw04_StampParses.j1]; rfl) ?_
  refine Ev.bind (parse_f a ha) ?_
  refine Ev.bind (rparse_f a ha) ?_
  refine Ev.bind awake_true ?_
  simp only [if_true, armoirelaw04_Told.f, Option.bind_some, pS_mark, beq_self_eq_true, Bool.and_true]
  by_cases h : (pS a).2.2.2 = 0
  · simp only [if_pos h]
    refine Ev.bind (text_f _ _ _ (pS_ok a h).1) ?_
    simp only [ba_toList, (pS_ok a h).2, beq_self_eq_true]
    exact Ev.now _
  · simp only [if_neg h]
    exact Ev.now _
theorem parses_j0 (a : ByteArray) (ha : a.size ≤ 66) (b : Bool) (hb : b = true → a.size = 64) : Ev (fun k => armoirelaw04_StampParses.j0 k a b) true := by
  refine Ev.step (fun k => by simp only [armoirelaw04_StampParses.j0]; rfl) ?_
  cases b with
  | false =>
    simp only [Bool.false_eq_true, if_false]
    exact parses_j1 a (by omega)
  | true =>
    have hz := hb rfl
    have c : (4 : Int) ≤ (a.size : Int) := by omega
    have hx : (a.extract 4 a.size).size = 60 := by rw [ba_size, ba_extract, List.length_take, List.length_drop, ← ba_size]; omega
    simp only [if_true, if_pos c]
    generalize a.extract 4 a.size = x at hx
    have c3 : (⟨(cB (sm x)).toArray⟩ : ByteArray).size + x.size ≤ 9223372036854775807 := by rw [ba_mk_size, cB_length, hx]; omega
    have hs : ((⟨(cB (sm x)).toArray⟩ : ByteArray) ++ x).size ≤ 1000000 := by rw [ByteArray.size_append, ba_mk_size, cB_length, hx]; omega
    refine Ev.bind (rsum_f x (by omega)) ?_
    simp only [rcB_f _ (sm_lt x), Option.bind_some, if_pos c3]
    exact parses_j1 _ hs
theorem StampParses : armoirelaw04_StampParses.Pure := by
  intro s b _
  refine Ev.rounds ?_
  have ca : armoirelaw01_Cut.f s 66 = some (s.extract 0 (min 66 s.size)) := cut_f s 66
  have sa := cut_size s 66
  unfold armoirelaw04_StampParses.f
  simp only [ca, Option.bind_some]
  generalize s.extract 0 (min 66 s.size) = a at sa
  cases b with
  | false =>
    simp only [Bool.false_eq_true, if_false]
    exact parses_j0 a sa false (fun h => by cases h)
  | true =>
    simp only [if_true]
    exact parses_j0 a sa _ (fun h => by have := beq_iff_eq.1 h; omega)
end Go.Proofs.Ytodikgjanhihhaa.Pure

