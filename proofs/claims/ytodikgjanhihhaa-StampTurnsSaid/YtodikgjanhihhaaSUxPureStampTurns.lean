/- A sector of which up to 32 bits side by side are turned, within the sum or behind it: it is read just if nothing has changed, and else the error is that of another sum. Of its data the first 44 bytes. No condition. -/
import Derived.OpenShut
import Derived.Test.YtodikgjanhihhaaSUxFSt
import Derived.Test.YtodikgjanhihhaaSUxMTurnMath
import Derived.Test.YtodikgjanhihhaaSUxPAx11
import Derived.Test.YtodikgjanhihhaaSUxPAx3
import Derived.Test.YtodikgjanhihhaaSUxPAx5
namespace Go.Proofs.Ytodikgjanhihhaa.Pure
open Go.RowKit Go.Proofs.Ytodikgjanhihhaa.PA Go.Proofs.YtodikgjanhihhaaW.PrintWords Go.Proofs.YtodikgjanhihhaaW.PrintLast Go.Proofs.YtodikgjanhihhaaW.PrintMore Go.Proofs.Ytodikgjanhihhaa Go.Proofs.Ytodikgjanhihhaa.PL CrcM
theorem pS_bent (n m : Int) (d : ByteArray) (hf : FitS n m d) (hn : 1 ≤ n) (u : ByteArray) (hu : u.size = 64)
    (h : u.data.toList = (tx n m d).data.toList ∨ ¬ (u.extract 0 4).data.toList = cB (sm (u.extract 4 u.size))) :
    ((((pS u).2.2.2 == 0) == (u.toList == (tx n m d).toList)) = true) ∧ ((pS u).2.2.2 = 0 ∨ (pS u).2.2.2 = 5) := by
  by_cases e : u.data.toList = (tx n m d).data.toList
  · have e2 : u = tx n m d := bytes_ext e
    subst e2
    rw [pS_tx n m d hf hn]
    exact ⟨by simp, .inl rfl⟩
  · have h5 : (pS u).2.2.2 = 5 := by
      unfold pS
      rw [if_neg (by simp [hu]), if_pos (h.resolve_left e)]
    rw [h5, ba_toList, ba_toList, beq_eq_false_iff_ne.mpr e]
    exact ⟨rfl, .inr rfl⟩
theorem turn_f (s : ByteArray) (p n : Nat) (hs : s.size ≤ 1000) (hp : p < 100000) (hn : n < 4294967296) : armoireref01_Turn.f s (p : Int) (n : Int) = some ⟨(turnL 32 s.data.toList p n).toArray⟩ := by
  unfold armoireref01_Turn.f
  rw [if_pos ⟨by omega, by omega, by omega, by omega, by omega⟩]
  rfl
theorem turns_end (n m : Int) (d : ByteArray) (hf : FitS n m d) (hn : 1 ≤ n) (u : ByteArray) (hu : u.size = 64)
    (h : u.data.toList = (tx n m d).data.toList ∨ ¬ (u.extract 0 4).data.toList = cB (sm (u.extract 4 u.size))) :
    Ev (fun k => (stamp_Parse.f k u).bind fun b => (if ((b.2.2.2 == 0) == (u.toList == (tx n m d).toList)) = true then (if b.2.2.2 = 0 then (some true) else (some (b.2.2.2 == 5))) else (some false))) true := by
  obtain ⟨h1, h2⟩ := pS_bent n m d hf hn u hu h
  refine Ev.bind (parse_f u (by omega)) ?_
  simp only [if_pos h1]
  rcases h2 with h2 | h2
  · simp only [if_pos h2]; exact Ev.now _
  · rw [h2]; simp only [beq_self_eq_true]; exact Ev.now _
theorem turns_j0 (n m : Int) (d : ByteArray) (hf : FitS n m d) (hn : 1 ≤ n) (p : Int) (bits : Nat) (hb : bits < 4294967296) (b : Bool) : Ev (fun k => armoirelaw04_StampTurns.j0 k p (bits : Int) b false n m d) true := by
  have m1 := i64_mask 16 (by decide) p
  rw [show (((2 ^ 16 - 1 : Nat)) : Int) = 65535 from rfl, show (2 : Int) ^ 16 = 65536 from rfl] at m1
  refine Ev.step (fun k => by simp only [armoirelaw04_StampTurns.j0]; rw [if_neg (by decide)]) ?_
  generalize Go.bits .and .i64 p 65535 = q at m1
  have hz := tx_size n m d hf
  have c : (4 : Int) ≤ ((tx n m d).size : Int) := by omega
  have c0 : (0 : Int) ≤ 4 := by decide
  refine Ev.bind (text_f n m d hf) ?_
  simp only [if_pos c]
  have hh : (tx n m d).extract 0 4 = ⟨(cB (sm ⟨(pad60 (secB n m d)).toArray⟩)).toArray⟩ := sealB_head _
  have ht : (tx n m d).extract 4 (tx n m d).size = ⟨(pad60 (secB n m d)).toArray⟩ := sealB_tail _
  have hd : (tx n m d).data.toList = cB (sm ⟨(pad60 (secB n m d)).toArray⟩) ++ pad60 (secB n m d) := rfl
  have hpl := pad60_length (secB n m d) (by have := (secB_length n m d hf).2.2.2; omega)
  rw [hh, ht]
  obtain ⟨r, hr⟩ : ∃ r, r = pad60 (secB n m d) := ⟨_, rfl⟩
  rw [← hr] at hd hpl ⊢
  have hsm : sm ⟨r.toArray⟩ = sum r := rfl
  have hsl : sum r < 4294967296 := sum_lt r
  have ext : ∀ x y : List UInt8, x.length = 4 → y.length = 60 → ((⟨(x ++ y).toArray⟩ : ByteArray).size = 64 ∧ ((⟨(x ++ y).toArray⟩ : ByteArray).extract 0 4).data.toList = x ∧ (⟨(x ++ y).toArray⟩ : ByteArray).extract 4 (⟨(x ++ y).toArray⟩ : ByteArray).size = ⟨y.toArray⟩) := by
    intro x y hx hy
    have hz2 : (⟨(x ++ y).toArray⟩ : ByteArray).size = 64 := by rw [ba_mk_size (x ++ y), List.length_append, hx, hy]
    refine ⟨hz2, ?_, bytes_ext ?_⟩
    · rw [ba_extract, ba_mk (x ++ y), List.drop_zero, List.take_append_of_le_length (by omega), List.take_of_length_le (by omega)]
    · rw [ba_extract, hz2, ba_mk (x ++ y), ba_mk y, List.drop_append_of_le_length (by omega), List.drop_of_length_le (by omega), List.nil_append, List.take_of_length_le (by omega)]
  cases b with
  | true =>
    obtain ⟨p1, hp1⟩ : ∃ p1 : Nat, Int.tmod q 32 = (p1 : Int) ∧ p1 < 32 := ⟨(q % 32).toNat, by rw [Int.tmod_eq_emod_of_nonneg m1.1]; omega, by omega⟩
    rw [hp1.1]
    have hT := turn_f ⟨(cB (sm ⟨r.toArray⟩)).toArray⟩ p1 bits (by rw [ba_mk_size, cB_length]; omega) (by omega) hb
    rw [ba_mk] at hT
    have hl := turnL_length 32 (cB (sm ⟨r.toArray⟩)) p1 bits
    rw [cB_length] at hl
    obtain ⟨x, hx⟩ : ∃ x, x = turnL 32 (cB (sm ⟨r.toArray⟩)) p1 bits := ⟨_, rfl⟩
    rw [← hx] at hT hl
    obtain ⟨e1, e2, e3⟩ := ext x r hl hpl
    have c3 : (⟨x.toArray⟩ : ByteArray).size + (⟨r.toArray⟩ : ByteArray).size ≤ 9223372036854775807 := by rw [ba_mk_size, ba_mk_size, hl, hpl]; omega
    simp only [if_true, hT, Option.bind_some, if_pos c3, ba_mk_append]
    refine turns_end n m d hf hn _ e1 ?_
    rw [e2, e3]
    by_cases hc : x = cB (sm ⟨r.toArray⟩)
    · left; rw [hd, ← hc]
    · exact .inr hc
  | false =>
    obtain ⟨p1, hp1⟩ : ∃ p1 : Nat, Int.tmod q 480 = (p1 : Int) ∧ p1 < 480 := ⟨(q % 480).toNat, by rw [Int.tmod_eq_emod_of_nonneg m1.1]; omega, by omega⟩
    rw [hp1.1]
    have hT := turn_f ⟨r.toArray⟩ p1 bits (by rw [ba_mk_size, hpl]; omega) (by omega) hb
    rw [ba_mk] at hT
    have hl := turnL_length 32 r p1 bits
    rw [hpl] at hl
    have hS := turn_sum r p1 bits (by omega)
    obtain ⟨x, hx⟩ : ∃ x, x = turnL 32 r p1 bits := ⟨_, rfl⟩
    rw [← hx] at hT hl hS
    obtain ⟨e1, e2, e3⟩ := ext (cB (sm ⟨r.toArray⟩)) x (cB_length _) hl
    have c3 : (⟨(cB (sm ⟨r.toArray⟩)).toArray⟩ : ByteArray).size + (⟨x.toArray⟩ : ByteArray).size ≤ 9223372036854775807 := by rw [ba_mk_size, ba_mk_size, hl, cB_length]; omega
    simp only [Bool.false_eq_true, if_false, hT, Option.bind_some, if_pos c3, ba_mk_append]
    refine turns_end n m d hf hn _ e1 ?_
    rw [e2, e3]
    by_cases hc : x = r
    · left; rw [hd, ← hc]
    · right
      intro he
      have := cB_inj hsl (sum_lt x) (by rw [hsm] at he; exact he)
      exact hc (hS.1 this.symm)
theorem StampTurns : armoirelaw04_StampTurns.Pure := by
  intro n m d p bits b ⟨_, hm, _⟩ _ hbits
  have hm2 : 0 ≤ m ∧ m ≤ 255 := by
    simp [Lit.wf, IntKind.min, IntKind.max, IntKind.signed, IntKind.bits] at hm
    omega
  have hb := bounds_u32 hbits
  refine Ev.rounds ?_
  have ca : armoirelaw01_Cut.f d 44 = some (d.extract 0 (min 44 d.size)) := cut_f d 44
  have sa := cut_size d 44
  unfold armoirelaw04_StampTurns.f
  simp only [ca, Option.bind_some]
  generalize d.extract 0 (min 44 d.size) = d1 at sa
  refine Ev.bind awake_true ?_
  simp only [if_true]
  refine Ev.bind (check_f n m d1) ?_
  by_cases hc : chkS n d1 = 0
  · rw [hc]
    have hn : 1 ≤ n ∧ n ≤ 1099511627776 := by
      by_cases c1 : n < 1 ∨ n > 1099511627776
      · unfold chkS at hc; rw [if_pos c1] at hc; exact absurd hc (by decide)
      · omega
    have h := turns_j0 n m d1 ⟨hn.2, hm2.1, hm2.2, sa⟩ hn.1 p bits.toNat (by omega) b
    rw [show ((bits.toNat : Nat) : Int) = bits by omega] at h
    exact h
  · have e : (chkS n d1 != 0) = true := bne_iff_ne.mpr hc
    rw [e]
    refine Ev.step (fun k => by simp only [armoirelaw04_StampTurns.j0, if_true]; rfl) ?_
    exact Ev.bind (f := fun _ t => some t) awake_true (Ev.now _)
end Go.Proofs.Ytodikgjanhihhaa.Pure

