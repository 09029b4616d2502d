/- In whatever parts bytes come, the sum is theirs (of at most 8 texts, of each its first 40 bytes): behind each part, and of all as a list. No condition. -/
import Derived.Test.YtbakghjgflcfaaaFRP
namespace Go.Proofs.Ytbakghjgflcfaaa.Pure
open Go.RowKit Go.Proofs.Ytbakghjgflcfaaa.PP Go.Proofs.YtbakghjgflcfaaaW.PrintWords Go.Proofs.YtbakghjgflcfaaaW.PrintLast CrcM

theorem awake_true : Ev (fun k => armoirelaw01_awake.f k) true := by
  refine Ev.bind (f := fun _ t => some (t == 3421780262)) (of_one _ (by decide)) ?_
  rw [show sum (⟨#[49, 50, 51, 52, 53, 54, 55, 56, 57]⟩ : ByteArray).data.toList = 3421780262 from check_sum]
  exact Ev.now _
theorem cut_f (s : ByteArray) (n : Nat) : armoirelaw01_Cut.f s (n : Int) = some (s.extract 0 (min n s.size)) := by
  unfold armoirelaw01_Cut.f
  by_cases h : (s.size : Int) > n
  · rw [if_pos h, if_pos (by omega), if_pos (by omega), show min n s.size = n by omega]
    rfl
  · rw [if_neg h, show min n s.size = s.size by omega]
    simp
theorem flat_snoc (l : List ByteArray) (t : ByteArray) : flat (l ++ [t]) = flat l ++ t.data.toList := by simp [flat]
theorem done (x all : ByteArray) (l few : List ByteArray) (i : Int) (hall : all.data.toList = flat few) (hz : all.size ≤ 320) (hf : few.length ≤ 8) (hs : ∀ s ∈ few, s.size ≤ 40) (_ : x = x) :
    Ev (fun k => armoirelaw01_CrcParts.j1 k l all few i false ((sum (flat few) : Nat) : Int)) true := by
  have h1 := of_f few (by omega) (fun s h => by have := hs s h; omega)
  have h2 := ref_f all (by omega)
  rw [hall] at h2
  refine Ev.step (f := fun k => (crc_Of.f k few).bind fun a => (armoireref01_Of.f k all).bind fun b => if a = b then (armoireref01_Of.f k all).bind fun c => some (((sum (flat few) : Nat) : Int) == c) else some false) (fun k => ?_) ?_
  · simp only [armoirelaw01_CrcParts.j1, crc_Sum_Value.f]
    rw [if_neg (by decide)]
    rfl
  · refine Ev.bind (f := fun k a => (armoireref01_Of.f k all).bind fun b => if a = b then (armoireref01_Of.f k all).bind fun c => some (((sum (flat few) : Nat) : Int) == c) else some false) h1 ?_
    refine Ev.bind (f := fun k b => if ((sum (flat few) : Nat) : Int) = b then (armoireref01_Of.f k all).bind fun c => some (((sum (flat few) : Nat) : Int) == c) else some false) h2 ?_
    simp only [if_true]
    refine Ev.bind (f := fun _ c => some (((sum (flat few) : Nat) : Int) == c)) h2 ?_
    rw [beq_self_eq_true]
    exact Ev.now _
theorem loop (l : List ByteArray) (d : Nat) : ∀ (i : Nat) (all : ByteArray) (few : List ByteArray), i + d = 8 → few.length = i → all.data.toList = flat few → all.size ≤ 40 * i → (∀ s ∈ few, s.size ≤ 40) →
    Ev (fun k => armoirelaw01_CrcParts.l0 k l all few (i : Int) ((sum (flat few) : Nat) : Int)) true := by
  induction d with
  | zero =>
    intro i all few hi hf hall hz hs
    have hd := done all all l few (i : Int) hall (by omega) (by omega) hs rfl
    refine Ev.step (fun k => ?_) hd
    simp only [armoirelaw01_CrcParts.l0]
    by_cases c : (i : Int) < (l.length : Int)
    · rw [if_pos c, decide_eq_false (by omega)]
    · rw [if_neg c]
  | succ d ih =>
    intro i all few hi hf hall hz hs
    by_cases c : (i : Int) < (l.length : Int)
    rotate_left
    · have hd := done all all l few (i : Int) hall (by omega) (by omega) hs rfl
      refine Ev.step (fun k => ?_) hd
      simp only [armoirelaw01_CrcParts.l0]
      rw [if_neg c]
    · have hc := cut_f (rdOf ByteArray.empty l (i : Int)) 40
      have ht : ((rdOf ByteArray.empty l (i : Int)).extract 0 (min 40 (rdOf ByteArray.empty l (i : Int)).size)).size ≤ 40 := by simp; omega
      generalize (rdOf ByteArray.empty l (i : Int)).extract 0 (min 40 (rdOf ByteArray.empty l (i : Int)).size) = t at hc ht
      have hall2 : (all ++ t).data.toList = flat (few ++ [t]) := by
        rw [flat_snoc, ← hall]
        simp [ByteArray.data_append]
      have hz2 : (all ++ t).size ≤ 40 * (i + 1) := by rw [ByteArray.size_append]; omega
      have ha := add_f (flat few) t (by omega)
      rw [← flat_snoc] at ha
      have hr := ref_f (all ++ t) (by omega)
      rw [hall2] at hr
      have hn := ih (i + 1) (all ++ t) (few ++ [t]) (by omega) (by simp [hf]) hall2 hz2 (by
        intro s h
        rcases List.mem_append.1 h with h | h
        · exact hs s h
        · rw [List.mem_singleton.1 h]; exact ht)
      refine Ev.step (f := fun k => armoirelaw01_CrcParts.j1 k l all few (i : Int) true ((sum (flat few) : Nat) : Int)) (fun k => ?_) ?_
      · simp only [armoirelaw01_CrcParts.l0]
        rw [if_pos c, decide_eq_true (by omega)]
      · refine Ev.step (f := fun k => (crc_Sum_Add.f k ((sum (flat few) : Nat) : Int) t).bind fun a => (armoireref01_Of.f k (all ++ t)).bind fun b => if a = b then armoirelaw01_CrcParts.l0 k l (all ++ t) (few ++ [t]) ((i + 1 : Nat) : Int) a else some false) (fun k => ?_) ?_
        · have w1 : wrap64 ((i : Int) + 1) = ((i + 1 : Nat) : Int) := wrap_in _ (by omega) (by omega)
          have g1 : (0 : Int) ≤ i := by clear w1; omega
          have g2 : few.length < 8796093022208 := by clear w1; omega
          have g3 : all.size + t.size ≤ 9223372036854775807 := by clear w1; omega
          simp only [armoirelaw01_CrcParts.j1, crc_Sum_Value.f]
          rw [show ((40 : Nat) : Int) = 40 from rfl] at hc
          rw [if_pos trivial, if_pos g1, if_pos c, hc]
          simp only [Option.bind_some, if_pos g2, if_pos g3, w1]
          rfl
        · refine Ev.bind (f := fun k a => (armoireref01_Of.f k (all ++ t)).bind fun b => if a = b then armoirelaw01_CrcParts.l0 k l (all ++ t) (few ++ [t]) ((i + 1 : Nat) : Int) a else some false) ha ?_
          refine Ev.bind (f := fun k b => if ((sum (flat (few ++ [t])) : Nat) : Int) = b then armoirelaw01_CrcParts.l0 k l (all ++ t) (few ++ [t]) ((i + 1 : Nat) : Int) ((sum (flat (few ++ [t])) : Nat) : Int) else some false) hr ?_
          simp only [if_true]
          exact hn
theorem CrcParts : armoirelaw01_CrcParts.Pure := by
  intro l _
  refine Ev.rounds ?_
  have h := loop l 8 0 ⟨#[]⟩ [] rfl rfl rfl (by decide) (by simp)
  rw [show ((sum (flat []) : Nat) : Int) = 0 by decide] at h
  unfold armoirelaw01_CrcParts.f
  refine Ev.bind awake_true ?_
  simp only [if_true]
  exact h
end Go.Proofs.Ytbakghjgflcfaaa.Pure
