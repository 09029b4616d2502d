/- Any answer: whether it may be is as the document says; if it may, its bytes are the document's, and read back they are this answer and nothing is left. Of its text the first 28 bytes. No condition. -/
import Derived.Test.YtkoojbkkkpljoaaQResFAw
import Derived.Test.YtkoojbkkkpljoaaQResPAx10
import Derived.Test.YtkoojbkkkpljoaaQResPAx12
import Derived.Test.YtkoojbkkkpljoaaQResPAx13
import Derived.Test.YtkoojbkkkpljoaaQResPAx14
import Derived.Test.YtkoojbkkkpljoaaQResPAx7
namespace Go.Proofs.Ytkoojbkkkpljoaa.Pure
open Go.RowKit Go.Proofs.Ytkoojbkkkpljoaa.PA Go.Proofs.YtkoojbkkkpljoaaW.PrintWords Go.Proofs.YtkoojbkkkpljoaaW.PrintLast Go.Proofs.YtkoojbkkkpljoaaW.PrintMore Go.Proofs.Ytkoojbkkkpljoaa Go.Proofs.Ytkoojbkkkpljoaa.PL
theorem putR_f (op : Int) (a : ByteArray) (n : Int) (ho : op < 9223372036854775808) (ha : a.size ≤ 1000) (h0 : -9223372036854775808 ≤ n) (h1 : n < 9223372036854775808) :
    method_Result_Put.f op a n ⟨#[]⟩ = some ⟨(numB op.toNat ++ strB a ++ numB (zig n)).toArray⟩ := by
  have l1 : (numB op.toNat).length ≤ 9 := numB_length _ (by omega)
  have l2 := strB_length a (by omega)
  unfold method_Result_Put.f
  rw [wN1 _ op (by decide) ho, Option.bind_some, show (⟨#[]⟩ : ByteArray).data.toList = [] from rfl, List.nil_append, wS1 _ a (by rw [ba_mk_size]; omega) (by omega), Option.bind_some,
    wI1 _ n (by show (numB op.toNat ++ strB a).toArray.size ≤ _; rw [List.size_toArray, List.length_append]; omega) h0 h1, Option.bind_some]
theorem rR_back (op : Int) (a : ByteArray) (n : Int) (hc : chkR op a n = 0) (h0 : -9223372036854775808 ≤ n) (h1 : n < 9223372036854775808) :
    rR ⟨(numB op.toNat ++ strB a ++ numB (zig n)).toArray⟩ 0 = (op, a, n, ⟨#[]⟩, 0) := by
  have ho : op = 1 ∨ op = 2 := by
    by_cases c : ¬ op = 1 ∧ ¬ op = 2
    · unfold chkR at hc; rw [if_pos c] at hc; exact absurd hc (by decide)
    · omega
  have hab : a.size ≤ 24 := by
    by_cases c : a.size > 24
    · unfold chkR at hc; rw [if_neg (by omega), if_pos c] at hc; exact absurd hc (by decide)
    · omega
  have e1 := tN_num op.toNat 2 (by omega) (by decide) (strB a ++ (numB (zig n) ++ []))
  have e2 := tS_str a 24 (by omega) (by decide) (numB (zig n) ++ [])
  have e4 := tI_num n h0 h1 []
  rw [show ((op.toNat : Nat) : Int) = op by omega] at e1
  unfold rR
  rw [show numB op.toNat ++ strB a ++ numB (zig n) = numB op.toNat ++ (strB a ++ (numB (zig n) ++ [])) by simp only [List.append_assoc, List.append_nil]]
  rw [e1]
  dsimp only
  rw [e2]
  dsimp only
  rw [e4]
  dsimp only
  rw [if_pos ⟨rfl, hc⟩]
theorem textR_f (op : Int) (a : ByteArray) (n : Int) (ho : op < 9223372036854775808) (ha : a.size ≤ 1000) (h0 : -9223372036854775808 ≤ n) (h1 : n < 9223372036854775808) :
    Ev (fun k => armoireref12_TextResult.f k op a n) ⟨(numB op.toNat ++ strB a ++ numB (zig n)).toArray⟩ := by
  have l1 : (numB op.toNat).length ≤ 9 := numB_length _ (by omega)
  have l2 := strB_length a (by omega)
  have l4 : (numB (zig n)).length ≤ 9 := numB_length _ (zig_lt n h0 h1)
  have c1 : (⟨(numB op.toNat).toArray⟩ : ByteArray).size + (⟨(strB a).toArray⟩ : ByteArray).size ≤ 9223372036854775807 := by rw [ba_mk_size, ba_mk_size]; omega
  have c3 : (⟨(numB op.toNat ++ strB a).toArray⟩ : ByteArray).size + (⟨(numB (zig n)).toArray⟩ : ByteArray).size ≤ 9223372036854775807 := by rw [ba_mk_size, ba_mk_size, List.length_append]; omega
  unfold armoireref12_TextResult.f
  refine Ev.bind (rwN_f op ho) ?_
  refine Ev.bind (rwS_f a (by omega)) ?_
  simp only [if_pos c1, ba_mk_append]
  refine Ev.bind (rwI_f n h0 h1) ?_
  simp only [if_pos c3, ba_mk_append]
  exact Ev.now _
theorem results_j0 (op : Int) (a : ByteArray) (n : Int) (h0 : -9223372036854775808 ≤ n) (h1 : n < 9223372036854775808) (ha : a.size ≤ 1000) : Ev (fun k => armoirelaw12_MethodResults.j0 k false op a n) true := by
  refine Ev.step (fun k => by simp only [armoirelaw12_MethodResults.j0]; rw [if_neg (by decide)]) ?_
  refine Ev.bind (checkR_f op a n) ?_
  by_cases hc : chkR op a n = 0
  rotate_left
  · simp only [if_neg hc]
    exact Ev.now _
  have ho : op < 9223372036854775808 := by
    by_cases c : ¬ op = 1 ∧ ¬ op = 2
    · unfold chkR at hc; rw [if_pos c] at hc; exact absurd hc (by decide)
    · omega
  have hr := rR_f ⟨(numB op.toNat ++ strB a ++ numB (zig n)).toArray⟩ 0 ⟨by
    have l1 : (numB op.toNat).length ≤ 9 := numB_length _ (by omega)
    have l2 := strB_length a (by omega)
    have l4 : (numB (zig n)).length ≤ 9 := numB_length _ (zig_lt n h0 h1)
    rw [ba_mk_size, List.length_append, List.length_append]; omega, fun h => absurd rfl h⟩
  rw [rR_back op a n hc h0 h1] at hr
  simp only [if_pos hc, putR_f op a n ho ha h0 h1, Option.bind_some, codec_Out_Text.f, codec_Read.f]
  refine Ev.bind hr ?_
  refine Ev.bind (textR_f op a n ho ha h0 h1) ?_
  simp only [if_true, beq_self_eq_true, Bool.and_true]
  have he : codec_In_End.f (⟨#[]⟩ : ByteArray) 0 = some (0, ⟨#[]⟩, 0) := by
    unfold codec_In_End.f
    rw [if_pos (by rw [ba_toList])]
  simp only [he, Option.bind_some]
  exact Ev.now _
theorem MethodResults : armoirelaw12_MethodResults.Pure := by
  intro op a n ⟨_, _, hn⟩
  have hn2 : -9223372036854775808 ≤ n ∧ n < 9223372036854775808 := by
    simp [Lit.wf, IntKind.min, IntKind.max, IntKind.signed, IntKind.bits] at hn
    omega
  refine Ev.rounds ?_
  have ca : armoirelaw01_Cut.f a 28 = some (a.extract 0 (min 28 a.size)) := cut_f a 28
  have sa := cut_size a 28
  unfold armoirelaw12_MethodResults.f
  simp only [ca, Option.bind_some]
  generalize a.extract 0 (min 28 a.size) = a1 at sa
  refine Ev.bind awake_true ?_
  simp only [if_true]
  refine Ev.bind (checkR_f op a1 n) ?_
  refine Ev.bind (rcheckR_f op a1 n) ?_
  simp only [bne_self_eq_false]
  exact results_j0 op a1 n hn2.1 hn2.2 (by omega)
end Go.Proofs.Ytkoojbkkkpljoaa.Pure

