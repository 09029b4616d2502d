/- The law FrameRequests: for every input that its row lets in it returns true, and its arguments read afterwards as before. Written by a program of this claim's own. -/
import Derived.Test.YtkkkmbgflflcnaaRows
import Derived.Test.YtkkkmbgflflcnaaQQxPAx20
import Derived.Test.YtkkkmbgflflcnaaQQxPureFrameRequests
import Derived.Test.YtkkkmbgflflcnaaQQxMRow
import Derived.WalkKit
import Derived.ProofKit
import Derived.OpenShut
import Derived.ShutString
import Derived.ChangeOld
import Derived.Below
import Derived.SizedLaws
namespace Go.Proofs.Ytkkkmbgflflcnaa.frameRequests
open Go.ChangeShapes Go.WideShapes Go.ChangeAt Go.RowKit
open Go.ChangeMaps (open_string shut_string)
open Go.Proofs.Ytkkkmbgflflcnaa.PA Go.Proofs.YtkkkmbgflflcnaaW.PrintWords
set_option linter.unusedVariables false
theorem own : ownKnob Try.prog.godebug = none := by kernel_rfl
theorem laidOut : laidOutB Try.prog = true := by kernel_rfl
set_option maxRecDepth 100000 in
theorem lifted (os : Os) (started : os.Started) (H : Type) (enc : TypeId × Value → H) :
    ReturnsInHanded {} Try.checked os 3 .any (Rows.frameRequestsSpec.pre6 enc Try.prog Try.f3 Rows.frameRequestsRow.domain false) (Rows.frameRequestsSpec.post enc Try.prog Try.f3 false true false false) := by
  refine returnsInHanded_of_change_sized (C := Try.checked) own started (by kernel_rfl) Try.func3
    (ChangeSpec.witness6 (enc := enc) (C := Try.checked) false ⟨#[], #[.agg #[.int .i64 0, .int .i64 0, .string ByteArray.empty, .int .i64 0, .string ByteArray.empty, .string ByteArray.empty, .int .i64 0], .bool false], []⟩ 8 (by kernel_rfl) (by kernel_rfl) (by kernel_rfl) (by kernel_rfl)) ?_
  intro W base args ds gs before hval0 hW hcnd hsz0 _
  have hsz : (DataW.weightsEach Try.prog (Try.f3.params.toList ++ Rows.frameRequestsSpec.plain.varTypes Try.prog) (ds ++ gs)).all (· ≤ reachBytes) = true := hsz0
  have hval : ∀ (j : Nat) t v, Try.f3.params[j]? = some t → args[j]? = some v → Value.okWide Try.prog W .any base t v := hval0
  have hW' := hW
  obtain ⟨p, q, hA0, hV, rfl, hfz, hnd⟩ := hW
  have hA : DataW.TrodAll enc Try.prog W 0 (fun _ => true) true Try.f3.params.toList args.toList ds p := hA0
  rw [Try.params3] at hA hval hsz
  obtain ⟨v0, vs0, d0, ds0, p0, q0, hargs, rfl, rfl, h0, r0⟩ := trodAll_cons hA
  obtain ⟨v1, vs1, d1, ds1, p1, q1, rfl, rfl, rfl, h1, r1⟩ := trodAll_cons r0
  obtain ⟨rfl, rfl, rfl⟩ := trodAll_nil r1
  obtain rfl : args = #[v0, v1] := by cases args; simp_all
  obtain ⟨rfl, rfl⟩ := trodVars_none hV
  obtain ⟨cs0, rfl, hz0⟩ := okWide_struct Try.underlying26 (hval 0 26 v0 rfl rfl)
  have k0 := h0
  have lt0 : ∀ x ∈ p0, x.block < W.heap.size := by obtain ⟨m, hm⟩ := k0; exact DataW.trod_lt m _ _ _ hm
  obtain ⟨fu0, hf0⟩ := h0
  obtain ⟨y0, hy0, hw0⟩ := ((show Reads _ Try.prog _ _ _ _ k26 26 _ from Reads.struct (fun p_ => (⟨p_.1, p_.2.1, p_.2.2.1, p_.2.2.2⟩ : S26)) (fun _ => rfl) Try.underlying26 (by kernel_rfl) (Fields.cons rfl (Reads.int Try.underlying3 (by kernel_rfl)) (Fields.cons rfl (Reads.int Try.underlying3 (by kernel_rfl)) (Fields.cons rfl (Reads.string Try.underlying9 (by kernel_rfl)) (Fields.one rfl (show Reads _ Try.prog _ _ _ _ k24 24 _ from Reads.struct (fun p_ => (⟨p_.1, p_.2.1, p_.2.2.1, p_.2.2.2⟩ : S24)) (fun _ => rfl) Try.underlying24 (by kernel_rfl) (Fields.cons rfl (Reads.int Try.underlying22 (by kernel_rfl)) (Fields.cons rfl (Reads.string Try.underlying9 (by kernel_rfl)) (Fields.cons rfl (Reads.string Try.underlying9 (by kernel_rfl)) (Fields.one rfl (Reads.int Try.underlying2 (by kernel_rfl))))))))))))).2 _ _ _ hf0
  obtain rfl : cs0 = #[.int .i64 y0.f0, .int .i64 y0.f1, .string y0.f2, .int .i64 y0.f3.f0, .string y0.f3.f1, .string y0.f3.f2, .int .i64 y0.f3.f3] := by
    have e_ := k26_open hy0
    apply Array.ext'
    simpa [Value.cells] using e_
  obtain ⟨a1, rfl, rfl, rfl⟩ := open_bool Try.underlying4 (hval 1 4 v1 rfl rfl) h1
  clear hA0 hval0 hsz0 hsz
  refine (PA.armoirelaw24_FrameRequests.walk Pure.FrameRequests y0.f0 y0.f1 y0.f2 y0.f3.f0 y0.f3.f1 y0.f3.f2 y0.f3.f3 a1 W hw0).mono fun e W' ⟨he, bel⟩ => ?_
  subst he
  exact ⟨_, rfl, _, _, _, [], _, [], hW', trodAll_mk1 (shut_bool Try.underlying4 _), (trodAll_cons_mk (Below.trod laidOut (by kernel_rfl) (of_decide_eq_true (by kernel_rfl)) k0 bel lt0) (trodAll_cons_mk (shut_bool Try.underlying4 _) trodAll_mk0)), rfl, bel.frame _, fun h => by cases h⟩
theorem over : Rows.frameRequestsRow.holds Try.pinned (OpenSpec.ofChange Rows.frameRequestsSpec) :=
  OpenClaim.holds_of_wide 3 Try.f3 rfl rfl rfl rfl rfl rfl rfl ⟨rfl, rfl, rfl, rfl, rfl⟩ rfl rfl rfl rfl rfl (by kernel_rfl) Try.func3 (by kernel_rfl)
    (of_decide_eq_true (by kernel_rfl)) (by unfold Func.isWrapper; first | (rw [if_pos (by decide +kernel)]; kernel_rfl) | (rw [if_neg (by decide +kernel)]; exact ⟨rfl, rfl⟩))
    (fun os started H enc _ => lifted os started H enc)
theorem proved : Rows.FrameRequestsSaid := over
#print axioms proved
end Go.Proofs.Ytkkkmbgflflcnaa.frameRequests
namespace Go.Proofs.Ytkkkmbgflflcnaa
theorem frameRequests_holds : Rows.FrameRequestsSaid := frameRequests.proved
end Go.Proofs.Ytkkkmbgflflcnaa

