/- The law ArmoireSteps: for every input it returns true, and its arguments read afterwards as before. No condition beyond the row's. -/
import Derived.Test.YtjiblcncadekcaaRows
import Derived.Test.YtjiblcncadekcaaQAxMRow
import Derived.WalkKit
import Derived.ProofKit
import Derived.OpenShut
import Derived.ShutString
import Derived.ChangeOld
import Derived.Below
import Derived.SizedLaws
namespace Go.Proofs.Ytjiblcncadekcaa.armoireSteps
open Go.ChangeShapes Go.WideShapes Go.ChangeAt Go.RowKit Go.Proofs.YtjiblcncadekcaaW.PrintWords Go.Proofs.YtjiblcncadekcaaW.PrintLast Go.Proofs.Ytjiblcncadekcaa.PA
open Go.ChangeMaps (open_string shut_string)
set_option linter.unusedVariables false
theorem own : ownKnob Try.prog.godebug = none := by kernel_rfl
theorem laidOut : laidOutB Try.prog = true := by kernel_rfl
set_option maxRecDepth 100000 in
theorem lifted (os : Os) (started : os.Started) (H : Type) (enc : TypeId × Value → H) :
    ReturnsInHanded {} Try.checked os 3 .any (Rows.armoireStepsSpec.pre6 enc Try.prog Try.f3 Rows.armoireStepsRow.domain false) (Rows.armoireStepsSpec.post enc Try.prog Try.f3 false true false false) := by
  refine returnsInHanded_of_change_sized (C := Try.checked) own started (by kernel_rfl) Try.func3
    (ChangeSpec.witness6 (enc := enc) (C := Try.checked) false ⟨#[], #[.agg #[.int .i64 0, .int .i64 0, .slice none 0 0], .slice none 0 0], []⟩ 8 (by kernel_rfl) (by kernel_rfl) (by kernel_rfl) (by kernel_rfl)) ?_
  intro W base args ds gs before hval0 hW hcnd hsz0 _
  have hsz : (DataW.weightsEach Try.prog (Try.f3.params.toList ++ Rows.armoireStepsSpec.plain.varTypes Try.prog) (ds ++ gs)).all (· ≤ reachBytes) = true := hsz0
  have hval : ∀ (j : Nat) t v, Try.f3.params[j]? = some t → args[j]? = some v → Value.okWide Try.prog W .any base t v := hval0
  have hW' := hW
  obtain ⟨p, q, hA0, hV, rfl, hfz, hnd⟩ := hW
  have hA : DataW.TrodAll enc Try.prog W 0 (fun _ => true) true Try.f3.params.toList args.toList ds p := hA0
  rw [Try.params3] at hA hval hsz
  obtain ⟨v0, vs0, d0, ds0, p0, q0, hargs, rfl, rfl, h0, r0⟩ := trodAll_cons hA
  obtain ⟨v1, vs1, d1, ds1, p1, q1, rfl, rfl, rfl, h1, r1⟩ := trodAll_cons r0
  obtain ⟨rfl, rfl, rfl⟩ := trodAll_nil r1
  obtain rfl : args = #[v0, v1] := by cases args; simp_all
  obtain ⟨rfl, rfl⟩ := trodVars_none hV
  obtain ⟨cs0, rfl, hz0⟩ := okWide_struct Try.underlying24 (hval 0 24 v0 rfl rfl)
  have k0 := h0
  have lt0 : ∀ x ∈ p0, x.block < W.heap.size := by obtain ⟨m, hm⟩ := k0; exact DataW.trod_lt m _ _ _ hm
  obtain ⟨fu0, hf0⟩ := h0
  obtain ⟨y0, hy0, hw0⟩ := ((show Reads _ Try.prog _ _ _ _ kSta 24 _ from Reads.struct (fun p_ => (⟨p_.1, p_.2.1, p_.2.2⟩ : Sta)) (fun _ => rfl) Try.underlying24 (by kernel_rfl) (Fields.cons rfl (Reads.int Try.underlying3 (by kernel_rfl)) (Fields.cons rfl (Reads.int Try.underlying2 (by kernel_rfl)) (Fields.one rfl (Reads.slice Try.underlying22 (by kernel_rfl) (Reads.struct (g := fun x_ : S68 => (x_.f0, x_.f1)) (fun p_ => (⟨p_.1, p_.2⟩ : S68)) (fun _ => rfl) Try.underlying68 (by kernel_rfl) (Fields.cons rfl (Reads.string Try.underlying9 (by kernel_rfl)) (Fields.one rfl (Reads.string Try.underlying9 (by kernel_rfl))))))))))).2 _ _ _ hf0
  obtain ⟨A0, c0, e0, hc0, hr0⟩ := kSta_open hy0
  obtain rfl : cs0 = #[.int .i64 y0.kind, .int .i64 y0.n, .slice A0 y0.rows.length c0] := by
    apply Array.ext'
    simpa [Value.cells] using e0
  obtain ⟨a1, len1, cap1, rfl⟩ := okWide_slice Try.underlying25 (hval 1 25 v1 rfl rfl)
  have k1 := h1
  have lt1 : ∀ x ∈ p1, x.block < W.heap.size := by obtain ⟨m, hm⟩ := k1; exact DataW.trod_lt m _ _ _ hm
  obtain ⟨fu1, hf1⟩ := h1
  obtain ⟨A1, c1, l1, hcs1, hc1, hr1, hm1, hw1⟩ := Reads.row Try.underlying25 (Reads.struct (g := fun x_ : S41 => (x_.f0, x_.f1, x_.f2, x_.f3)) (fun p_ => (⟨p_.1, p_.2.1, p_.2.2.1, p_.2.2.2⟩ : S41)) (fun _ => rfl) Try.underlying41 (by kernel_rfl) (Fields.cons rfl (Reads.int Try.underlying39 (by kernel_rfl)) (Fields.cons rfl (Reads.string Try.underlying9 (by kernel_rfl)) (Fields.cons rfl (Reads.string Try.underlying9 (by kernel_rfl)) (Fields.one rfl (Reads.int Try.underlying2 (by kernel_rfl))))))) hf1
  simp [Value.cells] at hcs1
  obtain ⟨rfl, rfl, rfl⟩ := hcs1
  clear hA0 hval0 hsz0 hsz
  refine (PA.ArmoireSteps.row W y0.kind y0.n A0 c0 y0.rows hr0 hc0 hw0 _ _ l1 hr1 hc1 hw1).mono fun e W' ⟨he, bel⟩ => ?_
  subst he
  exact ⟨_, rfl, _, _, _, [], _, [], hW', trodAll_mk1 (shut_bool Try.underlying4 _), (trodAll_cons_mk (Below.trod laidOut (by kernel_rfl) (of_decide_eq_true (by kernel_rfl)) k0 bel lt0) (trodAll_cons_mk (Below.trod laidOut (by kernel_rfl) (of_decide_eq_true (by kernel_rfl)) k1 bel lt1) trodAll_mk0)), rfl, bel.frame _, fun h => by cases h⟩
theorem over : Rows.armoireStepsRow.holds Try.pinned (OpenSpec.ofChange Rows.armoireStepsSpec) :=
  OpenClaim.holds_of_wide 3 Try.f3 rfl rfl rfl rfl rfl rfl rfl ⟨rfl, rfl, rfl, rfl, rfl⟩ rfl rfl rfl rfl rfl (by kernel_rfl) Try.func3 (by kernel_rfl)
    (of_decide_eq_true (by kernel_rfl)) (by unfold Func.isWrapper; first | (rw [if_pos (by decide +kernel)]; kernel_rfl) | (rw [if_neg (by decide +kernel)]; exact ⟨rfl, rfl⟩))
    (fun os started H enc _ => lifted os started H enc)
theorem proved : Rows.ArmoireStepsSaid := over
#print axioms proved
end Go.Proofs.Ytjiblcncadekcaa.armoireSteps
namespace Go.Proofs.Ytjiblcncadekcaa
theorem armoireSteps_holds : Rows.ArmoireStepsSaid := armoireSteps.proved
end Go.Proofs.Ytjiblcncadekcaa

