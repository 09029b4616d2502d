import Derived.Test.YtkoojbkkkpljoaaQReaPAx0
namespace Go.Proofs.Ytkoojbkkkpljoaa.PA
open Go.Proofs.Ytkoojbkkkpljoaa.PL
open Go.RowKit Go.Proofs.YtkoojbkkkpljoaaW.PrintWords Go.Proofs.YtkoojbkkkpljoaaW.PrintLast Go.Proofs.YtkoojbkkkpljoaaW.PrintMore
attribute [local go_sem] max2_int min2_int max_two min_two max_three min_three max_four min_four
set_option linter.unusedVariables false
set_option linter.unusedSimpArgs false
def method_shapes.f  : Option ((List (S71))) := some (([(⟨1, (⟨#[114, 101, 97, 100]⟩ : ByteArray), false, false, false⟩ : S71), (⟨1, (⟨#[119, 114, 105, 116, 101]⟩ : ByteArray), true, false, false⟩ : S71), (⟨2, (⟨#[97, 100, 100]⟩ : ByteArray), false, false, true⟩ : S71), (⟨2, (⟨#[99, 111, 117, 110, 116]⟩ : ByteArray), false, false, false⟩ : S71), (⟨3, (⟨#[99, 114, 101, 100, 105, 116]⟩ : ByteArray), false, false, true⟩ : S71), (⟨3, (⟨#[100, 101, 98, 105, 116]⟩ : ByteArray), false, false, true⟩ : S71), (⟨3, (⟨#[98, 97, 108, 97, 110, 99, 101]⟩ : ByteArray), false, false, false⟩ : S71), (⟨4, (⟨#[105, 110, 115, 101, 114, 116]⟩ : ByteArray), true, false, false⟩ : S71), (⟨4, (⟨#[114, 101, 109, 111, 118, 101]⟩ : ByteArray), true, false, false⟩ : S71), (⟨4, (⟨#[104, 97, 115]⟩ : ByteArray), true, false, false⟩ : S71), (⟨5, (⟨#[98, 105, 110, 100]⟩ : ByteArray), true, true, false⟩ : S71), (⟨5, (⟨#[117, 110, 98, 105, 110, 100]⟩ : ByteArray), true, false, false⟩ : S71), (⟨5, (⟨#[108, 111, 111, 107]⟩ : ByteArray), true, false, false⟩ : S71), (⟨6, (⟨#[101, 110, 113]⟩ : ByteArray), true, false, false⟩ : S71), (⟨6, (⟨#[100, 101, 113]⟩ : ByteArray), false, false, false⟩ : S71), (⟨7, (⟨#[112, 117, 116]⟩ : ByteArray), true, false, false⟩ : S71), (⟨7, (⟨#[116, 97, 107, 101]⟩ : ByteArray), false, false, false⟩ : S71)] : List (S71)))
set_option maxHeartbeats 2000000 in
set_option maxRecDepth 100000 in
theorem method_shapes.calls  (r : List (S71)) (w : World) (h : method_shapes.f  = some r) :
    Calls Try.prog 39 #[] w fun e w' => ∃ v0_ : Value, e = .returned (v0_) ∧ Kd.R k71 71 w' w.heap.size (fun _ => True) v0_ r ∧ Below w.heap.size w w' := by
  have hu71 := Try.underlying71
  have HB := Aside0.mk (Below.refl w.heap.size w)
  have H : (some (([(⟨1, (⟨#[114, 101, 97, 100]⟩ : ByteArray), false, false, false⟩ : S71), (⟨1, (⟨#[119, 114, 105, 116, 101]⟩ : ByteArray), true, false, false⟩ : S71), (⟨2, (⟨#[97, 100, 100]⟩ : ByteArray), false, false, true⟩ : S71), (⟨2, (⟨#[99, 111, 117, 110, 116]⟩ : ByteArray), false, false, false⟩ : S71), (⟨3, (⟨#[99, 114, 101, 100, 105, 116]⟩ : ByteArray), false, false, true⟩ : S71), (⟨3, (⟨#[100, 101, 98, 105, 116]⟩ : ByteArray), false, false, true⟩ : S71), (⟨3, (⟨#[98, 97, 108, 97, 110, 99, 101]⟩ : ByteArray), false, false, false⟩ : S71), (⟨4, (⟨#[105, 110, 115, 101, 114, 116]⟩ : ByteArray), true, false, false⟩ : S71), (⟨4, (⟨#[114, 101, 109, 111, 118, 101]⟩ : ByteArray), true, false, false⟩ : S71), (⟨4, (⟨#[104, 97, 115]⟩ : ByteArray), true, false, false⟩ : S71), (⟨5, (⟨#[98, 105, 110, 100]⟩ : ByteArray), true, true, false⟩ : S71), (⟨5, (⟨#[117, 110, 98, 105, 110, 100]⟩ : ByteArray), true, false, false⟩ : S71), (⟨5, (⟨#[108, 111, 111, 107]⟩ : ByteArray), true, false, false⟩ : S71), (⟨6, (⟨#[101, 110, 113]⟩ : ByteArray), true, false, false⟩ : S71), (⟨6, (⟨#[100, 101, 113]⟩ : ByteArray), false, false, false⟩ : S71), (⟨7, (⟨#[112, 117, 116]⟩ : ByteArray), true, false, false⟩ : S71), (⟨7, (⟨#[116, 97, 107, 101]⟩ : ByteArray), false, false, false⟩ : S71)] : List (S71)))) = some r := h
  clear h
  obtain ⟨y101, hy101⟩ : ∃ y_ : List (S71), y_ = (([(⟨1, (⟨#[114, 101, 97, 100]⟩ : ByteArray), false, false, false⟩ : S71), (⟨1, (⟨#[119, 114, 105, 116, 101]⟩ : ByteArray), true, false, false⟩ : S71), (⟨2, (⟨#[97, 100, 100]⟩ : ByteArray), false, false, true⟩ : S71), (⟨2, (⟨#[99, 111, 117, 110, 116]⟩ : ByteArray), false, false, false⟩ : S71), (⟨3, (⟨#[99, 114, 101, 100, 105, 116]⟩ : ByteArray), false, false, true⟩ : S71), (⟨3, (⟨#[100, 101, 98, 105, 116]⟩ : ByteArray), false, false, true⟩ : S71), (⟨3, (⟨#[98, 97, 108, 97, 110, 99, 101]⟩ : ByteArray), false, false, false⟩ : S71), (⟨4, (⟨#[105, 110, 115, 101, 114, 116]⟩ : ByteArray), true, false, false⟩ : S71), (⟨4, (⟨#[114, 101, 109, 111, 118, 101]⟩ : ByteArray), true, false, false⟩ : S71), (⟨4, (⟨#[104, 97, 115]⟩ : ByteArray), true, false, false⟩ : S71), (⟨5, (⟨#[98, 105, 110, 100]⟩ : ByteArray), true, true, false⟩ : S71), (⟨5, (⟨#[117, 110, 98, 105, 110, 100]⟩ : ByteArray), true, false, false⟩ : S71), (⟨5, (⟨#[108, 111, 111, 107]⟩ : ByteArray), true, false, false⟩ : S71), (⟨6, (⟨#[101, 110, 113]⟩ : ByteArray), true, false, false⟩ : S71), (⟨6, (⟨#[100, 101, 113]⟩ : ByteArray), false, false, false⟩ : S71), (⟨7, (⟨#[112, 117, 116]⟩ : ByteArray), true, false, false⟩ : S71), (⟨7, (⟨#[116, 97, 107, 101]⟩ : ByteArray), false, false, false⟩ : S71)] : List (S71))) := ⟨_, rfl⟩
  replace H : (some y101) = some r := by first | (rw [hy101]; with_reducible exact H) | (have H2_ := (Option.bind_some _ _).symm.trans H; rw [hy101]; with_reducible exact H2_) | (have H2_ := (Option.bind_some _ _).symm.trans H; with_reducible exact H2_) | with_reducible exact H | (rw [hy101]; exact H) | exact H
  have Ny101 := Aside0.mk hy101
  clear hy101
  obtain rfl := Option.some.inj H
  go_enter Try.func39, Try.ntmps39
  go_wp2_with (first | ((with_reducible refine gds (N := 18) rfl ?_); refine Kd.R_lit k71 _ 71 ?hg (N := 18) ?hd (xs := ([(⟨1, (⟨#[114, 101, 97, 100]⟩ : ByteArray), false, false, false⟩ : S71), (⟨1, (⟨#[119, 114, 105, 116, 101]⟩ : ByteArray), true, false, false⟩ : S71), (⟨2, (⟨#[97, 100, 100]⟩ : ByteArray), false, false, true⟩ : S71), (⟨2, (⟨#[99, 111, 117, 110, 116]⟩ : ByteArray), false, false, false⟩ : S71), (⟨3, (⟨#[99, 114, 101, 100, 105, 116]⟩ : ByteArray), false, false, true⟩ : S71), (⟨3, (⟨#[100, 101, 98, 105, 116]⟩ : ByteArray), false, false, true⟩ : S71), (⟨3, (⟨#[98, 97, 108, 97, 110, 99, 101]⟩ : ByteArray), false, false, false⟩ : S71), (⟨4, (⟨#[105, 110, 115, 101, 114, 116]⟩ : ByteArray), true, false, false⟩ : S71), (⟨4, (⟨#[114, 101, 109, 111, 118, 101]⟩ : ByteArray), true, false, false⟩ : S71), (⟨4, (⟨#[104, 97, 115]⟩ : ByteArray), true, false, false⟩ : S71), (⟨5, (⟨#[98, 105, 110, 100]⟩ : ByteArray), true, true, false⟩ : S71), (⟨5, (⟨#[117, 110, 98, 105, 110, 100]⟩ : ByteArray), true, false, false⟩ : S71), (⟨5, (⟨#[108, 111, 111, 107]⟩ : ByteArray), true, false, false⟩ : S71), (⟨6, (⟨#[101, 110, 113]⟩ : ByteArray), true, false, false⟩ : S71), (⟨6, (⟨#[100, 101, 113]⟩ : ByteArray), false, false, false⟩ : S71), (⟨7, (⟨#[112, 117, 116]⟩ : ByteArray), true, false, false⟩ : S71), (⟨7, (⟨#[116, 97, 107, 101]⟩ : ByteArray), false, false, false⟩ : S71)] : List (S71))) (inner := [.int .i64 1, .string (⟨#[114, 101, 97, 100]⟩ : ByteArray), .bool false, .bool false, .bool false, .int .i64 1, .string (⟨#[119, 114, 105, 116, 101]⟩ : ByteArray), .bool true, .bool false, .bool false, .int .i64 2, .string (⟨#[97, 100, 100]⟩ : ByteArray), .bool false, .bool false, .bool true, .int .i64 2, .string (⟨#[99, 111, 117, 110, 116]⟩ : ByteArray), .bool false, .bool false, .bool false, .int .i64 3, .string (⟨#[99, 114, 101, 100, 105, 116]⟩ : ByteArray), .bool false, .bool false, .bool true, .int .i64 3, .string (⟨#[100, 101, 98, 105, 116]⟩ : ByteArray), .bool false, .bool false, .bool true, .int .i64 3, .string (⟨#[98, 97, 108, 97, 110, 99, 101]⟩ : ByteArray), .bool false, .bool false, .bool false, .int .i64 4, .string (⟨#[105, 110, 115, 101, 114, 116]⟩ : ByteArray), .bool true, .bool false, .bool false, .int .i64 4, .string (⟨#[114, 101, 109, 111, 118, 101]⟩ : ByteArray), .bool true, .bool false, .bool false, .int .i64 4, .string (⟨#[104, 97, 115]⟩ : ByteArray), .bool true, .bool false, .bool false, .int .i64 5, .string (⟨#[98, 105, 110, 100]⟩ : ByteArray), .bool true, .bool true, .bool false, .int .i64 5, .string (⟨#[117, 110, 98, 105, 110, 100]⟩ : ByteArray), .bool true, .bool false, .bool false, .int .i64 5, .string (⟨#[108, 111, 111, 107]⟩ : ByteArray), .bool true, .bool false, .bool false, .int .i64 6, .string (⟨#[101, 110, 113]⟩ : ByteArray), .bool true, .bool false, .bool false, .int .i64 6, .string (⟨#[100, 101, 113]⟩ : ByteArray), .bool false, .bool false, .bool false, .int .i64 7, .string (⟨#[112, 117, 116]⟩ : ByteArray), .bool true, .bool false, .bool false, .int .i64 7, .string (⟨#[116, 97, 107, 101]⟩ : ByteArray), .bool false, .bool false, .bool false]) (ok := fun _ => True) (okp := fun _ => True) ?hr ?hp (fun _ hk => hk) trivial (Below.refl _ _) (Nat.le_refl _) (by simp) ?_; (case hd => rfl); (case hg => rfl); (case hr => first | (go_simp; done) | (go_simp; rfl)); (case hp => exact (Reps.c5 (show Kd.M k71 _ _ _ (⟨1, (⟨#[114, 101, 97, 100]⟩ : ByteArray), false, false, false⟩ : S71) [.int .i64 1, .string (⟨#[114, 101, 97, 100]⟩ : ByteArray), .bool false, .bool false, .bool false] from (k71_mkM _ _ _ (⟨1, (⟨#[114, 101, 97, 100]⟩ : ByteArray), false, false, false⟩ : S71) )) (Reps.c5 (show Kd.M k71 _ _ _ (⟨1, (⟨#[119, 114, 105, 116, 101]⟩ : ByteArray), true, false, false⟩ : S71) [.int .i64 1, .string (⟨#[119, 114, 105, 116, 101]⟩ : ByteArray), .bool true, .bool false, .bool false] from (k71_mkM _ _ _ (⟨1, (⟨#[119, 114, 105, 116, 101]⟩ : ByteArray), true, false, false⟩ : S71) )) (Reps.c5 (show Kd.M k71 _ _ _ (⟨2, (⟨#[97, 100, 100]⟩ : ByteArray), false, false, true⟩ : S71) [.int .i64 2, .string (⟨#[97, 100, 100]⟩ : ByteArray), .bool false, .bool false, .bool true] from (k71_mkM _ _ _ (⟨2, (⟨#[97, 100, 100]⟩ : ByteArray), false, false, true⟩ : S71) )) (Reps.c5 (show Kd.M k71 _ _ _ (⟨2, (⟨#[99, 111, 117, 110, 116]⟩ : ByteArray), false, false, false⟩ : S71) [.int .i64 2, .string (⟨#[99, 111, 117, 110, 116]⟩ : ByteArray), .bool false, .bool false, .bool false] from (k71_mkM _ _ _ (⟨2, (⟨#[99, 111, 117, 110, 116]⟩ : ByteArray), false, false, false⟩ : S71) )) (Reps.c5 (show Kd.M k71 _ _ _ (⟨3, (⟨#[99, 114, 101, 100, 105, 116]⟩ : ByteArray), false, false, true⟩ : S71) [.int .i64 3, .string (⟨#[99, 114, 101, 100, 105, 116]⟩ : ByteArray), .bool false, .bool false, .bool true] from (k71_mkM _ _ _ (⟨3, (⟨#[99, 114, 101, 100, 105, 116]⟩ : ByteArray), false, false, true⟩ : S71) )) (Reps.c5 (show Kd.M k71 _ _ _ (⟨3, (⟨#[100, 101, 98, 105, 116]⟩ : ByteArray), false, false, true⟩ : S71) [.int .i64 3, .string (⟨#[100, 101, 98, 105, 116]⟩ : ByteArray), .bool false, .bool false, .bool true] from (k71_mkM _ _ _ (⟨3, (⟨#[100, 101, 98, 105, 116]⟩ : ByteArray), false, false, true⟩ : S71) )) (Reps.c5 (show Kd.M k71 _ _ _ (⟨3, (⟨#[98, 97, 108, 97, 110, 99, 101]⟩ : ByteArray), false, false, false⟩ : S71) [.int .i64 3, .string (⟨#[98, 97, 108, 97, 110, 99, 101]⟩ : ByteArray), .bool false, .bool false, .bool false] from (k71_mkM _ _ _ (⟨3, (⟨#[98, 97, 108, 97, 110, 99, 101]⟩ : ByteArray), false, false, false⟩ : S71) )) (Reps.c5 (show Kd.M k71 _ _ _ (⟨4, (⟨#[105, 110, 115, 101, 114, 116]⟩ : ByteArray), true, false, false⟩ : S71) [.int .i64 4, .string (⟨#[105, 110, 115, 101, 114, 116]⟩ : ByteArray), .bool true, .bool false, .bool false] from (k71_mkM _ _ _ (⟨4, (⟨#[105, 110, 115, 101, 114, 116]⟩ : ByteArray), true, false, false⟩ : S71) )) (Reps.c5 (show Kd.M k71 _ _ _ (⟨4, (⟨#[114, 101, 109, 111, 118, 101]⟩ : ByteArray), true, false, false⟩ : S71) [.int .i64 4, .string (⟨#[114, 101, 109, 111, 118, 101]⟩ : ByteArray), .bool true, .bool false, .bool false] from (k71_mkM _ _ _ (⟨4, (⟨#[114, 101, 109, 111, 118, 101]⟩ : ByteArray), true, false, false⟩ : S71) )) (Reps.c5 (show Kd.M k71 _ _ _ (⟨4, (⟨#[104, 97, 115]⟩ : ByteArray), true, false, false⟩ : S71) [.int .i64 4, .string (⟨#[104, 97, 115]⟩ : ByteArray), .bool true, .bool false, .bool false] from (k71_mkM _ _ _ (⟨4, (⟨#[104, 97, 115]⟩ : ByteArray), true, false, false⟩ : S71) )) (Reps.c5 (show Kd.M k71 _ _ _ (⟨5, (⟨#[98, 105, 110, 100]⟩ : ByteArray), true, true, false⟩ : S71) [.int .i64 5, .string (⟨#[98, 105, 110, 100]⟩ : ByteArray), .bool true, .bool true, .bool false] from (k71_mkM _ _ _ (⟨5, (⟨#[98, 105, 110, 100]⟩ : ByteArray), true, true, false⟩ : S71) )) (Reps.c5 (show Kd.M k71 _ _ _ (⟨5, (⟨#[117, 110, 98, 105, 110, 100]⟩ : ByteArray), true, false, false⟩ : S71) [.int .i64 5, .string (⟨#[117, 110, 98, 105, 110, 100]⟩ : ByteArray), .bool true, .bool false, .bool false] from (k71_mkM _ _ _ (⟨5, (⟨#[117, 110, 98, 105, 110, 100]⟩ : ByteArray), true, false, false⟩ : S71) )) (Reps.c5 (show Kd.M k71 _ _ _ (⟨5, (⟨#[108, 111, 111, 107]⟩ : ByteArray), true, false, false⟩ : S71) [.int .i64 5, .string (⟨#[108, 111, 111, 107]⟩ : ByteArray), .bool true, .bool false, .bool false] from (k71_mkM _ _ _ (⟨5, (⟨#[108, 111, 111, 107]⟩ : ByteArray), true, false, false⟩ : S71) )) (Reps.c5 (show Kd.M k71 _ _ _ (⟨6, (⟨#[101, 110, 113]⟩ : ByteArray), true, false, false⟩ : S71) [.int .i64 6, .string (⟨#[101, 110, 113]⟩ : ByteArray), .bool true, .bool false, .bool false] from (k71_mkM _ _ _ (⟨6, (⟨#[101, 110, 113]⟩ : ByteArray), true, false, false⟩ : S71) )) (Reps.c5 (show Kd.M k71 _ _ _ (⟨6, (⟨#[100, 101, 113]⟩ : ByteArray), false, false, false⟩ : S71) [.int .i64 6, .string (⟨#[100, 101, 113]⟩ : ByteArray), .bool false, .bool false, .bool false] from (k71_mkM _ _ _ (⟨6, (⟨#[100, 101, 113]⟩ : ByteArray), false, false, false⟩ : S71) )) (Reps.c5 (show Kd.M k71 _ _ _ (⟨7, (⟨#[112, 117, 116]⟩ : ByteArray), true, false, false⟩ : S71) [.int .i64 7, .string (⟨#[112, 117, 116]⟩ : ByteArray), .bool true, .bool false, .bool false] from (k71_mkM _ _ _ (⟨7, (⟨#[112, 117, 116]⟩ : ByteArray), true, false, false⟩ : S71) )) (Reps.c5 (show Kd.M k71 _ _ _ (⟨7, (⟨#[116, 97, 107, 101]⟩ : ByteArray), false, false, false⟩ : S71) [.int .i64 7, .string (⟨#[116, 97, 107, 101]⟩ : ByteArray), .bool false, .bool false, .bool false] from (k71_mkM _ _ _ (⟨7, (⟨#[116, 97, 107, 101]⟩ : ByteArray), false, false, false⟩ : S71) )) (Reps.none _ _))))))))))))))))))); intro v102 w1 ho2 hb hg_ hnew_; clear hg_ hnew_; (first | rw [← Ny101.out] at ho2 | (simp only [Int.reduceToNat] at ho2; rw [← Ny101.out] at ho2)); have n0_ := Aside0.mk (Kd.R_lower ho2 (bsz (by repeat (first | (with_reducible first | exact HB.out | apply bal | apply bdn | apply bd1) | exact HB.out)))); have n1_ := Aside0.mk (bsp (by repeat (first | (with_reducible first | exact HB.out | apply bal | apply bdn | apply bd1) | exact HB.out)) hb); clear HB; have HO103 := n0_; have HB := n1_; clear n0_ n1_; clear hb ho2))
  go_ret
  exact ⟨_, by first | rfl | (simp [errW_none, errW_some] <;> rfl) | (simp [*, errW_none, errW_some] <;> rfl), by (with_reducible repeat (first | apply Kd.R_alloc | apply Kd.R_drewN | apply Kd.R_drew)); exact HO103.out, by repeat (first | (with_reducible first | exact HB.out | apply bal | apply bdn | apply bd1) | exact HB.out)⟩
def method_Op_shape.f (a0 : Int) : Option (Int × ByteArray × Bool × Bool × Bool) := if a0 < 1 then (some (0, (⟨#[]⟩ : ByteArray), false, false, false)) else (if a0 > 17 then (some (0, (⟨#[]⟩ : ByteArray), false, false, false)) else ((method_shapes.f).bind fun t105 => (if 0 ≤ (wrap64 (a0 - 1)) then (if (wrap64 (a0 - 1)) < (t105.length : Int) then (some ((rd_T71 t105 (wrap64 (a0 - 1))).f0, (rd_T71 t105 (wrap64 (a0 - 1))).f1, (rd_T71 t105 (wrap64 (a0 - 1))).f2, (rd_T71 t105 (wrap64 (a0 - 1))).f3, (rd_T71 t105 (wrap64 (a0 - 1))).f4)) else (none)) else (none))))
set_option maxHeartbeats 2000000 in
set_option maxRecDepth 100000 in
theorem method_Op_shape.calls (a0 : Int) (r1 : Int) (r2 : ByteArray) (r3 : Bool) (r4 : Bool) (r5 : Bool) (w : World) (h : method_Op_shape.f a0 = some (r1, r2, r3, r4, r5)) :
    Calls Try.prog 38 #[.int .i64 a0] w fun e w' => e = .returned (.agg #[.int .i64 r1, .string r2, .bool r3, .bool r4, .bool r5]) ∧ Below w.heap.size w w' := by
  have hu71 := Try.underlying71
  have HB := Aside0.mk (Below.refl w.heap.size w)
  have H : (if a0 < 1 then (some (0, (⟨#[]⟩ : ByteArray), false, false, false)) else (if a0 > 17 then (some (0, (⟨#[]⟩ : ByteArray), false, false, false)) else ((method_shapes.f).bind fun t105 => (if 0 ≤ (wrap64 (a0 - 1)) then (if (wrap64 (a0 - 1)) < (t105.length : Int) then (some ((rd_T71 t105 (wrap64 (a0 - 1))).f0, (rd_T71 t105 (wrap64 (a0 - 1))).f1, (rd_T71 t105 (wrap64 (a0 - 1))).f2, (rd_T71 t105 (wrap64 (a0 - 1))).f3, (rd_T71 t105 (wrap64 (a0 - 1))).f4)) else (none)) else (none))))) = some (r1, r2, r3, r4, r5) := h
  clear h
  by_cases c2 : a0 < 1
  · rw [if_pos c2] at H
    have c2b0 : decide (a0 < 1) = true := decide_eq_true c2
    clear c2
    simp only [Option.some.injEq, Prod.mk.injEq] at H
    obtain ⟨rfl, rfl, rfl, rfl, rfl⟩ := H
    go_enter Try.func38, Try.ntmps38
    go_wp2_with (first | ((with_reducible refine gds (N := 2) rfl ?_); refine bev ?hg (N := 2) ?hd (cs := #[.int .i64 0, .string (⟨#[]⟩ : ByteArray), .bool false, .bool false, .bool false]) (t := 71) ?hr ?_; (case hd => rfl); (case hg => rfl); (case hr => first | (go_simp; done) | (go_simp; rfl)); intro gb104 hg w3 hbox hb; have n0_ := Aside0.mk (bsp (by repeat (first | (with_reducible first | exact HB.out | apply bal | apply bdn | apply bd1) | exact HB.out)) hb); have n1_ := Aside0.mk (hbox); have n2_ := Aside0.mk ((by rw [hg]; exact (bsz (by repeat (first | (with_reducible first | exact HB.out | apply bal | apply bdn | apply bd1) | exact HB.out))) : w.heap.size ≤ gb104)); have n3_ := Aside0.mk ((by rw [hg]; exact (bsz (by repeat (first | (with_reducible first | exact HB.out | apply bal | apply bdn | apply bd1) | exact HB.out))) : w.heap.size ≤ gb104)); clear HB; have HB := n0_; have BK104 := n1_; have GW104 := n2_; have GE104 := n3_; clear n0_ n1_ n2_ n3_; clear hb hbox hg; have hcz4_0 : w3.cell? ⟨gb104, 0, none⟩ = some (.int .i64 0) := (kcl BK104.out 0).trans rfl; have hcz4_1 : w3.cell? ⟨gb104, 1, none⟩ = some (.string (⟨#[]⟩ : ByteArray)) := (kcl BK104.out 1).trans rfl; have hcz4_2 : w3.cell? ⟨gb104, 2, none⟩ = some (.bool false) := (kcl BK104.out 2).trans rfl; have hcz4_3 : w3.cell? ⟨gb104, 3, none⟩ = some (.bool false) := (kcl BK104.out 3).trans rfl; have hcz4_4 : w3.cell? ⟨gb104, 4, none⟩ = some (.bool false) := (kcl BK104.out 4).trans rfl; have hfz4_0 := kfr BK104.out 0; have hfz4_1 := kfr BK104.out 1; have hfz4_2 := kfr BK104.out 2; have hfz4_3 := kfr BK104.out 3; have hfz4_4 := kfr BK104.out 4))
    refine bodyPost_ret (results_cell_row rfl _ _ gb104 71 #[.int .i64 0, .string (⟨#[]⟩ : ByteArray), .bool false, .bool false, .bool false] (0, 0) _ rfl (by (with_reducible repeat (first | refine kdn ?_ _ | refine kdw ?_ | refine kal ?_ _)); refine kpt (cs := #[.int .i64 0, .string (⟨#[]⟩ : ByteArray), .bool false, .bool false, .bool false]) ?_ 4 _ rfl; (with_reducible repeat (first | refine kdn ?_ _ | refine kdw ?_ | refine kal ?_ _)); refine kpt (cs := #[.int .i64 0, .string (⟨#[]⟩ : ByteArray), .bool false, .bool false, .bool false]) ?_ 3 _ rfl; (with_reducible repeat (first | refine kdn ?_ _ | refine kdw ?_ | refine kal ?_ _)); refine kpt (cs := #[.int .i64 0, .string (⟨#[]⟩ : ByteArray), .bool false, .bool false, .bool false]) ?_ 2 _ rfl; (with_reducible repeat (first | refine kdn ?_ _ | refine kdw ?_ | refine kal ?_ _)); refine kpt (cs := #[.int .i64 0, .string (⟨#[]⟩ : ByteArray), .bool false, .bool false, .bool false]) ?_ 1 _ rfl; (with_reducible repeat (first | refine kdn ?_ _ | refine kdw ?_ | refine kal ?_ _)); refine kpt (cs := #[.int .i64 0, .string (⟨#[]⟩ : ByteArray), .bool false, .bool false, .bool false]) ?_ 0 _ rfl; (with_reducible repeat (first | refine kdn ?_ _ | refine kdw ?_ | refine kal ?_ _)); exact BK104.out) Try.underlying71 rfl (by kernel_rfl)) rfl ?_
    exact ⟨by first | rfl | (simp [errW_none, errW_some] <;> rfl) | (simp [*, errW_none, errW_some] <;> rfl), by repeat (first | (with_reducible first | exact HB.out | apply bal | apply bdn | apply bd1 | refine bst ?_ GE104.out) | exact HB.out)⟩
  rw [if_neg c2] at H
  have c2b0 : decide (a0 < 1) = false := decide_eq_false c2
  clear c2
  by_cases c5 : a0 > 17
  · rw [if_pos c5] at H
    have c5b0 : decide (17 < a0) = true := decide_eq_true c5
    clear c5
    simp only [Option.some.injEq, Prod.mk.injEq] at H
    obtain ⟨rfl, rfl, rfl, rfl, rfl⟩ := H
    go_enter Try.func38, Try.ntmps38
    go_wp2_with (first | ((with_reducible refine gds (N := 2) rfl ?_); refine bev ?hg (N := 2) ?hd (cs := #[.int .i64 0, .string (⟨#[]⟩ : ByteArray), .bool false, .bool false, .bool false]) (t := 71) ?hr ?_; (case hd => rfl); (case hg => rfl); (case hr => first | (go_simp; done) | (go_simp; rfl)); intro gb104 hg w6 hbox hb; have n0_ := Aside0.mk (bsp (by repeat (first | (with_reducible first | exact HB.out | apply bal | apply bdn | apply bd1) | exact HB.out)) hb); have n1_ := Aside0.mk (hbox); have n2_ := Aside0.mk ((by rw [hg]; exact (bsz (by repeat (first | (with_reducible first | exact HB.out | apply bal | apply bdn | apply bd1) | exact HB.out))) : w.heap.size ≤ gb104)); have n3_ := Aside0.mk ((by rw [hg]; exact (bsz (by repeat (first | (with_reducible first | exact HB.out | apply bal | apply bdn | apply bd1) | exact HB.out))) : w.heap.size ≤ gb104)); clear HB; have HB := n0_; have BK104 := n1_; have GW104 := n2_; have GE104 := n3_; clear n0_ n1_ n2_ n3_; clear hb hbox hg; have hcz7_0 : w6.cell? ⟨gb104, 0, none⟩ = some (.int .i64 0) := (kcl BK104.out 0).trans rfl; have hcz7_1 : w6.cell? ⟨gb104, 1, none⟩ = some (.string (⟨#[]⟩ : ByteArray)) := (kcl BK104.out 1).trans rfl; have hcz7_2 : w6.cell? ⟨gb104, 2, none⟩ = some (.bool false) := (kcl BK104.out 2).trans rfl; have hcz7_3 : w6.cell? ⟨gb104, 3, none⟩ = some (.bool false) := (kcl BK104.out 3).trans rfl; have hcz7_4 : w6.cell? ⟨gb104, 4, none⟩ = some (.bool false) := (kcl BK104.out 4).trans rfl; have hfz7_0 := kfr BK104.out 0; have hfz7_1 := kfr BK104.out 1; have hfz7_2 := kfr BK104.out 2; have hfz7_3 := kfr BK104.out 3; have hfz7_4 := kfr BK104.out 4))
    refine bodyPost_ret (results_cell_row rfl _ _ gb104 71 #[.int .i64 0, .string (⟨#[]⟩ : ByteArray), .bool false, .bool false, .bool false] (0, 0) _ rfl (by (with_reducible repeat (first | refine kdn ?_ _ | refine kdw ?_ | refine kal ?_ _)); refine kpt (cs := #[.int .i64 0, .string (⟨#[]⟩ : ByteArray), .bool false, .bool false, .bool false]) ?_ 4 _ rfl; (with_reducible repeat (first | refine kdn ?_ _ | refine kdw ?_ | refine kal ?_ _)); refine kpt (cs := #[.int .i64 0, .string (⟨#[]⟩ : ByteArray), .bool false, .bool false, .bool false]) ?_ 3 _ rfl; (with_reducible repeat (first | refine kdn ?_ _ | refine kdw ?_ | refine kal ?_ _)); refine kpt (cs := #[.int .i64 0, .string (⟨#[]⟩ : ByteArray), .bool false, .bool false, .bool false]) ?_ 2 _ rfl; (with_reducible repeat (first | refine kdn ?_ _ | refine kdw ?_ | refine kal ?_ _)); refine kpt (cs := #[.int .i64 0, .string (⟨#[]⟩ : ByteArray), .bool false, .bool false, .bool false]) ?_ 1 _ rfl; (with_reducible repeat (first | refine kdn ?_ _ | refine kdw ?_ | refine kal ?_ _)); refine kpt (cs := #[.int .i64 0, .string (⟨#[]⟩ : ByteArray), .bool false, .bool false, .bool false]) ?_ 0 _ rfl; (with_reducible repeat (first | refine kdn ?_ _ | refine kdw ?_ | refine kal ?_ _)); exact BK104.out) Try.underlying71 rfl (by kernel_rfl)) rfl ?_
    exact ⟨by first | rfl | (simp [errW_none, errW_some] <;> rfl) | (simp [*, errW_none, errW_some] <;> rfl), by repeat (first | (with_reducible first | exact HB.out | apply bal | apply bdn | apply bd1 | refine bst ?_ GE104.out) | exact HB.out)⟩
  rw [if_neg c5] at H
  have c5b0 : decide (17 < a0) = false := decide_eq_false c5
  clear c5
  replace H := Option.bind_eq_some_iff.mp H
  obtain ⟨t105, A80, H⟩ := H
  replace H : (if 0 ≤ (wrap64 (a0 - 1)) then (if (wrap64 (a0 - 1)) < (t105.length : Int) then (some ((rd_T71 t105 (wrap64 (a0 - 1))).f0, (rd_T71 t105 (wrap64 (a0 - 1))).f1, (rd_T71 t105 (wrap64 (a0 - 1))).f2, (rd_T71 t105 (wrap64 (a0 - 1))).f3, (rd_T71 t105 (wrap64 (a0 - 1))).f4)) else (none)) else (none)) = some (r1, r2, r3, r4, r5) := H
  have A8 := Aside0.mk A80
  clear A80
  obtain ⟨ji9, hji9⟩ : ∃ j_ : Int, (wrap64 (a0 - 1)) = j_ := ⟨_, rfl⟩
  replace H : (if 0 ≤ (ji9) then (if (ji9) < (t105.length : Int) then (some ((rd_T71 t105 (ji9)).f0, (rd_T71 t105 (ji9)).f1, (rd_T71 t105 (ji9)).f2, (rd_T71 t105 (ji9)).f3, (rd_T71 t105 (ji9)).f4)) else (none)) else (none)) = some (r1, r2, r3, r4, r5) := by first | (rw [hji9] at H; exact H) | (simp only [hji9] at H ⊢; exact H)
  (try rw [hji9] at A8)
  have hji9w : (IntKind.i64.wrap (a0 - 1)) = ji9 := (i64_w _).trans hji9
  by_cases c10 : 0 ≤ (ji9)
  rotate_left
  · rw [if_neg c10] at H
    exact absurd H (by simp)
  rw [if_pos c10] at H
  have c10b0 : decide (0 ≤ (ji9)) = true := decide_eq_true c10
  clear c10
  by_cases c11 : (ji9) < (t105.length : Int)
  rotate_left
  · rw [if_neg c11] at H
    exact absurd H (by simp)
  rw [if_pos c11] at H
  have c11b0 : decide ((ji9) < (t105.length : Int)) = true := decide_eq_true c11
  clear c11
  simp only [Option.some.injEq, Prod.mk.injEq] at H
  obtain ⟨rfl, rfl, rfl, rfl, rfl⟩ := H
  go_enter Try.func38, Try.ntmps38
  go_wp2_with (first | ((with_reducible refine gds (N := 2) rfl ?_); refine bev ?hg (N := 2) ?hd (cs := #[.int .i64 0, .string (⟨#[]⟩ : ByteArray), .bool false, .bool false, .bool false]) (t := 71) ?hr ?_; (case hd => rfl); (case hg => rfl); (case hr => first | (go_simp; done) | (go_simp; rfl)); intro gb104 hg w12 hbox hb; have n0_ := Aside0.mk (bsp (by repeat (first | (with_reducible first | exact HB.out | apply bal | apply bdn | apply bd1) | exact HB.out)) hb); have n1_ := Aside0.mk (hbox); have n2_ := Aside0.mk ((by rw [hg]; exact (bsz (by repeat (first | (with_reducible first | exact HB.out | apply bal | apply bdn | apply bd1) | exact HB.out))) : w.heap.size ≤ gb104)); have n3_ := Aside0.mk ((by rw [hg]; exact (bsz (by repeat (first | (with_reducible first | exact HB.out | apply bal | apply bdn | apply bd1) | exact HB.out))) : w.heap.size ≤ gb104)); clear HB; have HB := n0_; have BK104 := n1_; have GW104 := n2_; have GE104 := n3_; clear n0_ n1_ n2_ n3_; clear hb hbox hg) | ((with_reducible refine gcl (f := 39) rfl ?_); refine gl_ (some 10) rfl rfl Try.func39 (by kernel_rfl) rfl #[] rfl (by (try simp only [List.map_toArray, List.map_cons, List.map_nil]); first | done | rfl | (simp only [List.length_drop, List.length_take]; rfl)) ?_; (with_reducible refine (method_shapes.calls  t105 _ A8.out).mono ?_); rintro e w13 ⟨v106, rfl, ho0, hb⟩; refine ⟨_, rfl, ?_⟩; have n0_ := Aside0.mk (Kd.R_lower (Kd.R_newB ho0 (g := gb104) (o := .cells #[.int .i64 0, .string (⟨#[]⟩ : ByteArray), .bool false, .bool false, .bool false] 71 (0, 0)) (by (with_reducible repeat (first | refine kdn ?_ _ | refine kdw ?_ | refine kal ?_ _)); exact BK104.out)) (bsz (by repeat (first | (with_reducible first | exact HB.out | apply bal | apply bdn | apply bd1 | refine bst ?_ GE104.out) | exact HB.out)))); have n1_ := Aside0.mk (kbl (g := gb104) (o := .cells #[.int .i64 0, .string (⟨#[]⟩ : ByteArray), .bool false, .bool false, .bool false] 71 (0, 0)) (by (with_reducible repeat (first | refine kdn ?_ _ | refine kdw ?_ | refine kal ?_ _)); exact BK104.out) hb); have n2_ := Aside0.mk (bsp (by repeat (first | (with_reducible first | exact HB.out | apply bal | apply bdn | apply bd1 | refine bst ?_ GE104.out) | exact HB.out)) hb); clear BK104; clear HB; have HO107 := n0_; have BK104 := n1_; have HB := n2_; clear n0_ n1_ n2_; (try clear hb); (try clear hb2); (try clear hk); (try clear hi); (try clear ho0); obtain ⟨Ao14, co14, eo14⟩ := Kd.R_slice HO107.out; subst eo14; have p108 : 0 ≤ ((ji9) : Int) := of_decide_eq_true (by first | (with_reducible assumption) | assumption); have q108 : (ji9) < (t105.length : Int) := of_decide_eq_true (by first | (with_reducible assumption) | assumption); obtain ⟨ad108, e108, hx108_0, hx108_1, hx108_2, hx108_3, hx108_4⟩ := at_T71 (Kd.R_reads' HO107.out).2.2 (ji9) p108 q108; cases e108; replace p108 := eq_true p108; replace q108 := eq_true q108; have hcz15_0 : w13.cell? ⟨gb104, 0, none⟩ = some (.int .i64 0) := (kcl BK104.out 0).trans rfl; have hcz15_1 : w13.cell? ⟨gb104, 1, none⟩ = some (.string (⟨#[]⟩ : ByteArray)) := (kcl BK104.out 1).trans rfl; have hcz15_2 : w13.cell? ⟨gb104, 2, none⟩ = some (.bool false) := (kcl BK104.out 2).trans rfl; have hcz15_3 : w13.cell? ⟨gb104, 3, none⟩ = some (.bool false) := (kcl BK104.out 3).trans rfl; have hcz15_4 : w13.cell? ⟨gb104, 4, none⟩ = some (.bool false) := (kcl BK104.out 4).trans rfl; have hfz15_0 := kfr BK104.out 0; have hfz15_1 := kfr BK104.out 1; have hfz15_2 := kfr BK104.out 2; have hfz15_3 := kfr BK104.out 3; have hfz15_4 := kfr BK104.out 4))
  refine bodyPost_ret (results_cell_row rfl _ _ gb104 71 #[.int .i64 ((rd_T71 t105 (ji9)).f0), .string ((rd_T71 t105 (ji9)).f1), .bool ((rd_T71 t105 (ji9)).f2), .bool ((rd_T71 t105 (ji9)).f3), .bool ((rd_T71 t105 (ji9)).f4)] (0, 0) _ rfl (by (with_reducible repeat (first | refine kdn ?_ _ | refine kdw ?_ | refine kal ?_ _)); refine kpt (cs := #[.int .i64 ((rd_T71 t105 (ji9)).f0), .string ((rd_T71 t105 (ji9)).f1), .bool ((rd_T71 t105 (ji9)).f2), .bool ((rd_T71 t105 (ji9)).f3), .bool false]) ?_ 4 _ rfl; (with_reducible repeat (first | refine kdn ?_ _ | refine kdw ?_ | refine kal ?_ _)); refine kpt (cs := #[.int .i64 ((rd_T71 t105 (ji9)).f0), .string ((rd_T71 t105 (ji9)).f1), .bool ((rd_T71 t105 (ji9)).f2), .bool false, .bool false]) ?_ 3 _ rfl; (with_reducible repeat (first | refine kdn ?_ _ | refine kdw ?_ | refine kal ?_ _)); refine kpt (cs := #[.int .i64 ((rd_T71 t105 (ji9)).f0), .string ((rd_T71 t105 (ji9)).f1), .bool false, .bool false, .bool false]) ?_ 2 _ rfl; (with_reducible repeat (first | refine kdn ?_ _ | refine kdw ?_ | refine kal ?_ _)); refine kpt (cs := #[.int .i64 ((rd_T71 t105 (ji9)).f0), .string (⟨#[]⟩ : ByteArray), .bool false, .bool false, .bool false]) ?_ 1 _ rfl; (with_reducible repeat (first | refine kdn ?_ _ | refine kdw ?_ | refine kal ?_ _)); refine kpt (cs := #[.int .i64 0, .string (⟨#[]⟩ : ByteArray), .bool false, .bool false, .bool false]) ?_ 0 _ rfl; (with_reducible repeat (first | refine kdn ?_ _ | refine kdw ?_ | refine kal ?_ _)); exact BK104.out) Try.underlying71 rfl (by kernel_rfl)) rfl ?_
  exact ⟨by first | rfl | (simp [errW_none, errW_some] <;> rfl) | (simp only [← hji9]; first | rfl | (simp [errW_none, errW_some] <;> rfl)) | (simp [*, errW_none, errW_some] <;> rfl), by repeat (first | (with_reducible first | exact HB.out | apply bal | apply bdn | apply bd1 | refine bst ?_ GE104.out) | exact HB.out)⟩
def method_Op_Word.f (a0 : Int) : Option (ByteArray) := (method_Op_shape.f a0).bind fun bt109 => (some bt109.2.1)
set_option maxHeartbeats 2000000 in
set_option maxRecDepth 100000 in
theorem method_Op_Word.calls (a0 : Int) (r : ByteArray) (w : World) (h : method_Op_Word.f a0 = some r) :
    Calls Try.prog 10 #[.int .i64 a0] w fun e w' => e = .returned (.string r) ∧ Below w.heap.size w w' := by
  have hu71 := Try.underlying71
  have hfl71_1 : ∀ (v0_ v1_ v2_ v3_ v4_ : Value) (W_ : World), Sem.run Try.prog (Instr.field 71 (.agg #[v0_, v1_, v2_, v3_, v4_]) 1) W_ = .ok v1_ W_ := by intro v0_ v1_ v2_ v3_ v4_ W_; kernel_rfl
  have HB := Aside0.mk (Below.refl w.heap.size w)
  have H : ((method_Op_shape.f a0).bind fun bt109 => (some bt109.2.1)) = some r := h
  clear h
  replace H := Option.bind_eq_some_iff.mp H
  obtain ⟨⟨t109, t110, t111, t112, t113⟩, A20, H⟩ := H
  replace H : (some t110) = some r := H
  have A2 := Aside0.mk A20
  clear A20
  obtain rfl := Option.some.inj H
  go_enter Try.func10, Try.ntmps10
  go_wp2_with (first | ((with_reducible refine gcl (f := 38) rfl ?_); refine gl_ (some 4) rfl rfl Try.func38 (by kernel_rfl) rfl #[.int .i64 a0] rfl (by (try simp only [List.map_toArray, List.map_cons, List.map_nil]); first | done | rfl | (simp only [List.length_drop, List.length_take]; rfl)) ?_; (with_reducible refine (method_Op_shape.calls a0 t109 t110 t111 t112 t113 _ A2.out).mono ?_); rintro e w3 ⟨rfl, hb⟩; refine ⟨_, rfl, ?_⟩; have n0_ := Aside0.mk (bsp (by repeat (first | (with_reducible first | exact HB.out | apply bal | apply bdn | apply bd1) | exact HB.out)) hb); clear HB; have HB := n0_; clear n0_; (try clear hb); (try clear hb2); (try clear hk); (try clear hi)))
  go_ret
  exact ⟨by first | rfl | (simp [errW_none, errW_some] <;> rfl) | (simp [*, errW_none, errW_some] <;> rfl), by repeat (first | (with_reducible first | exact HB.out | apply bal | apply bdn | apply bd1) | exact HB.out)⟩
def method_Op_Kind.f (a0 : Int) : Option (Int) := (method_Op_shape.f a0).bind fun bt114 => (some bt114.1)
set_option maxHeartbeats 2000000 in
set_option maxRecDepth 100000 in
theorem method_Op_Kind.calls (a0 : Int) (r : Int) (w : World) (h : method_Op_Kind.f a0 = some r) :
    Calls Try.prog 11 #[.int .i64 a0] w fun e w' => e = .returned (.int .i64 r) ∧ Below w.heap.size w w' := by
  have hu71 := Try.underlying71
  have hfl71_0 : ∀ (v0_ v1_ v2_ v3_ v4_ : Value) (W_ : World), Sem.run Try.prog (Instr.field 71 (.agg #[v0_, v1_, v2_, v3_, v4_]) 0) W_ = .ok v0_ W_ := by intro v0_ v1_ v2_ v3_ v4_ W_; kernel_rfl
  have HB := Aside0.mk (Below.refl w.heap.size w)
  have H : ((method_Op_shape.f a0).bind fun bt114 => (some bt114.1)) = some r := h
  clear h
  replace H := Option.bind_eq_some_iff.mp H
  obtain ⟨⟨t114, t115, t116, t117, t118⟩, A20, H⟩ := H
  replace H : (some t114) = some r := H
  have A2 := Aside0.mk A20
  clear A20
  obtain rfl := Option.some.inj H
  go_enter Try.func11, Try.ntmps11
  go_wp2_with (first | ((with_reducible refine gcl (f := 38) rfl ?_); refine gl_ (some 4) rfl rfl Try.func38 (by kernel_rfl) rfl #[.int .i64 a0] rfl (by (try simp only [List.map_toArray, List.map_cons, List.map_nil]); first | done | rfl | (simp only [List.length_drop, List.length_take]; rfl)) ?_; (with_reducible refine (method_Op_shape.calls a0 t114 t115 t116 t117 t118 _ A2.out).mono ?_); rintro e w3 ⟨rfl, hb⟩; refine ⟨_, rfl, ?_⟩; have n0_ := Aside0.mk (bsp (by repeat (first | (with_reducible first | exact HB.out | apply bal | apply bdn | apply bd1) | exact HB.out)) hb); clear HB; have HB := n0_; clear n0_; (try clear hb); (try clear hb2); (try clear hk); (try clear hi)))
  go_ret
  exact ⟨by first | rfl | (simp [errW_none, errW_some] <;> rfl) | (simp [*, errW_none, errW_some] <;> rfl), by repeat (first | (with_reducible first | exact HB.out | apply bal | apply bdn | apply bd1) | exact HB.out)⟩
def method_Named.l0 : Nat → ByteArray → List (S71) → Int → Int → Option (Int)
  | 0, _, _, _, _ => none
  | k + 1, x0, x5, x6, x7 => if x7 < x6 then (if 0 ≤ x7 then (if x7 < (x5.length : Int) then (if ((rd_T71 x5 x7).f1).toList = x0.toList then (some (wrap64 (x7 + 1))) else (method_Named.l0 k x0 x5 x6 (wrap64 (x7 + 1)))) else (none)) else (none)) else (some 0)
def method_Named.f (k : Nat) (a0 : ByteArray) : Option (Int) := (method_shapes.f).bind fun t119 => (method_Named.l0 k a0 t119 (t119.length : Int) 0)
theorem method_Named.mono_l : ∀ k, (∀ y0 y1 y2 y3, LeO (method_Named.l0 k y0 y1 y2 y3) (method_Named.l0 (k + 1) y0 y1 y2 y3))
  | 0 => fun _ _ _ _ r h => by simp [method_Named.l0] at h
  | k + 1 => by
    have ih0 := method_Named.mono_l k
    · intro y0 y1 y2 y3
      unfold method_Named.l0
      repeat' first
      | (with_reducible exact ih0 _ _ _ _)
      | (with_reducible exact LeO.refl _)
      | (with_reducible exact LeO.none _)
      | (with_reducible refine LeO.ite ?_ ?_)
      | (with_reducible refine LeO.bind ?_ (fun _ => ?_))
      | exact ih0 _ _ _ _
      | exact LeO.none _
      | refine LeO.ite ?_ ?_
      | refine LeO.bind ?_ (fun _ => ?_)
theorem method_Named.mono : ∀ a0 k, LeO (method_Named.f k a0) (method_Named.f (k + 1) a0) := by
  intro a0 k
  have ih0 := method_Named.mono_l k
  unfold method_Named.f
  repeat' first
      | (with_reducible exact ih0 _ _ _ _)
      | (with_reducible exact LeO.refl _)
      | (with_reducible exact LeO.none _)
      | (with_reducible refine LeO.ite ?_ ?_)
      | (with_reducible refine LeO.bind ?_ (fun _ => ?_))
      | exact ih0 _ _ _ _
      | exact LeO.none _
      | refine LeO.ite ?_ ?_
      | refine LeO.bind ?_ (fun _ => ?_)
set_option maxHeartbeats 2000000 in
set_option maxRecDepth 100000 in
theorem method_Named.calls (k : Nat) (a0 : ByteArray) (r : Int) (w : World) (h : method_Named.f k a0 = some r) :
    Calls Try.prog 12 #[.string a0] w fun e w' => e = .returned (.int .i64 r) ∧ Below w.heap.size w w' := by
  have hu71 := Try.underlying71
  have HB := Aside0.mk (Below.refl w.heap.size w)
  have H : ((method_shapes.f).bind fun t119 => (method_Named.l0 k a0 t119 (t119.length : Int) 0)) = some r := h
  clear h
  replace H := Option.bind_eq_some_iff.mp H
  obtain ⟨t119, A20, H⟩ := H
  replace H : (method_Named.l0 k a0 t119 (t119.length : Int) 0) = some r := H
  have A2 := Aside0.mk A20
  clear A20
  have H' := Aside0.mk H
  clear H
  go_enter Try.func12, Try.ntmps12
  go_wp2_with (first | ((with_reducible refine gcl (f := 39) rfl ?_); refine gl_ (some 5) rfl rfl Try.func39 (by kernel_rfl) rfl #[] rfl (by (try simp only [List.map_toArray, List.map_cons, List.map_nil]); first | done | rfl | (simp only [List.length_drop, List.length_take]; rfl)) ?_; (with_reducible refine (method_shapes.calls  t119 _ A2.out).mono ?_); rintro e w3 ⟨v120, rfl, ho0, hb⟩; refine ⟨_, rfl, ?_⟩; have n0_ := Aside0.mk (Kd.R_lower ho0 (bsz (by repeat (first | (with_reducible first | exact HB.out | apply bal | apply bdn | apply bd1) | exact HB.out)))); have n1_ := Aside0.mk (bsp (by repeat (first | (with_reducible first | exact HB.out | apply bal | apply bdn | apply bd1) | exact HB.out)) hb); clear HB; have HO121 := n0_; have HB := n1_; clear n0_ n1_; (try clear hb); (try clear hb2); (try clear hk); (try clear hi); (try clear ho0); obtain ⟨Ao4, co4, eo4⟩ := Kd.R_slice HO121.out; subst eo4))
  go_loopg [7] k (fun kq v7 w' => ∃ (x7_1 : Int), v7 = .int .i64 x7_1 ∧ Aside0 (method_Named.l0 kq a0 t119 (t119.length : Int) x7_1 = some r) ∧ Aside0 (kq ≤ k) ∧ Aside0 (Kd.R k71 71 w' w.heap.size (fun _ => True) (.slice Ao4 t119.length co4) t119) ∧ Aside0 (Below w.heap.size w w'))
  case atStart => exact ⟨(0), (by first | rfl | (simp; done) | (simp [*]; done) | exact emp1_ _ | exact (emp1_ _).symm | exact emp2_ _ | exact (emp2_ _).symm), H', ⟨Nat.le_refl _⟩, ⟨by (with_reducible repeat (first | apply Kd.R_alloc | apply Kd.R_drewN | apply Kd.R_drew)); exact HO121.out⟩, ⟨by repeat (first | (with_reducible first | exact HB.out | apply bal | apply bdn | apply bd1) | exact HB.out)⟩⟩
  clear H'
  try clear c1
  try clear p2
  try clear c3
  obtain ⟨x7_1, rfl, HA, HK1, HO_5, HB⟩ := hrel
  cases gk with
  | zero => exact absurd HA.out (by simp [method_Named.l0])
  | succ k1 =>
    have H := HA.out
    clear HA
    simp only [method_Named.l0] at H
    by_cases c5 : x7_1 < (t119.length : Int)
    rotate_left
    · rw [if_neg c5] at H
      have c5b0 : decide (x7_1 < (t119.length : Int)) = false := decide_eq_false c5
      clear c5
      obtain rfl := Option.some.inj H
      go_wp2
      go_ret
      exact ⟨by first | rfl | (simp [errW_none, errW_some] <;> rfl) | (simp [*, errW_none, errW_some] <;> rfl), by repeat (first | (with_reducible first | exact HB.out | apply bal | apply bdn | apply bd1) | exact HB.out)⟩
    rw [if_pos c5] at H
    have c5b0 : decide (x7_1 < (t119.length : Int)) = true := decide_eq_true c5
    clear c5
    by_cases c6 : 0 ≤ x7_1
    rotate_left
    · rw [if_neg c6] at H
      exact absurd H (by simp)
    rw [if_pos c6] at H
    have c6b0 : decide (0 ≤ x7_1) = true := decide_eq_true c6
    clear c6
    by_cases c7 : x7_1 < (t119.length : Int)
    rotate_left
    · rw [if_neg c7] at H
      exact absurd H (by simp)
    rw [if_pos c7] at H
    have c7b0 : decide (x7_1 < (t119.length : Int)) = true := decide_eq_true c7
    clear c7
    by_cases c8 : ((rd_T71 t119 x7_1).f1).toList = a0.toList
    · rw [if_pos c8] at H
      have c8b0 : (((rd_T71 t119 x7_1).f1).toList == a0.toList) = true := beq_iff_eq.mpr c8
      have c8b1 : (((rd_T71 t119 x7_1).f1).toList != a0.toList) = false := bne_eq_false_iff_eq.mpr c8
      clear c8
      obtain rfl := Option.some.inj H
      have p122 : 0 ≤ (x7_1 : Int) := of_decide_eq_true (by first | (with_reducible assumption) | assumption)
      have q122 : x7_1 < (t119.length : Int) := of_decide_eq_true (by first | (with_reducible assumption) | assumption)
      obtain ⟨ad122, e122, hx122_0, hx122_1, hx122_2, hx122_3, hx122_4⟩ := at_T71 (Kd.R_reads' HO_5.out).2.2 x7_1 p122 q122
      cases e122
      replace p122 := eq_true p122
      replace q122 := eq_true q122
      go_wp2_with (first | ((with_reducible refine gds (N := 4) rfl ?_); refine bev ?hg (N := 4) ?hd (cs := #[.int .i64 0, .string (⟨#[]⟩ : ByteArray), .bool false, .bool false, .bool false]) (t := 71) ?hr ?_; (case hd => rfl); (case hg => rfl); (case hr => first | (go_simp; done) | (go_simp; rfl)); intro gb123 hg w9 hbox hb; have n0_ := Aside0.mk (Kd.R_below (Kd.R_elderB (by (with_reducible repeat (first | apply Kd.R_alloc | apply Kd.R_drewN | apply Kd.R_drew)); exact HO_5.out) gb123 (Nat.le_of_eq hg.symm)) hb); have n1_ := Aside0.mk (bsp (by repeat (first | (with_reducible first | exact HB.out | apply bal | apply bdn | apply bd1) | exact HB.out)) hb); have n2_ := Aside0.mk (hbox); have n3_ := Aside0.mk ((by rw [hg]; exact (bsz (by repeat (first | (with_reducible first | exact HB.out | apply bal | apply bdn | apply bd1) | exact HB.out))) : w.heap.size ≤ gb123)); have n4_ := Aside0.mk ((by rw [hg]; exact (bsz (by repeat (first | (with_reducible first | exact HB.out | apply bal | apply bdn | apply bd1) | exact HB.out))) : w.heap.size ≤ gb123)); clear HO_5; clear HB; have HO_5 := n0_; have HB := n1_; have BK123 := n2_; have GW123 := n3_; have GE123 := n4_; clear n0_ n1_ n2_ n3_ n4_; clear hb hbox hg; have hcz10_0 : w9.cell? ⟨gb123, 0, none⟩ = some (.int .i64 0) := (kcl BK123.out 0).trans rfl; have hcz10_1 : w9.cell? ⟨gb123, 1, none⟩ = some (.string (⟨#[]⟩ : ByteArray)) := (kcl BK123.out 1).trans rfl; have hcz10_2 : w9.cell? ⟨gb123, 2, none⟩ = some (.bool false) := (kcl BK123.out 2).trans rfl; have hcz10_3 : w9.cell? ⟨gb123, 3, none⟩ = some (.bool false) := (kcl BK123.out 3).trans rfl; have hcz10_4 : w9.cell? ⟨gb123, 4, none⟩ = some (.bool false) := (kcl BK123.out 4).trans rfl; have hfz10_0 := kfr BK123.out 0; have hfz10_1 := kfr BK123.out 1; have hfz10_2 := kfr BK123.out 2; have hfz10_3 := kfr BK123.out 3; have hfz10_4 := kfr BK123.out 4))
      go_ret
      exact ⟨by first | rfl | (simp [errW_none, errW_some] <;> rfl) | (simp [*, errW_none, errW_some] <;> rfl), by repeat (first | (with_reducible first | exact HB.out | apply bal | apply bdn | apply bd1 | refine bst ?_ GE123.out) | exact HB.out)⟩
    rw [if_neg c8] at H
    have c8b0 : (((rd_T71 t119 x7_1).f1).toList == a0.toList) = false := beq_eq_false_iff_ne.mpr c8
    have c8b1 : (((rd_T71 t119 x7_1).f1).toList != a0.toList) = true := bne_iff_ne.mpr c8
    have H' := Aside0.mk H
    clear H
    have p122 : 0 ≤ (x7_1 : Int) := of_decide_eq_true (by first | (with_reducible assumption) | assumption)
    have q122 : x7_1 < (t119.length : Int) := of_decide_eq_true (by first | (with_reducible assumption) | assumption)
    obtain ⟨ad122, e122, hx122_0, hx122_1, hx122_2, hx122_3, hx122_4⟩ := at_T71 (Kd.R_reads' HO_5.out).2.2 x7_1 p122 q122
    cases e122
    replace p122 := eq_true p122
    replace q122 := eq_true q122
    go_wp2_with (first | ((with_reducible refine gds (N := 4) rfl ?_); refine bev ?hg (N := 4) ?hd (cs := #[.int .i64 0, .string (⟨#[]⟩ : ByteArray), .bool false, .bool false, .bool false]) (t := 71) ?hr ?_; (case hd => rfl); (case hg => rfl); (case hr => first | (go_simp; done) | (go_simp; rfl)); intro gb123 hg w11 hbox hb; have n0_ := Aside0.mk (Kd.R_below (Kd.R_elderB (by (with_reducible repeat (first | apply Kd.R_alloc | apply Kd.R_drewN | apply Kd.R_drew)); exact HO_5.out) gb123 (Nat.le_of_eq hg.symm)) hb); have n1_ := Aside0.mk (bsp (by repeat (first | (with_reducible first | exact HB.out | apply bal | apply bdn | apply bd1) | exact HB.out)) hb); have n2_ := Aside0.mk (hbox); have n3_ := Aside0.mk ((by rw [hg]; exact (bsz (by repeat (first | (with_reducible first | exact HB.out | apply bal | apply bdn | apply bd1) | exact HB.out))) : w.heap.size ≤ gb123)); have n4_ := Aside0.mk ((by rw [hg]; exact (bsz (by repeat (first | (with_reducible first | exact HB.out | apply bal | apply bdn | apply bd1) | exact HB.out))) : w.heap.size ≤ gb123)); clear HO_5; clear HB; have HO_5 := n0_; have HB := n1_; have BK123 := n2_; have GW123 := n3_; have GE123 := n4_; clear n0_ n1_ n2_ n3_ n4_; clear hb hbox hg; have hcz12_0 : w11.cell? ⟨gb123, 0, none⟩ = some (.int .i64 0) := (kcl BK123.out 0).trans rfl; have hcz12_1 : w11.cell? ⟨gb123, 1, none⟩ = some (.string (⟨#[]⟩ : ByteArray)) := (kcl BK123.out 1).trans rfl; have hcz12_2 : w11.cell? ⟨gb123, 2, none⟩ = some (.bool false) := (kcl BK123.out 2).trans rfl; have hcz12_3 : w11.cell? ⟨gb123, 3, none⟩ = some (.bool false) := (kcl BK123.out 3).trans rfl; have hcz12_4 : w11.cell? ⟨gb123, 4, none⟩ = some (.bool false) := (kcl BK123.out 4).trans rfl; have hfz12_0 := kfr BK123.out 0; have hfz12_1 := kfr BK123.out 1; have hfz12_2 := kfr BK123.out 2; have hfz12_3 := kfr BK123.out 3; have hfz12_4 := kfr BK123.out 4))
    go_roundg k1
    case measure => have := HK1.out; omega
    case rel => exact ⟨(wrap64 (x7_1 + 1)), (by first | rfl | (simp; done) | (simp [*]; done) | exact emp1_ _ | exact (emp1_ _).symm | exact emp2_ _ | exact (emp2_ _).symm), H', ⟨by have := HK1.out; omega⟩, ⟨by (with_reducible repeat (first | apply Kd.R_alloc | apply Kd.R_drewN | apply Kd.R_drew)); exact Kd.R_mono (Kd.R_far (p := ⟨gb123, 4, none⟩) (Kd.R_far (p := ⟨gb123, 3, none⟩) (Kd.R_far (p := ⟨gb123, 2, none⟩) (Kd.R_far (p := ⟨gb123, 1, none⟩) (Kd.R_far (p := ⟨gb123, 0, none⟩) (Kd.R_mono HO_5.out (fun k_ hk => (⟨hk, hk.2⟩ : _ ∧ k_ ≠ gb123))) (fun _ hk => hk.2) (.int .i64 ((rd_T71 t119 x7_1).f0))) (fun _ hk => hk.2) (.string ((rd_T71 t119 x7_1).f1))) (fun _ hk => hk.2) (.bool ((rd_T71 t119 x7_1).f2))) (fun _ hk => hk.2) (.bool ((rd_T71 t119 x7_1).f3))) (fun _ hk => hk.2) (.bool ((rd_T71 t119 x7_1).f4))) (fun _ hk => trivial)⟩, ⟨by repeat (first | (with_reducible first | exact HB.out | apply bal | apply bdn | apply bd1 | refine bst ?_ GE123.out) | exact HB.out)⟩⟩
end Go.Proofs.Ytkoojbkkkpljoaa.PA

