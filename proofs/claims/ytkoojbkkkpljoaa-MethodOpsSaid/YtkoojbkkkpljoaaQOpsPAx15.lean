import Derived.Test.YtkoojbkkkpljoaaQOpsPAx0
namespace Go.Proofs.Ytkoojbkkkpljoaa.PA
open Go.Proofs.Ytkoojbkkkpljoaa.PL
open Go.RowKit Go.Proofs.YtkoojbkkkpljoaaW.PrintWords Go.Proofs.YtkoojbkkkpljoaaW.PrintLast Go.Proofs.YtkoojbkkkpljoaaW.PrintMore
attribute [local go_sem] max2_int min2_int max_two min_two max_three min_three max_four min_four
set_option linter.unusedVariables false
set_option linter.unusedSimpArgs false
def armoireref12_Words.f  : Option (List ByteArray) := some (([(⟨#[]⟩ : ByteArray), (⟨#[114, 101, 97, 100]⟩ : ByteArray), (⟨#[119, 114, 105, 116, 101]⟩ : ByteArray), (⟨#[97, 100, 100]⟩ : ByteArray), (⟨#[99, 111, 117, 110, 116]⟩ : ByteArray), (⟨#[99, 114, 101, 100, 105, 116]⟩ : ByteArray), (⟨#[100, 101, 98, 105, 116]⟩ : ByteArray), (⟨#[98, 97, 108, 97, 110, 99, 101]⟩ : ByteArray), (⟨#[105, 110, 115, 101, 114, 116]⟩ : ByteArray), (⟨#[114, 101, 109, 111, 118, 101]⟩ : ByteArray), (⟨#[104, 97, 115]⟩ : ByteArray), (⟨#[98, 105, 110, 100]⟩ : ByteArray), (⟨#[117, 110, 98, 105, 110, 100]⟩ : ByteArray), (⟨#[108, 111, 111, 107]⟩ : ByteArray), (⟨#[101, 110, 113]⟩ : ByteArray), (⟨#[100, 101, 113]⟩ : ByteArray), (⟨#[112, 117, 116]⟩ : ByteArray), (⟨#[116, 97, 107, 101]⟩ : ByteArray)] : List ByteArray))
set_option maxHeartbeats 2000000 in
set_option maxRecDepth 100000 in
theorem armoireref12_Words.calls  (r : List ByteArray) (w : World) (h : armoireref12_Words.f  = some r) :
    Calls Try.prog 7 #[] w fun e w' => ∃ v0_ : Value, e = .returned (v0_) ∧ Kd.R Kd.string 9 w' w.heap.size (fun _ => True) v0_ r ∧ Below w.heap.size w w' := by
  have HB := Aside0.mk (Below.refl w.heap.size w)
  have H : (some (([(⟨#[]⟩ : ByteArray), (⟨#[114, 101, 97, 100]⟩ : ByteArray), (⟨#[119, 114, 105, 116, 101]⟩ : ByteArray), (⟨#[97, 100, 100]⟩ : ByteArray), (⟨#[99, 111, 117, 110, 116]⟩ : ByteArray), (⟨#[99, 114, 101, 100, 105, 116]⟩ : ByteArray), (⟨#[100, 101, 98, 105, 116]⟩ : ByteArray), (⟨#[98, 97, 108, 97, 110, 99, 101]⟩ : ByteArray), (⟨#[105, 110, 115, 101, 114, 116]⟩ : ByteArray), (⟨#[114, 101, 109, 111, 118, 101]⟩ : ByteArray), (⟨#[104, 97, 115]⟩ : ByteArray), (⟨#[98, 105, 110, 100]⟩ : ByteArray), (⟨#[117, 110, 98, 105, 110, 100]⟩ : ByteArray), (⟨#[108, 111, 111, 107]⟩ : ByteArray), (⟨#[101, 110, 113]⟩ : ByteArray), (⟨#[100, 101, 113]⟩ : ByteArray), (⟨#[112, 117, 116]⟩ : ByteArray), (⟨#[116, 97, 107, 101]⟩ : ByteArray)] : List ByteArray))) = some r := h
  clear h
  obtain ⟨y342, hy342⟩ : ∃ y_ : List ByteArray, y_ = (([(⟨#[]⟩ : ByteArray), (⟨#[114, 101, 97, 100]⟩ : ByteArray), (⟨#[119, 114, 105, 116, 101]⟩ : ByteArray), (⟨#[97, 100, 100]⟩ : ByteArray), (⟨#[99, 111, 117, 110, 116]⟩ : ByteArray), (⟨#[99, 114, 101, 100, 105, 116]⟩ : ByteArray), (⟨#[100, 101, 98, 105, 116]⟩ : ByteArray), (⟨#[98, 97, 108, 97, 110, 99, 101]⟩ : ByteArray), (⟨#[105, 110, 115, 101, 114, 116]⟩ : ByteArray), (⟨#[114, 101, 109, 111, 118, 101]⟩ : ByteArray), (⟨#[104, 97, 115]⟩ : ByteArray), (⟨#[98, 105, 110, 100]⟩ : ByteArray), (⟨#[117, 110, 98, 105, 110, 100]⟩ : ByteArray), (⟨#[108, 111, 111, 107]⟩ : ByteArray), (⟨#[101, 110, 113]⟩ : ByteArray), (⟨#[100, 101, 113]⟩ : ByteArray), (⟨#[112, 117, 116]⟩ : ByteArray), (⟨#[116, 97, 107, 101]⟩ : ByteArray)] : List ByteArray)) := ⟨_, rfl⟩
  replace H : (some y342) = some r := by first | (rw [hy342]; with_reducible exact H) | (have H2_ := (Option.bind_some _ _).symm.trans H; rw [hy342]; with_reducible exact H2_) | (have H2_ := (Option.bind_some _ _).symm.trans H; with_reducible exact H2_) | with_reducible exact H | (rw [hy342]; exact H) | exact H
  have Ny342 := Aside0.mk hy342
  clear hy342
  obtain rfl := Option.some.inj H
  go_enter Try.func7, Try.ntmps7
  go_wp2_with (first | ((with_reducible refine gds (N := 1) rfl ?_); refine Kd.R_lit Kd.string _ 9 ?hg (N := 1) ?hd (xs := ([(⟨#[]⟩ : ByteArray), (⟨#[114, 101, 97, 100]⟩ : ByteArray), (⟨#[119, 114, 105, 116, 101]⟩ : ByteArray), (⟨#[97, 100, 100]⟩ : ByteArray), (⟨#[99, 111, 117, 110, 116]⟩ : ByteArray), (⟨#[99, 114, 101, 100, 105, 116]⟩ : ByteArray), (⟨#[100, 101, 98, 105, 116]⟩ : ByteArray), (⟨#[98, 97, 108, 97, 110, 99, 101]⟩ : ByteArray), (⟨#[105, 110, 115, 101, 114, 116]⟩ : ByteArray), (⟨#[114, 101, 109, 111, 118, 101]⟩ : ByteArray), (⟨#[104, 97, 115]⟩ : ByteArray), (⟨#[98, 105, 110, 100]⟩ : ByteArray), (⟨#[117, 110, 98, 105, 110, 100]⟩ : ByteArray), (⟨#[108, 111, 111, 107]⟩ : ByteArray), (⟨#[101, 110, 113]⟩ : ByteArray), (⟨#[100, 101, 113]⟩ : ByteArray), (⟨#[112, 117, 116]⟩ : ByteArray), (⟨#[116, 97, 107, 101]⟩ : ByteArray)] : List ByteArray)) (inner := [.string (⟨#[]⟩ : ByteArray), .string (⟨#[114, 101, 97, 100]⟩ : ByteArray), .string (⟨#[119, 114, 105, 116, 101]⟩ : ByteArray), .string (⟨#[97, 100, 100]⟩ : ByteArray), .string (⟨#[99, 111, 117, 110, 116]⟩ : ByteArray), .string (⟨#[99, 114, 101, 100, 105, 116]⟩ : ByteArray), .string (⟨#[100, 101, 98, 105, 116]⟩ : ByteArray), .string (⟨#[98, 97, 108, 97, 110, 99, 101]⟩ : ByteArray), .string (⟨#[105, 110, 115, 101, 114, 116]⟩ : ByteArray), .string (⟨#[114, 101, 109, 111, 118, 101]⟩ : ByteArray), .string (⟨#[104, 97, 115]⟩ : ByteArray), .string (⟨#[98, 105, 110, 100]⟩ : ByteArray), .string (⟨#[117, 110, 98, 105, 110, 100]⟩ : ByteArray), .string (⟨#[108, 111, 111, 107]⟩ : ByteArray), .string (⟨#[101, 110, 113]⟩ : ByteArray), .string (⟨#[100, 101, 113]⟩ : ByteArray), .string (⟨#[112, 117, 116]⟩ : ByteArray), .string (⟨#[116, 97, 107, 101]⟩ : ByteArray)]) (ok := fun _ => True) (okp := fun _ => True) ?hr ?hp (fun _ hk => hk) trivial (Below.refl _ _) (Nat.le_refl _) (by simp) ?_; (case hd => rfl); (case hg => rfl); (case hr => first | (go_simp; done) | (go_simp; rfl)); (case hp => exact (Reps.one (show Kd.M Kd.string _ _ _ (⟨#[]⟩ : ByteArray) [.string (⟨#[]⟩ : ByteArray)] from rfl) (Reps.one (show Kd.M Kd.string _ _ _ (⟨#[114, 101, 97, 100]⟩ : ByteArray) [.string (⟨#[114, 101, 97, 100]⟩ : ByteArray)] from rfl) (Reps.one (show Kd.M Kd.string _ _ _ (⟨#[119, 114, 105, 116, 101]⟩ : ByteArray) [.string (⟨#[119, 114, 105, 116, 101]⟩ : ByteArray)] from rfl) (Reps.one (show Kd.M Kd.string _ _ _ (⟨#[97, 100, 100]⟩ : ByteArray) [.string (⟨#[97, 100, 100]⟩ : ByteArray)] from rfl) (Reps.one (show Kd.M Kd.string _ _ _ (⟨#[99, 111, 117, 110, 116]⟩ : ByteArray) [.string (⟨#[99, 111, 117, 110, 116]⟩ : ByteArray)] from rfl) (Reps.one (show Kd.M Kd.string _ _ _ (⟨#[99, 114, 101, 100, 105, 116]⟩ : ByteArray) [.string (⟨#[99, 114, 101, 100, 105, 116]⟩ : ByteArray)] from rfl) (Reps.one (show Kd.M Kd.string _ _ _ (⟨#[100, 101, 98, 105, 116]⟩ : ByteArray) [.string (⟨#[100, 101, 98, 105, 116]⟩ : ByteArray)] from rfl) (Reps.one (show Kd.M Kd.string _ _ _ (⟨#[98, 97, 108, 97, 110, 99, 101]⟩ : ByteArray) [.string (⟨#[98, 97, 108, 97, 110, 99, 101]⟩ : ByteArray)] from rfl) (Reps.one (show Kd.M Kd.string _ _ _ (⟨#[105, 110, 115, 101, 114, 116]⟩ : ByteArray) [.string (⟨#[105, 110, 115, 101, 114, 116]⟩ : ByteArray)] from rfl) (Reps.one (show Kd.M Kd.string _ _ _ (⟨#[114, 101, 109, 111, 118, 101]⟩ : ByteArray) [.string (⟨#[114, 101, 109, 111, 118, 101]⟩ : ByteArray)] from rfl) (Reps.one (show Kd.M Kd.string _ _ _ (⟨#[104, 97, 115]⟩ : ByteArray) [.string (⟨#[104, 97, 115]⟩ : ByteArray)] from rfl) (Reps.one (show Kd.M Kd.string _ _ _ (⟨#[98, 105, 110, 100]⟩ : ByteArray) [.string (⟨#[98, 105, 110, 100]⟩ : ByteArray)] from rfl) (Reps.one (show Kd.M Kd.string _ _ _ (⟨#[117, 110, 98, 105, 110, 100]⟩ : ByteArray) [.string (⟨#[117, 110, 98, 105, 110, 100]⟩ : ByteArray)] from rfl) (Reps.one (show Kd.M Kd.string _ _ _ (⟨#[108, 111, 111, 107]⟩ : ByteArray) [.string (⟨#[108, 111, 111, 107]⟩ : ByteArray)] from rfl) (Reps.one (show Kd.M Kd.string _ _ _ (⟨#[101, 110, 113]⟩ : ByteArray) [.string (⟨#[101, 110, 113]⟩ : ByteArray)] from rfl) (Reps.one (show Kd.M Kd.string _ _ _ (⟨#[100, 101, 113]⟩ : ByteArray) [.string (⟨#[100, 101, 113]⟩ : ByteArray)] from rfl) (Reps.one (show Kd.M Kd.string _ _ _ (⟨#[112, 117, 116]⟩ : ByteArray) [.string (⟨#[112, 117, 116]⟩ : ByteArray)] from rfl) (Reps.one (show Kd.M Kd.string _ _ _ (⟨#[116, 97, 107, 101]⟩ : ByteArray) [.string (⟨#[116, 97, 107, 101]⟩ : ByteArray)] from rfl) (Reps.none _ _)))))))))))))))))))); intro v343 w1 ho2 hb hg_ hnew_; clear hg_ hnew_; (first | rw [← Ny342.out] at ho2 | (simp only [Int.reduceToNat] at ho2; rw [← Ny342.out] at ho2)); have n0_ := Aside0.mk (Kd.R_lower ho2 (bsz (by repeat (first | (with_reducible first | exact HB.out | apply bal | apply bdn | apply bd1) | exact HB.out)))); have n1_ := Aside0.mk (bsp (by repeat (first | (with_reducible first | exact HB.out | apply bal | apply bdn | apply bd1) | exact HB.out)) hb); clear HB; have HO344 := n0_; have HB := n1_; clear n0_ n1_; clear hb ho2))
  go_ret
  exact ⟨_, by first | rfl | (simp [errW_none, errW_some] <;> rfl) | (simp [*, errW_none, errW_some] <;> rfl), by (with_reducible repeat (first | apply Kd.R_alloc | apply Kd.R_drewN | apply Kd.R_drew)); exact HO344.out, by repeat (first | (with_reducible first | exact HB.out | apply bal | apply bdn | apply bd1) | exact HB.out)⟩
def armoireref12_Kind.f (a0 : Int) : Option (Int) := (some (([0, 1, 1, 2, 2, 3, 3, 3, 4, 4, 4, 5, 5, 5, 6, 6, 7, 7] : List Int) : List Int)).bind fun y345 => (if 0 ≤ (mx 0 (mn a0 17)) then (if (mx 0 (mn a0 17)) < (y345.length : Int) then (some (rd y345 (mx 0 (mn a0 17)))) else (none)) else (none))
set_option maxHeartbeats 2000000 in
set_option maxRecDepth 100000 in
theorem armoireref12_Kind.calls (a0 : Int) (r : Int) (w : World) (h : armoireref12_Kind.f a0 = some r) :
    Calls Try.prog 8 #[.int .i64 a0] w fun e w' => e = .returned (.int .i64 r) ∧ Below w.heap.size w w' := by
  have HB := Aside0.mk (Below.refl w.heap.size w)
  have H : ((some (([0, 1, 1, 2, 2, 3, 3, 3, 4, 4, 4, 5, 5, 5, 6, 6, 7, 7] : List Int) : List Int)).bind fun y345 => (if 0 ≤ (mx 0 (mn a0 17)) then (if (mx 0 (mn a0 17)) < (y345.length : Int) then (some (rd y345 (mx 0 (mn a0 17)))) else (none)) else (none))) = some r := h
  clear h
  obtain ⟨y345, hy345⟩ : ∃ y_ : List Int, y_ = (([0, 1, 1, 2, 2, 3, 3, 3, 4, 4, 4, 5, 5, 5, 6, 6, 7, 7] : List Int)) := ⟨_, rfl⟩
  replace H : (if 0 ≤ (mx 0 (mn a0 17)) then (if (mx 0 (mn a0 17)) < (y345.length : Int) then (some (rd y345 (mx 0 (mn a0 17)))) else (none)) else (none)) = some r := by first | (rw [hy345]; with_reducible exact H) | (have H2_ := (Option.bind_some _ _).symm.trans H; rw [hy345]; with_reducible exact H2_) | (have H2_ := (Option.bind_some _ _).symm.trans H; with_reducible exact H2_) | with_reducible exact H | (rw [hy345]; exact H) | exact H
  have Ny345 := Aside0.mk hy345
  clear hy345
  obtain ⟨ji2, hji2⟩ : ∃ j_ : Int, (mn a0 17) = j_ := ⟨_, rfl⟩
  replace H : (if 0 ≤ (mx 0 (ji2)) then (if (mx 0 (ji2)) < (y345.length : Int) then (some (rd y345 (mx 0 (ji2)))) else (none)) else (none)) = some r := by first | (rw [hji2] at H; exact H) | (simp only [hji2] at H ⊢; exact H)
  (try (have hji2h : ji2 ≤ 17 := by (rw [← hji2]; unfold mn; (repeat' split) <;> omega)))
  (try (have hji2g : ji2 ≤ 64 := by omega))
  have hji2_ : (if 17 < a0 then 17 else a0) = ji2 := hji2
  obtain ⟨ji3, hji3⟩ : ∃ j_ : Int, (mx 0 (ji2)) = j_ := ⟨_, rfl⟩
  replace H : (if 0 ≤ (ji3) then (if (ji3) < (y345.length : Int) then (some (rd y345 (ji3))) else (none)) else (none)) = some r := by first | (rw [hji3] at H; exact H) | (simp only [hji3] at H ⊢; exact H)
  have hji3_ : (if 0 < (ji2) then (ji2) else 0) = ji3 := hji3
  by_cases c4 : 0 ≤ (ji3)
  rotate_left
  · rw [if_neg c4] at H
    exact absurd H (by simp)
  rw [if_pos c4] at H
  have c4b0 : decide (0 ≤ (ji3)) = true := decide_eq_true c4
  clear c4
  by_cases c5 : (ji3) < (y345.length : Int)
  rotate_left
  · rw [if_neg c5] at H
    exact absurd H (by simp)
  rw [if_pos c5] at H
  have c5b0 : decide ((ji3) < (y345.length : Int)) = true := decide_eq_true c5
  clear c5
  obtain rfl := Option.some.inj H
  go_enter Try.func8, Try.ntmps8
  go_wp2_with (first | ((with_reducible refine gds (N := 3) rfl ?_); refine Kd.R_lit (Kd.int .i64) _ 3 ?hg (N := 3) ?hd (xs := ([0, 1, 1, 2, 2, 3, 3, 3, 4, 4, 4, 5, 5, 5, 6, 6, 7, 7] : List Int)) (inner := [.int .i64 0, .int .i64 1, .int .i64 1, .int .i64 2, .int .i64 2, .int .i64 3, .int .i64 3, .int .i64 3, .int .i64 4, .int .i64 4, .int .i64 4, .int .i64 5, .int .i64 5, .int .i64 5, .int .i64 6, .int .i64 6, .int .i64 7, .int .i64 7]) (ok := fun _ => True) (okp := fun _ => True) ?hr ?hp (fun _ hk => hk) trivial (Below.refl _ _) (Nat.le_refl _) (by simp) ?_; (case hd => rfl); (case hg => rfl); (case hr => first | (go_simp; done) | (go_simp; rfl)); (case hp => exact (Reps.one (show Kd.M (Kd.int .i64) _ _ _ 0 [.int .i64 0] from rfl) (Reps.one (show Kd.M (Kd.int .i64) _ _ _ 1 [.int .i64 1] from rfl) (Reps.one (show Kd.M (Kd.int .i64) _ _ _ 1 [.int .i64 1] from rfl) (Reps.one (show Kd.M (Kd.int .i64) _ _ _ 2 [.int .i64 2] from rfl) (Reps.one (show Kd.M (Kd.int .i64) _ _ _ 2 [.int .i64 2] from rfl) (Reps.one (show Kd.M (Kd.int .i64) _ _ _ 3 [.int .i64 3] from rfl) (Reps.one (show Kd.M (Kd.int .i64) _ _ _ 3 [.int .i64 3] from rfl) (Reps.one (show Kd.M (Kd.int .i64) _ _ _ 3 [.int .i64 3] from rfl) (Reps.one (show Kd.M (Kd.int .i64) _ _ _ 4 [.int .i64 4] from rfl) (Reps.one (show Kd.M (Kd.int .i64) _ _ _ 4 [.int .i64 4] from rfl) (Reps.one (show Kd.M (Kd.int .i64) _ _ _ 4 [.int .i64 4] from rfl) (Reps.one (show Kd.M (Kd.int .i64) _ _ _ 5 [.int .i64 5] from rfl) (Reps.one (show Kd.M (Kd.int .i64) _ _ _ 5 [.int .i64 5] from rfl) (Reps.one (show Kd.M (Kd.int .i64) _ _ _ 5 [.int .i64 5] from rfl) (Reps.one (show Kd.M (Kd.int .i64) _ _ _ 6 [.int .i64 6] from rfl) (Reps.one (show Kd.M (Kd.int .i64) _ _ _ 6 [.int .i64 6] from rfl) (Reps.one (show Kd.M (Kd.int .i64) _ _ _ 7 [.int .i64 7] from rfl) (Reps.one (show Kd.M (Kd.int .i64) _ _ _ 7 [.int .i64 7] from rfl) (Reps.none _ _)))))))))))))))))))); intro v346 w6 ho7 hb hg_ hnew_; clear hg_ hnew_; (first | rw [← Ny345.out] at ho7 | (simp only [Int.reduceToNat] at ho7; rw [← Ny345.out] at ho7)); have n0_ := Aside0.mk (Kd.R_lower ho7 (bsz (by repeat (first | (with_reducible first | exact HB.out | apply bal | apply bdn | apply bd1) | exact HB.out)))); have n1_ := Aside0.mk (bsp (by repeat (first | (with_reducible first | exact HB.out | apply bal | apply bdn | apply bd1) | exact HB.out)) hb); clear HB; have HO347 := n0_; have HB := n1_; clear n0_ n1_; clear hb ho7; obtain ⟨Ao8, co8, eo8⟩ := Kd.R_slice HO347.out; subst eo8; have p348 : 0 ≤ ((ji3) : Int) := of_decide_eq_true (by first | (with_reducible assumption) | assumption); have q348 : (ji3) < (y345.length : Int) := of_decide_eq_true (by first | (with_reducible assumption) | assumption); obtain ⟨ad348, e348, hx348_0⟩ := Kd.at_int (Kd.R_reads' HO347.out).2.2 (ji3) p348 q348; cases e348; replace p348 := eq_true p348; replace q348 := eq_true q348))
  go_ret
  exact ⟨by first | rfl | (simp [errW_none, errW_some] <;> rfl) | (simp only [← hji2, ← hji3]; first | rfl | (simp [errW_none, errW_some] <;> rfl)) | (simp [*, errW_none, errW_some] <;> rfl), by repeat (first | (with_reducible first | exact HB.out | apply bal | apply bdn | apply bd1) | exact HB.out)⟩
def method_Changes.j0 : Nat → Int → Bool → Int → ByteArray → ByteArray → Int → Int → ByteArray → Int → Option (Bool)
  | 0, _, _, _, _, _, _, _, _, _ => none
  | k + 1, x6, x7, x350000, x350001, x350002, x350003, x351000, x351001, x351002 => if x7 = true then (some true) else (if x6 = 3 then (some (x350003 != 0)) else (if x6 = 6 then (some (x351000 == 1)) else (if x6 = 8 then (some (x351000 == 1)) else (if x6 = 9 then (some (x351000 == 1)) else (if x6 = 11 then (some (x351000 == 1)) else (if x6 = 12 then (some (x351000 == 1)) else (if x6 = 15 then (some (x351000 == 1)) else (if x6 = 17 then (some (x351000 == 1)) else (some false)))))))))
def method_Changes.f (k : Nat) (a0_0 : Int) (a0_1 : ByteArray) (a0_2 : ByteArray) (a0_3 : Int) (a1_0 : Int) (a1_1 : ByteArray) (a1_2 : Int) : Option (Bool) := if a0_0 = 2 then (method_Changes.j0 k a0_0 (a0_0 == 2) a0_0 a0_1 a0_2 a0_3 a1_0 a1_1 a1_2) else (if a0_0 = 5 then (method_Changes.j0 k a0_0 (a0_0 == 5) a0_0 a0_1 a0_2 a0_3 a1_0 a1_1 a1_2) else (if a0_0 = 14 then (method_Changes.j0 k a0_0 (a0_0 == 14) a0_0 a0_1 a0_2 a0_3 a1_0 a1_1 a1_2) else (method_Changes.j0 k a0_0 (a0_0 == 16) a0_0 a0_1 a0_2 a0_3 a1_0 a1_1 a1_2)))
set_option maxHeartbeats 2000000 in
set_option maxRecDepth 100000 in
theorem method_Changes.calls (k : Nat) (a0_0 : Int) (a0_1 : ByteArray) (a0_2 : ByteArray) (a0_3 : Int) (a1_0 : Int) (a1_1 : ByteArray) (a1_2 : Int) (r : Bool) (w : World) (h : method_Changes.f k a0_0 a0_1 a0_2 a0_3 a1_0 a1_1 a1_2 = some r) :
    Calls Try.prog 13 #[.agg #[.int .i64 a0_0, .string a0_1, .string a0_2, .int .i64 a0_3], .agg #[.int .i64 a1_0, .string a1_1, .int .i64 a1_2]] w fun e w' => e = .returned (.bool r) ∧ Below w.heap.size w w' := by
  have hu27 := Try.underlying27
  have hu29 := Try.underlying29
  have HB := Aside0.mk (Below.refl w.heap.size w)
  have H : (if a0_0 = 2 then (method_Changes.j0 k a0_0 (a0_0 == 2) a0_0 a0_1 a0_2 a0_3 a1_0 a1_1 a1_2) else (if a0_0 = 5 then (method_Changes.j0 k a0_0 (a0_0 == 5) a0_0 a0_1 a0_2 a0_3 a1_0 a1_1 a1_2) else (if a0_0 = 14 then (method_Changes.j0 k a0_0 (a0_0 == 14) a0_0 a0_1 a0_2 a0_3 a1_0 a1_1 a1_2) else (method_Changes.j0 k a0_0 (a0_0 == 16) a0_0 a0_1 a0_2 a0_3 a1_0 a1_1 a1_2)))) = some r := h
  clear h
  have HC3 := Aside0.mk H
  clear H
  go_enter Try.func13, Try.ntmps13
  go_upto_if 7 with (first | ((with_reducible refine gds (N := 2) rfl ?_); refine bev ?hg (N := 2) ?hd (cs := #[.int .i64 a0_0, .string a0_1, .string a0_2, .int .i64 a0_3]) (t := 27) ?hr ?_; (case hd => rfl); (case hg => rfl); (case hr => first | (go_simp; done) | (go_simp; rfl)); intro gb349 hg w4 hbox hb; have n0_ := Aside0.mk (bsp (by repeat (first | (with_reducible first | exact HB.out | apply bal | apply bdn | apply bd1) | exact HB.out)) hb); have n1_ := Aside0.mk (hbox); have n2_ := Aside0.mk ((by rw [hg]; exact (bsz (by repeat (first | (with_reducible first | exact HB.out | apply bal | apply bdn | apply bd1) | exact HB.out))) : w.heap.size ≤ gb349)); have n3_ := Aside0.mk ((by rw [hg]; exact (bsz (by repeat (first | (with_reducible first | exact HB.out | apply bal | apply bdn | apply bd1) | exact HB.out))) : w.heap.size ≤ gb349)); clear HB; have HB := n0_; have BK349 := n1_; have GW349 := n2_; have GE349 := n3_; clear n0_ n1_ n2_ n3_; clear hb hbox hg) | ((with_reducible refine gds (N := 3) rfl ?_); refine bev ?hg (N := 3) ?hd (cs := #[.int .i64 a1_0, .string a1_1, .int .i64 a1_2]) (t := 29) ?hr ?_; (case hd => rfl); (case hg => rfl); (case hr => first | (go_simp; done) | (go_simp; rfl)); intro gb350 hg w5 hbox hb; have n0_ := Aside0.mk (kbl (g := gb349) (o := .cells #[.int .i64 a0_0, .string a0_1, .string a0_2, .int .i64 a0_3] 27 (0, 0)) (by (with_reducible repeat (first | refine kdn ?_ _ | refine kdw ?_ | refine kal ?_ _)); exact BK349.out) hb); have n1_ := Aside0.mk (bsp (by repeat (first | (with_reducible first | exact HB.out | apply bal | apply bdn | apply bd1 | refine bst ?_ GE349.out) | exact HB.out)) hb); have n2_ := Aside0.mk (hbox); have n3_ := Aside0.mk ((by rw [hg]; exact (bsz (by repeat (first | (with_reducible first | exact HB.out | apply bal | apply bdn | apply bd1 | refine bst ?_ GE349.out) | exact HB.out))) : w.heap.size ≤ gb350)); have n4_ := Aside0.mk ((by rw [hg]; exact (bsz (by repeat (first | (with_reducible first | exact HB.out | apply bal | apply bdn | apply bd1 | refine bst ?_ GE349.out) | exact HB.out))) : w.heap.size ≤ gb350)); have n5_ := Aside0.mk ((by rw [hg]; exact Nat.ne_of_lt (blk_lt (g := gb349) (o := .cells #[.int .i64 a0_0, .string a0_1, .string a0_2, .int .i64 a0_3] 27 (0, 0)) (by (with_reducible repeat (first | refine kdn ?_ _ | refine kdw ?_ | refine kal ?_ _)); exact BK349.out)) : gb349 ≠ gb350)); have n6_ := Aside0.mk ((by rw [hg]; exact Nat.ne_of_gt (blk_lt (g := gb349) (o := .cells #[.int .i64 a0_0, .string a0_1, .string a0_2, .int .i64 a0_3] 27 (0, 0)) (by (with_reducible repeat (first | refine kdn ?_ _ | refine kdw ?_ | refine kal ?_ _)); exact BK349.out)) : gb350 ≠ gb349)); clear BK349; clear HB; have BK349 := n0_; have HB := n1_; have BK350 := n2_; have GW350 := n3_; have GE350 := n4_; have NB349_350 := n5_; have NB350_349 := n6_; clear n0_ n1_ n2_ n3_ n4_ n5_ n6_; clear hb hbox hg; have hnb6 := NB349_350.out; have hnc6 := NB350_349.out; have hcz7_0 : w5.cell? ⟨gb349, 0, none⟩ = some (.int .i64 a0_0) := (kcl BK349.out 0).trans rfl; have hcz7_1 : w5.cell? ⟨gb349, 1, none⟩ = some (.string a0_1) := (kcl BK349.out 1).trans rfl; have hcz7_2 : w5.cell? ⟨gb349, 2, none⟩ = some (.string a0_2) := (kcl BK349.out 2).trans rfl; have hcz7_3 : w5.cell? ⟨gb349, 3, none⟩ = some (.int .i64 a0_3) := (kcl BK349.out 3).trans rfl; have hfz7_0 := kfr BK349.out 0; have hfz7_1 := kfr BK349.out 1; have hfz7_2 := kfr BK349.out 2; have hfz7_3 := kfr BK349.out 3))
  (try simp only [Act.put, List.setIfInBounds_toArray, List.set_cons_zero, List.set_cons_succ])
  go_cut [7] (fun v7 wc => ∃ (kq : Nat) (x7_2 : Bool), v7 = .bool x7_2 ∧ Aside0 (method_Changes.j0 kq a0_0 x7_2 a0_0 a0_1 a0_2 a0_3 a1_0 a1_1 a1_2 = some r) ∧ Aside0 (kq ≤ k) ∧ Aside0 (wc.heap[gb349]? = some (.cells #[.int .i64 a0_0, .string a0_1, .string a0_2, .int .i64 a0_3] 27 (0, 0))) ∧ Aside0 (wc.heap[gb350]? = some (.cells #[.int .i64 a1_0, .string a1_1, .int .i64 a1_2] 29 (0, 0))) ∧ Aside0 (Below w.heap.size w wc))
  case first =>
    have H := HC3.out
    clear HC3
    by_cases c8 : a0_0 = 2
    · rw [if_pos c8] at H
      have c8b0 : (a0_0 == 2) = true := beq_iff_eq.mpr c8
      have c8b1 : (a0_0 != 2) = false := bne_eq_false_iff_eq.mpr c8
      clear c8
      (first | rw [c8b0] | (simp only [i64_w, i32_w]; rw [c8b0]) | skip)
      have H' := Aside0.mk H
      clear H
      go_wp2
      go_meet
      case rel => exact ⟨_, ((a0_0 == 2)), (by first | rfl | (simp; done) | (simp [*]; done) | exact emp1_ _ | exact (emp1_ _).symm | exact emp2_ _ | exact (emp2_ _).symm), H', ⟨by first | omega | exact Nat.le_refl _⟩, ⟨by (with_reducible repeat (first | refine kdn ?_ _ | refine kdw ?_ | refine kal ?_ _)); exact BK349.out⟩, ⟨by (with_reducible repeat (first | refine kdn ?_ _ | refine kdw ?_ | refine kal ?_ _)); exact BK350.out⟩, ⟨by repeat (first | (with_reducible first | exact HB.out | apply bal | apply bdn | apply bd1 | refine bst ?_ GE349.out | refine bst ?_ GE350.out) | exact HB.out)⟩⟩
    rw [if_neg c8] at H
    have c8b0 : (a0_0 == 2) = false := beq_eq_false_iff_ne.mpr c8
    have c8b1 : (a0_0 != 2) = true := bne_iff_ne.mpr c8
    (first | rw [c8b0] | (simp only [i64_w, i32_w]; rw [c8b0]) | skip)
    by_cases c9 : a0_0 = 5
    · rw [if_pos c9] at H
      have c9b0 : (a0_0 == 5) = true := beq_iff_eq.mpr c9
      have c9b1 : (a0_0 != 5) = false := bne_eq_false_iff_eq.mpr c9
      clear c9
      have H' := Aside0.mk H
      clear H
      go_wp2
      go_meet
      case rel => exact ⟨_, ((a0_0 == 5)), (by first | rfl | (simp; done) | (simp [*]; done) | exact emp1_ _ | exact (emp1_ _).symm | exact emp2_ _ | exact (emp2_ _).symm), H', ⟨by first | omega | exact Nat.le_refl _⟩, ⟨by (with_reducible repeat (first | refine kdn ?_ _ | refine kdw ?_ | refine kal ?_ _)); exact BK349.out⟩, ⟨by (with_reducible repeat (first | refine kdn ?_ _ | refine kdw ?_ | refine kal ?_ _)); exact BK350.out⟩, ⟨by repeat (first | (with_reducible first | exact HB.out | apply bal | apply bdn | apply bd1 | refine bst ?_ GE349.out | refine bst ?_ GE350.out) | exact HB.out)⟩⟩
    rw [if_neg c9] at H
    have c9b0 : (a0_0 == 5) = false := beq_eq_false_iff_ne.mpr c9
    have c9b1 : (a0_0 != 5) = true := bne_iff_ne.mpr c9
    by_cases c10 : a0_0 = 14
    rotate_left
    · rw [if_neg c10] at H
      have c10b0 : (a0_0 == 14) = false := beq_eq_false_iff_ne.mpr c10
      have c10b1 : (a0_0 != 14) = true := bne_iff_ne.mpr c10
      have H' := Aside0.mk H
      clear H
      go_wp2
      go_meet
      case rel => exact ⟨_, ((a0_0 == 16)), (by first | rfl | (simp; done) | (simp [*]; done) | exact emp1_ _ | exact (emp1_ _).symm | exact emp2_ _ | exact (emp2_ _).symm), H', ⟨by first | omega | exact Nat.le_refl _⟩, ⟨by (with_reducible repeat (first | refine kdn ?_ _ | refine kdw ?_ | refine kal ?_ _)); exact BK349.out⟩, ⟨by (with_reducible repeat (first | refine kdn ?_ _ | refine kdw ?_ | refine kal ?_ _)); exact BK350.out⟩, ⟨by repeat (first | (with_reducible first | exact HB.out | apply bal | apply bdn | apply bd1 | refine bst ?_ GE349.out | refine bst ?_ GE350.out) | exact HB.out)⟩⟩
    rw [if_pos c10] at H
    have c10b0 : (a0_0 == 14) = true := beq_iff_eq.mpr c10
    have c10b1 : (a0_0 != 14) = false := bne_eq_false_iff_eq.mpr c10
    clear c10
    have H' := Aside0.mk H
    clear H
    go_wp2
    go_meet
    case rel => exact ⟨_, ((a0_0 == 14)), (by first | rfl | (simp; done) | (simp [*]; done) | exact emp1_ _ | exact (emp1_ _).symm | exact emp2_ _ | exact (emp2_ _).symm), H', ⟨by first | omega | exact Nat.le_refl _⟩, ⟨by (with_reducible repeat (first | refine kdn ?_ _ | refine kdw ?_ | refine kal ?_ _)); exact BK349.out⟩, ⟨by (with_reducible repeat (first | refine kdn ?_ _ | refine kdw ?_ | refine kal ?_ _)); exact BK350.out⟩, ⟨by repeat (first | (with_reducible first | exact HB.out | apply bal | apply bdn | apply bd1 | refine bst ?_ GE349.out | refine bst ?_ GE350.out) | exact HB.out)⟩⟩
  clear HC3
  try clear c1
  try clear p2
  try clear c6
  try clear c8
  try clear c8b0
  try clear c8b1
  try clear c9
  try clear c9b0
  try clear c9b1
  try clear c10
  try clear c10b0
  try clear c10b1
  try clear hcz7_0
  try clear hcz7_1
  try clear hcz7_2
  try clear hcz7_3
  try clear hfz7_0
  try clear hfz7_1
  try clear hfz7_2
  try clear hfz7_3
  obtain ⟨kq, x7_2, rfl, HA, HJ2, BK349, BK350, HB⟩ := hcut
  cases kq with
  | zero => exact absurd HA.out (by simp [method_Changes.j0])
  | succ kj2 =>
    have H := HA.out
    clear HA
    simp only [method_Changes.j0] at H
    by_cases c11 : x7_2 = true
    · subst c11
      have H1 : (some true) = some r := by rw [if_pos rfl] at H; exact H
      clear H
      have H := H1
      clear H1
      obtain rfl := Option.some.inj H
      go_wp2
      go_ret
      exact ⟨by first | rfl | (simp [errW_none, errW_some] <;> rfl) | (simp [*, errW_none, errW_some] <;> rfl), by repeat (first | (with_reducible first | exact HB.out | apply bal | apply bdn | apply bd1 | refine bst ?_ GE349.out | refine bst ?_ GE350.out) | exact HB.out)⟩
    replace c11 := Bool.eq_false_iff.mpr c11
    subst c11
    have H1 : (if a0_0 = 3 then (some (a0_3 != 0)) else (if a0_0 = 6 then (some (a1_0 == 1)) else (if a0_0 = 8 then (some (a1_0 == 1)) else (if a0_0 = 9 then (some (a1_0 == 1)) else (if a0_0 = 11 then (some (a1_0 == 1)) else (if a0_0 = 12 then (some (a1_0 == 1)) else (if a0_0 = 15 then (some (a1_0 == 1)) else (if a0_0 = 17 then (some (a1_0 == 1)) else (some false))))))))) = some r := by rw [if_neg (show ¬ (false = true) by decide)] at H; exact H
    clear H
    have H := H1
    clear H1
    by_cases c12 : a0_0 = 3
    · rw [if_pos c12] at H
      have c12b0 : (a0_0 == 3) = true := beq_iff_eq.mpr c12
      have c12b1 : (a0_0 != 3) = false := bne_eq_false_iff_eq.mpr c12
      clear c12
      obtain rfl := Option.some.inj H
      have hnb13 := NB349_350.out
      have hnc13 := NB350_349.out
      have hcz14_0 : wc.cell? ⟨gb349, 0, none⟩ = some (.int .i64 a0_0) := (kcl BK349.out 0).trans rfl
      have hcz14_1 : wc.cell? ⟨gb349, 1, none⟩ = some (.string a0_1) := (kcl BK349.out 1).trans rfl
      have hcz14_2 : wc.cell? ⟨gb349, 2, none⟩ = some (.string a0_2) := (kcl BK349.out 2).trans rfl
      have hcz14_3 : wc.cell? ⟨gb349, 3, none⟩ = some (.int .i64 a0_3) := (kcl BK349.out 3).trans rfl
      have hfz14_0 := kfr BK349.out 0
      have hfz14_1 := kfr BK349.out 1
      have hfz14_2 := kfr BK349.out 2
      have hfz14_3 := kfr BK349.out 3
      go_wp2
      go_ret
      exact ⟨by first | rfl | (simp [errW_none, errW_some] <;> rfl) | (simp [*, errW_none, errW_some] <;> rfl), by repeat (first | (with_reducible first | exact HB.out | apply bal | apply bdn | apply bd1 | refine bst ?_ GE349.out | refine bst ?_ GE350.out) | exact HB.out)⟩
    rw [if_neg c12] at H
    have c12b0 : (a0_0 == 3) = false := beq_eq_false_iff_ne.mpr c12
    have c12b1 : (a0_0 != 3) = true := bne_iff_ne.mpr c12
    by_cases c15 : a0_0 = 6
    · rw [if_pos c15] at H
      have c15b0 : (a0_0 == 6) = true := beq_iff_eq.mpr c15
      have c15b1 : (a0_0 != 6) = false := bne_eq_false_iff_eq.mpr c15
      clear c15
      obtain rfl := Option.some.inj H
      have hnb16 := NB350_349.out
      have hnc16 := NB349_350.out
      have hcz17_0 : wc.cell? ⟨gb350, 0, none⟩ = some (.int .i64 a1_0) := (kcl BK350.out 0).trans rfl
      have hcz17_1 : wc.cell? ⟨gb350, 1, none⟩ = some (.string a1_1) := (kcl BK350.out 1).trans rfl
      have hcz17_2 : wc.cell? ⟨gb350, 2, none⟩ = some (.int .i64 a1_2) := (kcl BK350.out 2).trans rfl
      have hfz17_0 := kfr BK350.out 0
      have hfz17_1 := kfr BK350.out 1
      have hfz17_2 := kfr BK350.out 2
      go_wp2
      go_ret
      exact ⟨by first | rfl | (simp [errW_none, errW_some] <;> rfl) | (simp [*, errW_none, errW_some] <;> rfl), by repeat (first | (with_reducible first | exact HB.out | apply bal | apply bdn | apply bd1 | refine bst ?_ GE349.out | refine bst ?_ GE350.out) | exact HB.out)⟩
    rw [if_neg c15] at H
    have c15b0 : (a0_0 == 6) = false := beq_eq_false_iff_ne.mpr c15
    have c15b1 : (a0_0 != 6) = true := bne_iff_ne.mpr c15
    by_cases c18 : a0_0 = 8
    · rw [if_pos c18] at H
      have c18b0 : (a0_0 == 8) = true := beq_iff_eq.mpr c18
      have c18b1 : (a0_0 != 8) = false := bne_eq_false_iff_eq.mpr c18
      clear c18
      obtain rfl := Option.some.inj H
      have hnb19 := NB350_349.out
      have hnc19 := NB349_350.out
      have hcz20_0 : wc.cell? ⟨gb350, 0, none⟩ = some (.int .i64 a1_0) := (kcl BK350.out 0).trans rfl
      have hcz20_1 : wc.cell? ⟨gb350, 1, none⟩ = some (.string a1_1) := (kcl BK350.out 1).trans rfl
      have hcz20_2 : wc.cell? ⟨gb350, 2, none⟩ = some (.int .i64 a1_2) := (kcl BK350.out 2).trans rfl
      have hfz20_0 := kfr BK350.out 0
      have hfz20_1 := kfr BK350.out 1
      have hfz20_2 := kfr BK350.out 2
      go_wp2
      go_ret
      exact ⟨by first | rfl | (simp [errW_none, errW_some] <;> rfl) | (simp [*, errW_none, errW_some] <;> rfl), by repeat (first | (with_reducible first | exact HB.out | apply bal | apply bdn | apply bd1 | refine bst ?_ GE349.out | refine bst ?_ GE350.out) | exact HB.out)⟩
    rw [if_neg c18] at H
    have c18b0 : (a0_0 == 8) = false := beq_eq_false_iff_ne.mpr c18
    have c18b1 : (a0_0 != 8) = true := bne_iff_ne.mpr c18
    by_cases c21 : a0_0 = 9
    · rw [if_pos c21] at H
      have c21b0 : (a0_0 == 9) = true := beq_iff_eq.mpr c21
      have c21b1 : (a0_0 != 9) = false := bne_eq_false_iff_eq.mpr c21
      clear c21
      obtain rfl := Option.some.inj H
      have hnb22 := NB350_349.out
      have hnc22 := NB349_350.out
      have hcz23_0 : wc.cell? ⟨gb350, 0, none⟩ = some (.int .i64 a1_0) := (kcl BK350.out 0).trans rfl
      have hcz23_1 : wc.cell? ⟨gb350, 1, none⟩ = some (.string a1_1) := (kcl BK350.out 1).trans rfl
      have hcz23_2 : wc.cell? ⟨gb350, 2, none⟩ = some (.int .i64 a1_2) := (kcl BK350.out 2).trans rfl
      have hfz23_0 := kfr BK350.out 0
      have hfz23_1 := kfr BK350.out 1
      have hfz23_2 := kfr BK350.out 2
      go_wp2
      go_ret
      exact ⟨by first | rfl | (simp [errW_none, errW_some] <;> rfl) | (simp [*, errW_none, errW_some] <;> rfl), by repeat (first | (with_reducible first | exact HB.out | apply bal | apply bdn | apply bd1 | refine bst ?_ GE349.out | refine bst ?_ GE350.out) | exact HB.out)⟩
    rw [if_neg c21] at H
    have c21b0 : (a0_0 == 9) = false := beq_eq_false_iff_ne.mpr c21
    have c21b1 : (a0_0 != 9) = true := bne_iff_ne.mpr c21
    by_cases c24 : a0_0 = 11
    · rw [if_pos c24] at H
      have c24b0 : (a0_0 == 11) = true := beq_iff_eq.mpr c24
      have c24b1 : (a0_0 != 11) = false := bne_eq_false_iff_eq.mpr c24
      clear c24
      obtain rfl := Option.some.inj H
      have hnb25 := NB350_349.out
      have hnc25 := NB349_350.out
      have hcz26_0 : wc.cell? ⟨gb350, 0, none⟩ = some (.int .i64 a1_0) := (kcl BK350.out 0).trans rfl
      have hcz26_1 : wc.cell? ⟨gb350, 1, none⟩ = some (.string a1_1) := (kcl BK350.out 1).trans rfl
      have hcz26_2 : wc.cell? ⟨gb350, 2, none⟩ = some (.int .i64 a1_2) := (kcl BK350.out 2).trans rfl
      have hfz26_0 := kfr BK350.out 0
      have hfz26_1 := kfr BK350.out 1
      have hfz26_2 := kfr BK350.out 2
      go_wp2
      go_ret
      exact ⟨by first | rfl | (simp [errW_none, errW_some] <;> rfl) | (simp [*, errW_none, errW_some] <;> rfl), by repeat (first | (with_reducible first | exact HB.out | apply bal | apply bdn | apply bd1 | refine bst ?_ GE349.out | refine bst ?_ GE350.out) | exact HB.out)⟩
    rw [if_neg c24] at H
    have c24b0 : (a0_0 == 11) = false := beq_eq_false_iff_ne.mpr c24
    have c24b1 : (a0_0 != 11) = true := bne_iff_ne.mpr c24
    by_cases c27 : a0_0 = 12
    · rw [if_pos c27] at H
      have c27b0 : (a0_0 == 12) = true := beq_iff_eq.mpr c27
      have c27b1 : (a0_0 != 12) = false := bne_eq_false_iff_eq.mpr c27
      clear c27
      obtain rfl := Option.some.inj H
      have hnb28 := NB350_349.out
      have hnc28 := NB349_350.out
      have hcz29_0 : wc.cell? ⟨gb350, 0, none⟩ = some (.int .i64 a1_0) := (kcl BK350.out 0).trans rfl
      have hcz29_1 : wc.cell? ⟨gb350, 1, none⟩ = some (.string a1_1) := (kcl BK350.out 1).trans rfl
      have hcz29_2 : wc.cell? ⟨gb350, 2, none⟩ = some (.int .i64 a1_2) := (kcl BK350.out 2).trans rfl
      have hfz29_0 := kfr BK350.out 0
      have hfz29_1 := kfr BK350.out 1
      have hfz29_2 := kfr BK350.out 2
      go_wp2
      go_ret
      exact ⟨by first | rfl | (simp [errW_none, errW_some] <;> rfl) | (simp [*, errW_none, errW_some] <;> rfl), by repeat (first | (with_reducible first | exact HB.out | apply bal | apply bdn | apply bd1 | refine bst ?_ GE349.out | refine bst ?_ GE350.out) | exact HB.out)⟩
    rw [if_neg c27] at H
    have c27b0 : (a0_0 == 12) = false := beq_eq_false_iff_ne.mpr c27
    have c27b1 : (a0_0 != 12) = true := bne_iff_ne.mpr c27
    by_cases c30 : a0_0 = 15
    · rw [if_pos c30] at H
      have c30b0 : (a0_0 == 15) = true := beq_iff_eq.mpr c30
      have c30b1 : (a0_0 != 15) = false := bne_eq_false_iff_eq.mpr c30
      clear c30
      obtain rfl := Option.some.inj H
      have hnb31 := NB350_349.out
      have hnc31 := NB349_350.out
      have hcz32_0 : wc.cell? ⟨gb350, 0, none⟩ = some (.int .i64 a1_0) := (kcl BK350.out 0).trans rfl
      have hcz32_1 : wc.cell? ⟨gb350, 1, none⟩ = some (.string a1_1) := (kcl BK350.out 1).trans rfl
      have hcz32_2 : wc.cell? ⟨gb350, 2, none⟩ = some (.int .i64 a1_2) := (kcl BK350.out 2).trans rfl
      have hfz32_0 := kfr BK350.out 0
      have hfz32_1 := kfr BK350.out 1
      have hfz32_2 := kfr BK350.out 2
      go_wp2
      go_ret
      exact ⟨by first | rfl | (simp [errW_none, errW_some] <;> rfl) | (simp [*, errW_none, errW_some] <;> rfl), by repeat (first | (with_reducible first | exact HB.out | apply bal | apply bdn | apply bd1 | refine bst ?_ GE349.out | refine bst ?_ GE350.out) | exact HB.out)⟩
    rw [if_neg c30] at H
    have c30b0 : (a0_0 == 15) = false := beq_eq_false_iff_ne.mpr c30
    have c30b1 : (a0_0 != 15) = true := bne_iff_ne.mpr c30
    by_cases c33 : a0_0 = 17
    rotate_left
    · rw [if_neg c33] at H
      have c33b0 : (a0_0 == 17) = false := beq_eq_false_iff_ne.mpr c33
      have c33b1 : (a0_0 != 17) = true := bne_iff_ne.mpr c33
      obtain rfl := Option.some.inj H
      go_wp2
      go_ret
      exact ⟨by first | rfl | (simp [errW_none, errW_some] <;> rfl) | (simp [*, errW_none, errW_some] <;> rfl), by repeat (first | (with_reducible first | exact HB.out | apply bal | apply bdn | apply bd1 | refine bst ?_ GE349.out | refine bst ?_ GE350.out) | exact HB.out)⟩
    rw [if_pos c33] at H
    have c33b0 : (a0_0 == 17) = true := beq_iff_eq.mpr c33
    have c33b1 : (a0_0 != 17) = false := bne_eq_false_iff_eq.mpr c33
    clear c33
    obtain rfl := Option.some.inj H
    have hnb34 := NB350_349.out
    have hnc34 := NB349_350.out
    have hcz35_0 : wc.cell? ⟨gb350, 0, none⟩ = some (.int .i64 a1_0) := (kcl BK350.out 0).trans rfl
    have hcz35_1 : wc.cell? ⟨gb350, 1, none⟩ = some (.string a1_1) := (kcl BK350.out 1).trans rfl
    have hcz35_2 : wc.cell? ⟨gb350, 2, none⟩ = some (.int .i64 a1_2) := (kcl BK350.out 2).trans rfl
    have hfz35_0 := kfr BK350.out 0
    have hfz35_1 := kfr BK350.out 1
    have hfz35_2 := kfr BK350.out 2
    go_wp2
    go_ret
    exact ⟨by first | rfl | (simp [errW_none, errW_some] <;> rfl) | (simp [*, errW_none, errW_some] <;> rfl), by repeat (first | (with_reducible first | exact HB.out | apply bal | apply bdn | apply bd1 | refine bst ?_ GE349.out | refine bst ?_ GE350.out) | exact HB.out)⟩
def armoireref12_Changes.j0 : Nat → Int → Bool → Int → ByteArray → ByteArray → Int → Int → ByteArray → Int → Option (Bool)
  | 0, _, _, _, _, _, _, _, _, _ => none
  | k + 1, x6, x7, x352000, x352001, x352002, x352003, x353000, x353001, x353002 => if x7 = true then (some true) else (if x6 = 3 then (some (x352003 != 0)) else (if x6 = 1 then (some false) else (if x6 = 4 then (some false) else (if x6 = 7 then (some false) else (if x6 = 10 then (some false) else (if x6 = 13 then (some false) else (if x352000 ≥ 1 then (if x352000 ≤ 17 then (some (x353000 == 1)) else (some false)) else (some false))))))))
def armoireref12_Changes.f (k : Nat) (a0_0 : Int) (a0_1 : ByteArray) (a0_2 : ByteArray) (a0_3 : Int) (a1_0 : Int) (a1_1 : ByteArray) (a1_2 : Int) : Option (Bool) := if a0_0 = 2 then (armoireref12_Changes.j0 k a0_0 (a0_0 == 2) a0_0 a0_1 a0_2 a0_3 a1_0 a1_1 a1_2) else (if a0_0 = 5 then (armoireref12_Changes.j0 k a0_0 (a0_0 == 5) a0_0 a0_1 a0_2 a0_3 a1_0 a1_1 a1_2) else (if a0_0 = 14 then (armoireref12_Changes.j0 k a0_0 (a0_0 == 14) a0_0 a0_1 a0_2 a0_3 a1_0 a1_1 a1_2) else (armoireref12_Changes.j0 k a0_0 (a0_0 == 16) a0_0 a0_1 a0_2 a0_3 a1_0 a1_1 a1_2)))
set_option maxHeartbeats 2000000 in
set_option maxRecDepth 100000 in
theorem armoireref12_Changes.calls (k : Nat) (a0_0 : Int) (a0_1 : ByteArray) (a0_2 : ByteArray) (a0_3 : Int) (a1_0 : Int) (a1_1 : ByteArray) (a1_2 : Int) (r : Bool) (w : World) (h : armoireref12_Changes.f k a0_0 a0_1 a0_2 a0_3 a1_0 a1_1 a1_2 = some r) :
    Calls Try.prog 14 #[.agg #[.int .i64 a0_0, .string a0_1, .string a0_2, .int .i64 a0_3], .agg #[.int .i64 a1_0, .string a1_1, .int .i64 a1_2]] w fun e w' => e = .returned (.bool r) ∧ Below w.heap.size w w' := by
  have hu37 := Try.underlying37
  have hu39 := Try.underlying39
  have HB := Aside0.mk (Below.refl w.heap.size w)
  have H : (if a0_0 = 2 then (armoireref12_Changes.j0 k a0_0 (a0_0 == 2) a0_0 a0_1 a0_2 a0_3 a1_0 a1_1 a1_2) else (if a0_0 = 5 then (armoireref12_Changes.j0 k a0_0 (a0_0 == 5) a0_0 a0_1 a0_2 a0_3 a1_0 a1_1 a1_2) else (if a0_0 = 14 then (armoireref12_Changes.j0 k a0_0 (a0_0 == 14) a0_0 a0_1 a0_2 a0_3 a1_0 a1_1 a1_2) else (armoireref12_Changes.j0 k a0_0 (a0_0 == 16) a0_0 a0_1 a0_2 a0_3 a1_0 a1_1 a1_2)))) = some r := h
  clear h
  have HC3 := Aside0.mk H
  clear H
  go_enter Try.func14, Try.ntmps14
  go_upto_if 7 with (first | ((with_reducible refine gds (N := 2) rfl ?_); refine bev ?hg (N := 2) ?hd (cs := #[.int .i64 a0_0, .string a0_1, .string a0_2, .int .i64 a0_3]) (t := 37) ?hr ?_; (case hd => rfl); (case hg => rfl); (case hr => first | (go_simp; done) | (go_simp; rfl)); intro gb351 hg w4 hbox hb; have n0_ := Aside0.mk (bsp (by repeat (first | (with_reducible first | exact HB.out | apply bal | apply bdn | apply bd1) | exact HB.out)) hb); have n1_ := Aside0.mk (hbox); have n2_ := Aside0.mk ((by rw [hg]; exact (bsz (by repeat (first | (with_reducible first | exact HB.out | apply bal | apply bdn | apply bd1) | exact HB.out))) : w.heap.size ≤ gb351)); have n3_ := Aside0.mk ((by rw [hg]; exact (bsz (by repeat (first | (with_reducible first | exact HB.out | apply bal | apply bdn | apply bd1) | exact HB.out))) : w.heap.size ≤ gb351)); clear HB; have HB := n0_; have BK351 := n1_; have GW351 := n2_; have GE351 := n3_; clear n0_ n1_ n2_ n3_; clear hb hbox hg) | ((with_reducible refine gds (N := 3) rfl ?_); refine bev ?hg (N := 3) ?hd (cs := #[.int .i64 a1_0, .string a1_1, .int .i64 a1_2]) (t := 39) ?hr ?_; (case hd => rfl); (case hg => rfl); (case hr => first | (go_simp; done) | (go_simp; rfl)); intro gb352 hg w5 hbox hb; have n0_ := Aside0.mk (kbl (g := gb351) (o := .cells #[.int .i64 a0_0, .string a0_1, .string a0_2, .int .i64 a0_3] 37 (0, 0)) (by (with_reducible repeat (first | refine kdn ?_ _ | refine kdw ?_ | refine kal ?_ _)); exact BK351.out) hb); have n1_ := Aside0.mk (bsp (by repeat (first | (with_reducible first | exact HB.out | apply bal | apply bdn | apply bd1 | refine bst ?_ GE351.out) | exact HB.out)) hb); have n2_ := Aside0.mk (hbox); have n3_ := Aside0.mk ((by rw [hg]; exact (bsz (by repeat (first | (with_reducible first | exact HB.out | apply bal | apply bdn | apply bd1 | refine bst ?_ GE351.out) | exact HB.out))) : w.heap.size ≤ gb352)); have n4_ := Aside0.mk ((by rw [hg]; exact (bsz (by repeat (first | (with_reducible first | exact HB.out | apply bal | apply bdn | apply bd1 | refine bst ?_ GE351.out) | exact HB.out))) : w.heap.size ≤ gb352)); have n5_ := Aside0.mk ((by rw [hg]; exact Nat.ne_of_lt (blk_lt (g := gb351) (o := .cells #[.int .i64 a0_0, .string a0_1, .string a0_2, .int .i64 a0_3] 37 (0, 0)) (by (with_reducible repeat (first | refine kdn ?_ _ | refine kdw ?_ | refine kal ?_ _)); exact BK351.out)) : gb351 ≠ gb352)); have n6_ := Aside0.mk ((by rw [hg]; exact Nat.ne_of_gt (blk_lt (g := gb351) (o := .cells #[.int .i64 a0_0, .string a0_1, .string a0_2, .int .i64 a0_3] 37 (0, 0)) (by (with_reducible repeat (first | refine kdn ?_ _ | refine kdw ?_ | refine kal ?_ _)); exact BK351.out)) : gb352 ≠ gb351)); clear BK351; clear HB; have BK351 := n0_; have HB := n1_; have BK352 := n2_; have GW352 := n3_; have GE352 := n4_; have NB351_352 := n5_; have NB352_351 := n6_; clear n0_ n1_ n2_ n3_ n4_ n5_ n6_; clear hb hbox hg; have hnb6 := NB351_352.out; have hnc6 := NB352_351.out; have hcz7_0 : w5.cell? ⟨gb351, 0, none⟩ = some (.int .i64 a0_0) := (kcl BK351.out 0).trans rfl; have hcz7_1 : w5.cell? ⟨gb351, 1, none⟩ = some (.string a0_1) := (kcl BK351.out 1).trans rfl; have hcz7_2 : w5.cell? ⟨gb351, 2, none⟩ = some (.string a0_2) := (kcl BK351.out 2).trans rfl; have hcz7_3 : w5.cell? ⟨gb351, 3, none⟩ = some (.int .i64 a0_3) := (kcl BK351.out 3).trans rfl; have hfz7_0 := kfr BK351.out 0; have hfz7_1 := kfr BK351.out 1; have hfz7_2 := kfr BK351.out 2; have hfz7_3 := kfr BK351.out 3))
  (try simp only [Act.put, List.setIfInBounds_toArray, List.set_cons_zero, List.set_cons_succ])
  go_cut [7] (fun v7 wc => ∃ (kq : Nat) (x7_2 : Bool), v7 = .bool x7_2 ∧ Aside0 (armoireref12_Changes.j0 kq a0_0 x7_2 a0_0 a0_1 a0_2 a0_3 a1_0 a1_1 a1_2 = some r) ∧ Aside0 (kq ≤ k) ∧ Aside0 (wc.heap[gb351]? = some (.cells #[.int .i64 a0_0, .string a0_1, .string a0_2, .int .i64 a0_3] 37 (0, 0))) ∧ Aside0 (wc.heap[gb352]? = some (.cells #[.int .i64 a1_0, .string a1_1, .int .i64 a1_2] 39 (0, 0))) ∧ Aside0 (Below w.heap.size w wc))
  case first =>
    have H := HC3.out
    clear HC3
    by_cases c8 : a0_0 = 2
    · rw [if_pos c8] at H
      have c8b0 : (a0_0 == 2) = true := beq_iff_eq.mpr c8
      have c8b1 : (a0_0 != 2) = false := bne_eq_false_iff_eq.mpr c8
      clear c8
      (first | rw [c8b0] | (simp only [i64_w, i32_w]; rw [c8b0]) | skip)
      have H' := Aside0.mk H
      clear H
      go_wp2
      go_meet
      case rel => exact ⟨_, ((a0_0 == 2)), (by first | rfl | (simp; done) | (simp [*]; done) | exact emp1_ _ | exact (emp1_ _).symm | exact emp2_ _ | exact (emp2_ _).symm), H', ⟨by first | omega | exact Nat.le_refl _⟩, ⟨by (with_reducible repeat (first | refine kdn ?_ _ | refine kdw ?_ | refine kal ?_ _)); exact BK351.out⟩, ⟨by (with_reducible repeat (first | refine kdn ?_ _ | refine kdw ?_ | refine kal ?_ _)); exact BK352.out⟩, ⟨by repeat (first | (with_reducible first | exact HB.out | apply bal | apply bdn | apply bd1 | refine bst ?_ GE351.out | refine bst ?_ GE352.out) | exact HB.out)⟩⟩
    rw [if_neg c8] at H
    have c8b0 : (a0_0 == 2) = false := beq_eq_false_iff_ne.mpr c8
    have c8b1 : (a0_0 != 2) = true := bne_iff_ne.mpr c8
    (first | rw [c8b0] | (simp only [i64_w, i32_w]; rw [c8b0]) | skip)
    by_cases c9 : a0_0 = 5
    · rw [if_pos c9] at H
      have c9b0 : (a0_0 == 5) = true := beq_iff_eq.mpr c9
      have c9b1 : (a0_0 != 5) = false := bne_eq_false_iff_eq.mpr c9
      clear c9
      have H' := Aside0.mk H
      clear H
      go_wp2
      go_meet
      case rel => exact ⟨_, ((a0_0 == 5)), (by first | rfl | (simp; done) | (simp [*]; done) | exact emp1_ _ | exact (emp1_ _).symm | exact emp2_ _ | exact (emp2_ _).symm), H', ⟨by first | omega | exact Nat.le_refl _⟩, ⟨by (with_reducible repeat (first | refine kdn ?_ _ | refine kdw ?_ | refine kal ?_ _)); exact BK351.out⟩, ⟨by (with_reducible repeat (first | refine kdn ?_ _ | refine kdw ?_ | refine kal ?_ _)); exact BK352.out⟩, ⟨by repeat (first | (with_reducible first | exact HB.out | apply bal | apply bdn | apply bd1 | refine bst ?_ GE351.out | refine bst ?_ GE352.out) | exact HB.out)⟩⟩
    rw [if_neg c9] at H
    have c9b0 : (a0_0 == 5) = false := beq_eq_false_iff_ne.mpr c9
    have c9b1 : (a0_0 != 5) = true := bne_iff_ne.mpr c9
    by_cases c10 : a0_0 = 14
    rotate_left
    · rw [if_neg c10] at H
      have c10b0 : (a0_0 == 14) = false := beq_eq_false_iff_ne.mpr c10
      have c10b1 : (a0_0 != 14) = true := bne_iff_ne.mpr c10
      have H' := Aside0.mk H
      clear H
      go_wp2
      go_meet
      case rel => exact ⟨_, ((a0_0 == 16)), (by first | rfl | (simp; done) | (simp [*]; done) | exact emp1_ _ | exact (emp1_ _).symm | exact emp2_ _ | exact (emp2_ _).symm), H', ⟨by first | omega | exact Nat.le_refl _⟩, ⟨by (with_reducible repeat (first | refine kdn ?_ _ | refine kdw ?_ | refine kal ?_ _)); exact BK351.out⟩, ⟨by (with_reducible repeat (first | refine kdn ?_ _ | refine kdw ?_ | refine kal ?_ _)); exact BK352.out⟩, ⟨by repeat (first | (with_reducible first | exact HB.out | apply bal | apply bdn | apply bd1 | refine bst ?_ GE351.out | refine bst ?_ GE352.out) | exact HB.out)⟩⟩
    rw [if_pos c10] at H
    have c10b0 : (a0_0 == 14) = true := beq_iff_eq.mpr c10
    have c10b1 : (a0_0 != 14) = false := bne_eq_false_iff_eq.mpr c10
    clear c10
    have H' := Aside0.mk H
    clear H
    go_wp2
    go_meet
    case rel => exact ⟨_, ((a0_0 == 14)), (by first | rfl | (simp; done) | (simp [*]; done) | exact emp1_ _ | exact (emp1_ _).symm | exact emp2_ _ | exact (emp2_ _).symm), H', ⟨by first | omega | exact Nat.le_refl _⟩, ⟨by (with_reducible repeat (first | refine kdn ?_ _ | refine kdw ?_ | refine kal ?_ _)); exact BK351.out⟩, ⟨by (with_reducible repeat (first | refine kdn ?_ _ | refine kdw ?_ | refine kal ?_ _)); exact BK352.out⟩, ⟨by repeat (first | (with_reducible first | exact HB.out | apply bal | apply bdn | apply bd1 | refine bst ?_ GE351.out | refine bst ?_ GE352.out) | exact HB.out)⟩⟩
  clear HC3
  try clear c1
  try clear p2
  try clear c6
  try clear c8
  try clear c8b0
  try clear c8b1
  try clear c9
  try clear c9b0
  try clear c9b1
  try clear c10
  try clear c10b0
  try clear c10b1
  try clear hcz7_0
  try clear hcz7_1
  try clear hcz7_2
  try clear hcz7_3
  try clear hfz7_0
  try clear hfz7_1
  try clear hfz7_2
  try clear hfz7_3
  obtain ⟨kq, x7_2, rfl, HA, HJ2, BK351, BK352, HB⟩ := hcut
  cases kq with
  | zero => exact absurd HA.out (by simp [armoireref12_Changes.j0])
  | succ kj2 =>
    have H := HA.out
    clear HA
    simp only [armoireref12_Changes.j0] at H
    by_cases c11 : x7_2 = true
    · subst c11
      have H1 : (some true) = some r := by rw [if_pos rfl] at H; exact H
      clear H
      have H := H1
      clear H1
      obtain rfl := Option.some.inj H
      go_wp2
      go_ret
      exact ⟨by first | rfl | (simp [errW_none, errW_some] <;> rfl) | (simp [*, errW_none, errW_some] <;> rfl), by repeat (first | (with_reducible first | exact HB.out | apply bal | apply bdn | apply bd1 | refine bst ?_ GE351.out | refine bst ?_ GE352.out) | exact HB.out)⟩
    replace c11 := Bool.eq_false_iff.mpr c11
    subst c11
    have H1 : (if a0_0 = 3 then (some (a0_3 != 0)) else (if a0_0 = 1 then (some false) else (if a0_0 = 4 then (some false) else (if a0_0 = 7 then (some false) else (if a0_0 = 10 then (some false) else (if a0_0 = 13 then (some false) else (if a0_0 ≥ 1 then (if a0_0 ≤ 17 then (some (a1_0 == 1)) else (some false)) else (some false)))))))) = some r := by rw [if_neg (show ¬ (false = true) by decide)] at H; exact H
    clear H
    have H := H1
    clear H1
    by_cases c12 : a0_0 = 3
    · rw [if_pos c12] at H
      have c12b0 : (a0_0 == 3) = true := beq_iff_eq.mpr c12
      have c12b1 : (a0_0 != 3) = false := bne_eq_false_iff_eq.mpr c12
      clear c12
      obtain rfl := Option.some.inj H
      have hnb13 := NB351_352.out
      have hnc13 := NB352_351.out
      have hcz14_0 : wc.cell? ⟨gb351, 0, none⟩ = some (.int .i64 a0_0) := (kcl BK351.out 0).trans rfl
      have hcz14_1 : wc.cell? ⟨gb351, 1, none⟩ = some (.string a0_1) := (kcl BK351.out 1).trans rfl
      have hcz14_2 : wc.cell? ⟨gb351, 2, none⟩ = some (.string a0_2) := (kcl BK351.out 2).trans rfl
      have hcz14_3 : wc.cell? ⟨gb351, 3, none⟩ = some (.int .i64 a0_3) := (kcl BK351.out 3).trans rfl
      have hfz14_0 := kfr BK351.out 0
      have hfz14_1 := kfr BK351.out 1
      have hfz14_2 := kfr BK351.out 2
      have hfz14_3 := kfr BK351.out 3
      go_wp2
      go_ret
      exact ⟨by first | rfl | (simp [errW_none, errW_some] <;> rfl) | (simp [*, errW_none, errW_some] <;> rfl), by repeat (first | (with_reducible first | exact HB.out | apply bal | apply bdn | apply bd1 | refine bst ?_ GE351.out | refine bst ?_ GE352.out) | exact HB.out)⟩
    rw [if_neg c12] at H
    have c12b0 : (a0_0 == 3) = false := beq_eq_false_iff_ne.mpr c12
    have c12b1 : (a0_0 != 3) = true := bne_iff_ne.mpr c12
    by_cases c15 : a0_0 = 1
    · rw [if_pos c15] at H
      have c15b0 : (a0_0 == 1) = true := beq_iff_eq.mpr c15
      have c15b1 : (a0_0 != 1) = false := bne_eq_false_iff_eq.mpr c15
      clear c15
      obtain rfl := Option.some.inj H
      go_wp2
      go_ret
      exact ⟨by first | rfl | (simp [errW_none, errW_some] <;> rfl) | (simp [*, errW_none, errW_some] <;> rfl), by repeat (first | (with_reducible first | exact HB.out | apply bal | apply bdn | apply bd1 | refine bst ?_ GE351.out | refine bst ?_ GE352.out) | exact HB.out)⟩
    rw [if_neg c15] at H
    have c15b0 : (a0_0 == 1) = false := beq_eq_false_iff_ne.mpr c15
    have c15b1 : (a0_0 != 1) = true := bne_iff_ne.mpr c15
    by_cases c16 : a0_0 = 4
    · rw [if_pos c16] at H
      have c16b0 : (a0_0 == 4) = true := beq_iff_eq.mpr c16
      have c16b1 : (a0_0 != 4) = false := bne_eq_false_iff_eq.mpr c16
      clear c16
      obtain rfl := Option.some.inj H
      go_wp2
      go_ret
      exact ⟨by first | rfl | (simp [errW_none, errW_some] <;> rfl) | (simp [*, errW_none, errW_some] <;> rfl), by repeat (first | (with_reducible first | exact HB.out | apply bal | apply bdn | apply bd1 | refine bst ?_ GE351.out | refine bst ?_ GE352.out) | exact HB.out)⟩
    rw [if_neg c16] at H
    have c16b0 : (a0_0 == 4) = false := beq_eq_false_iff_ne.mpr c16
    have c16b1 : (a0_0 != 4) = true := bne_iff_ne.mpr c16
    by_cases c17 : a0_0 = 7
    · rw [if_pos c17] at H
      have c17b0 : (a0_0 == 7) = true := beq_iff_eq.mpr c17
      have c17b1 : (a0_0 != 7) = false := bne_eq_false_iff_eq.mpr c17
      clear c17
      obtain rfl := Option.some.inj H
      go_wp2
      go_ret
      exact ⟨by first | rfl | (simp [errW_none, errW_some] <;> rfl) | (simp [*, errW_none, errW_some] <;> rfl), by repeat (first | (with_reducible first | exact HB.out | apply bal | apply bdn | apply bd1 | refine bst ?_ GE351.out | refine bst ?_ GE352.out) | exact HB.out)⟩
    rw [if_neg c17] at H
    have c17b0 : (a0_0 == 7) = false := beq_eq_false_iff_ne.mpr c17
    have c17b1 : (a0_0 != 7) = true := bne_iff_ne.mpr c17
    by_cases c18 : a0_0 = 10
    · rw [if_pos c18] at H
      have c18b0 : (a0_0 == 10) = true := beq_iff_eq.mpr c18
      have c18b1 : (a0_0 != 10) = false := bne_eq_false_iff_eq.mpr c18
      clear c18
      obtain rfl := Option.some.inj H
      go_wp2
      go_ret
      exact ⟨by first | rfl | (simp [errW_none, errW_some] <;> rfl) | (simp [*, errW_none, errW_some] <;> rfl), by repeat (first | (with_reducible first | exact HB.out | apply bal | apply bdn | apply bd1 | refine bst ?_ GE351.out | refine bst ?_ GE352.out) | exact HB.out)⟩
    rw [if_neg c18] at H
    have c18b0 : (a0_0 == 10) = false := beq_eq_false_iff_ne.mpr c18
    have c18b1 : (a0_0 != 10) = true := bne_iff_ne.mpr c18
    by_cases c19 : a0_0 = 13
    · rw [if_pos c19] at H
      have c19b0 : (a0_0 == 13) = true := beq_iff_eq.mpr c19
      have c19b1 : (a0_0 != 13) = false := bne_eq_false_iff_eq.mpr c19
      clear c19
      obtain rfl := Option.some.inj H
      go_wp2
      go_ret
      exact ⟨by first | rfl | (simp [errW_none, errW_some] <;> rfl) | (simp [*, errW_none, errW_some] <;> rfl), by repeat (first | (with_reducible first | exact HB.out | apply bal | apply bdn | apply bd1 | refine bst ?_ GE351.out | refine bst ?_ GE352.out) | exact HB.out)⟩
    rw [if_neg c19] at H
    have c19b0 : (a0_0 == 13) = false := beq_eq_false_iff_ne.mpr c19
    have c19b1 : (a0_0 != 13) = true := bne_iff_ne.mpr c19
    by_cases c20 : a0_0 ≥ 1
    rotate_left
    · rw [if_neg c20] at H
      have c20b0 : decide (1 ≤ a0_0) = false := decide_eq_false c20
      clear c20
      obtain rfl := Option.some.inj H
      have hnb27 := NB351_352.out
      have hnc27 := NB352_351.out
      have hcz28_0 : wc.cell? ⟨gb351, 0, none⟩ = some (.int .i64 a0_0) := (kcl BK351.out 0).trans rfl
      have hcz28_1 : wc.cell? ⟨gb351, 1, none⟩ = some (.string a0_1) := (kcl BK351.out 1).trans rfl
      have hcz28_2 : wc.cell? ⟨gb351, 2, none⟩ = some (.string a0_2) := (kcl BK351.out 2).trans rfl
      have hcz28_3 : wc.cell? ⟨gb351, 3, none⟩ = some (.int .i64 a0_3) := (kcl BK351.out 3).trans rfl
      have hfz28_0 := kfr BK351.out 0
      have hfz28_1 := kfr BK351.out 1
      have hfz28_2 := kfr BK351.out 2
      have hfz28_3 := kfr BK351.out 3
      go_wp2
      go_ret
      exact ⟨by first | rfl | (simp [errW_none, errW_some] <;> rfl) | (simp [*, errW_none, errW_some] <;> rfl), by repeat (first | (with_reducible first | exact HB.out | apply bal | apply bdn | apply bd1 | refine bst ?_ GE351.out | refine bst ?_ GE352.out) | exact HB.out)⟩
    rw [if_pos c20] at H
    have c20b0 : decide (1 ≤ a0_0) = true := decide_eq_true c20
    clear c20
    by_cases c21 : a0_0 ≤ 17
    rotate_left
    · rw [if_neg c21] at H
      have c21b0 : decide (a0_0 ≤ 17) = false := decide_eq_false c21
      clear c21
      obtain rfl := Option.some.inj H
      have hnb25 := NB351_352.out
      have hnc25 := NB352_351.out
      have hcz26_0 : wc.cell? ⟨gb351, 0, none⟩ = some (.int .i64 a0_0) := (kcl BK351.out 0).trans rfl
      have hcz26_1 : wc.cell? ⟨gb351, 1, none⟩ = some (.string a0_1) := (kcl BK351.out 1).trans rfl
      have hcz26_2 : wc.cell? ⟨gb351, 2, none⟩ = some (.string a0_2) := (kcl BK351.out 2).trans rfl
      have hcz26_3 : wc.cell? ⟨gb351, 3, none⟩ = some (.int .i64 a0_3) := (kcl BK351.out 3).trans rfl
      have hfz26_0 := kfr BK351.out 0
      have hfz26_1 := kfr BK351.out 1
      have hfz26_2 := kfr BK351.out 2
      have hfz26_3 := kfr BK351.out 3
      go_wp2
      go_ret
      exact ⟨by first | rfl | (simp [errW_none, errW_some] <;> rfl) | (simp [*, errW_none, errW_some] <;> rfl), by repeat (first | (with_reducible first | exact HB.out | apply bal | apply bdn | apply bd1 | refine bst ?_ GE351.out | refine bst ?_ GE352.out) | exact HB.out)⟩
    rw [if_pos c21] at H
    have c21b0 : decide (a0_0 ≤ 17) = true := decide_eq_true c21
    clear c21
    obtain rfl := Option.some.inj H
    have hnb22 := NB351_352.out
    have hnc22 := NB352_351.out
    have hcz23_0 : wc.cell? ⟨gb351, 0, none⟩ = some (.int .i64 a0_0) := (kcl BK351.out 0).trans rfl
    have hcz23_1 : wc.cell? ⟨gb351, 1, none⟩ = some (.string a0_1) := (kcl BK351.out 1).trans rfl
    have hcz23_2 : wc.cell? ⟨gb351, 2, none⟩ = some (.string a0_2) := (kcl BK351.out 2).trans rfl
    have hcz23_3 : wc.cell? ⟨gb351, 3, none⟩ = some (.int .i64 a0_3) := (kcl BK351.out 3).trans rfl
    have hfz23_0 := kfr BK351.out 0
    have hfz23_1 := kfr BK351.out 1
    have hfz23_2 := kfr BK351.out 2
    have hfz23_3 := kfr BK351.out 3
    have hcz24_0 : wc.cell? ⟨gb352, 0, none⟩ = some (.int .i64 a1_0) := (kcl BK352.out 0).trans rfl
    have hcz24_1 : wc.cell? ⟨gb352, 1, none⟩ = some (.string a1_1) := (kcl BK352.out 1).trans rfl
    have hcz24_2 : wc.cell? ⟨gb352, 2, none⟩ = some (.int .i64 a1_2) := (kcl BK352.out 2).trans rfl
    have hfz24_0 := kfr BK352.out 0
    have hfz24_1 := kfr BK352.out 1
    have hfz24_2 := kfr BK352.out 2
    go_wp2
    go_ret
    exact ⟨by first | rfl | (simp [errW_none, errW_some] <;> rfl) | (simp [*, errW_none, errW_some] <;> rfl), by repeat (first | (with_reducible first | exact HB.out | apply bal | apply bdn | apply bd1 | refine bst ?_ GE351.out | refine bst ?_ GE352.out) | exact HB.out)⟩
end Go.Proofs.Ytkoojbkkkpljoaa.PA

