import Derived.Test.YtkkkmbgflflcnaaQSxPSx6
import Derived.Test.YtkkkmbgflflcnaaQSxPSx8
import Derived.Test.YtkkkmbgflflcnaaQSxPSx9
import Derived.Test.YtkkkmbgflflcnaaQSxPSx10
import Derived.Test.YtkkkmbgflflcnaaQSxPSx11
import Derived.Test.YtkkkmbgflflcnaaQSxPSx15
import Derived.Test.YtkkkmbgflflcnaaQSxPSx16
import Derived.Test.YtkkkmbgflflcnaaQSxPSx17
import Derived.Test.YtkkkmbgflflcnaaQSxPSx18
namespace Go.Proofs.Ytkkkmbgflflcnaa.PS
open Go.Proofs.Ytkkkmbgflflcnaa.PL
open Go.RowKit Go.Proofs.YtkkkmbgflflcnaaW.PrintWords Go.Proofs.YtkkkmbgflflcnaaW.PrintLast Go.Proofs.YtkkkmbgflflcnaaW.PrintMore
attribute [local go_sem] max2_int min2_int max_two min_two max_three min_three max_four min_four
set_option linter.unusedVariables false
set_option linter.unusedSimpArgs false
attribute [local go_sem high] eqA36 eqA56
mutual
def armoirelaw24_FrameReads.j0 : Nat → ByteArray → Option (Bool)
  | 0, _ => none
  | k + 1, x0 => (armoirelaw24_awake.f k).bind fun t469 => (if t469 = true then ((frame_ParseRequest.f k x0).bind fun bt470 => ((armoireref24_Parse.f k x0).bind fun bt479 => ((frame_ParseReply.f k x0).bind fun bt488 => ((armoireref24_ParseReply.f k x0).bind fun bt495 => (if bt470.2.2.2.2.2.2.2 = bt479.2.2.2.2.2.2.2 then ((armoirelaw24_Told.f bt470.1 bt470.2.1 bt470.2.2.1 bt470.2.2.2.1 bt470.2.2.2.2.1 bt470.2.2.2.2.2.1 bt470.2.2.2.2.2.2.1).bind fun bt502 => (if (!(bt502.1 == bt479.1) || (!(bt502.2.1 == bt479.2.1) || (!(bt502.2.2.1.toList == bt479.2.2.1.toList) || ((!(bt502.2.2.2.1 == bt479.2.2.2.1) || (!(bt502.2.2.2.2.1.toList == bt479.2.2.2.2.1.toList) || (!(bt502.2.2.2.2.2.1.toList == bt479.2.2.2.2.2.1.toList) || (!(bt502.2.2.2.2.2.2 == bt479.2.2.2.2.2.2.1))))))))) = true then (armoirelaw24_FrameReads.j1 k x0 bt479.2.2.2.2.2.2.2 bt495.2.2.2.2.2 true bt470.1 bt470.2.1 bt470.2.2.1 bt470.2.2.2.1 bt470.2.2.2.2.1 bt470.2.2.2.2.2.1 bt470.2.2.2.2.2.2.1 bt488.1 bt488.2.1 bt488.2.2.1 bt488.2.2.2.1 bt488.2.2.2.2.1) else (if bt488.2.2.2.2.2 = bt495.2.2.2.2.2 then (if bt488.1 = bt495.1 then (if bt488.2.1 = bt495.2.1 then (armoirelaw24_FrameReads.j1 k x0 bt479.2.2.2.2.2.2.2 bt495.2.2.2.2.2 (!(bt488.2.2.1 == bt495.2.2.1) || (!(bt488.2.2.2.1.toList == bt495.2.2.2.1.toList) || (!(bt488.2.2.2.2.1 == bt495.2.2.2.2.1)))) bt470.1 bt470.2.1 bt470.2.2.1 bt470.2.2.2.1 bt470.2.2.2.2.1 bt470.2.2.2.2.2.1 bt470.2.2.2.2.2.2.1 bt488.1 bt488.2.1 bt488.2.2.1 bt488.2.2.2.1 bt488.2.2.2.2.1) else (armoirelaw24_FrameReads.j1 k x0 bt479.2.2.2.2.2.2.2 bt495.2.2.2.2.2 true bt470.1 bt470.2.1 bt470.2.2.1 bt470.2.2.2.1 bt470.2.2.2.2.1 bt470.2.2.2.2.2.1 bt470.2.2.2.2.2.2.1 bt488.1 bt488.2.1 bt488.2.2.1 bt488.2.2.2.1 bt488.2.2.2.2.1)) else (armoirelaw24_FrameReads.j1 k x0 bt479.2.2.2.2.2.2.2 bt495.2.2.2.2.2 true bt470.1 bt470.2.1 bt470.2.2.1 bt470.2.2.2.1 bt470.2.2.2.2.1 bt470.2.2.2.2.2.1 bt470.2.2.2.2.2.2.1 bt488.1 bt488.2.1 bt488.2.2.1 bt488.2.2.2.1 bt488.2.2.2.2.1)) else (armoirelaw24_FrameReads.j1 k x0 bt479.2.2.2.2.2.2.2 bt495.2.2.2.2.2 true bt470.1 bt470.2.1 bt470.2.2.1 bt470.2.2.2.1 bt470.2.2.2.2.1 bt470.2.2.2.2.2.1 bt470.2.2.2.2.2.2.1 bt488.1 bt488.2.1 bt488.2.2.1 bt488.2.2.2.1 bt488.2.2.2.2.1)))) else (armoirelaw24_FrameReads.j1 k x0 bt479.2.2.2.2.2.2.2 bt495.2.2.2.2.2 true bt470.1 bt470.2.1 bt470.2.2.1 bt470.2.2.2.1 bt470.2.2.2.2.1 bt470.2.2.2.2.2.1 bt470.2.2.2.2.2.2.1 bt488.1 bt488.2.1 bt488.2.2.1 bt488.2.2.2.1 bt488.2.2.2.2.1)))))) else (some false))
def armoirelaw24_FrameReads.j1 : Nat → ByteArray → Int → Int → Bool → Int → Int → ByteArray → Int → ByteArray → ByteArray → Int → Int → Int → Int → ByteArray → Int → Option (Bool)
  | 0, _, _, _, _, _, _, _, _, _, _, _, _, _, _, _, _ => none
  | k + 1, x0, x8, x12, x77, x479000, x479001, x479002, x479003, x479004, x479005, x479006, x495000, x495001, x495002, x495003, x495004 => if x77 = true then (some false) else (if x8 = 0 then ((frame_Request_Text.f k x479000 x479001 x479002 x479003 x479004 x479005 x479006).bind fun t509 => (if t509.toList = x0.toList then ((frame_Request_Check.f k x479000 x479001 x479002 x479003 x479004 x479005 x479006).bind fun t510 => (if t510 = 0 then (if x12 = 0 then ((frame_Reply_Text.f k x495000 x495001 x495002 x495003 x495004).bind fun t511 => (armoirelaw24_FrameReads.j2 k (t511.toList == x0.toList))) else (armoirelaw24_FrameReads.j2 k true)) else (armoirelaw24_FrameReads.j2 k false))) else (armoirelaw24_FrameReads.j2 k false))) else (if x12 = 0 then ((frame_Reply_Text.f k x495000 x495001 x495002 x495003 x495004).bind fun t512 => (armoirelaw24_FrameReads.j2 k (t512.toList == x0.toList))) else (armoirelaw24_FrameReads.j2 k true)))
def armoirelaw24_FrameReads.j2 : Nat → Bool → Option (Bool)
  | 0, _ => none
  | k + 1, x4 => some x4
end
def armoirelaw24_FrameReads.f (k : Nat) (a0 : ByteArray) (a1 : Bool) : Option (Bool) := (armoirelaw01_Cut.f a0 120).bind fun t466 => (if a1 = true then ((armoireref01_Of.f k t466).bind fun t467 => ((armoireref01_Bytes.f t467).bind fun t468 => (if t468.size + t466.size ≤ 9223372036854775807 then (armoirelaw24_FrameReads.j0 k (t468 ++ t466)) else (none)))) else (armoirelaw24_FrameReads.j0 k t466))
def armoirelaw24_FrameReads.T10 : Bool × List (List Nat × List Nat) := (true, [([], []), ([], []), ([0, 1], [0, 1]), ([2], [2]), ([3], [3]), ([4, 3, 3], [3, 4]), ([3], [3]), ([5, 6, 3], [3, 5, 6]), ([3, 7], [3, 7]), ([8, 5], [8]), ([9], [9]), ([9], [9]), ([10, 11, 9], [9, 10, 11]), ([9, 12], [9, 12]), ([13, 9], [13]), ([14], [14]), ([15, 14], [14, 15]), ([14], [14]), ([17, 14], [14, 17]), ([16, 18, 14], [14, 16, 18]), ([14, 19], [14, 19]), ([20, 14], [20]), ([21], [21]), ([22, 21], [21, 22]), ([21], [21]), ([24, 21], [21, 24]), ([23, 25, 21], [21, 23, 25]), ([21, 26], [21, 26]), ([27, 21], [27]), ([28], [28]), ([29, 28], [28, 29]), ([28], [28]), ([31, 28], [28, 31]), ([30, 32, 28], [28, 30, 32]), ([28, 33], [28, 33])])
def armoirelaw24_FrameReads.B10 : List Nat := [0, 0, 3, 7, 15, 31, 15, 127, 255, 511, 1023, 1023, 4095, 8191, 16383, 32767, 65535, 32767, 163839, 524287, 1048575, 2097151, 4194303, 8388607, 4194303, 20971519, 67108863, 134217727, 268435455, 536870911, 1073741823, 536870911, 2684354559, 8589934591, 17179869183]
theorem armoirelaw24_FrameReads.tab10 : rtab .any (opsOf Try.f5 10) = armoirelaw24_FrameReads.T10 := by kernel_rfl
theorem armoirelaw24_FrameReads.bits10 : waitsOk armoirelaw24_FrameReads.T10.2 armoirelaw24_FrameReads.B10 = true := by kernel_rfl
set_option maxHeartbeats 2000000 in
set_option maxRecDepth 100000 in
theorem armoirelaw24_FrameReads.calls (k : Nat) (a0 : ByteArray) (a1 : Bool) (r : Bool) (w : World) (h : armoirelaw24_FrameReads.f k a0 a1 = some r) :
    Calls Try.prog 5 #[.string a0, .bool a1] w fun e w' => e = .returned (.bool r) ∧ Below w.heap.size w w' := by
  have hu26 := Try.underlying26
  have hu36 := Try.underlying36
  have hu53 := Try.underlying53
  have hu58 := Try.underlying58
  have hu51 := Try.underlying51
  have hu56 := Try.underlying56
  have HB := Aside0.mk (Below.refl w.heap.size w)
  have H : ((armoirelaw01_Cut.f a0 120).bind fun t466 => (if a1 = true then ((armoireref01_Of.f k t466).bind fun t467 => ((armoireref01_Bytes.f t467).bind fun t468 => (if t468.size + t466.size ≤ 9223372036854775807 then (armoirelaw24_FrameReads.j0 k (t468 ++ t466)) else (none)))) else (armoirelaw24_FrameReads.j0 k t466))) = some r := h
  clear h
  replace H := Option.bind_eq_some_iff.mp H
  obtain ⟨t466, A30, H⟩ := H
  replace H : (if a1 = true then ((armoireref01_Of.f k t466).bind fun t467 => ((armoireref01_Bytes.f t467).bind fun t468 => (if t468.size + t466.size ≤ 9223372036854775807 then (armoirelaw24_FrameReads.j0 k (t468 ++ t466)) else (none)))) else (armoirelaw24_FrameReads.j0 k t466)) = some r := H
  have A3 := Aside0.mk A30
  clear A30
  have HC4 := Aside0.mk H
  clear H
  go_enter Try.func5, Try.ntmps5
  go_upto_if 15 with (first | ((with_reducible refine gcl (f := 7) rfl ?_); refine gl_ (some 14) rfl rfl Try.func7 (by kernel_rfl) rfl #[.string a0, .int .i64 120] rfl ar_ ?_; (with_reducible refine (armoirelaw01_Cut.calls a0 120 t466 _ A3.out).mono ?_); rintro e w' ⟨rfl, ⟨nd, rfl⟩⟩; refine ⟨_, rfl, ?_⟩))
  (try simp only [Act.put, List.setIfInBounds_toArray, List.set_cons_zero, List.set_cons_succ])
  go_cut [0] (fun v0 wc => ∃ (kq : Nat) (x0_3 : ByteArray), v0 = .string x0_3 ∧ Aside0 (armoirelaw24_FrameReads.j0 kq x0_3 = some r) ∧ Aside0 (kq ≤ k) ∧ Aside0 (Below w.heap.size w wc))
  case first =>
    have H := HC4.out
    clear HC4
    by_cases c5 : a1 = true
    rotate_left
    · replace c5 := Bool.eq_false_iff.mpr c5
      subst c5
      have H1 : (armoirelaw24_FrameReads.j0 k t466) = some r := by rw [if_neg (show ¬ (false = true) by decide)] at H; exact H
      clear H
      have H := H1
      clear H1
      have H' := Aside0.mk H
      clear H
      go_wp2
      go_meet
      case rel => exact ⟨_, (t466), (by first | rfl | (simp; done) | (simp [*]; done) | exact emp1_ _ | exact (emp1_ _).symm | exact emp2_ _ | exact (emp2_ _).symm), H', ⟨by first | omega | exact Nat.le_refl _⟩, ⟨bl_⟩⟩
    subst c5
    have H1 : ((armoireref01_Of.f k t466).bind fun t467 => ((armoireref01_Bytes.f t467).bind fun t468 => (if t468.size + t466.size ≤ 9223372036854775807 then (armoirelaw24_FrameReads.j0 k (t468 ++ t466)) else (none)))) = some r := by rw [if_pos rfl] at H; exact H
    clear H
    have H := H1
    clear H1
    replace H := Option.bind_eq_some_iff.mp H
    obtain ⟨t467, A60, H⟩ := H
    replace H : ((armoireref01_Bytes.f t467).bind fun t468 => (if t468.size + t466.size ≤ 9223372036854775807 then (armoirelaw24_FrameReads.j0 k (t468 ++ t466)) else (none))) = some r := H
    have A6 := Aside0.mk A60
    clear A60
    replace H := Option.bind_eq_some_iff.mp H
    obtain ⟨t468, A70, H⟩ := H
    replace H : (if t468.size + t466.size ≤ 9223372036854775807 then (armoirelaw24_FrameReads.j0 k (t468 ++ t466)) else (none)) = some r := H
    have A7 := Aside0.mk A70
    clear A70
    by_cases c8 : t468.size + t466.size ≤ 9223372036854775807
    rotate_left
    · rw [if_neg c8] at H
      exact absurd H (by simp)
    rw [if_pos c8] at H
    have c8b0 := eq_true c8
    have c8b1 : decide (t468.size + t466.size ≤ 9223372036854775807) = true := decide_eq_true c8
    try have c8b2 : (9223372036854775807 < t468.size + t466.size) = False := eq_false (Nat.not_lt.2 c8)
    have H' := Aside0.mk H
    clear H
    go_wp2_with (first | ((with_reducible refine gcl (f := 18) rfl ?_); refine gl_ (some 17) rfl rfl Try.func18 (by kernel_rfl) rfl #[.string t466] rfl ar_ ?_; (with_reducible refine (armoireref01_Of.calls k t466 t467 _ A6.out).mono ?_); rintro e w' ⟨rfl, ⟨nd, rfl⟩⟩; refine ⟨_, rfl, ?_⟩) | ((with_reducible refine gcl (f := 17) rfl ?_); refine gl_ (some 18) rfl rfl Try.func17 (by kernel_rfl) rfl #[.int .u32 t467] rfl ar_ ?_; (with_reducible refine (armoireref01_Bytes.calls t467 t468 _ A7.out).mono ?_); rintro e w9 ⟨rfl, hb⟩; refine ⟨_, rfl, ?_⟩; have n0_ := Aside0.mk (bsp bl_ hb); clear HB; have HB := n0_; clear n0_; (try clear hb); (try clear hb2); (try clear hk); (try clear hi)))
    go_meet
    case rel => exact ⟨_, (t468 ++ t466), (by first | rfl | (simp; done) | (simp [*]; done) | exact emp1_ _ | exact (emp1_ _).symm | exact emp2_ _ | exact (emp2_ _).symm), H', ⟨by first | omega | exact Nat.le_refl _⟩, ⟨bl_⟩⟩
  clear HC4
  try clear c1
  try clear p2
  try clear c5
  try clear c7
  try clear c8
  try clear c8b0
  try clear c8b1
  try clear c8b2
  obtain ⟨kq, x0_3, rfl, HA, HJ3, HB⟩ := hcut
  cases kq with
  | zero => exact absurd HA.out (by simp [armoirelaw24_FrameReads.j0])
  | succ kj3 =>
    have H := HA.out
    clear HA
    simp only [armoirelaw24_FrameReads.j0] at H
    replace H := Option.bind_eq_some_iff.mp H
    obtain ⟨t469, A100, H⟩ := H
    replace H : (if t469 = true then ((frame_ParseRequest.f kj3 x0_3).bind fun bt470 => ((armoireref24_Parse.f kj3 x0_3).bind fun bt479 => ((frame_ParseReply.f kj3 x0_3).bind fun bt488 => ((armoireref24_ParseReply.f kj3 x0_3).bind fun bt495 => (if bt470.2.2.2.2.2.2.2 = bt479.2.2.2.2.2.2.2 then ((armoirelaw24_Told.f bt470.1 bt470.2.1 bt470.2.2.1 bt470.2.2.2.1 bt470.2.2.2.2.1 bt470.2.2.2.2.2.1 bt470.2.2.2.2.2.2.1).bind fun bt502 => (if (!(bt502.1 == bt479.1) || (!(bt502.2.1 == bt479.2.1) || (!(bt502.2.2.1.toList == bt479.2.2.1.toList) || ((!(bt502.2.2.2.1 == bt479.2.2.2.1) || (!(bt502.2.2.2.2.1.toList == bt479.2.2.2.2.1.toList) || (!(bt502.2.2.2.2.2.1.toList == bt479.2.2.2.2.2.1.toList) || (!(bt502.2.2.2.2.2.2 == bt479.2.2.2.2.2.2.1))))))))) = true then (armoirelaw24_FrameReads.j1 kj3 x0_3 bt479.2.2.2.2.2.2.2 bt495.2.2.2.2.2 true bt470.1 bt470.2.1 bt470.2.2.1 bt470.2.2.2.1 bt470.2.2.2.2.1 bt470.2.2.2.2.2.1 bt470.2.2.2.2.2.2.1 bt488.1 bt488.2.1 bt488.2.2.1 bt488.2.2.2.1 bt488.2.2.2.2.1) else (if bt488.2.2.2.2.2 = bt495.2.2.2.2.2 then (if bt488.1 = bt495.1 then (if bt488.2.1 = bt495.2.1 then (armoirelaw24_FrameReads.j1 kj3 x0_3 bt479.2.2.2.2.2.2.2 bt495.2.2.2.2.2 (!(bt488.2.2.1 == bt495.2.2.1) || (!(bt488.2.2.2.1.toList == bt495.2.2.2.1.toList) || (!(bt488.2.2.2.2.1 == bt495.2.2.2.2.1)))) bt470.1 bt470.2.1 bt470.2.2.1 bt470.2.2.2.1 bt470.2.2.2.2.1 bt470.2.2.2.2.2.1 bt470.2.2.2.2.2.2.1 bt488.1 bt488.2.1 bt488.2.2.1 bt488.2.2.2.1 bt488.2.2.2.2.1) else (armoirelaw24_FrameReads.j1 kj3 x0_3 bt479.2.2.2.2.2.2.2 bt495.2.2.2.2.2 true bt470.1 bt470.2.1 bt470.2.2.1 bt470.2.2.2.1 bt470.2.2.2.2.1 bt470.2.2.2.2.2.1 bt470.2.2.2.2.2.2.1 bt488.1 bt488.2.1 bt488.2.2.1 bt488.2.2.2.1 bt488.2.2.2.2.1)) else (armoirelaw24_FrameReads.j1 kj3 x0_3 bt479.2.2.2.2.2.2.2 bt495.2.2.2.2.2 true bt470.1 bt470.2.1 bt470.2.2.1 bt470.2.2.2.1 bt470.2.2.2.2.1 bt470.2.2.2.2.2.1 bt470.2.2.2.2.2.2.1 bt488.1 bt488.2.1 bt488.2.2.1 bt488.2.2.2.1 bt488.2.2.2.2.1)) else (armoirelaw24_FrameReads.j1 kj3 x0_3 bt479.2.2.2.2.2.2.2 bt495.2.2.2.2.2 true bt470.1 bt470.2.1 bt470.2.2.1 bt470.2.2.2.1 bt470.2.2.2.2.1 bt470.2.2.2.2.2.1 bt470.2.2.2.2.2.2.1 bt488.1 bt488.2.1 bt488.2.2.1 bt488.2.2.2.1 bt488.2.2.2.2.1)))) else (armoirelaw24_FrameReads.j1 kj3 x0_3 bt479.2.2.2.2.2.2.2 bt495.2.2.2.2.2 true bt470.1 bt470.2.1 bt470.2.2.1 bt470.2.2.2.1 bt470.2.2.2.2.1 bt470.2.2.2.2.2.1 bt470.2.2.2.2.2.2.1 bt488.1 bt488.2.1 bt488.2.2.1 bt488.2.2.2.1 bt488.2.2.2.2.1)))))) else (some false)) = some r := H
    have A10 := Aside0.mk A100
    clear A100
    have HS11 := Aside0.mk H
    clear H
    go_upto_if 22 with (first | ((with_reducible refine gcl (f := 9) rfl ?_); refine gl_ (some 21) rfl rfl Try.func9 (by kernel_rfl) rfl #[] rfl ar_ ?_; (with_reducible refine (armoirelaw24_awake.calls kj3  t469 _ A10.out).mono ?_); rintro e w12 ⟨rfl, hb⟩; refine ⟨_, rfl, ?_⟩; have n0_ := Aside0.mk (bsp bl_ hb); clear HB; have HB := n0_; clear n0_; (try clear hb); (try clear hb2); (try clear hk); (try clear hi)))
    (try simp only [Act.put, List.setIfInBounds_toArray, List.set_cons_zero, List.set_cons_succ])
    have H := HS11.out
    clear HS11
    by_cases c13 : t469 = true
    rotate_left
    · replace c13 := Bool.eq_false_iff.mpr c13
      subst c13
      have H1 : (some false) = some r := by rw [if_neg (show ¬ (false = true) by decide)] at H; exact H
      clear H
      have H := H1
      clear H1
      obtain rfl := Option.some.inj H
      go_wp2
      go_ret
      exact ⟨er_, bl_⟩
    subst c13
    have H1 : ((frame_ParseRequest.f kj3 x0_3).bind fun bt470 => ((armoireref24_Parse.f kj3 x0_3).bind fun bt479 => ((frame_ParseReply.f kj3 x0_3).bind fun bt488 => ((armoireref24_ParseReply.f kj3 x0_3).bind fun bt495 => (if bt470.2.2.2.2.2.2.2 = bt479.2.2.2.2.2.2.2 then ((armoirelaw24_Told.f bt470.1 bt470.2.1 bt470.2.2.1 bt470.2.2.2.1 bt470.2.2.2.2.1 bt470.2.2.2.2.2.1 bt470.2.2.2.2.2.2.1).bind fun bt502 => (if (!(bt502.1 == bt479.1) || (!(bt502.2.1 == bt479.2.1) || (!(bt502.2.2.1.toList == bt479.2.2.1.toList) || ((!(bt502.2.2.2.1 == bt479.2.2.2.1) || (!(bt502.2.2.2.2.1.toList == bt479.2.2.2.2.1.toList) || (!(bt502.2.2.2.2.2.1.toList == bt479.2.2.2.2.2.1.toList) || (!(bt502.2.2.2.2.2.2 == bt479.2.2.2.2.2.2.1))))))))) = true then (armoirelaw24_FrameReads.j1 kj3 x0_3 bt479.2.2.2.2.2.2.2 bt495.2.2.2.2.2 true bt470.1 bt470.2.1 bt470.2.2.1 bt470.2.2.2.1 bt470.2.2.2.2.1 bt470.2.2.2.2.2.1 bt470.2.2.2.2.2.2.1 bt488.1 bt488.2.1 bt488.2.2.1 bt488.2.2.2.1 bt488.2.2.2.2.1) else (if bt488.2.2.2.2.2 = bt495.2.2.2.2.2 then (if bt488.1 = bt495.1 then (if bt488.2.1 = bt495.2.1 then (armoirelaw24_FrameReads.j1 kj3 x0_3 bt479.2.2.2.2.2.2.2 bt495.2.2.2.2.2 (!(bt488.2.2.1 == bt495.2.2.1) || (!(bt488.2.2.2.1.toList == bt495.2.2.2.1.toList) || (!(bt488.2.2.2.2.1 == bt495.2.2.2.2.1)))) bt470.1 bt470.2.1 bt470.2.2.1 bt470.2.2.2.1 bt470.2.2.2.2.1 bt470.2.2.2.2.2.1 bt470.2.2.2.2.2.2.1 bt488.1 bt488.2.1 bt488.2.2.1 bt488.2.2.2.1 bt488.2.2.2.2.1) else (armoirelaw24_FrameReads.j1 kj3 x0_3 bt479.2.2.2.2.2.2.2 bt495.2.2.2.2.2 true bt470.1 bt470.2.1 bt470.2.2.1 bt470.2.2.2.1 bt470.2.2.2.2.1 bt470.2.2.2.2.2.1 bt470.2.2.2.2.2.2.1 bt488.1 bt488.2.1 bt488.2.2.1 bt488.2.2.2.1 bt488.2.2.2.2.1)) else (armoirelaw24_FrameReads.j1 kj3 x0_3 bt479.2.2.2.2.2.2.2 bt495.2.2.2.2.2 true bt470.1 bt470.2.1 bt470.2.2.1 bt470.2.2.2.1 bt470.2.2.2.2.1 bt470.2.2.2.2.2.1 bt470.2.2.2.2.2.2.1 bt488.1 bt488.2.1 bt488.2.2.1 bt488.2.2.2.1 bt488.2.2.2.2.1)) else (armoirelaw24_FrameReads.j1 kj3 x0_3 bt479.2.2.2.2.2.2.2 bt495.2.2.2.2.2 true bt470.1 bt470.2.1 bt470.2.2.1 bt470.2.2.2.1 bt470.2.2.2.2.1 bt470.2.2.2.2.2.1 bt470.2.2.2.2.2.2.1 bt488.1 bt488.2.1 bt488.2.2.1 bt488.2.2.2.1 bt488.2.2.2.2.1)))) else (armoirelaw24_FrameReads.j1 kj3 x0_3 bt479.2.2.2.2.2.2.2 bt495.2.2.2.2.2 true bt470.1 bt470.2.1 bt470.2.2.1 bt470.2.2.2.1 bt470.2.2.2.2.1 bt470.2.2.2.2.2.1 bt470.2.2.2.2.2.2.1 bt488.1 bt488.2.1 bt488.2.2.1 bt488.2.2.2.1 bt488.2.2.2.2.1)))))) = some r := by rw [if_pos rfl] at H; exact H
    clear H
    have H := H1
    clear H1
    replace H := Option.bind_eq_some_iff.mp H
    obtain ⟨⟨t470, t471, t472, t473, t474, t475, t476, t477⟩, A140, H⟩ := H
    replace H : ((armoireref24_Parse.f kj3 x0_3).bind fun bt479 => ((frame_ParseReply.f kj3 x0_3).bind fun bt488 => ((armoireref24_ParseReply.f kj3 x0_3).bind fun bt495 => (if t477 = bt479.2.2.2.2.2.2.2 then ((armoirelaw24_Told.f t470 t471 t472 t473 t474 t475 t476).bind fun bt502 => (if (!(bt502.1 == bt479.1) || (!(bt502.2.1 == bt479.2.1) || (!(bt502.2.2.1.toList == bt479.2.2.1.toList) || ((!(bt502.2.2.2.1 == bt479.2.2.2.1) || (!(bt502.2.2.2.2.1.toList == bt479.2.2.2.2.1.toList) || (!(bt502.2.2.2.2.2.1.toList == bt479.2.2.2.2.2.1.toList) || (!(bt502.2.2.2.2.2.2 == bt479.2.2.2.2.2.2.1))))))))) = true then (armoirelaw24_FrameReads.j1 kj3 x0_3 bt479.2.2.2.2.2.2.2 bt495.2.2.2.2.2 true t470 t471 t472 t473 t474 t475 t476 bt488.1 bt488.2.1 bt488.2.2.1 bt488.2.2.2.1 bt488.2.2.2.2.1) else (if bt488.2.2.2.2.2 = bt495.2.2.2.2.2 then (if bt488.1 = bt495.1 then (if bt488.2.1 = bt495.2.1 then (armoirelaw24_FrameReads.j1 kj3 x0_3 bt479.2.2.2.2.2.2.2 bt495.2.2.2.2.2 (!(bt488.2.2.1 == bt495.2.2.1) || (!(bt488.2.2.2.1.toList == bt495.2.2.2.1.toList) || (!(bt488.2.2.2.2.1 == bt495.2.2.2.2.1)))) t470 t471 t472 t473 t474 t475 t476 bt488.1 bt488.2.1 bt488.2.2.1 bt488.2.2.2.1 bt488.2.2.2.2.1) else (armoirelaw24_FrameReads.j1 kj3 x0_3 bt479.2.2.2.2.2.2.2 bt495.2.2.2.2.2 true t470 t471 t472 t473 t474 t475 t476 bt488.1 bt488.2.1 bt488.2.2.1 bt488.2.2.2.1 bt488.2.2.2.2.1)) else (armoirelaw24_FrameReads.j1 kj3 x0_3 bt479.2.2.2.2.2.2.2 bt495.2.2.2.2.2 true t470 t471 t472 t473 t474 t475 t476 bt488.1 bt488.2.1 bt488.2.2.1 bt488.2.2.2.1 bt488.2.2.2.2.1)) else (armoirelaw24_FrameReads.j1 kj3 x0_3 bt479.2.2.2.2.2.2.2 bt495.2.2.2.2.2 true t470 t471 t472 t473 t474 t475 t476 bt488.1 bt488.2.1 bt488.2.2.1 bt488.2.2.2.1 bt488.2.2.2.2.1)))) else (armoirelaw24_FrameReads.j1 kj3 x0_3 bt479.2.2.2.2.2.2.2 bt495.2.2.2.2.2 true t470 t471 t472 t473 t474 t475 t476 bt488.1 bt488.2.1 bt488.2.2.1 bt488.2.2.2.1 bt488.2.2.2.2.1))))) = some r := H
    have A14 := Aside0.mk A140
    clear A140
    replace H := Option.bind_eq_some_iff.mp H
    obtain ⟨⟨t479, t480, t481, t482, t483, t484, t485, t486⟩, A150, H⟩ := H
    replace H : ((frame_ParseReply.f kj3 x0_3).bind fun bt488 => ((armoireref24_ParseReply.f kj3 x0_3).bind fun bt495 => (if t477 = t486 then ((armoirelaw24_Told.f t470 t471 t472 t473 t474 t475 t476).bind fun bt502 => (if (!(bt502.1 == t479) || (!(bt502.2.1 == t480) || (!(bt502.2.2.1.toList == t481.toList) || ((!(bt502.2.2.2.1 == t482) || (!(bt502.2.2.2.2.1.toList == t483.toList) || (!(bt502.2.2.2.2.2.1.toList == t484.toList) || (!(bt502.2.2.2.2.2.2 == t485))))))))) = true then (armoirelaw24_FrameReads.j1 kj3 x0_3 t486 bt495.2.2.2.2.2 true t470 t471 t472 t473 t474 t475 t476 bt488.1 bt488.2.1 bt488.2.2.1 bt488.2.2.2.1 bt488.2.2.2.2.1) else (if bt488.2.2.2.2.2 = bt495.2.2.2.2.2 then (if bt488.1 = bt495.1 then (if bt488.2.1 = bt495.2.1 then (armoirelaw24_FrameReads.j1 kj3 x0_3 t486 bt495.2.2.2.2.2 (!(bt488.2.2.1 == bt495.2.2.1) || (!(bt488.2.2.2.1.toList == bt495.2.2.2.1.toList) || (!(bt488.2.2.2.2.1 == bt495.2.2.2.2.1)))) t470 t471 t472 t473 t474 t475 t476 bt488.1 bt488.2.1 bt488.2.2.1 bt488.2.2.2.1 bt488.2.2.2.2.1) else (armoirelaw24_FrameReads.j1 kj3 x0_3 t486 bt495.2.2.2.2.2 true t470 t471 t472 t473 t474 t475 t476 bt488.1 bt488.2.1 bt488.2.2.1 bt488.2.2.2.1 bt488.2.2.2.2.1)) else (armoirelaw24_FrameReads.j1 kj3 x0_3 t486 bt495.2.2.2.2.2 true t470 t471 t472 t473 t474 t475 t476 bt488.1 bt488.2.1 bt488.2.2.1 bt488.2.2.2.1 bt488.2.2.2.2.1)) else (armoirelaw24_FrameReads.j1 kj3 x0_3 t486 bt495.2.2.2.2.2 true t470 t471 t472 t473 t474 t475 t476 bt488.1 bt488.2.1 bt488.2.2.1 bt488.2.2.2.1 bt488.2.2.2.2.1)))) else (armoirelaw24_FrameReads.j1 kj3 x0_3 t486 bt495.2.2.2.2.2 true t470 t471 t472 t473 t474 t475 t476 bt488.1 bt488.2.1 bt488.2.2.1 bt488.2.2.2.1 bt488.2.2.2.2.1)))) = some r := H
    have A15 := Aside0.mk A150
    clear A150
    replace H := Option.bind_eq_some_iff.mp H
    obtain ⟨⟨t488, t489, t490, t491, t492, t493⟩, A160, H⟩ := H
    replace H : ((armoireref24_ParseReply.f kj3 x0_3).bind fun bt495 => (if t477 = t486 then ((armoirelaw24_Told.f t470 t471 t472 t473 t474 t475 t476).bind fun bt502 => (if (!(bt502.1 == t479) || (!(bt502.2.1 == t480) || (!(bt502.2.2.1.toList == t481.toList) || ((!(bt502.2.2.2.1 == t482) || (!(bt502.2.2.2.2.1.toList == t483.toList) || (!(bt502.2.2.2.2.2.1.toList == t484.toList) || (!(bt502.2.2.2.2.2.2 == t485))))))))) = true then (armoirelaw24_FrameReads.j1 kj3 x0_3 t486 bt495.2.2.2.2.2 true t470 t471 t472 t473 t474 t475 t476 t488 t489 t490 t491 t492) else (if t493 = bt495.2.2.2.2.2 then (if t488 = bt495.1 then (if t489 = bt495.2.1 then (armoirelaw24_FrameReads.j1 kj3 x0_3 t486 bt495.2.2.2.2.2 (!(t490 == bt495.2.2.1) || (!(t491.toList == bt495.2.2.2.1.toList) || (!(t492 == bt495.2.2.2.2.1)))) t470 t471 t472 t473 t474 t475 t476 t488 t489 t490 t491 t492) else (armoirelaw24_FrameReads.j1 kj3 x0_3 t486 bt495.2.2.2.2.2 true t470 t471 t472 t473 t474 t475 t476 t488 t489 t490 t491 t492)) else (armoirelaw24_FrameReads.j1 kj3 x0_3 t486 bt495.2.2.2.2.2 true t470 t471 t472 t473 t474 t475 t476 t488 t489 t490 t491 t492)) else (armoirelaw24_FrameReads.j1 kj3 x0_3 t486 bt495.2.2.2.2.2 true t470 t471 t472 t473 t474 t475 t476 t488 t489 t490 t491 t492)))) else (armoirelaw24_FrameReads.j1 kj3 x0_3 t486 bt495.2.2.2.2.2 true t470 t471 t472 t473 t474 t475 t476 t488 t489 t490 t491 t492))) = some r := H
    have A16 := Aside0.mk A160
    clear A160
    replace H := Option.bind_eq_some_iff.mp H
    obtain ⟨⟨t495, t496, t497, t498, t499, t500⟩, A170, H⟩ := H
    replace H : (if t477 = t486 then ((armoirelaw24_Told.f t470 t471 t472 t473 t474 t475 t476).bind fun bt502 => (if (!(bt502.1 == t479) || (!(bt502.2.1 == t480) || (!(bt502.2.2.1.toList == t481.toList) || ((!(bt502.2.2.2.1 == t482) || (!(bt502.2.2.2.2.1.toList == t483.toList) || (!(bt502.2.2.2.2.2.1.toList == t484.toList) || (!(bt502.2.2.2.2.2.2 == t485))))))))) = true then (armoirelaw24_FrameReads.j1 kj3 x0_3 t486 t500 true t470 t471 t472 t473 t474 t475 t476 t488 t489 t490 t491 t492) else (if t493 = t500 then (if t488 = t495 then (if t489 = t496 then (armoirelaw24_FrameReads.j1 kj3 x0_3 t486 t500 (!(t490 == t497) || (!(t491.toList == t498.toList) || (!(t492 == t499)))) t470 t471 t472 t473 t474 t475 t476 t488 t489 t490 t491 t492) else (armoirelaw24_FrameReads.j1 kj3 x0_3 t486 t500 true t470 t471 t472 t473 t474 t475 t476 t488 t489 t490 t491 t492)) else (armoirelaw24_FrameReads.j1 kj3 x0_3 t486 t500 true t470 t471 t472 t473 t474 t475 t476 t488 t489 t490 t491 t492)) else (armoirelaw24_FrameReads.j1 kj3 x0_3 t486 t500 true t470 t471 t472 t473 t474 t475 t476 t488 t489 t490 t491 t492)))) else (armoirelaw24_FrameReads.j1 kj3 x0_3 t486 t500 true t470 t471 t472 t473 t474 t475 t476 t488 t489 t490 t491 t492)) = some r := H
    have A17 := Aside0.mk A170
    clear A170
    have HC18 := Aside0.mk H
    clear H
    go_upto_region 10 with (first | ((with_reducible refine gcl (f := 13) rfl ?_); refine gl_ (some 25) rfl rfl Try.func13 (by kernel_rfl) rfl #[.string x0_3] rfl ar_ ?_; (with_reducible refine (frame_ParseRequest.calls kj3 x0_3 t470 t471 t472 t473 t474 t475 t476 t477 _ A14.out).mono ?_); rintro e w19 ⟨rfl, hb⟩; refine ⟨_, rfl, ?_⟩; have n0_ := Aside0.mk (bsp bl_ hb); clear HB; have HB := n0_; clear n0_; (try clear hb); (try clear hb2); (try clear hk); (try clear hi)) | ((with_reducible refine gds (N := 5) rfl ?_); refine bev ?hg (N := 5) ?hd (cs := #[.int .i64 0, .int .i64 0, .string (⟨#[]⟩ : ByteArray), .int .i64 0, .string (⟨#[]⟩ : ByteArray), .string (⟨#[]⟩ : ByteArray), .int .i64 0]) (t := 26) ?hr ?_; (case hd => rfl); (case hg => rfl); (case hr => first | (go_simp; done) | (go_simp; rfl)); intro gb478 hg w20 hbox hb; have n0_ := Aside0.mk (bsp bl_ hb); have n1_ := Aside0.mk (hbox); have n2_ := Aside0.mk ((by rw [hg]; exact bsz bl_ : w.heap.size ≤ gb478)); have n3_ := Aside0.mk ((by rw [hg]; exact bsz bl_ : w.heap.size ≤ gb478)); clear HB; have HB := n0_; have BK478 := n1_; have GW478 := n2_; have GE478 := n3_; clear n0_ n1_ n2_ n3_; clear hb hbox hg; have hcz21 := bc7 BK478.out) | ((with_reducible refine gcl (f := 19) rfl ?_); refine gl_ (some 30) rfl rfl Try.func19 (by kernel_rfl) rfl #[.string x0_3] rfl ar_ ?_; (with_reducible refine (armoireref24_Parse.calls kj3 x0_3 t479 t480 t481 t482 t483 t484 t485 t486 _ A15.out).mono ?_); rintro e w22 ⟨rfl, hb⟩; refine ⟨_, rfl, ?_⟩; have n0_ := Aside0.mk (kbl (g := gb478) (o := .cells #[.int .i64 t470, .int .i64 t471, .string t472, .int .i64 t473, .string t474, .string t475, .int .i64 t476] 26 (0, 0)) bk_ hb); have n1_ := Aside0.mk (bsp bl_ hb); clear BK478; clear HB; have BK478 := n0_; have HB := n1_; clear n0_ n1_; (try clear hb); (try clear hb2); (try clear hk); (try clear hi)) | ((with_reducible refine gds (N := 7) rfl ?_); refine bev ?hg (N := 7) ?hd (cs := #[.int .i64 0, .int .i64 0, .string (⟨#[]⟩ : ByteArray), .int .i64 0, .string (⟨#[]⟩ : ByteArray), .string (⟨#[]⟩ : ByteArray), .int .i64 0]) (t := 36) ?hr ?_; (case hd => rfl); (case hg => rfl); (case hr => first | (go_simp; done) | (go_simp; rfl)); intro gb487 hg w23 hbox hb; have n0_ := Aside0.mk (kbl (g := gb478) (o := .cells #[.int .i64 t470, .int .i64 t471, .string t472, .int .i64 t473, .string t474, .string t475, .int .i64 t476] 26 (0, 0)) bk_ hb); have n1_ := Aside0.mk (bsp bl_ hb); have n2_ := Aside0.mk (hbox); have n3_ := Aside0.mk ((by rw [hg]; exact bsz bl_ : w.heap.size ≤ gb487)); have n4_ := Aside0.mk ((by rw [hg]; exact bsz bl_ : w.heap.size ≤ gb487)); have n5_ := Aside0.mk ((by rw [hg]; exact Nat.ne_of_lt (blk_lt (g := gb478) (o := .cells #[.int .i64 t470, .int .i64 t471, .string t472, .int .i64 t473, .string t474, .string t475, .int .i64 t476] 26 (0, 0)) bk_) : gb478 ≠ gb487)); have n6_ := Aside0.mk ((by rw [hg]; exact Nat.ne_of_gt (blk_lt (g := gb478) (o := .cells #[.int .i64 t470, .int .i64 t471, .string t472, .int .i64 t473, .string t474, .string t475, .int .i64 t476] 26 (0, 0)) bk_) : gb487 ≠ gb478)); clear BK478; clear HB; have BK478 := n0_; have HB := n1_; have BK487 := n2_; have GW487 := n3_; have GE487 := n4_; have NB478_487 := n5_; have NB487_478 := n6_; clear n0_ n1_ n2_ n3_ n4_ n5_ n6_; clear hb hbox hg; have hnb24 := NB487_478.out; have hnc24 := NB478_487.out; have hcz25 := bc7 BK487.out) | ((with_reducible refine gcl (f := 20) rfl ?_); refine gl_ (some 35) rfl rfl Try.func20 (by kernel_rfl) rfl #[.string x0_3] rfl ar_ ?_; (with_reducible refine (frame_ParseReply.calls kj3 x0_3 t488 t489 t490 t491 t492 t493 _ A16.out).mono ?_); rintro e w26 ⟨rfl, hb⟩; refine ⟨_, rfl, ?_⟩; have n0_ := Aside0.mk (kbl (g := gb478) (o := .cells #[.int .i64 t470, .int .i64 t471, .string t472, .int .i64 t473, .string t474, .string t475, .int .i64 t476] 26 (0, 0)) bk_ hb); have n1_ := Aside0.mk (kbl (g := gb487) (o := .cells #[.int .i64 t479, .int .i64 t480, .string t481, .int .i64 t482, .string t483, .string t484, .int .i64 t485] 36 (0, 0)) bk_ hb); have n2_ := Aside0.mk (bsp bl_ hb); clear BK478; clear BK487; clear HB; have BK478 := n0_; have BK487 := n1_; have HB := n2_; clear n0_ n1_ n2_; (try clear hb); (try clear hb2); (try clear hk); (try clear hi)) | ((with_reducible refine gds (N := 9) rfl ?_); refine bev ?hg (N := 9) ?hd (cs := #[.int .i64 0, .int .i64 0, .int .i64 0, .string (⟨#[]⟩ : ByteArray), .int .i64 0]) (t := 53) ?hr ?_; (case hd => rfl); (case hg => rfl); (case hr => first | (go_simp; done) | (go_simp; rfl)); intro gb494 hg w27 hbox hb; have n0_ := Aside0.mk (kbl (g := gb478) (o := .cells #[.int .i64 t470, .int .i64 t471, .string t472, .int .i64 t473, .string t474, .string t475, .int .i64 t476] 26 (0, 0)) bk_ hb); have n1_ := Aside0.mk (kbl (g := gb487) (o := .cells #[.int .i64 t479, .int .i64 t480, .string t481, .int .i64 t482, .string t483, .string t484, .int .i64 t485] 36 (0, 0)) bk_ hb); have n2_ := Aside0.mk (bsp bl_ hb); have n3_ := Aside0.mk (hbox); have n4_ := Aside0.mk ((by rw [hg]; exact bsz bl_ : w.heap.size ≤ gb494)); have n5_ := Aside0.mk ((by rw [hg]; exact bsz bl_ : w.heap.size ≤ gb494)); have n6_ := Aside0.mk ((by rw [hg]; exact Nat.ne_of_lt (blk_lt (g := gb478) (o := .cells #[.int .i64 t470, .int .i64 t471, .string t472, .int .i64 t473, .string t474, .string t475, .int .i64 t476] 26 (0, 0)) bk_) : gb478 ≠ gb494)); have n7_ := Aside0.mk ((by rw [hg]; exact Nat.ne_of_gt (blk_lt (g := gb478) (o := .cells #[.int .i64 t470, .int .i64 t471, .string t472, .int .i64 t473, .string t474, .string t475, .int .i64 t476] 26 (0, 0)) bk_) : gb494 ≠ gb478)); have n8_ := Aside0.mk ((by rw [hg]; exact Nat.ne_of_lt (blk_lt (g := gb487) (o := .cells #[.int .i64 t479, .int .i64 t480, .string t481, .int .i64 t482, .string t483, .string t484, .int .i64 t485] 36 (0, 0)) bk_) : gb487 ≠ gb494)); have n9_ := Aside0.mk ((by rw [hg]; exact Nat.ne_of_gt (blk_lt (g := gb487) (o := .cells #[.int .i64 t479, .int .i64 t480, .string t481, .int .i64 t482, .string t483, .string t484, .int .i64 t485] 36 (0, 0)) bk_) : gb494 ≠ gb487)); clear BK478; clear BK487; clear HB; have BK478 := n0_; have BK487 := n1_; have HB := n2_; have BK494 := n3_; have GW494 := n4_; have GE494 := n5_; have NB478_494 := n6_; have NB494_478 := n7_; have NB487_494 := n8_; have NB494_487 := n9_; clear n0_ n1_ n2_ n3_ n4_ n5_ n6_ n7_ n8_ n9_; clear hb hbox hg; have hnb28 := NB494_478.out; have hnc28 := NB478_494.out; have hnb29 := NB494_487.out; have hnc29 := NB487_494.out; have hcz30 := bc5 BK494.out) | ((with_reducible refine gcl (f := 21) rfl ?_); refine gl_ (some 40) rfl rfl Try.func21 (by kernel_rfl) rfl #[.string x0_3] rfl ar_ ?_; (with_reducible refine (armoireref24_ParseReply.calls kj3 x0_3 t495 t496 t497 t498 t499 t500 _ A17.out).mono ?_); rintro e w31 ⟨rfl, hb⟩; refine ⟨_, rfl, ?_⟩; have n0_ := Aside0.mk (kbl (g := gb478) (o := .cells #[.int .i64 t470, .int .i64 t471, .string t472, .int .i64 t473, .string t474, .string t475, .int .i64 t476] 26 (0, 0)) bk_ hb); have n1_ := Aside0.mk (kbl (g := gb487) (o := .cells #[.int .i64 t479, .int .i64 t480, .string t481, .int .i64 t482, .string t483, .string t484, .int .i64 t485] 36 (0, 0)) bk_ hb); have n2_ := Aside0.mk (kbl (g := gb494) (o := .cells #[.int .i64 t488, .int .i64 t489, .int .i64 t490, .string t491, .int .i64 t492] 53 (0, 0)) bk_ hb); have n3_ := Aside0.mk (bsp bl_ hb); clear BK478; clear BK487; clear BK494; clear HB; have BK478 := n0_; have BK487 := n1_; have BK494 := n2_; have HB := n3_; clear n0_ n1_ n2_ n3_; (try clear hb); (try clear hb2); (try clear hk); (try clear hi)) | ((with_reducible refine gds (N := 11) rfl ?_); refine bev ?hg (N := 11) ?hd (cs := #[.int .i64 0, .int .i64 0, .int .i64 0, .string (⟨#[]⟩ : ByteArray), .int .i64 0]) (t := 58) ?hr ?_; (case hd => rfl); (case hg => rfl); (case hr => first | (go_simp; done) | (go_simp; rfl)); intro gb501 hg w32 hbox hb; have n0_ := Aside0.mk (kbl (g := gb478) (o := .cells #[.int .i64 t470, .int .i64 t471, .string t472, .int .i64 t473, .string t474, .string t475, .int .i64 t476] 26 (0, 0)) bk_ hb); have n1_ := Aside0.mk (kbl (g := gb487) (o := .cells #[.int .i64 t479, .int .i64 t480, .string t481, .int .i64 t482, .string t483, .string t484, .int .i64 t485] 36 (0, 0)) bk_ hb); have n2_ := Aside0.mk (kbl (g := gb494) (o := .cells #[.int .i64 t488, .int .i64 t489, .int .i64 t490, .string t491, .int .i64 t492] 53 (0, 0)) bk_ hb); have n3_ := Aside0.mk (bsp bl_ hb); have n4_ := Aside0.mk (hbox); have n5_ := Aside0.mk ((by rw [hg]; exact bsz bl_ : w.heap.size ≤ gb501)); have n6_ := Aside0.mk ((by rw [hg]; exact bsz bl_ : w.heap.size ≤ gb501)); have n7_ := Aside0.mk ((by rw [hg]; exact Nat.ne_of_lt (blk_lt (g := gb478) (o := .cells #[.int .i64 t470, .int .i64 t471, .string t472, .int .i64 t473, .string t474, .string t475, .int .i64 t476] 26 (0, 0)) bk_) : gb478 ≠ gb501)); have n8_ := Aside0.mk ((by rw [hg]; exact Nat.ne_of_gt (blk_lt (g := gb478) (o := .cells #[.int .i64 t470, .int .i64 t471, .string t472, .int .i64 t473, .string t474, .string t475, .int .i64 t476] 26 (0, 0)) bk_) : gb501 ≠ gb478)); have n9_ := Aside0.mk ((by rw [hg]; exact Nat.ne_of_lt (blk_lt (g := gb487) (o := .cells #[.int .i64 t479, .int .i64 t480, .string t481, .int .i64 t482, .string t483, .string t484, .int .i64 t485] 36 (0, 0)) bk_) : gb487 ≠ gb501)); have n10_ := Aside0.mk ((by rw [hg]; exact Nat.ne_of_gt (blk_lt (g := gb487) (o := .cells #[.int .i64 t479, .int .i64 t480, .string t481, .int .i64 t482, .string t483, .string t484, .int .i64 t485] 36 (0, 0)) bk_) : gb501 ≠ gb487)); have n11_ := Aside0.mk ((by rw [hg]; exact Nat.ne_of_lt (blk_lt (g := gb494) (o := .cells #[.int .i64 t488, .int .i64 t489, .int .i64 t490, .string t491, .int .i64 t492] 53 (0, 0)) bk_) : gb494 ≠ gb501)); have n12_ := Aside0.mk ((by rw [hg]; exact Nat.ne_of_gt (blk_lt (g := gb494) (o := .cells #[.int .i64 t488, .int .i64 t489, .int .i64 t490, .string t491, .int .i64 t492] 53 (0, 0)) bk_) : gb501 ≠ gb494)); clear BK478; clear BK487; clear BK494; clear HB; have BK478 := n0_; have BK487 := n1_; have BK494 := n2_; have HB := n3_; have BK501 := n4_; have GW501 := n5_; have GE501 := n6_; have NB478_501 := n7_; have NB501_478 := n8_; have NB487_501 := n9_; have NB501_487 := n10_; have NB494_501 := n11_; have NB501_494 := n12_; clear n0_ n1_ n2_ n3_ n4_ n5_ n6_ n7_ n8_ n9_ n10_ n11_ n12_; clear hb hbox hg; have hnb33 := NB501_478.out; have hnc33 := NB478_501.out; have hnb34 := NB501_487.out; have hnc34 := NB487_501.out; have hnb35 := NB501_494.out; have hnc35 := NB494_501.out; have hcz36 := bc5 BK501.out))
    (try simp only [Act.put, List.setIfInBounds_toArray, List.set_cons_zero, List.set_cons_succ])
    go_cut [77] (fun v77 wc => ∃ (kq : Nat) (x77_17 : Bool), v77 = .bool x77_17 ∧ Aside0 (armoirelaw24_FrameReads.j1 kq x0_3 t486 t500 x77_17 t470 t471 t472 t473 t474 t475 t476 t488 t489 t490 t491 t492 = some r) ∧ Aside0 (kq ≤ kj3) ∧ Aside0 (wc.heap[gb478]? = some (.cells #[.int .i64 t470, .int .i64 t471, .string t472, .int .i64 t473, .string t474, .string t475, .int .i64 t476] 26 (0, 0))) ∧ Aside0 (wc.heap[gb487]? = some (.cells #[.int .i64 t479, .int .i64 t480, .string t481, .int .i64 t482, .string t483, .string t484, .int .i64 t485] 36 (0, 0))) ∧ Aside0 (wc.heap[gb494]? = some (.cells #[.int .i64 t488, .int .i64 t489, .int .i64 t490, .string t491, .int .i64 t492] 53 (0, 0))) ∧ Aside0 (wc.heap[gb501]? = some (.cells #[.int .i64 t495, .int .i64 t496, .int .i64 t497, .string t498, .int .i64 t499] 58 (0, 0))) ∧ Aside0 (Below w.heap.size w wc))
    case first =>
      have H := HC18.out
      clear HC18
      by_cases c37 : t477 = t486
      rotate_left
      · rw [if_neg c37] at H
        have c37b0 : (t477 == t486) = false := beq_eq_false_iff_ne.mpr c37
        have c37b1 : (t477 != t486) = true := bne_iff_ne.mpr c37
        (first | rw [c37b0] | (simp only [i64_w, i32_w]; rw [c37b0]) | skip)
        have H' := Aside0.mk H
        clear H
        try go_wp2
        have n0_ : Aside0 ((((((w32.setCell ⟨gb501, 0, none⟩ (.int .i64 t495)).setCell ⟨gb501, 1, none⟩ (.int .i64 t496)).setCell ⟨gb501, 2, none⟩ (.int .i64 t497)).setCell ⟨gb501, 3, none⟩ (.string t498)).setCell ⟨gb501, 4, none⟩ (.int .i64 t499)).heap[gb478]? = some (.cells #[.int .i64 t470, .int .i64 t471, .string t472, .int .i64 t473, .string t474, .string t475, .int .i64 t476] 26 (0, 0))) := ⟨bk_⟩
        have n1_ : Aside0 ((((((w32.setCell ⟨gb501, 0, none⟩ (.int .i64 t495)).setCell ⟨gb501, 1, none⟩ (.int .i64 t496)).setCell ⟨gb501, 2, none⟩ (.int .i64 t497)).setCell ⟨gb501, 3, none⟩ (.string t498)).setCell ⟨gb501, 4, none⟩ (.int .i64 t499)).heap[gb487]? = some (.cells #[.int .i64 t479, .int .i64 t480, .string t481, .int .i64 t482, .string t483, .string t484, .int .i64 t485] 36 (0, 0))) := ⟨bk_⟩
        have n2_ : Aside0 ((((((w32.setCell ⟨gb501, 0, none⟩ (.int .i64 t495)).setCell ⟨gb501, 1, none⟩ (.int .i64 t496)).setCell ⟨gb501, 2, none⟩ (.int .i64 t497)).setCell ⟨gb501, 3, none⟩ (.string t498)).setCell ⟨gb501, 4, none⟩ (.int .i64 t499)).heap[gb494]? = some (.cells #[.int .i64 t488, .int .i64 t489, .int .i64 t490, .string t491, .int .i64 t492] 53 (0, 0))) := ⟨bk_⟩
        have n3_ : Aside0 ((((((w32.setCell ⟨gb501, 0, none⟩ (.int .i64 t495)).setCell ⟨gb501, 1, none⟩ (.int .i64 t496)).setCell ⟨gb501, 2, none⟩ (.int .i64 t497)).setCell ⟨gb501, 3, none⟩ (.string t498)).setCell ⟨gb501, 4, none⟩ (.int .i64 t499)).heap[gb501]? = some (.cells #[.int .i64 t495, .int .i64 t496, .int .i64 t497, .string t498, .int .i64 t499] 58 (0, 0))) := ⟨bk_⟩
        have n4_ : Aside0 (Below w.heap.size w (((((w32.setCell ⟨gb501, 0, none⟩ (.int .i64 t495)).setCell ⟨gb501, 1, none⟩ (.int .i64 t496)).setCell ⟨gb501, 2, none⟩ (.int .i64 t497)).setCell ⟨gb501, 3, none⟩ (.string t498)).setCell ⟨gb501, 4, none⟩ (.int .i64 t499))) := ⟨bl_⟩
        (try clear BK478)
        (try clear BK487)
        (try clear BK494)
        (try clear BK501)
        (try clear HB)
        generalize (((((w32.setCell ⟨gb501, 0, none⟩ (.int .i64 t495)).setCell ⟨gb501, 1, none⟩ (.int .i64 t496)).setCell ⟨gb501, 2, none⟩ (.int .i64 t497)).setCell ⟨gb501, 3, none⟩ (.string t498)).setCell ⟨gb501, 4, none⟩ (.int .i64 t499)) = w58 at n0_ n1_ n2_ n3_ n4_ ⊢
        have BK478 := n0_
        have BK487 := n1_
        have BK494 := n2_
        have BK501 := n3_
        have HB := n4_
        clear n0_ n1_ n2_ n3_ n4_
        have n0_ := Aside0.mk (kdw BK478.out)
        have n1_ := Aside0.mk (kdw BK487.out)
        have n2_ := Aside0.mk (kdw BK494.out)
        have n3_ := Aside0.mk (kdw BK501.out)
        have n4_ := Aside0.mk (bd1 HB.out)
        clear BK478
        clear BK487
        clear BK494
        clear BK501
        clear HB
        have BK478 := n0_
        have BK487 := n1_
        have BK494 := n2_
        have BK501 := n3_
        have HB := n4_
        clear n0_ n1_ n2_ n3_ n4_
        refine start_ (n := 35) (S := fun w' => True) (ds := []) #[false,false,false,false,false,false,false,false,false,false,false,false,false,false,false,false,false,false,false,false,false,false,false,false,false,false,false,false,false,false,false,false,false,false,false] (by kernel_rfl) rfl rfl trivial (fun hHeld => ?_); refine with_tabW armoirelaw24_FrameReads.tab10 armoirelaw24_FrameReads.bits10 (fun HT_ HW_ => ?_)
        generalize w58.drew = w59 at BK478 BK487 BK494 BK501 HB hHeld ⊢
        refine pure_ (i := 0) (N := some 43) (v := ?_) (a' := ?_) (bA 35 1) rfl rfl (any_of HT_.out (by kernel_rfl)) (fun _ _ _ h => h) (Or.inl ⟨by rfl, ?_⟩) ?_ ?_
        rotate_left; (intro w'; go_simp; with_reducible rfl); rotate_left; (simp only [Act.put, List.setIfInBounds_toArray, List.set_cons_zero, List.set_cons_succ, i64_w, i32_w]; rfl)
        refine pure_ (i := 1) (N := some 44) (v := ?_) (a' := ?_) (bA 35 3) rfl rfl (any_of HT_.out (by kernel_rfl)) (fun _ _ _ h => h) (Or.inl ⟨by rfl, ?_⟩) ?_ ?_
        rotate_left; (intro w'; go_simp; with_reducible rfl); rotate_left; (simp only [Act.put, List.setIfInBounds_toArray, List.set_cons_zero, List.set_cons_succ, i64_w, i32_w]; rfl)
        refine pure_ (i := 2) (N := some 45) (v := ?_) (a' := ?_) (bA 35 7) rfl rfl (any_of HT_.out (by kernel_rfl)) (fun _ _ _ h => h) (Or.inl ⟨by rfl, ?_⟩) ?_ ?_
        rotate_left; (intro w'; go_simp; with_reducible rfl); rotate_left; (simp only [Act.put, List.setIfInBounds_toArray, List.set_cons_zero, List.set_cons_succ, i64_w, i32_w]; rfl)
        refine pure_ (i := 3) (N := some 46) (v := ?_) (a' := ?_) (bA 35 15) rfl rfl (any_of HT_.out (by kernel_rfl)) (fun _ _ _ h => h) (Or.inl ⟨by rfl, ?_⟩) ?_ ?_
        rotate_left; (intro w'; go_simp; with_reducible rfl); rotate_left; (simp only [Act.put, List.setIfInBounds_toArray, List.set_cons_zero, List.set_cons_succ, i64_w, i32_w]; rfl)
        refine pure_ (i := 4) (N := some 47) (v := undef) (a' := ?_) (bA 35 31) rfl rfl (any_of HT_.out (by kernel_rfl)) (fun _ _ _ h => h) (Or.inr ⟨by rfl, rfl⟩) ?_ ?_
        rotate_left; (simp only [Act.put, List.setIfInBounds_toArray, List.set_cons_zero, List.set_cons_succ, i64_w, i32_w]; rfl)
        refine pure_ (i := 5) (N := some 48) (v := undef) (a' := ?_) (bA 35 63) rfl rfl (any_of HT_.out (by kernel_rfl)) (fun _ _ _ h => h) (Or.inr ⟨by rfl, rfl⟩) ?_ ?_
        rotate_left; (simp only [Act.put, List.setIfInBounds_toArray, List.set_cons_zero, List.set_cons_succ, i64_w, i32_w]; rfl)
        refine pure_ (i := 6) (N := some 49) (v := undef) (a' := ?_) (bA 35 127) rfl rfl (any_of HT_.out (by kernel_rfl)) (fun _ _ _ h => h) (Or.inr ⟨by rfl, rfl⟩) ?_ ?_
        rotate_left; (simp only [Act.put, List.setIfInBounds_toArray, List.set_cons_zero, List.set_cons_succ, i64_w, i32_w]; rfl)
        refine pure_ (i := 7) (N := some 50) (v := undef) (a' := ?_) (bA 35 255) rfl rfl (any_of HT_.out (by kernel_rfl)) (fun _ _ _ h => h) (Or.inr ⟨by rfl, rfl⟩) ?_ ?_
        rotate_left; (simp only [Act.put, List.setIfInBounds_toArray, List.set_cons_zero, List.set_cons_succ, i64_w, i32_w]; rfl)
        refine pure_ (i := 8) (N := some 51) (v := ?_) (a' := ?_) (bA 35 511) rfl rfl (any_of HT_.out (by kernel_rfl)) (fun _ _ _ h => h) (Or.inl ⟨by rfl, ?_⟩) ?_ ?_
        rotate_left; (intro w'; go_simp; with_reducible rfl); rotate_left; (simp only [Act.put, List.setIfInBounds_toArray, List.set_cons_zero, List.set_cons_succ, i64_w, i32_w]; rfl)
        refine pure_ (i := 9) (N := some 52) (v := ?_) (a' := ?_) (bA 35 1023) rfl rfl (any_of HT_.out (by kernel_rfl)) (fun _ _ _ h => h) (Or.inl ⟨by rfl, ?_⟩) ?_ ?_
        rotate_left; (intro w'; go_simp; with_reducible rfl); rotate_left; (simp only [Act.put, List.setIfInBounds_toArray, List.set_cons_zero, List.set_cons_succ, i64_w, i32_w]; rfl)
        refine pure_ (i := 10) (N := some 53) (v := undef) (a' := ?_) (bA 35 2047) rfl rfl (any_of HT_.out (by kernel_rfl)) (fun _ _ _ h => h) (Or.inr ⟨by rfl, rfl⟩) ?_ ?_
        rotate_left; (simp only [Act.put, List.setIfInBounds_toArray, List.set_cons_zero, List.set_cons_succ, i64_w, i32_w]; rfl)
        refine pure_ (i := 11) (N := some 54) (v := undef) (a' := ?_) (bA 35 4095) rfl rfl (any_of HT_.out (by kernel_rfl)) (fun _ _ _ h => h) (Or.inr ⟨by rfl, rfl⟩) ?_ ?_
        rotate_left; (simp only [Act.put, List.setIfInBounds_toArray, List.set_cons_zero, List.set_cons_succ, i64_w, i32_w]; rfl)
        refine pure_ (i := 12) (N := some 55) (v := undef) (a' := ?_) (bA 35 8191) rfl rfl (any_of HT_.out (by kernel_rfl)) (fun _ _ _ h => h) (Or.inr ⟨by rfl, rfl⟩) ?_ ?_
        rotate_left; (simp only [Act.put, List.setIfInBounds_toArray, List.set_cons_zero, List.set_cons_succ, i64_w, i32_w]; rfl)
        refine pure_ (i := 13) (N := some 56) (v := ?_) (a' := ?_) (bA 35 16383) rfl rfl (any_of HT_.out (by kernel_rfl)) (fun _ _ _ h => h) (Or.inl ⟨by rfl, ?_⟩) ?_ ?_
        rotate_left; (intro w'; go_simp; with_reducible rfl); rotate_left; (simp only [Act.put, List.setIfInBounds_toArray, List.set_cons_zero, List.set_cons_succ, i64_w, i32_w]; rfl)
        refine pure_ (i := 14) (N := some 57) (v := ?_) (a' := ?_) (bA 35 32767) rfl rfl (any_of HT_.out (by kernel_rfl)) (fun _ _ _ h => h) (Or.inl ⟨by rfl, ?_⟩) ?_ ?_
        rotate_left; (intro w'; go_simp; with_reducible rfl); rotate_left; (simp only [Act.put, List.setIfInBounds_toArray, List.set_cons_zero, List.set_cons_succ, i64_w, i32_w]; rfl)
        refine pure_ (i := 15) (N := some 58) (v := undef) (a' := ?_) (bA 35 65535) rfl rfl (any_of HT_.out (by kernel_rfl)) (fun _ _ _ h => h) (Or.inr ⟨by rfl, rfl⟩) ?_ ?_
        rotate_left; (simp only [Act.put, List.setIfInBounds_toArray, List.set_cons_zero, List.set_cons_succ, i64_w, i32_w]; rfl)
        refine pure_ (i := 16) (N := some 59) (v := undef) (a' := ?_) (bA 35 131071) rfl rfl (any_of HT_.out (by kernel_rfl)) (fun _ _ _ h => h) (Or.inr ⟨by rfl, rfl⟩) ?_ ?_
        rotate_left; (simp only [Act.put, List.setIfInBounds_toArray, List.set_cons_zero, List.set_cons_succ, i64_w, i32_w]; rfl)
        refine pure_ (i := 17) (N := some 60) (v := undef) (a' := ?_) (bA 35 262143) rfl rfl (any_of HT_.out (by kernel_rfl)) (fun _ _ _ h => h) (Or.inr ⟨by rfl, rfl⟩) ?_ ?_
        rotate_left; (simp only [Act.put, List.setIfInBounds_toArray, List.set_cons_zero, List.set_cons_succ, i64_w, i32_w]; rfl)
        refine pure_ (i := 18) (N := some 61) (v := undef) (a' := ?_) (bA 35 524287) rfl rfl (any_of HT_.out (by kernel_rfl)) (fun _ _ _ h => h) (Or.inr ⟨by rfl, rfl⟩) ?_ ?_
        rotate_left; (simp only [Act.put, List.setIfInBounds_toArray, List.set_cons_zero, List.set_cons_succ, i64_w, i32_w]; rfl)
        refine pure_ (i := 19) (N := some 62) (v := undef) (a' := ?_) (bA 35 1048575) rfl rfl (any_of HT_.out (by kernel_rfl)) (fun _ _ _ h => h) (Or.inr ⟨by rfl, rfl⟩) ?_ ?_
        rotate_left; (simp only [Act.put, List.setIfInBounds_toArray, List.set_cons_zero, List.set_cons_succ, i64_w, i32_w]; rfl)
        refine pure_ (i := 20) (N := some 63) (v := ?_) (a' := ?_) (bA 35 2097151) rfl rfl (any_of HT_.out (by kernel_rfl)) (fun _ _ _ h => h) (Or.inl ⟨by rfl, ?_⟩) ?_ ?_
        rotate_left; (intro w'; go_simp; with_reducible rfl); rotate_left; (simp only [Act.put, List.setIfInBounds_toArray, List.set_cons_zero, List.set_cons_succ, i64_w, i32_w]; rfl)
        refine pure_ (i := 21) (N := some 64) (v := ?_) (a' := ?_) (bA 35 4194303) rfl rfl (any_of HT_.out (by kernel_rfl)) (fun _ _ _ h => h) (Or.inl ⟨by rfl, ?_⟩) ?_ ?_
        rotate_left; (intro w'; go_simp; with_reducible rfl); rotate_left; (simp only [Act.put, List.setIfInBounds_toArray, List.set_cons_zero, List.set_cons_succ, i64_w, i32_w]; rfl)
        refine pure_ (i := 22) (N := some 65) (v := undef) (a' := ?_) (bA 35 8388607) rfl rfl (any_of HT_.out (by kernel_rfl)) (fun _ _ _ h => h) (Or.inr ⟨by rfl, rfl⟩) ?_ ?_
        rotate_left; (simp only [Act.put, List.setIfInBounds_toArray, List.set_cons_zero, List.set_cons_succ, i64_w, i32_w]; rfl)
        refine pure_ (i := 23) (N := some 66) (v := undef) (a' := ?_) (bA 35 16777215) rfl rfl (any_of HT_.out (by kernel_rfl)) (fun _ _ _ h => h) (Or.inr ⟨by rfl, rfl⟩) ?_ ?_
        rotate_left; (simp only [Act.put, List.setIfInBounds_toArray, List.set_cons_zero, List.set_cons_succ, i64_w, i32_w]; rfl)
        refine pure_ (i := 24) (N := some 67) (v := undef) (a' := ?_) (bA 35 33554431) rfl rfl (any_of HT_.out (by kernel_rfl)) (fun _ _ _ h => h) (Or.inr ⟨by rfl, rfl⟩) ?_ ?_
        rotate_left; (simp only [Act.put, List.setIfInBounds_toArray, List.set_cons_zero, List.set_cons_succ, i64_w, i32_w]; rfl)
        refine pure_ (i := 25) (N := some 68) (v := undef) (a' := ?_) (bA 35 67108863) rfl rfl (any_of HT_.out (by kernel_rfl)) (fun _ _ _ h => h) (Or.inr ⟨by rfl, rfl⟩) ?_ ?_
        rotate_left; (simp only [Act.put, List.setIfInBounds_toArray, List.set_cons_zero, List.set_cons_succ, i64_w, i32_w]; rfl)
        refine pure_ (i := 26) (N := some 69) (v := undef) (a' := ?_) (bA 35 134217727) rfl rfl (any_of HT_.out (by kernel_rfl)) (fun _ _ _ h => h) (Or.inr ⟨by rfl, rfl⟩) ?_ ?_
        rotate_left; (simp only [Act.put, List.setIfInBounds_toArray, List.set_cons_zero, List.set_cons_succ, i64_w, i32_w]; rfl)
        refine pure_ (i := 27) (N := some 70) (v := ?_) (a' := ?_) (bA 35 268435455) rfl rfl (any_of HT_.out (by kernel_rfl)) (fun _ _ _ h => h) (Or.inl ⟨by rfl, ?_⟩) ?_ ?_
        rotate_left; (intro w'; go_simp; with_reducible rfl); rotate_left; (simp only [Act.put, List.setIfInBounds_toArray, List.set_cons_zero, List.set_cons_succ, i64_w, i32_w]; rfl)
        refine pure_ (i := 28) (N := some 71) (v := ?_) (a' := ?_) (bA 35 536870911) rfl rfl (any_of HT_.out (by kernel_rfl)) (fun _ _ _ h => h) (Or.inl ⟨by rfl, ?_⟩) ?_ ?_
        rotate_left; (intro w'; go_simp; with_reducible rfl); rotate_left; (simp only [Act.put, List.setIfInBounds_toArray, List.set_cons_zero, List.set_cons_succ, i64_w, i32_w]; rfl)
        refine pure_ (i := 29) (N := some 72) (v := undef) (a' := ?_) (bA 35 1073741823) rfl rfl (any_of HT_.out (by kernel_rfl)) (fun _ _ _ h => h) (Or.inr ⟨by rfl, rfl⟩) ?_ ?_
        rotate_left; (simp only [Act.put, List.setIfInBounds_toArray, List.set_cons_zero, List.set_cons_succ, i64_w, i32_w]; rfl)
        refine pure_ (i := 30) (N := some 73) (v := undef) (a' := ?_) (bA 35 2147483647) rfl rfl (any_of HT_.out (by kernel_rfl)) (fun _ _ _ h => h) (Or.inr ⟨by rfl, rfl⟩) ?_ ?_
        rotate_left; (simp only [Act.put, List.setIfInBounds_toArray, List.set_cons_zero, List.set_cons_succ, i64_w, i32_w]; rfl)
        refine pure_ (i := 31) (N := some 74) (v := undef) (a' := ?_) (bA 35 4294967295) rfl rfl (any_of HT_.out (by kernel_rfl)) (fun _ _ _ h => h) (Or.inr ⟨by rfl, rfl⟩) ?_ ?_
        rotate_left; (simp only [Act.put, List.setIfInBounds_toArray, List.set_cons_zero, List.set_cons_succ, i64_w, i32_w]; rfl)
        refine pure_ (i := 32) (N := some 75) (v := undef) (a' := ?_) (bA 35 8589934591) rfl rfl (any_of HT_.out (by kernel_rfl)) (fun _ _ _ h => h) (Or.inr ⟨by rfl, rfl⟩) ?_ ?_
        rotate_left; (simp only [Act.put, List.setIfInBounds_toArray, List.set_cons_zero, List.set_cons_succ, i64_w, i32_w]; rfl)
        refine pure_ (i := 33) (N := some 76) (v := undef) (a' := ?_) (bA 35 17179869183) rfl rfl (any_of HT_.out (by kernel_rfl)) (fun _ _ _ h => h) (Or.inr ⟨by rfl, rfl⟩) ?_ ?_
        rotate_left; (simp only [Act.put, List.setIfInBounds_toArray, List.set_cons_zero, List.set_cons_succ, i64_w, i32_w]; rfl)
        refine pure_ (i := 34) (N := some 77) (v := ?_) (a' := ?_) (bA 35 34359738367) rfl rfl (any_of HT_.out (by kernel_rfl)) (fun _ _ _ h => h) (Or.inl ⟨by rfl, ?_⟩) ?_ ?_
        rotate_left; (intro w'; go_simp; with_reducible rfl); rotate_left; (simp only [Act.put, List.setIfInBounds_toArray, List.set_cons_zero, List.set_cons_succ, i64_w, i32_w]; rfl)
        refine done_ (done_of HT_.out (by kernel_rfl)) ?_
        try go_wp2
        go_meet
        case rel => exact ⟨_, (true), (by first | rfl | (simp; done) | (simp [*]; done) | exact emp1_ _ | exact (emp1_ _).symm | exact emp2_ _ | exact (emp2_ _).symm), H', ⟨by have := HJ3.out; first | omega | exact Nat.le_refl _⟩, ⟨bk_⟩, ⟨bk_⟩, ⟨bk_⟩, ⟨bk_⟩, ⟨bl_⟩⟩
      rw [if_pos c37] at H
      have c37b0 : (t477 == t486) = true := beq_iff_eq.mpr c37
      have c37b1 : (t477 != t486) = false := bne_eq_false_iff_eq.mpr c37
      clear c37
      (first | rw [c37b0] | (simp only [i64_w, i32_w]; rw [c37b0]) | skip)
      replace H := Option.bind_eq_some_iff.mp H
      obtain ⟨⟨t502, t503, t504, t505, t506, t507, t508⟩, A380, H⟩ := H
      replace H : (if (!(t502 == t479) || (!(t503 == t480) || (!(t504.toList == t481.toList) || ((!(t505 == t482) || (!(t506.toList == t483.toList) || (!(t507.toList == t484.toList) || (!(t508 == t485))))))))) = true then (armoirelaw24_FrameReads.j1 kj3 x0_3 t486 t500 true t470 t471 t472 t473 t474 t475 t476 t488 t489 t490 t491 t492) else (if t493 = t500 then (if t488 = t495 then (if t489 = t496 then (armoirelaw24_FrameReads.j1 kj3 x0_3 t486 t500 (!(t490 == t497) || (!(t491.toList == t498.toList) || (!(t492 == t499)))) t470 t471 t472 t473 t474 t475 t476 t488 t489 t490 t491 t492) else (armoirelaw24_FrameReads.j1 kj3 x0_3 t486 t500 true t470 t471 t472 t473 t474 t475 t476 t488 t489 t490 t491 t492)) else (armoirelaw24_FrameReads.j1 kj3 x0_3 t486 t500 true t470 t471 t472 t473 t474 t475 t476 t488 t489 t490 t491 t492)) else (armoirelaw24_FrameReads.j1 kj3 x0_3 t486 t500 true t470 t471 t472 t473 t474 t475 t476 t488 t489 t490 t491 t492))) = some r := H
      have A38 := Aside0.mk A380
      clear A380
      by_cases c39 : (!(t502 == t479) || (!(t503 == t480) || (!(t504.toList == t481.toList) || ((!(t505 == t482) || (!(t506.toList == t483.toList) || (!(t507.toList == t484.toList) || (!(t508 == t485))))))))) = true
      · rw [if_pos c39] at H
        have c39b0 : (!(t502 == t479) || (!(t503 == t480) || (!(t504.toList == t481.toList) || ((!(t505 == t482) || (!(t506.toList == t483.toList) || (!(t507.toList == t484.toList) || (!(t508 == t485))))))))) = true := c39
        clear c39
        have H' := Aside0.mk H
        clear H
        try go_wp2
        have n0_ : Aside0 ((((((w32.setCell ⟨gb501, 0, none⟩ (.int .i64 t495)).setCell ⟨gb501, 1, none⟩ (.int .i64 t496)).setCell ⟨gb501, 2, none⟩ (.int .i64 t497)).setCell ⟨gb501, 3, none⟩ (.string t498)).setCell ⟨gb501, 4, none⟩ (.int .i64 t499)).heap[gb478]? = some (.cells #[.int .i64 t470, .int .i64 t471, .string t472, .int .i64 t473, .string t474, .string t475, .int .i64 t476] 26 (0, 0))) := ⟨bk_⟩
        have n1_ : Aside0 ((((((w32.setCell ⟨gb501, 0, none⟩ (.int .i64 t495)).setCell ⟨gb501, 1, none⟩ (.int .i64 t496)).setCell ⟨gb501, 2, none⟩ (.int .i64 t497)).setCell ⟨gb501, 3, none⟩ (.string t498)).setCell ⟨gb501, 4, none⟩ (.int .i64 t499)).heap[gb487]? = some (.cells #[.int .i64 t479, .int .i64 t480, .string t481, .int .i64 t482, .string t483, .string t484, .int .i64 t485] 36 (0, 0))) := ⟨bk_⟩
        have n2_ : Aside0 ((((((w32.setCell ⟨gb501, 0, none⟩ (.int .i64 t495)).setCell ⟨gb501, 1, none⟩ (.int .i64 t496)).setCell ⟨gb501, 2, none⟩ (.int .i64 t497)).setCell ⟨gb501, 3, none⟩ (.string t498)).setCell ⟨gb501, 4, none⟩ (.int .i64 t499)).heap[gb494]? = some (.cells #[.int .i64 t488, .int .i64 t489, .int .i64 t490, .string t491, .int .i64 t492] 53 (0, 0))) := ⟨bk_⟩
        have n3_ : Aside0 ((((((w32.setCell ⟨gb501, 0, none⟩ (.int .i64 t495)).setCell ⟨gb501, 1, none⟩ (.int .i64 t496)).setCell ⟨gb501, 2, none⟩ (.int .i64 t497)).setCell ⟨gb501, 3, none⟩ (.string t498)).setCell ⟨gb501, 4, none⟩ (.int .i64 t499)).heap[gb501]? = some (.cells #[.int .i64 t495, .int .i64 t496, .int .i64 t497, .string t498, .int .i64 t499] 58 (0, 0))) := ⟨bk_⟩
        have n4_ : Aside0 (Below w.heap.size w (((((w32.setCell ⟨gb501, 0, none⟩ (.int .i64 t495)).setCell ⟨gb501, 1, none⟩ (.int .i64 t496)).setCell ⟨gb501, 2, none⟩ (.int .i64 t497)).setCell ⟨gb501, 3, none⟩ (.string t498)).setCell ⟨gb501, 4, none⟩ (.int .i64 t499))) := ⟨bl_⟩
        (try clear BK478)
        (try clear BK487)
        (try clear BK494)
        (try clear BK501)
        (try clear HB)
        generalize (((((w32.setCell ⟨gb501, 0, none⟩ (.int .i64 t495)).setCell ⟨gb501, 1, none⟩ (.int .i64 t496)).setCell ⟨gb501, 2, none⟩ (.int .i64 t497)).setCell ⟨gb501, 3, none⟩ (.string t498)).setCell ⟨gb501, 4, none⟩ (.int .i64 t499)) = w40 at n0_ n1_ n2_ n3_ n4_ ⊢
        have BK478 := n0_
        have BK487 := n1_
        have BK494 := n2_
        have BK501 := n3_
        have HB := n4_
        clear n0_ n1_ n2_ n3_ n4_
        have n0_ := Aside0.mk (kdw BK478.out)
        have n1_ := Aside0.mk (kdw BK487.out)
        have n2_ := Aside0.mk (kdw BK494.out)
        have n3_ := Aside0.mk (kdw BK501.out)
        have n4_ := Aside0.mk (bd1 HB.out)
        clear BK478
        clear BK487
        clear BK494
        clear BK501
        clear HB
        have BK478 := n0_
        have BK487 := n1_
        have BK494 := n2_
        have BK501 := n3_
        have HB := n4_
        clear n0_ n1_ n2_ n3_ n4_
        refine start_ (n := 35) (S := fun w' => w'.cell? ⟨gb478, 0, none⟩ = some (.int .i64 t470) ∧ w'.cell? ⟨gb478, 1, none⟩ = some (.int .i64 t471) ∧ w'.cell? ⟨gb478, 2, none⟩ = some (.string t472) ∧ w'.cell? ⟨gb478, 3, none⟩ = some (.int .i64 t473) ∧ w'.cell? ⟨gb478, 4, none⟩ = some (.string t474) ∧ w'.cell? ⟨gb478, 5, none⟩ = some (.string t475) ∧ w'.cell? ⟨gb478, 6, none⟩ = some (.int .i64 t476) ∧ w'.cell? ⟨gb487, 0, none⟩ = some (.int .i64 t479) ∧ w'.cell? ⟨gb487, 1, none⟩ = some (.int .i64 t480) ∧ w'.cell? ⟨gb487, 2, none⟩ = some (.string t481) ∧ w'.cell? ⟨gb487, 3, none⟩ = some (.int .i64 t482) ∧ w'.cell? ⟨gb487, 4, none⟩ = some (.string t483) ∧ w'.cell? ⟨gb487, 5, none⟩ = some (.string t484) ∧ w'.cell? ⟨gb487, 6, none⟩ = some (.int .i64 t485)) (ds := []) #[false,false,false,false,false,false,false,false,false,false,false,false,false,false,false,false,false,false,false,false,false,false,false,false,false,false,false,false,false,false,false,false,false,false,false] (by kernel_rfl) rfl rfl ⟨(kcl BK478.out 0).trans rfl, (kcl BK478.out 1).trans rfl, (kcl BK478.out 2).trans rfl, (kcl BK478.out 3).trans rfl, (kcl BK478.out 4).trans rfl, (kcl BK478.out 5).trans rfl, (kcl BK478.out 6).trans rfl, (kcl BK487.out 0).trans rfl, (kcl BK487.out 1).trans rfl, (kcl BK487.out 2).trans rfl, (kcl BK487.out 3).trans rfl, (kcl BK487.out 4).trans rfl, (kcl BK487.out 5).trans rfl, (kcl BK487.out 6).trans rfl⟩ (fun hHeld => ?_); refine with_tabW armoirelaw24_FrameReads.tab10 armoirelaw24_FrameReads.bits10 (fun HT_ HW_ => ?_)
        generalize w40.drew = w41 at BK478 BK487 BK494 BK501 HB hHeld ⊢
        refine pure_ (i := 0) (N := some 43) (v := ?_) (a' := ?_) (bA 35 1) rfl rfl (any_of HT_.out (by kernel_rfl)) (fun _ _ _ h => h) (Or.inl ⟨by rfl, ?_⟩) ?_ ?_
        rotate_left; (intro w'; go_simp; with_reducible rfl); rotate_left; (simp only [Act.put, List.setIfInBounds_toArray, List.set_cons_zero, List.set_cons_succ, i64_w, i32_w]; rfl)
        refine pure_ (i := 1) (N := some 44) (v := ?_) (a' := ?_) (bA 35 3) rfl rfl (any_of HT_.out (by kernel_rfl)) (fun _ _ _ h => h) (Or.inl ⟨by rfl, ?_⟩) ?_ ?_
        rotate_left; (intro w'; go_simp; with_reducible rfl); rotate_left; (simp only [Act.put, List.setIfInBounds_toArray, List.set_cons_zero, List.set_cons_succ, i64_w, i32_w]; rfl)
        refine pure_ (i := 2) (N := some 45) (v := ?_) (a' := ?_) (bA 35 7) rfl rfl (any_of HT_.out (by kernel_rfl)) (fun _ _ _ h => h) (Or.inl ⟨by rfl, ?_⟩) ?_ ?_
        rotate_left; (intro w'; go_simp; with_reducible rfl); rotate_left; (simp only [Act.put, List.setIfInBounds_toArray, List.set_cons_zero, List.set_cons_succ, i64_w, i32_w]; rfl)
        refine pure_ (i := 3) (N := some 46) (v := ?_) (a' := ?_) (bA 35 15) rfl rfl (any_of HT_.out (by kernel_rfl)) (fun _ _ _ h => h) (Or.inl ⟨by rfl, ?_⟩) ?_ ?_
        rotate_left; (intro w'; go_simp; with_reducible rfl); rotate_left; (simp only [Act.put, List.setIfInBounds_toArray, List.set_cons_zero, List.set_cons_succ, i64_w, i32_w]; rfl)
        refine take_ (i := 4) (N := some 47) (v := ?_) (a' := ?_) #[true,true,true,true,true,false,false,false,false,false,false,false,false,false,false,false,false,false,false,false,false,false,false,false,false,false,false,false,false,false,false,false,false,false,false] rfl rfl (tkw HT_.out HW_.out (by kernel_rfl)) (fun _ _ _ h => h) (Or.inl ⟨by rfl, ?_⟩) hHeld ?_ ?_
        rotate_left
        · rintro w' ⟨s0, s1, s2, s3, s4, s5, s6, s7, s8, s9, s10, s11, s12, s13⟩
          go_simp
          with_reducible rfl
        rotate_left; (simp only [Act.put, List.setIfInBounds_toArray, List.set_cons_zero, List.set_cons_succ, i64_w, i32_w]; rfl)
        refine take_ (i := 6) (N := some 49) (v := ?_) (a' := ?_) #[true,true,true,true,true,false,true,false,false,false,false,false,false,false,false,false,false,false,false,false,false,false,false,false,false,false,false,false,false,false,false,false,false,false,false] rfl rfl (tkw HT_.out HW_.out (by kernel_rfl)) (fun _ _ _ h => h) (Or.inl ⟨by rfl, ?_⟩) hHeld ?_ ?_
        rotate_left
        · rintro w' ⟨s0, s1, s2, s3, s4, s5, s6, s7, s8, s9, s10, s11, s12, s13⟩
          go_simp
          with_reducible rfl
        rotate_left; (simp only [Act.put, List.setIfInBounds_toArray, List.set_cons_zero, List.set_cons_succ, i64_w, i32_w]; rfl)
        refine one_ (i := 5) (N := some 48) #[true,true,true,true,true,true,true,false,false,false,false,false,false,false,false,false,false,false,false,false,false,false,false,false,false,false,false,false,false,false,false,false,false,false,false] rfl rfl (one_of HT_.out (by kernel_rfl)) (by decide) (fun K hK => ?_)
        refine goes_ Try.func12 (by kernel_rfl) rfl #[.agg #[.int .i64 t470, .int .i64 t471, .string t472, .int .i64 t473, .string t474, .string t475, .int .i64 t476]] (by rfl) rfl rfl (by (try simp only [List.map_toArray, List.map_cons, List.map_nil]); first | done | rfl | (simp only [List.length_drop, List.length_take]; rfl) | (simp only [Act.eval, Array.getD_eq_getD_getElem?, Option.getD_some, *]; done) | (simp only [Array.mk.injEq, List.cons.injEq, Value.int.injEq, true_and, and_true]; first | omega | (simp [IntKind.wrap, IntKind.bits, IntKind.signed]; omega))) ?_
        with_reducible refine (armoirelaw24_Told.calls t470 t471 t472 t473 t474 t475 t476 t502 t503 t504 t505 t506 t507 t508 _ A38.out).mono ?_
        rintro e w42 ⟨rfl, hb⟩
        refine ⟨_, rfl, ?_⟩
        have n0_ := Aside0.mk (kbl (g := gb478) (o := .cells #[.int .i64 t470, .int .i64 t471, .string t472, .int .i64 t473, .string t474, .string t475, .int .i64 t476] 26 (0, 0)) bk_ hb)
        have n1_ := Aside0.mk (kbl (g := gb487) (o := .cells #[.int .i64 t479, .int .i64 t480, .string t481, .int .i64 t482, .string t483, .string t484, .int .i64 t485] 36 (0, 0)) bk_ hb)
        have n2_ := Aside0.mk (kbl (g := gb494) (o := .cells #[.int .i64 t488, .int .i64 t489, .int .i64 t490, .string t491, .int .i64 t492] 53 (0, 0)) bk_ hb)
        have n3_ := Aside0.mk (kbl (g := gb501) (o := .cells #[.int .i64 t495, .int .i64 t496, .int .i64 t497, .string t498, .int .i64 t499] 58 (0, 0)) bk_ hb)
        have n4_ := Aside0.mk (bsp bl_ hb)
        clear BK478
        clear BK487
        clear BK494
        clear BK501
        clear HB
        have BK478 := n0_
        have BK487 := n1_
        have BK494 := n2_
        have BK501 := n3_
        have HB := n4_
        clear n0_ n1_ n2_ n3_ n4_
        (try clear hb)
        (try clear hb2)
        (try clear hk)
        (try clear hi)
        refine hK.out _ _ ⟨(kcl BK478.out 0).trans rfl, (kcl BK478.out 1).trans rfl, (kcl BK478.out 2).trans rfl, (kcl BK478.out 3).trans rfl, (kcl BK478.out 4).trans rfl, (kcl BK478.out 5).trans rfl, (kcl BK478.out 6).trans rfl, (kcl BK487.out 0).trans rfl, (kcl BK487.out 1).trans rfl, (kcl BK487.out 2).trans rfl, (kcl BK487.out 3).trans rfl, (kcl BK487.out 4).trans rfl, (kcl BK487.out 5).trans rfl, (kcl BK487.out 6).trans rfl⟩ (fun hHeld => ?_)
        clear hK K
        refine norm_ (a' := ?_) ?_ ?_
        rotate_left
        · show Act.put _ (some 48) _ = _
          simp only [Act.put, List.setIfInBounds_toArray, List.set_cons_zero, List.set_cons_succ, i64_w, i32_w]
          rfl
        refine pure_ (i := 7) (N := some 50) (v := ?_) (a' := ?_) (bA 35 255) rfl rfl (any_of HT_.out (by kernel_rfl)) (fun _ _ _ h => h) (Or.inl ⟨by rfl, ?_⟩) ?_ ?_
        rotate_left; (intro w'; go_simp; with_reducible rfl); rotate_left; (simp only [Act.put, List.setIfInBounds_toArray, List.set_cons_zero, List.set_cons_succ, i64_w, i32_w]; rfl)
        refine pure_ (i := 8) (N := some 51) (v := ?_) (a' := ?_) (bA 35 511) rfl rfl (any_of HT_.out (by kernel_rfl)) (fun _ _ _ h => h) (Or.inl ⟨by rfl, ?_⟩) ?_ ?_
        rotate_left; (intro w'; go_simp; with_reducible rfl); rotate_left; (simp only [Act.put, List.setIfInBounds_toArray, List.set_cons_zero, List.set_cons_succ, i64_w, i32_w]; rfl)
        refine pure_ (i := 9) (N := some 52) (v := ?_) (a' := ?_) (bA 35 1023) rfl rfl (any_of HT_.out (by kernel_rfl)) (fun _ _ _ h => h) (Or.inl ⟨by rfl, ?_⟩) ?_ ?_
        rotate_left; (intro w'; go_simp; with_reducible rfl); rotate_left; (simp only [Act.put, List.setIfInBounds_toArray, List.set_cons_zero, List.set_cons_succ, i64_w, i32_w]; rfl)
        refine pure_ (i := 10) (N := some 53) (v := undef) (a' := ?_) (bA 35 2047) rfl rfl (any_of HT_.out (by kernel_rfl)) (fun _ _ _ h => h) (Or.inr ⟨by rfl, rfl⟩) ?_ ?_
        rotate_left; (simp only [Act.put, List.setIfInBounds_toArray, List.set_cons_zero, List.set_cons_succ, i64_w, i32_w]; rfl)
        refine pure_ (i := 11) (N := some 54) (v := undef) (a' := ?_) (bA 35 4095) rfl rfl (any_of HT_.out (by kernel_rfl)) (fun _ _ _ h => h) (Or.inr ⟨by rfl, rfl⟩) ?_ ?_
        rotate_left; (simp only [Act.put, List.setIfInBounds_toArray, List.set_cons_zero, List.set_cons_succ, i64_w, i32_w]; rfl)
        refine pure_ (i := 12) (N := some 55) (v := undef) (a' := ?_) (bA 35 8191) rfl rfl (any_of HT_.out (by kernel_rfl)) (fun _ _ _ h => h) (Or.inr ⟨by rfl, rfl⟩) ?_ ?_
        rotate_left; (simp only [Act.put, List.setIfInBounds_toArray, List.set_cons_zero, List.set_cons_succ, i64_w, i32_w]; rfl)
        refine pure_ (i := 13) (N := some 56) (v := ?_) (a' := ?_) (bA 35 16383) rfl rfl (any_of HT_.out (by kernel_rfl)) (fun _ _ _ h => h) (Or.inl ⟨by rfl, ?_⟩) ?_ ?_
        rotate_left; (intro w'; go_simp; with_reducible rfl); rotate_left; (simp only [Act.put, List.setIfInBounds_toArray, List.set_cons_zero, List.set_cons_succ, i64_w, i32_w]; rfl)
        refine pure_ (i := 14) (N := some 57) (v := ?_) (a' := ?_) (bA 35 32767) rfl rfl (any_of HT_.out (by kernel_rfl)) (fun _ _ _ h => h) (Or.inl ⟨by rfl, ?_⟩) ?_ ?_
        rotate_left; (intro w'; go_simp; with_reducible rfl); rotate_left; (simp only [Act.put, List.setIfInBounds_toArray, List.set_cons_zero, List.set_cons_succ, i64_w, i32_w]; rfl)
        refine pure_ (i := 15) (N := some 58) (v := undef) (a' := ?_) (bA 35 65535) rfl rfl (any_of HT_.out (by kernel_rfl)) (fun _ _ _ h => h) (Or.inr ⟨by rfl, rfl⟩) ?_ ?_
        rotate_left; (simp only [Act.put, List.setIfInBounds_toArray, List.set_cons_zero, List.set_cons_succ, i64_w, i32_w]; rfl)
        refine pure_ (i := 16) (N := some 59) (v := undef) (a' := ?_) (bA 35 131071) rfl rfl (any_of HT_.out (by kernel_rfl)) (fun _ _ _ h => h) (Or.inr ⟨by rfl, rfl⟩) ?_ ?_
        rotate_left; (simp only [Act.put, List.setIfInBounds_toArray, List.set_cons_zero, List.set_cons_succ, i64_w, i32_w]; rfl)
        refine pure_ (i := 17) (N := some 60) (v := undef) (a' := ?_) (bA 35 262143) rfl rfl (any_of HT_.out (by kernel_rfl)) (fun _ _ _ h => h) (Or.inr ⟨by rfl, rfl⟩) ?_ ?_
        rotate_left; (simp only [Act.put, List.setIfInBounds_toArray, List.set_cons_zero, List.set_cons_succ, i64_w, i32_w]; rfl)
        refine pure_ (i := 18) (N := some 61) (v := undef) (a' := ?_) (bA 35 524287) rfl rfl (any_of HT_.out (by kernel_rfl)) (fun _ _ _ h => h) (Or.inr ⟨by rfl, rfl⟩) ?_ ?_
        rotate_left; (simp only [Act.put, List.setIfInBounds_toArray, List.set_cons_zero, List.set_cons_succ, i64_w, i32_w]; rfl)
        refine pure_ (i := 19) (N := some 62) (v := undef) (a' := ?_) (bA 35 1048575) rfl rfl (any_of HT_.out (by kernel_rfl)) (fun _ _ _ h => h) (Or.inr ⟨by rfl, rfl⟩) ?_ ?_
        rotate_left; (simp only [Act.put, List.setIfInBounds_toArray, List.set_cons_zero, List.set_cons_succ, i64_w, i32_w]; rfl)
        refine pure_ (i := 20) (N := some 63) (v := ?_) (a' := ?_) (bA 35 2097151) rfl rfl (any_of HT_.out (by kernel_rfl)) (fun _ _ _ h => h) (Or.inl ⟨by rfl, ?_⟩) ?_ ?_
        rotate_left; (intro w'; go_simp; with_reducible rfl); rotate_left; (simp only [Act.put, List.setIfInBounds_toArray, List.set_cons_zero, List.set_cons_succ, i64_w, i32_w]; rfl)
        refine pure_ (i := 21) (N := some 64) (v := ?_) (a' := ?_) (bA 35 4194303) rfl rfl (any_of HT_.out (by kernel_rfl)) (fun _ _ _ h => h) (Or.inl ⟨by rfl, ?_⟩) ?_ ?_
        rotate_left; (intro w'; go_simp; with_reducible rfl); rotate_left; (simp only [Act.put, List.setIfInBounds_toArray, List.set_cons_zero, List.set_cons_succ, i64_w, i32_w]; rfl)
        refine pure_ (i := 22) (N := some 65) (v := undef) (a' := ?_) (bA 35 8388607) rfl rfl (any_of HT_.out (by kernel_rfl)) (fun _ _ _ h => h) (Or.inr ⟨by rfl, rfl⟩) ?_ ?_
        rotate_left; (simp only [Act.put, List.setIfInBounds_toArray, List.set_cons_zero, List.set_cons_succ, i64_w, i32_w]; rfl)
        refine pure_ (i := 23) (N := some 66) (v := undef) (a' := ?_) (bA 35 16777215) rfl rfl (any_of HT_.out (by kernel_rfl)) (fun _ _ _ h => h) (Or.inr ⟨by rfl, rfl⟩) ?_ ?_
        rotate_left; (simp only [Act.put, List.setIfInBounds_toArray, List.set_cons_zero, List.set_cons_succ, i64_w, i32_w]; rfl)
        refine pure_ (i := 24) (N := some 67) (v := undef) (a' := ?_) (bA 35 33554431) rfl rfl (any_of HT_.out (by kernel_rfl)) (fun _ _ _ h => h) (Or.inr ⟨by rfl, rfl⟩) ?_ ?_
        rotate_left; (simp only [Act.put, List.setIfInBounds_toArray, List.set_cons_zero, List.set_cons_succ, i64_w, i32_w]; rfl)
        refine pure_ (i := 25) (N := some 68) (v := undef) (a' := ?_) (bA 35 67108863) rfl rfl (any_of HT_.out (by kernel_rfl)) (fun _ _ _ h => h) (Or.inr ⟨by rfl, rfl⟩) ?_ ?_
        rotate_left; (simp only [Act.put, List.setIfInBounds_toArray, List.set_cons_zero, List.set_cons_succ, i64_w, i32_w]; rfl)
        refine pure_ (i := 26) (N := some 69) (v := undef) (a' := ?_) (bA 35 134217727) rfl rfl (any_of HT_.out (by kernel_rfl)) (fun _ _ _ h => h) (Or.inr ⟨by rfl, rfl⟩) ?_ ?_
        rotate_left; (simp only [Act.put, List.setIfInBounds_toArray, List.set_cons_zero, List.set_cons_succ, i64_w, i32_w]; rfl)
        refine pure_ (i := 27) (N := some 70) (v := ?_) (a' := ?_) (bA 35 268435455) rfl rfl (any_of HT_.out (by kernel_rfl)) (fun _ _ _ h => h) (Or.inl ⟨by rfl, ?_⟩) ?_ ?_
        rotate_left; (intro w'; go_simp; with_reducible rfl); rotate_left; (simp only [Act.put, List.setIfInBounds_toArray, List.set_cons_zero, List.set_cons_succ, i64_w, i32_w]; rfl)
        refine pure_ (i := 28) (N := some 71) (v := ?_) (a' := ?_) (bA 35 536870911) rfl rfl (any_of HT_.out (by kernel_rfl)) (fun _ _ _ h => h) (Or.inl ⟨by rfl, ?_⟩) ?_ ?_
        rotate_left; (intro w'; go_simp; with_reducible rfl); rotate_left; (simp only [Act.put, List.setIfInBounds_toArray, List.set_cons_zero, List.set_cons_succ, i64_w, i32_w]; rfl)
        refine pure_ (i := 29) (N := some 72) (v := undef) (a' := ?_) (bA 35 1073741823) rfl rfl (any_of HT_.out (by kernel_rfl)) (fun _ _ _ h => h) (Or.inr ⟨by rfl, rfl⟩) ?_ ?_
        rotate_left; (simp only [Act.put, List.setIfInBounds_toArray, List.set_cons_zero, List.set_cons_succ, i64_w, i32_w]; rfl)
        refine pure_ (i := 30) (N := some 73) (v := undef) (a' := ?_) (bA 35 2147483647) rfl rfl (any_of HT_.out (by kernel_rfl)) (fun _ _ _ h => h) (Or.inr ⟨by rfl, rfl⟩) ?_ ?_
        rotate_left; (simp only [Act.put, List.setIfInBounds_toArray, List.set_cons_zero, List.set_cons_succ, i64_w, i32_w]; rfl)
        refine pure_ (i := 31) (N := some 74) (v := undef) (a' := ?_) (bA 35 4294967295) rfl rfl (any_of HT_.out (by kernel_rfl)) (fun _ _ _ h => h) (Or.inr ⟨by rfl, rfl⟩) ?_ ?_
        rotate_left; (simp only [Act.put, List.setIfInBounds_toArray, List.set_cons_zero, List.set_cons_succ, i64_w, i32_w]; rfl)
        refine pure_ (i := 32) (N := some 75) (v := undef) (a' := ?_) (bA 35 8589934591) rfl rfl (any_of HT_.out (by kernel_rfl)) (fun _ _ _ h => h) (Or.inr ⟨by rfl, rfl⟩) ?_ ?_
        rotate_left; (simp only [Act.put, List.setIfInBounds_toArray, List.set_cons_zero, List.set_cons_succ, i64_w, i32_w]; rfl)
        refine pure_ (i := 33) (N := some 76) (v := undef) (a' := ?_) (bA 35 17179869183) rfl rfl (any_of HT_.out (by kernel_rfl)) (fun _ _ _ h => h) (Or.inr ⟨by rfl, rfl⟩) ?_ ?_
        rotate_left; (simp only [Act.put, List.setIfInBounds_toArray, List.set_cons_zero, List.set_cons_succ, i64_w, i32_w]; rfl)
        refine pure_ (i := 34) (N := some 77) (v := ?_) (a' := ?_) (bA 35 34359738367) rfl rfl (any_of HT_.out (by kernel_rfl)) (fun _ _ _ h => h) (Or.inl ⟨by rfl, ?_⟩) ?_ ?_
        rotate_left; (intro w'; go_simp; with_reducible rfl); rotate_left; (simp only [Act.put, List.setIfInBounds_toArray, List.set_cons_zero, List.set_cons_succ, i64_w, i32_w]; rfl)
        refine done_ (done_of HT_.out (by kernel_rfl)) ?_
        try go_wp2
        go_meet
        case rel => exact ⟨_, (true), (by first | rfl | (simp; done) | (simp [*]; done) | exact emp1_ _ | exact (emp1_ _).symm | exact emp2_ _ | exact (emp2_ _).symm), H', ⟨by have := HJ3.out; first | omega | exact Nat.le_refl _⟩, ⟨bk_⟩, ⟨bk_⟩, ⟨bk_⟩, ⟨bk_⟩, ⟨bl_⟩⟩
      rw [if_neg c39] at H
      have c39b0 : (!(t502 == t479) || (!(t503 == t480) || (!(t504.toList == t481.toList) || ((!(t505 == t482) || (!(t506.toList == t483.toList) || (!(t507.toList == t484.toList) || (!(t508 == t485))))))))) = false := by simpa using c39
      clear c39
      by_cases c43 : t493 = t500
      rotate_left
      · rw [if_neg c43] at H
        have c43b0 : (t493 == t500) = false := beq_eq_false_iff_ne.mpr c43
        have c43b1 : (t493 != t500) = true := bne_iff_ne.mpr c43
        have H' := Aside0.mk H
        clear H
        try go_wp2
        have n0_ : Aside0 ((((((w32.setCell ⟨gb501, 0, none⟩ (.int .i64 t495)).setCell ⟨gb501, 1, none⟩ (.int .i64 t496)).setCell ⟨gb501, 2, none⟩ (.int .i64 t497)).setCell ⟨gb501, 3, none⟩ (.string t498)).setCell ⟨gb501, 4, none⟩ (.int .i64 t499)).heap[gb478]? = some (.cells #[.int .i64 t470, .int .i64 t471, .string t472, .int .i64 t473, .string t474, .string t475, .int .i64 t476] 26 (0, 0))) := ⟨bk_⟩
        have n1_ : Aside0 ((((((w32.setCell ⟨gb501, 0, none⟩ (.int .i64 t495)).setCell ⟨gb501, 1, none⟩ (.int .i64 t496)).setCell ⟨gb501, 2, none⟩ (.int .i64 t497)).setCell ⟨gb501, 3, none⟩ (.string t498)).setCell ⟨gb501, 4, none⟩ (.int .i64 t499)).heap[gb487]? = some (.cells #[.int .i64 t479, .int .i64 t480, .string t481, .int .i64 t482, .string t483, .string t484, .int .i64 t485] 36 (0, 0))) := ⟨bk_⟩
        have n2_ : Aside0 ((((((w32.setCell ⟨gb501, 0, none⟩ (.int .i64 t495)).setCell ⟨gb501, 1, none⟩ (.int .i64 t496)).setCell ⟨gb501, 2, none⟩ (.int .i64 t497)).setCell ⟨gb501, 3, none⟩ (.string t498)).setCell ⟨gb501, 4, none⟩ (.int .i64 t499)).heap[gb494]? = some (.cells #[.int .i64 t488, .int .i64 t489, .int .i64 t490, .string t491, .int .i64 t492] 53 (0, 0))) := ⟨bk_⟩
        have n3_ : Aside0 ((((((w32.setCell ⟨gb501, 0, none⟩ (.int .i64 t495)).setCell ⟨gb501, 1, none⟩ (.int .i64 t496)).setCell ⟨gb501, 2, none⟩ (.int .i64 t497)).setCell ⟨gb501, 3, none⟩ (.string t498)).setCell ⟨gb501, 4, none⟩ (.int .i64 t499)).heap[gb501]? = some (.cells #[.int .i64 t495, .int .i64 t496, .int .i64 t497, .string t498, .int .i64 t499] 58 (0, 0))) := ⟨bk_⟩
        have n4_ : Aside0 (Below w.heap.size w (((((w32.setCell ⟨gb501, 0, none⟩ (.int .i64 t495)).setCell ⟨gb501, 1, none⟩ (.int .i64 t496)).setCell ⟨gb501, 2, none⟩ (.int .i64 t497)).setCell ⟨gb501, 3, none⟩ (.string t498)).setCell ⟨gb501, 4, none⟩ (.int .i64 t499))) := ⟨bl_⟩
        (try clear BK478)
        (try clear BK487)
        (try clear BK494)
        (try clear BK501)
        (try clear HB)
        generalize (((((w32.setCell ⟨gb501, 0, none⟩ (.int .i64 t495)).setCell ⟨gb501, 1, none⟩ (.int .i64 t496)).setCell ⟨gb501, 2, none⟩ (.int .i64 t497)).setCell ⟨gb501, 3, none⟩ (.string t498)).setCell ⟨gb501, 4, none⟩ (.int .i64 t499)) = w55 at n0_ n1_ n2_ n3_ n4_ ⊢
        have BK478 := n0_
        have BK487 := n1_
        have BK494 := n2_
        have BK501 := n3_
        have HB := n4_
        clear n0_ n1_ n2_ n3_ n4_
        have n0_ := Aside0.mk (kdw BK478.out)
        have n1_ := Aside0.mk (kdw BK487.out)
        have n2_ := Aside0.mk (kdw BK494.out)
        have n3_ := Aside0.mk (kdw BK501.out)
        have n4_ := Aside0.mk (bd1 HB.out)
        clear BK478
        clear BK487
        clear BK494
        clear BK501
        clear HB
        have BK478 := n0_
        have BK487 := n1_
        have BK494 := n2_
        have BK501 := n3_
        have HB := n4_
        clear n0_ n1_ n2_ n3_ n4_
        refine start_ (n := 35) (S := fun w' => w'.cell? ⟨gb478, 0, none⟩ = some (.int .i64 t470) ∧ w'.cell? ⟨gb478, 1, none⟩ = some (.int .i64 t471) ∧ w'.cell? ⟨gb478, 2, none⟩ = some (.string t472) ∧ w'.cell? ⟨gb478, 3, none⟩ = some (.int .i64 t473) ∧ w'.cell? ⟨gb478, 4, none⟩ = some (.string t474) ∧ w'.cell? ⟨gb478, 5, none⟩ = some (.string t475) ∧ w'.cell? ⟨gb478, 6, none⟩ = some (.int .i64 t476) ∧ w'.cell? ⟨gb487, 0, none⟩ = some (.int .i64 t479) ∧ w'.cell? ⟨gb487, 1, none⟩ = some (.int .i64 t480) ∧ w'.cell? ⟨gb487, 2, none⟩ = some (.string t481) ∧ w'.cell? ⟨gb487, 3, none⟩ = some (.int .i64 t482) ∧ w'.cell? ⟨gb487, 4, none⟩ = some (.string t483) ∧ w'.cell? ⟨gb487, 5, none⟩ = some (.string t484) ∧ w'.cell? ⟨gb487, 6, none⟩ = some (.int .i64 t485)) (ds := []) #[false,false,false,false,false,false,false,false,false,false,false,false,false,false,false,false,false,false,false,false,false,false,false,false,false,false,false,false,false,false,false,false,false,false,false] (by kernel_rfl) rfl rfl ⟨(kcl BK478.out 0).trans rfl, (kcl BK478.out 1).trans rfl, (kcl BK478.out 2).trans rfl, (kcl BK478.out 3).trans rfl, (kcl BK478.out 4).trans rfl, (kcl BK478.out 5).trans rfl, (kcl BK478.out 6).trans rfl, (kcl BK487.out 0).trans rfl, (kcl BK487.out 1).trans rfl, (kcl BK487.out 2).trans rfl, (kcl BK487.out 3).trans rfl, (kcl BK487.out 4).trans rfl, (kcl BK487.out 5).trans rfl, (kcl BK487.out 6).trans rfl⟩ (fun hHeld => ?_); refine with_tabW armoirelaw24_FrameReads.tab10 armoirelaw24_FrameReads.bits10 (fun HT_ HW_ => ?_)
        generalize w55.drew = w56 at BK478 BK487 BK494 BK501 HB hHeld ⊢
        refine pure_ (i := 0) (N := some 43) (v := ?_) (a' := ?_) (bA 35 1) rfl rfl (any_of HT_.out (by kernel_rfl)) (fun _ _ _ h => h) (Or.inl ⟨by rfl, ?_⟩) ?_ ?_
        rotate_left; (intro w'; go_simp; with_reducible rfl); rotate_left; (simp only [Act.put, List.setIfInBounds_toArray, List.set_cons_zero, List.set_cons_succ, i64_w, i32_w]; rfl)
        refine pure_ (i := 1) (N := some 44) (v := ?_) (a' := ?_) (bA 35 3) rfl rfl (any_of HT_.out (by kernel_rfl)) (fun _ _ _ h => h) (Or.inl ⟨by rfl, ?_⟩) ?_ ?_
        rotate_left; (intro w'; go_simp; with_reducible rfl); rotate_left; (simp only [Act.put, List.setIfInBounds_toArray, List.set_cons_zero, List.set_cons_succ, i64_w, i32_w]; rfl)
        refine pure_ (i := 2) (N := some 45) (v := ?_) (a' := ?_) (bA 35 7) rfl rfl (any_of HT_.out (by kernel_rfl)) (fun _ _ _ h => h) (Or.inl ⟨by rfl, ?_⟩) ?_ ?_
        rotate_left; (intro w'; go_simp; with_reducible rfl); rotate_left; (simp only [Act.put, List.setIfInBounds_toArray, List.set_cons_zero, List.set_cons_succ, i64_w, i32_w]; rfl)
        refine pure_ (i := 3) (N := some 46) (v := ?_) (a' := ?_) (bA 35 15) rfl rfl (any_of HT_.out (by kernel_rfl)) (fun _ _ _ h => h) (Or.inl ⟨by rfl, ?_⟩) ?_ ?_
        rotate_left; (intro w'; go_simp; with_reducible rfl); rotate_left; (simp only [Act.put, List.setIfInBounds_toArray, List.set_cons_zero, List.set_cons_succ, i64_w, i32_w]; rfl)
        refine take_ (i := 4) (N := some 47) (v := ?_) (a' := ?_) #[true,true,true,true,true,false,false,false,false,false,false,false,false,false,false,false,false,false,false,false,false,false,false,false,false,false,false,false,false,false,false,false,false,false,false] rfl rfl (tkw HT_.out HW_.out (by kernel_rfl)) (fun _ _ _ h => h) (Or.inl ⟨by rfl, ?_⟩) hHeld ?_ ?_
        rotate_left
        · rintro w' ⟨s0, s1, s2, s3, s4, s5, s6, s7, s8, s9, s10, s11, s12, s13⟩
          go_simp
          with_reducible rfl
        rotate_left; (simp only [Act.put, List.setIfInBounds_toArray, List.set_cons_zero, List.set_cons_succ, i64_w, i32_w]; rfl)
        refine take_ (i := 6) (N := some 49) (v := ?_) (a' := ?_) #[true,true,true,true,true,false,true,false,false,false,false,false,false,false,false,false,false,false,false,false,false,false,false,false,false,false,false,false,false,false,false,false,false,false,false] rfl rfl (tkw HT_.out HW_.out (by kernel_rfl)) (fun _ _ _ h => h) (Or.inl ⟨by rfl, ?_⟩) hHeld ?_ ?_
        rotate_left
        · rintro w' ⟨s0, s1, s2, s3, s4, s5, s6, s7, s8, s9, s10, s11, s12, s13⟩
          go_simp
          with_reducible rfl
        rotate_left; (simp only [Act.put, List.setIfInBounds_toArray, List.set_cons_zero, List.set_cons_succ, i64_w, i32_w]; rfl)
        refine one_ (i := 5) (N := some 48) #[true,true,true,true,true,true,true,false,false,false,false,false,false,false,false,false,false,false,false,false,false,false,false,false,false,false,false,false,false,false,false,false,false,false,false] rfl rfl (one_of HT_.out (by kernel_rfl)) (by decide) (fun K hK => ?_)
        refine goes_ Try.func12 (by kernel_rfl) rfl #[.agg #[.int .i64 t470, .int .i64 t471, .string t472, .int .i64 t473, .string t474, .string t475, .int .i64 t476]] (by rfl) rfl rfl (by (try simp only [List.map_toArray, List.map_cons, List.map_nil]); first | done | rfl | (simp only [List.length_drop, List.length_take]; rfl) | (simp only [Act.eval, Array.getD_eq_getD_getElem?, Option.getD_some, *]; done) | (simp only [Array.mk.injEq, List.cons.injEq, Value.int.injEq, true_and, and_true]; first | omega | (simp [IntKind.wrap, IntKind.bits, IntKind.signed]; omega))) ?_
        with_reducible refine (armoirelaw24_Told.calls t470 t471 t472 t473 t474 t475 t476 t502 t503 t504 t505 t506 t507 t508 _ A38.out).mono ?_
        rintro e w57 ⟨rfl, hb⟩
        refine ⟨_, rfl, ?_⟩
        have n0_ := Aside0.mk (kbl (g := gb478) (o := .cells #[.int .i64 t470, .int .i64 t471, .string t472, .int .i64 t473, .string t474, .string t475, .int .i64 t476] 26 (0, 0)) bk_ hb)
        have n1_ := Aside0.mk (kbl (g := gb487) (o := .cells #[.int .i64 t479, .int .i64 t480, .string t481, .int .i64 t482, .string t483, .string t484, .int .i64 t485] 36 (0, 0)) bk_ hb)
        have n2_ := Aside0.mk (kbl (g := gb494) (o := .cells #[.int .i64 t488, .int .i64 t489, .int .i64 t490, .string t491, .int .i64 t492] 53 (0, 0)) bk_ hb)
        have n3_ := Aside0.mk (kbl (g := gb501) (o := .cells #[.int .i64 t495, .int .i64 t496, .int .i64 t497, .string t498, .int .i64 t499] 58 (0, 0)) bk_ hb)
        have n4_ := Aside0.mk (bsp bl_ hb)
        clear BK478
        clear BK487
        clear BK494
        clear BK501
        clear HB
        have BK478 := n0_
        have BK487 := n1_
        have BK494 := n2_
        have BK501 := n3_
        have HB := n4_
        clear n0_ n1_ n2_ n3_ n4_
        (try clear hb)
        (try clear hb2)
        (try clear hk)
        (try clear hi)
        refine hK.out _ _ ⟨(kcl BK478.out 0).trans rfl, (kcl BK478.out 1).trans rfl, (kcl BK478.out 2).trans rfl, (kcl BK478.out 3).trans rfl, (kcl BK478.out 4).trans rfl, (kcl BK478.out 5).trans rfl, (kcl BK478.out 6).trans rfl, (kcl BK487.out 0).trans rfl, (kcl BK487.out 1).trans rfl, (kcl BK487.out 2).trans rfl, (kcl BK487.out 3).trans rfl, (kcl BK487.out 4).trans rfl, (kcl BK487.out 5).trans rfl, (kcl BK487.out 6).trans rfl⟩ (fun hHeld => ?_)
        clear hK K
        refine norm_ (a' := ?_) ?_ ?_
        rotate_left
        · show Act.put _ (some 48) _ = _
          simp only [Act.put, List.setIfInBounds_toArray, List.set_cons_zero, List.set_cons_succ, i64_w, i32_w]
          rfl
        refine pure_ (i := 7) (N := some 50) (v := ?_) (a' := ?_) (bA 35 255) rfl rfl (any_of HT_.out (by kernel_rfl)) (fun _ _ _ h => h) (Or.inl ⟨by rfl, ?_⟩) ?_ ?_
        rotate_left; (intro w'; go_simp; with_reducible rfl); rotate_left; (simp only [Act.put, List.setIfInBounds_toArray, List.set_cons_zero, List.set_cons_succ, i64_w, i32_w]; rfl)
        refine pure_ (i := 8) (N := some 51) (v := ?_) (a' := ?_) (bA 35 511) rfl rfl (any_of HT_.out (by kernel_rfl)) (fun _ _ _ h => h) (Or.inl ⟨by rfl, ?_⟩) ?_ ?_
        rotate_left; (intro w'; go_simp; with_reducible rfl); rotate_left; (simp only [Act.put, List.setIfInBounds_toArray, List.set_cons_zero, List.set_cons_succ, i64_w, i32_w]; rfl)
        refine pure_ (i := 9) (N := some 52) (v := ?_) (a' := ?_) (bA 35 1023) rfl rfl (any_of HT_.out (by kernel_rfl)) (fun _ _ _ h => h) (Or.inl ⟨by rfl, ?_⟩) ?_ ?_
        rotate_left; (intro w'; go_simp; with_reducible rfl); rotate_left; (simp only [Act.put, List.setIfInBounds_toArray, List.set_cons_zero, List.set_cons_succ, i64_w, i32_w]; rfl)
        refine pure_ (i := 10) (N := some 53) (v := ?_) (a' := ?_) (bA 35 2047) rfl rfl (any_of HT_.out (by kernel_rfl)) (fun _ _ _ h => h) (Or.inl ⟨by rfl, ?_⟩) ?_ ?_
        rotate_left; (intro w'; go_simp; with_reducible rfl); rotate_left; (simp only [Act.put, List.setIfInBounds_toArray, List.set_cons_zero, List.set_cons_succ, i64_w, i32_w]; rfl)
        refine pure_ (i := 11) (N := some 54) (v := ?_) (a' := ?_) (bA 35 4095) rfl rfl (any_of HT_.out (by kernel_rfl)) (fun _ _ _ h => h) (Or.inl ⟨by rfl, ?_⟩) ?_ ?_
        rotate_left; (intro w'; go_simp; with_reducible rfl); rotate_left; (simp only [Act.put, List.setIfInBounds_toArray, List.set_cons_zero, List.set_cons_succ, i64_w, i32_w]; rfl)
        refine pure_ (i := 12) (N := some 55) (v := ?_) (a' := ?_) (bA 35 8191) rfl rfl (any_of HT_.out (by kernel_rfl)) (fun _ _ _ h => h) (Or.inl ⟨by rfl, ?_⟩) ?_ ?_
        rotate_left; (intro w'; go_simp; with_reducible rfl); rotate_left; (simp only [Act.put, List.setIfInBounds_toArray, List.set_cons_zero, List.set_cons_succ, i64_w, i32_w]; rfl)
        refine pure_ (i := 13) (N := some 56) (v := ?_) (a' := ?_) (bA 35 16383) rfl rfl (any_of HT_.out (by kernel_rfl)) (fun _ _ _ h => h) (Or.inl ⟨by rfl, ?_⟩) ?_ ?_
        rotate_left; (intro w'; go_simp; with_reducible rfl); rotate_left; (simp only [Act.put, List.setIfInBounds_toArray, List.set_cons_zero, List.set_cons_succ, i64_w, i32_w]; rfl)
        refine pure_ (i := 14) (N := some 57) (v := ?_) (a' := ?_) (bA 35 32767) rfl rfl (any_of HT_.out (by kernel_rfl)) (fun _ _ _ h => h) (Or.inl ⟨by rfl, ?_⟩) ?_ ?_
        rotate_left; (intro w'; go_simp; with_reducible rfl); rotate_left; (simp only [Act.put, List.setIfInBounds_toArray, List.set_cons_zero, List.set_cons_succ, i64_w, i32_w]; rfl)
        refine pure_ (i := 15) (N := some 58) (v := undef) (a' := ?_) (bA 35 65535) rfl rfl (any_of HT_.out (by kernel_rfl)) (fun _ _ _ h => h) (Or.inr ⟨by rfl, rfl⟩) ?_ ?_
        rotate_left; (simp only [Act.put, List.setIfInBounds_toArray, List.set_cons_zero, List.set_cons_succ, i64_w, i32_w]; rfl)
        refine pure_ (i := 16) (N := some 59) (v := undef) (a' := ?_) (bA 35 131071) rfl rfl (any_of HT_.out (by kernel_rfl)) (fun _ _ _ h => h) (Or.inr ⟨by rfl, rfl⟩) ?_ ?_
        rotate_left; (simp only [Act.put, List.setIfInBounds_toArray, List.set_cons_zero, List.set_cons_succ, i64_w, i32_w]; rfl)
        refine pure_ (i := 17) (N := some 60) (v := undef) (a' := ?_) (bA 35 262143) rfl rfl (any_of HT_.out (by kernel_rfl)) (fun _ _ _ h => h) (Or.inr ⟨by rfl, rfl⟩) ?_ ?_
        rotate_left; (simp only [Act.put, List.setIfInBounds_toArray, List.set_cons_zero, List.set_cons_succ, i64_w, i32_w]; rfl)
        refine pure_ (i := 18) (N := some 61) (v := undef) (a' := ?_) (bA 35 524287) rfl rfl (any_of HT_.out (by kernel_rfl)) (fun _ _ _ h => h) (Or.inr ⟨by rfl, rfl⟩) ?_ ?_
        rotate_left; (simp only [Act.put, List.setIfInBounds_toArray, List.set_cons_zero, List.set_cons_succ, i64_w, i32_w]; rfl)
        refine pure_ (i := 19) (N := some 62) (v := undef) (a' := ?_) (bA 35 1048575) rfl rfl (any_of HT_.out (by kernel_rfl)) (fun _ _ _ h => h) (Or.inr ⟨by rfl, rfl⟩) ?_ ?_
        rotate_left; (simp only [Act.put, List.setIfInBounds_toArray, List.set_cons_zero, List.set_cons_succ, i64_w, i32_w]; rfl)
        refine pure_ (i := 20) (N := some 63) (v := ?_) (a' := ?_) (bA 35 2097151) rfl rfl (any_of HT_.out (by kernel_rfl)) (fun _ _ _ h => h) (Or.inl ⟨by rfl, ?_⟩) ?_ ?_
        rotate_left; (intro w'; go_simp; with_reducible rfl); rotate_left; (simp only [Act.put, List.setIfInBounds_toArray, List.set_cons_zero, List.set_cons_succ, i64_w, i32_w]; rfl)
        refine pure_ (i := 21) (N := some 64) (v := ?_) (a' := ?_) (bA 35 4194303) rfl rfl (any_of HT_.out (by kernel_rfl)) (fun _ _ _ h => h) (Or.inl ⟨by rfl, ?_⟩) ?_ ?_
        rotate_left; (intro w'; go_simp; with_reducible rfl); rotate_left; (simp only [Act.put, List.setIfInBounds_toArray, List.set_cons_zero, List.set_cons_succ, i64_w, i32_w]; rfl)
        refine pure_ (i := 22) (N := some 65) (v := undef) (a' := ?_) (bA 35 8388607) rfl rfl (any_of HT_.out (by kernel_rfl)) (fun _ _ _ h => h) (Or.inr ⟨by rfl, rfl⟩) ?_ ?_
        rotate_left; (simp only [Act.put, List.setIfInBounds_toArray, List.set_cons_zero, List.set_cons_succ, i64_w, i32_w]; rfl)
        refine pure_ (i := 23) (N := some 66) (v := undef) (a' := ?_) (bA 35 16777215) rfl rfl (any_of HT_.out (by kernel_rfl)) (fun _ _ _ h => h) (Or.inr ⟨by rfl, rfl⟩) ?_ ?_
        rotate_left; (simp only [Act.put, List.setIfInBounds_toArray, List.set_cons_zero, List.set_cons_succ, i64_w, i32_w]; rfl)
        refine pure_ (i := 24) (N := some 67) (v := undef) (a' := ?_) (bA 35 33554431) rfl rfl (any_of HT_.out (by kernel_rfl)) (fun _ _ _ h => h) (Or.inr ⟨by rfl, rfl⟩) ?_ ?_
        rotate_left; (simp only [Act.put, List.setIfInBounds_toArray, List.set_cons_zero, List.set_cons_succ, i64_w, i32_w]; rfl)
        refine pure_ (i := 25) (N := some 68) (v := undef) (a' := ?_) (bA 35 67108863) rfl rfl (any_of HT_.out (by kernel_rfl)) (fun _ _ _ h => h) (Or.inr ⟨by rfl, rfl⟩) ?_ ?_
        rotate_left; (simp only [Act.put, List.setIfInBounds_toArray, List.set_cons_zero, List.set_cons_succ, i64_w, i32_w]; rfl)
        refine pure_ (i := 26) (N := some 69) (v := undef) (a' := ?_) (bA 35 134217727) rfl rfl (any_of HT_.out (by kernel_rfl)) (fun _ _ _ h => h) (Or.inr ⟨by rfl, rfl⟩) ?_ ?_
        rotate_left; (simp only [Act.put, List.setIfInBounds_toArray, List.set_cons_zero, List.set_cons_succ, i64_w, i32_w]; rfl)
        refine pure_ (i := 27) (N := some 70) (v := ?_) (a' := ?_) (bA 35 268435455) rfl rfl (any_of HT_.out (by kernel_rfl)) (fun _ _ _ h => h) (Or.inl ⟨by rfl, ?_⟩) ?_ ?_
        rotate_left; (intro w'; go_simp; with_reducible rfl); rotate_left; (simp only [Act.put, List.setIfInBounds_toArray, List.set_cons_zero, List.set_cons_succ, i64_w, i32_w]; rfl)
        refine pure_ (i := 28) (N := some 71) (v := ?_) (a' := ?_) (bA 35 536870911) rfl rfl (any_of HT_.out (by kernel_rfl)) (fun _ _ _ h => h) (Or.inl ⟨by rfl, ?_⟩) ?_ ?_
        rotate_left; (intro w'; go_simp; with_reducible rfl); rotate_left; (simp only [Act.put, List.setIfInBounds_toArray, List.set_cons_zero, List.set_cons_succ, i64_w, i32_w]; rfl)
        refine pure_ (i := 29) (N := some 72) (v := undef) (a' := ?_) (bA 35 1073741823) rfl rfl (any_of HT_.out (by kernel_rfl)) (fun _ _ _ h => h) (Or.inr ⟨by rfl, rfl⟩) ?_ ?_
        rotate_left; (simp only [Act.put, List.setIfInBounds_toArray, List.set_cons_zero, List.set_cons_succ, i64_w, i32_w]; rfl)
        refine pure_ (i := 30) (N := some 73) (v := undef) (a' := ?_) (bA 35 2147483647) rfl rfl (any_of HT_.out (by kernel_rfl)) (fun _ _ _ h => h) (Or.inr ⟨by rfl, rfl⟩) ?_ ?_
        rotate_left; (simp only [Act.put, List.setIfInBounds_toArray, List.set_cons_zero, List.set_cons_succ, i64_w, i32_w]; rfl)
        refine pure_ (i := 31) (N := some 74) (v := undef) (a' := ?_) (bA 35 4294967295) rfl rfl (any_of HT_.out (by kernel_rfl)) (fun _ _ _ h => h) (Or.inr ⟨by rfl, rfl⟩) ?_ ?_
        rotate_left; (simp only [Act.put, List.setIfInBounds_toArray, List.set_cons_zero, List.set_cons_succ, i64_w, i32_w]; rfl)
        refine pure_ (i := 32) (N := some 75) (v := undef) (a' := ?_) (bA 35 8589934591) rfl rfl (any_of HT_.out (by kernel_rfl)) (fun _ _ _ h => h) (Or.inr ⟨by rfl, rfl⟩) ?_ ?_
        rotate_left; (simp only [Act.put, List.setIfInBounds_toArray, List.set_cons_zero, List.set_cons_succ, i64_w, i32_w]; rfl)
        refine pure_ (i := 33) (N := some 76) (v := undef) (a' := ?_) (bA 35 17179869183) rfl rfl (any_of HT_.out (by kernel_rfl)) (fun _ _ _ h => h) (Or.inr ⟨by rfl, rfl⟩) ?_ ?_
        rotate_left; (simp only [Act.put, List.setIfInBounds_toArray, List.set_cons_zero, List.set_cons_succ, i64_w, i32_w]; rfl)
        refine pure_ (i := 34) (N := some 77) (v := ?_) (a' := ?_) (bA 35 34359738367) rfl rfl (any_of HT_.out (by kernel_rfl)) (fun _ _ _ h => h) (Or.inl ⟨by rfl, ?_⟩) ?_ ?_
        rotate_left; (intro w'; go_simp; with_reducible rfl); rotate_left; (simp only [Act.put, List.setIfInBounds_toArray, List.set_cons_zero, List.set_cons_succ, i64_w, i32_w]; rfl)
        refine done_ (done_of HT_.out (by kernel_rfl)) ?_
        try go_wp2
        go_meet
        case rel => exact ⟨_, (true), (by first | rfl | (simp; done) | (simp [*]; done) | exact emp1_ _ | exact (emp1_ _).symm | exact emp2_ _ | exact (emp2_ _).symm), H', ⟨by have := HJ3.out; first | omega | exact Nat.le_refl _⟩, ⟨bk_⟩, ⟨bk_⟩, ⟨bk_⟩, ⟨bk_⟩, ⟨bl_⟩⟩
      rw [if_pos c43] at H
      have c43b0 : (t493 == t500) = true := beq_iff_eq.mpr c43
      have c43b1 : (t493 != t500) = false := bne_eq_false_iff_eq.mpr c43
      clear c43
      by_cases c44 : t488 = t495
      rotate_left
      · rw [if_neg c44] at H
        have c44b0 : (t488 == t495) = false := beq_eq_false_iff_ne.mpr c44
        have c44b1 : (t488 != t495) = true := bne_iff_ne.mpr c44
        have H' := Aside0.mk H
        clear H
        try go_wp2
        have n0_ : Aside0 ((((((w32.setCell ⟨gb501, 0, none⟩ (.int .i64 t495)).setCell ⟨gb501, 1, none⟩ (.int .i64 t496)).setCell ⟨gb501, 2, none⟩ (.int .i64 t497)).setCell ⟨gb501, 3, none⟩ (.string t498)).setCell ⟨gb501, 4, none⟩ (.int .i64 t499)).heap[gb478]? = some (.cells #[.int .i64 t470, .int .i64 t471, .string t472, .int .i64 t473, .string t474, .string t475, .int .i64 t476] 26 (0, 0))) := ⟨bk_⟩
        have n1_ : Aside0 ((((((w32.setCell ⟨gb501, 0, none⟩ (.int .i64 t495)).setCell ⟨gb501, 1, none⟩ (.int .i64 t496)).setCell ⟨gb501, 2, none⟩ (.int .i64 t497)).setCell ⟨gb501, 3, none⟩ (.string t498)).setCell ⟨gb501, 4, none⟩ (.int .i64 t499)).heap[gb487]? = some (.cells #[.int .i64 t479, .int .i64 t480, .string t481, .int .i64 t482, .string t483, .string t484, .int .i64 t485] 36 (0, 0))) := ⟨bk_⟩
        have n2_ : Aside0 ((((((w32.setCell ⟨gb501, 0, none⟩ (.int .i64 t495)).setCell ⟨gb501, 1, none⟩ (.int .i64 t496)).setCell ⟨gb501, 2, none⟩ (.int .i64 t497)).setCell ⟨gb501, 3, none⟩ (.string t498)).setCell ⟨gb501, 4, none⟩ (.int .i64 t499)).heap[gb494]? = some (.cells #[.int .i64 t488, .int .i64 t489, .int .i64 t490, .string t491, .int .i64 t492] 53 (0, 0))) := ⟨bk_⟩
        have n3_ : Aside0 ((((((w32.setCell ⟨gb501, 0, none⟩ (.int .i64 t495)).setCell ⟨gb501, 1, none⟩ (.int .i64 t496)).setCell ⟨gb501, 2, none⟩ (.int .i64 t497)).setCell ⟨gb501, 3, none⟩ (.string t498)).setCell ⟨gb501, 4, none⟩ (.int .i64 t499)).heap[gb501]? = some (.cells #[.int .i64 t495, .int .i64 t496, .int .i64 t497, .string t498, .int .i64 t499] 58 (0, 0))) := ⟨bk_⟩
        have n4_ : Aside0 (Below w.heap.size w (((((w32.setCell ⟨gb501, 0, none⟩ (.int .i64 t495)).setCell ⟨gb501, 1, none⟩ (.int .i64 t496)).setCell ⟨gb501, 2, none⟩ (.int .i64 t497)).setCell ⟨gb501, 3, none⟩ (.string t498)).setCell ⟨gb501, 4, none⟩ (.int .i64 t499))) := ⟨bl_⟩
        (try clear BK478)
        (try clear BK487)
        (try clear BK494)
        (try clear BK501)
        (try clear HB)
        generalize (((((w32.setCell ⟨gb501, 0, none⟩ (.int .i64 t495)).setCell ⟨gb501, 1, none⟩ (.int .i64 t496)).setCell ⟨gb501, 2, none⟩ (.int .i64 t497)).setCell ⟨gb501, 3, none⟩ (.string t498)).setCell ⟨gb501, 4, none⟩ (.int .i64 t499)) = w52 at n0_ n1_ n2_ n3_ n4_ ⊢
        have BK478 := n0_
        have BK487 := n1_
        have BK494 := n2_
        have BK501 := n3_
        have HB := n4_
        clear n0_ n1_ n2_ n3_ n4_
        have n0_ := Aside0.mk (kdw BK478.out)
        have n1_ := Aside0.mk (kdw BK487.out)
        have n2_ := Aside0.mk (kdw BK494.out)
        have n3_ := Aside0.mk (kdw BK501.out)
        have n4_ := Aside0.mk (bd1 HB.out)
        clear BK478
        clear BK487
        clear BK494
        clear BK501
        clear HB
        have BK478 := n0_
        have BK487 := n1_
        have BK494 := n2_
        have BK501 := n3_
        have HB := n4_
        clear n0_ n1_ n2_ n3_ n4_
        refine start_ (n := 35) (S := fun w' => w'.cell? ⟨gb478, 0, none⟩ = some (.int .i64 t470) ∧ w'.cell? ⟨gb478, 1, none⟩ = some (.int .i64 t471) ∧ w'.cell? ⟨gb478, 2, none⟩ = some (.string t472) ∧ w'.cell? ⟨gb478, 3, none⟩ = some (.int .i64 t473) ∧ w'.cell? ⟨gb478, 4, none⟩ = some (.string t474) ∧ w'.cell? ⟨gb478, 5, none⟩ = some (.string t475) ∧ w'.cell? ⟨gb478, 6, none⟩ = some (.int .i64 t476) ∧ w'.cell? ⟨gb487, 0, none⟩ = some (.int .i64 t479) ∧ w'.cell? ⟨gb487, 1, none⟩ = some (.int .i64 t480) ∧ w'.cell? ⟨gb487, 2, none⟩ = some (.string t481) ∧ w'.cell? ⟨gb487, 3, none⟩ = some (.int .i64 t482) ∧ w'.cell? ⟨gb487, 4, none⟩ = some (.string t483) ∧ w'.cell? ⟨gb487, 5, none⟩ = some (.string t484) ∧ w'.cell? ⟨gb487, 6, none⟩ = some (.int .i64 t485) ∧ w'.cell? ⟨gb494, 0, none⟩ = some (.int .i64 t488) ∧ w'.cell? ⟨gb494, 1, none⟩ = some (.int .i64 t489) ∧ w'.cell? ⟨gb494, 2, none⟩ = some (.int .i64 t490) ∧ w'.cell? ⟨gb494, 3, none⟩ = some (.string t491) ∧ w'.cell? ⟨gb494, 4, none⟩ = some (.int .i64 t492) ∧ w'.cell? ⟨gb501, 0, none⟩ = some (.int .i64 t495) ∧ w'.cell? ⟨gb501, 1, none⟩ = some (.int .i64 t496) ∧ w'.cell? ⟨gb501, 2, none⟩ = some (.int .i64 t497) ∧ w'.cell? ⟨gb501, 3, none⟩ = some (.string t498) ∧ w'.cell? ⟨gb501, 4, none⟩ = some (.int .i64 t499)) (ds := []) #[false,false,false,false,false,false,false,false,false,false,false,false,false,false,false,false,false,false,false,false,false,false,false,false,false,false,false,false,false,false,false,false,false,false,false] (by kernel_rfl) rfl rfl ⟨(kcl BK478.out 0).trans rfl, (kcl BK478.out 1).trans rfl, (kcl BK478.out 2).trans rfl, (kcl BK478.out 3).trans rfl, (kcl BK478.out 4).trans rfl, (kcl BK478.out 5).trans rfl, (kcl BK478.out 6).trans rfl, (kcl BK487.out 0).trans rfl, (kcl BK487.out 1).trans rfl, (kcl BK487.out 2).trans rfl, (kcl BK487.out 3).trans rfl, (kcl BK487.out 4).trans rfl, (kcl BK487.out 5).trans rfl, (kcl BK487.out 6).trans rfl, (kcl BK494.out 0).trans rfl, (kcl BK494.out 1).trans rfl, (kcl BK494.out 2).trans rfl, (kcl BK494.out 3).trans rfl, (kcl BK494.out 4).trans rfl, (kcl BK501.out 0).trans rfl, (kcl BK501.out 1).trans rfl, (kcl BK501.out 2).trans rfl, (kcl BK501.out 3).trans rfl, (kcl BK501.out 4).trans rfl⟩ (fun hHeld => ?_); refine with_tabW armoirelaw24_FrameReads.tab10 armoirelaw24_FrameReads.bits10 (fun HT_ HW_ => ?_)
        generalize w52.drew = w53 at BK478 BK487 BK494 BK501 HB hHeld ⊢
        refine pure_ (i := 0) (N := some 43) (v := ?_) (a' := ?_) (bA 35 1) rfl rfl (any_of HT_.out (by kernel_rfl)) (fun _ _ _ h => h) (Or.inl ⟨by rfl, ?_⟩) ?_ ?_
        rotate_left; (intro w'; go_simp; with_reducible rfl); rotate_left; (simp only [Act.put, List.setIfInBounds_toArray, List.set_cons_zero, List.set_cons_succ, i64_w, i32_w]; rfl)
        refine pure_ (i := 1) (N := some 44) (v := ?_) (a' := ?_) (bA 35 3) rfl rfl (any_of HT_.out (by kernel_rfl)) (fun _ _ _ h => h) (Or.inl ⟨by rfl, ?_⟩) ?_ ?_
        rotate_left; (intro w'; go_simp; with_reducible rfl); rotate_left; (simp only [Act.put, List.setIfInBounds_toArray, List.set_cons_zero, List.set_cons_succ, i64_w, i32_w]; rfl)
        refine pure_ (i := 2) (N := some 45) (v := ?_) (a' := ?_) (bA 35 7) rfl rfl (any_of HT_.out (by kernel_rfl)) (fun _ _ _ h => h) (Or.inl ⟨by rfl, ?_⟩) ?_ ?_
        rotate_left; (intro w'; go_simp; with_reducible rfl); rotate_left; (simp only [Act.put, List.setIfInBounds_toArray, List.set_cons_zero, List.set_cons_succ, i64_w, i32_w]; rfl)
        refine pure_ (i := 3) (N := some 46) (v := ?_) (a' := ?_) (bA 35 15) rfl rfl (any_of HT_.out (by kernel_rfl)) (fun _ _ _ h => h) (Or.inl ⟨by rfl, ?_⟩) ?_ ?_
        rotate_left; (intro w'; go_simp; with_reducible rfl); rotate_left; (simp only [Act.put, List.setIfInBounds_toArray, List.set_cons_zero, List.set_cons_succ, i64_w, i32_w]; rfl)
        refine take_ (i := 4) (N := some 47) (v := ?_) (a' := ?_) #[true,true,true,true,true,false,false,false,false,false,false,false,false,false,false,false,false,false,false,false,false,false,false,false,false,false,false,false,false,false,false,false,false,false,false] rfl rfl (tkw HT_.out HW_.out (by kernel_rfl)) (fun _ _ _ h => h) (Or.inl ⟨by rfl, ?_⟩) hHeld ?_ ?_
        rotate_left
        · rintro w' ⟨s0, s1, s2, s3, s4, s5, s6, s7, s8, s9, s10, s11, s12, s13, s14, s15, s16, s17, s18, s19, s20, s21, s22, s23⟩
          go_simp
          with_reducible rfl
        rotate_left; (simp only [Act.put, List.setIfInBounds_toArray, List.set_cons_zero, List.set_cons_succ, i64_w, i32_w]; rfl)
        refine take_ (i := 6) (N := some 49) (v := ?_) (a' := ?_) #[true,true,true,true,true,false,true,false,false,false,false,false,false,false,false,false,false,false,false,false,false,false,false,false,false,false,false,false,false,false,false,false,false,false,false] rfl rfl (tkw HT_.out HW_.out (by kernel_rfl)) (fun _ _ _ h => h) (Or.inl ⟨by rfl, ?_⟩) hHeld ?_ ?_
        rotate_left
        · rintro w' ⟨s0, s1, s2, s3, s4, s5, s6, s7, s8, s9, s10, s11, s12, s13, s14, s15, s16, s17, s18, s19, s20, s21, s22, s23⟩
          go_simp
          with_reducible rfl
        rotate_left; (simp only [Act.put, List.setIfInBounds_toArray, List.set_cons_zero, List.set_cons_succ, i64_w, i32_w]; rfl)
        refine one_ (i := 5) (N := some 48) #[true,true,true,true,true,true,true,false,false,false,false,false,false,false,false,false,false,false,false,false,false,false,false,false,false,false,false,false,false,false,false,false,false,false,false] rfl rfl (one_of HT_.out (by kernel_rfl)) (by decide) (fun K hK => ?_)
        refine goes_ Try.func12 (by kernel_rfl) rfl #[.agg #[.int .i64 t470, .int .i64 t471, .string t472, .int .i64 t473, .string t474, .string t475, .int .i64 t476]] (by rfl) rfl rfl (by (try simp only [List.map_toArray, List.map_cons, List.map_nil]); first | done | rfl | (simp only [List.length_drop, List.length_take]; rfl) | (simp only [Act.eval, Array.getD_eq_getD_getElem?, Option.getD_some, *]; done) | (simp only [Array.mk.injEq, List.cons.injEq, Value.int.injEq, true_and, and_true]; first | omega | (simp [IntKind.wrap, IntKind.bits, IntKind.signed]; omega))) ?_
        with_reducible refine (armoirelaw24_Told.calls t470 t471 t472 t473 t474 t475 t476 t502 t503 t504 t505 t506 t507 t508 _ A38.out).mono ?_
        rintro e w54 ⟨rfl, hb⟩
        refine ⟨_, rfl, ?_⟩
        have n0_ := Aside0.mk (kbl (g := gb478) (o := .cells #[.int .i64 t470, .int .i64 t471, .string t472, .int .i64 t473, .string t474, .string t475, .int .i64 t476] 26 (0, 0)) bk_ hb)
        have n1_ := Aside0.mk (kbl (g := gb487) (o := .cells #[.int .i64 t479, .int .i64 t480, .string t481, .int .i64 t482, .string t483, .string t484, .int .i64 t485] 36 (0, 0)) bk_ hb)
        have n2_ := Aside0.mk (kbl (g := gb494) (o := .cells #[.int .i64 t488, .int .i64 t489, .int .i64 t490, .string t491, .int .i64 t492] 53 (0, 0)) bk_ hb)
        have n3_ := Aside0.mk (kbl (g := gb501) (o := .cells #[.int .i64 t495, .int .i64 t496, .int .i64 t497, .string t498, .int .i64 t499] 58 (0, 0)) bk_ hb)
        have n4_ := Aside0.mk (bsp bl_ hb)
        clear BK478
        clear BK487
        clear BK494
        clear BK501
        clear HB
        have BK478 := n0_
        have BK487 := n1_
        have BK494 := n2_
        have BK501 := n3_
        have HB := n4_
        clear n0_ n1_ n2_ n3_ n4_
        (try clear hb)
        (try clear hb2)
        (try clear hk)
        (try clear hi)
        refine hK.out _ _ ⟨(kcl BK478.out 0).trans rfl, (kcl BK478.out 1).trans rfl, (kcl BK478.out 2).trans rfl, (kcl BK478.out 3).trans rfl, (kcl BK478.out 4).trans rfl, (kcl BK478.out 5).trans rfl, (kcl BK478.out 6).trans rfl, (kcl BK487.out 0).trans rfl, (kcl BK487.out 1).trans rfl, (kcl BK487.out 2).trans rfl, (kcl BK487.out 3).trans rfl, (kcl BK487.out 4).trans rfl, (kcl BK487.out 5).trans rfl, (kcl BK487.out 6).trans rfl, (kcl BK494.out 0).trans rfl, (kcl BK494.out 1).trans rfl, (kcl BK494.out 2).trans rfl, (kcl BK494.out 3).trans rfl, (kcl BK494.out 4).trans rfl, (kcl BK501.out 0).trans rfl, (kcl BK501.out 1).trans rfl, (kcl BK501.out 2).trans rfl, (kcl BK501.out 3).trans rfl, (kcl BK501.out 4).trans rfl⟩ (fun hHeld => ?_)
        clear hK K
        refine norm_ (a' := ?_) ?_ ?_
        rotate_left
        · show Act.put _ (some 48) _ = _
          simp only [Act.put, List.setIfInBounds_toArray, List.set_cons_zero, List.set_cons_succ, i64_w, i32_w]
          rfl
        refine pure_ (i := 7) (N := some 50) (v := ?_) (a' := ?_) (bA 35 255) rfl rfl (any_of HT_.out (by kernel_rfl)) (fun _ _ _ h => h) (Or.inl ⟨by rfl, ?_⟩) ?_ ?_
        rotate_left; (intro w'; go_simp; with_reducible rfl); rotate_left; (simp only [Act.put, List.setIfInBounds_toArray, List.set_cons_zero, List.set_cons_succ, i64_w, i32_w]; rfl)
        refine pure_ (i := 8) (N := some 51) (v := ?_) (a' := ?_) (bA 35 511) rfl rfl (any_of HT_.out (by kernel_rfl)) (fun _ _ _ h => h) (Or.inl ⟨by rfl, ?_⟩) ?_ ?_
        rotate_left; (intro w'; go_simp; with_reducible rfl); rotate_left; (simp only [Act.put, List.setIfInBounds_toArray, List.set_cons_zero, List.set_cons_succ, i64_w, i32_w]; rfl)
        refine pure_ (i := 9) (N := some 52) (v := ?_) (a' := ?_) (bA 35 1023) rfl rfl (any_of HT_.out (by kernel_rfl)) (fun _ _ _ h => h) (Or.inl ⟨by rfl, ?_⟩) ?_ ?_
        rotate_left; (intro w'; go_simp; with_reducible rfl); rotate_left; (simp only [Act.put, List.setIfInBounds_toArray, List.set_cons_zero, List.set_cons_succ, i64_w, i32_w]; rfl)
        refine pure_ (i := 10) (N := some 53) (v := ?_) (a' := ?_) (bA 35 2047) rfl rfl (any_of HT_.out (by kernel_rfl)) (fun _ _ _ h => h) (Or.inl ⟨by rfl, ?_⟩) ?_ ?_
        rotate_left; (intro w'; go_simp; with_reducible rfl); rotate_left; (simp only [Act.put, List.setIfInBounds_toArray, List.set_cons_zero, List.set_cons_succ, i64_w, i32_w]; rfl)
        refine pure_ (i := 11) (N := some 54) (v := ?_) (a' := ?_) (bA 35 4095) rfl rfl (any_of HT_.out (by kernel_rfl)) (fun _ _ _ h => h) (Or.inl ⟨by rfl, ?_⟩) ?_ ?_
        rotate_left; (intro w'; go_simp; with_reducible rfl); rotate_left; (simp only [Act.put, List.setIfInBounds_toArray, List.set_cons_zero, List.set_cons_succ, i64_w, i32_w]; rfl)
        refine pure_ (i := 12) (N := some 55) (v := ?_) (a' := ?_) (bA 35 8191) rfl rfl (any_of HT_.out (by kernel_rfl)) (fun _ _ _ h => h) (Or.inl ⟨by rfl, ?_⟩) ?_ ?_
        rotate_left; (intro w'; go_simp; with_reducible rfl); rotate_left; (simp only [Act.put, List.setIfInBounds_toArray, List.set_cons_zero, List.set_cons_succ, i64_w, i32_w]; rfl)
        refine pure_ (i := 13) (N := some 56) (v := ?_) (a' := ?_) (bA 35 16383) rfl rfl (any_of HT_.out (by kernel_rfl)) (fun _ _ _ h => h) (Or.inl ⟨by rfl, ?_⟩) ?_ ?_
        rotate_left; (intro w'; go_simp; with_reducible rfl); rotate_left; (simp only [Act.put, List.setIfInBounds_toArray, List.set_cons_zero, List.set_cons_succ, i64_w, i32_w]; rfl)
        refine pure_ (i := 14) (N := some 57) (v := ?_) (a' := ?_) (bA 35 32767) rfl rfl (any_of HT_.out (by kernel_rfl)) (fun _ _ _ h => h) (Or.inl ⟨by rfl, ?_⟩) ?_ ?_
        rotate_left; (intro w'; go_simp; with_reducible rfl); rotate_left; (simp only [Act.put, List.setIfInBounds_toArray, List.set_cons_zero, List.set_cons_succ, i64_w, i32_w]; rfl)
        refine pure_ (i := 15) (N := some 58) (v := ?_) (a' := ?_) (bA 35 65535) rfl rfl (any_of HT_.out (by kernel_rfl)) (fun _ _ _ h => h) (Or.inl ⟨by rfl, ?_⟩) ?_ ?_
        rotate_left; (intro w'; go_simp; with_reducible rfl); rotate_left; (simp only [Act.put, List.setIfInBounds_toArray, List.set_cons_zero, List.set_cons_succ, i64_w, i32_w]; rfl)
        refine pure_ (i := 17) (N := some 60) (v := ?_) (a' := ?_) (bA 35 196607) rfl rfl (any_of HT_.out (by kernel_rfl)) (fun _ _ _ h => h) (Or.inl ⟨by rfl, ?_⟩) ?_ ?_
        rotate_left; (intro w'; go_simp; with_reducible rfl); rotate_left; (simp only [Act.put, List.setIfInBounds_toArray, List.set_cons_zero, List.set_cons_succ, i64_w, i32_w]; rfl)
        refine take_ (i := 16) (N := some 59) (v := ?_) (a' := ?_) #[true,true,true,true,true,true,true,true,true,true,true,true,true,true,true,true,true,true,false,false,false,false,false,false,false,false,false,false,false,false,false,false,false,false,false] rfl rfl (tkw HT_.out HW_.out (by kernel_rfl)) (fun _ _ _ h => h) (Or.inl ⟨by rfl, ?_⟩) hHeld ?_ ?_
        rotate_left
        · rintro w' ⟨s0, s1, s2, s3, s4, s5, s6, s7, s8, s9, s10, s11, s12, s13, s14, s15, s16, s17, s18, s19, s20, s21, s22, s23⟩
          go_simp
          with_reducible rfl
        rotate_left; (simp only [Act.put, List.setIfInBounds_toArray, List.set_cons_zero, List.set_cons_succ, i64_w, i32_w]; rfl)
        refine take_ (i := 18) (N := some 61) (v := ?_) (a' := ?_) #[true,true,true,true,true,true,true,true,true,true,true,true,true,true,true,true,true,true,true,false,false,false,false,false,false,false,false,false,false,false,false,false,false,false,false] rfl rfl (tkw HT_.out HW_.out (by kernel_rfl)) (fun _ _ _ h => h) (Or.inl ⟨by rfl, ?_⟩) hHeld ?_ ?_
        rotate_left
        · rintro w' ⟨s0, s1, s2, s3, s4, s5, s6, s7, s8, s9, s10, s11, s12, s13, s14, s15, s16, s17, s18, s19, s20, s21, s22, s23⟩
          go_simp
          with_reducible rfl
        rotate_left; (simp only [Act.put, List.setIfInBounds_toArray, List.set_cons_zero, List.set_cons_succ, i64_w, i32_w]; rfl)
        refine pure_ (i := 19) (N := some 62) (v := ?_) (a' := ?_) (bA 35 1048575) rfl rfl (any_of HT_.out (by kernel_rfl)) (fun _ _ _ h => h) (Or.inl ⟨by rfl, ?_⟩) ?_ ?_
        rotate_left; (intro w'; go_simp; with_reducible rfl); rotate_left; (simp only [Act.put, List.setIfInBounds_toArray, List.set_cons_zero, List.set_cons_succ, i64_w, i32_w]; rfl)
        refine pure_ (i := 20) (N := some 63) (v := ?_) (a' := ?_) (bA 35 2097151) rfl rfl (any_of HT_.out (by kernel_rfl)) (fun _ _ _ h => h) (Or.inl ⟨by rfl, ?_⟩) ?_ ?_
        rotate_left; (intro w'; go_simp; with_reducible rfl); rotate_left; (simp only [Act.put, List.setIfInBounds_toArray, List.set_cons_zero, List.set_cons_succ, i64_w, i32_w]; rfl)
        refine pure_ (i := 21) (N := some 64) (v := ?_) (a' := ?_) (bA 35 4194303) rfl rfl (any_of HT_.out (by kernel_rfl)) (fun _ _ _ h => h) (Or.inl ⟨by rfl, ?_⟩) ?_ ?_
        rotate_left; (intro w'; go_simp; with_reducible rfl); rotate_left; (simp only [Act.put, List.setIfInBounds_toArray, List.set_cons_zero, List.set_cons_succ, i64_w, i32_w]; rfl)
        refine pure_ (i := 22) (N := some 65) (v := undef) (a' := ?_) (bA 35 8388607) rfl rfl (any_of HT_.out (by kernel_rfl)) (fun _ _ _ h => h) (Or.inr ⟨by rfl, rfl⟩) ?_ ?_
        rotate_left; (simp only [Act.put, List.setIfInBounds_toArray, List.set_cons_zero, List.set_cons_succ, i64_w, i32_w]; rfl)
        refine pure_ (i := 23) (N := some 66) (v := undef) (a' := ?_) (bA 35 16777215) rfl rfl (any_of HT_.out (by kernel_rfl)) (fun _ _ _ h => h) (Or.inr ⟨by rfl, rfl⟩) ?_ ?_
        rotate_left; (simp only [Act.put, List.setIfInBounds_toArray, List.set_cons_zero, List.set_cons_succ, i64_w, i32_w]; rfl)
        refine pure_ (i := 24) (N := some 67) (v := undef) (a' := ?_) (bA 35 33554431) rfl rfl (any_of HT_.out (by kernel_rfl)) (fun _ _ _ h => h) (Or.inr ⟨by rfl, rfl⟩) ?_ ?_
        rotate_left; (simp only [Act.put, List.setIfInBounds_toArray, List.set_cons_zero, List.set_cons_succ, i64_w, i32_w]; rfl)
        refine pure_ (i := 25) (N := some 68) (v := undef) (a' := ?_) (bA 35 67108863) rfl rfl (any_of HT_.out (by kernel_rfl)) (fun _ _ _ h => h) (Or.inr ⟨by rfl, rfl⟩) ?_ ?_
        rotate_left; (simp only [Act.put, List.setIfInBounds_toArray, List.set_cons_zero, List.set_cons_succ, i64_w, i32_w]; rfl)
        refine pure_ (i := 26) (N := some 69) (v := undef) (a' := ?_) (bA 35 134217727) rfl rfl (any_of HT_.out (by kernel_rfl)) (fun _ _ _ h => h) (Or.inr ⟨by rfl, rfl⟩) ?_ ?_
        rotate_left; (simp only [Act.put, List.setIfInBounds_toArray, List.set_cons_zero, List.set_cons_succ, i64_w, i32_w]; rfl)
        refine pure_ (i := 27) (N := some 70) (v := ?_) (a' := ?_) (bA 35 268435455) rfl rfl (any_of HT_.out (by kernel_rfl)) (fun _ _ _ h => h) (Or.inl ⟨by rfl, ?_⟩) ?_ ?_
        rotate_left; (intro w'; go_simp; with_reducible rfl); rotate_left; (simp only [Act.put, List.setIfInBounds_toArray, List.set_cons_zero, List.set_cons_succ, i64_w, i32_w]; rfl)
        refine pure_ (i := 28) (N := some 71) (v := ?_) (a' := ?_) (bA 35 536870911) rfl rfl (any_of HT_.out (by kernel_rfl)) (fun _ _ _ h => h) (Or.inl ⟨by rfl, ?_⟩) ?_ ?_
        rotate_left; (intro w'; go_simp; with_reducible rfl); rotate_left; (simp only [Act.put, List.setIfInBounds_toArray, List.set_cons_zero, List.set_cons_succ, i64_w, i32_w]; rfl)
        refine pure_ (i := 29) (N := some 72) (v := undef) (a' := ?_) (bA 35 1073741823) rfl rfl (any_of HT_.out (by kernel_rfl)) (fun _ _ _ h => h) (Or.inr ⟨by rfl, rfl⟩) ?_ ?_
        rotate_left; (simp only [Act.put, List.setIfInBounds_toArray, List.set_cons_zero, List.set_cons_succ, i64_w, i32_w]; rfl)
        refine pure_ (i := 30) (N := some 73) (v := undef) (a' := ?_) (bA 35 2147483647) rfl rfl (any_of HT_.out (by kernel_rfl)) (fun _ _ _ h => h) (Or.inr ⟨by rfl, rfl⟩) ?_ ?_
        rotate_left; (simp only [Act.put, List.setIfInBounds_toArray, List.set_cons_zero, List.set_cons_succ, i64_w, i32_w]; rfl)
        refine pure_ (i := 31) (N := some 74) (v := undef) (a' := ?_) (bA 35 4294967295) rfl rfl (any_of HT_.out (by kernel_rfl)) (fun _ _ _ h => h) (Or.inr ⟨by rfl, rfl⟩) ?_ ?_
        rotate_left; (simp only [Act.put, List.setIfInBounds_toArray, List.set_cons_zero, List.set_cons_succ, i64_w, i32_w]; rfl)
        refine pure_ (i := 32) (N := some 75) (v := undef) (a' := ?_) (bA 35 8589934591) rfl rfl (any_of HT_.out (by kernel_rfl)) (fun _ _ _ h => h) (Or.inr ⟨by rfl, rfl⟩) ?_ ?_
        rotate_left; (simp only [Act.put, List.setIfInBounds_toArray, List.set_cons_zero, List.set_cons_succ, i64_w, i32_w]; rfl)
        refine pure_ (i := 33) (N := some 76) (v := undef) (a' := ?_) (bA 35 17179869183) rfl rfl (any_of HT_.out (by kernel_rfl)) (fun _ _ _ h => h) (Or.inr ⟨by rfl, rfl⟩) ?_ ?_
        rotate_left; (simp only [Act.put, List.setIfInBounds_toArray, List.set_cons_zero, List.set_cons_succ, i64_w, i32_w]; rfl)
        refine pure_ (i := 34) (N := some 77) (v := ?_) (a' := ?_) (bA 35 34359738367) rfl rfl (any_of HT_.out (by kernel_rfl)) (fun _ _ _ h => h) (Or.inl ⟨by rfl, ?_⟩) ?_ ?_
        rotate_left; (intro w'; go_simp; with_reducible rfl); rotate_left; (simp only [Act.put, List.setIfInBounds_toArray, List.set_cons_zero, List.set_cons_succ, i64_w, i32_w]; rfl)
        refine done_ (done_of HT_.out (by kernel_rfl)) ?_
        try go_wp2
        go_meet
        case rel => exact ⟨_, (true), (by first | rfl | (simp; done) | (simp [*]; done) | exact emp1_ _ | exact (emp1_ _).symm | exact emp2_ _ | exact (emp2_ _).symm), H', ⟨by have := HJ3.out; first | omega | exact Nat.le_refl _⟩, ⟨bk_⟩, ⟨bk_⟩, ⟨bk_⟩, ⟨bk_⟩, ⟨bl_⟩⟩
      rw [if_pos c44] at H
      have c44b0 : (t488 == t495) = true := beq_iff_eq.mpr c44
      have c44b1 : (t488 != t495) = false := bne_eq_false_iff_eq.mpr c44
      clear c44
      by_cases c45 : t489 = t496
      rotate_left
      · rw [if_neg c45] at H
        have c45b0 : (t489 == t496) = false := beq_eq_false_iff_ne.mpr c45
        have c45b1 : (t489 != t496) = true := bne_iff_ne.mpr c45
        have H' := Aside0.mk H
        clear H
        try go_wp2
        have n0_ : Aside0 ((((((w32.setCell ⟨gb501, 0, none⟩ (.int .i64 t495)).setCell ⟨gb501, 1, none⟩ (.int .i64 t496)).setCell ⟨gb501, 2, none⟩ (.int .i64 t497)).setCell ⟨gb501, 3, none⟩ (.string t498)).setCell ⟨gb501, 4, none⟩ (.int .i64 t499)).heap[gb478]? = some (.cells #[.int .i64 t470, .int .i64 t471, .string t472, .int .i64 t473, .string t474, .string t475, .int .i64 t476] 26 (0, 0))) := ⟨bk_⟩
        have n1_ : Aside0 ((((((w32.setCell ⟨gb501, 0, none⟩ (.int .i64 t495)).setCell ⟨gb501, 1, none⟩ (.int .i64 t496)).setCell ⟨gb501, 2, none⟩ (.int .i64 t497)).setCell ⟨gb501, 3, none⟩ (.string t498)).setCell ⟨gb501, 4, none⟩ (.int .i64 t499)).heap[gb487]? = some (.cells #[.int .i64 t479, .int .i64 t480, .string t481, .int .i64 t482, .string t483, .string t484, .int .i64 t485] 36 (0, 0))) := ⟨bk_⟩
        have n2_ : Aside0 ((((((w32.setCell ⟨gb501, 0, none⟩ (.int .i64 t495)).setCell ⟨gb501, 1, none⟩ (.int .i64 t496)).setCell ⟨gb501, 2, none⟩ (.int .i64 t497)).setCell ⟨gb501, 3, none⟩ (.string t498)).setCell ⟨gb501, 4, none⟩ (.int .i64 t499)).heap[gb494]? = some (.cells #[.int .i64 t488, .int .i64 t489, .int .i64 t490, .string t491, .int .i64 t492] 53 (0, 0))) := ⟨bk_⟩
        have n3_ : Aside0 ((((((w32.setCell ⟨gb501, 0, none⟩ (.int .i64 t495)).setCell ⟨gb501, 1, none⟩ (.int .i64 t496)).setCell ⟨gb501, 2, none⟩ (.int .i64 t497)).setCell ⟨gb501, 3, none⟩ (.string t498)).setCell ⟨gb501, 4, none⟩ (.int .i64 t499)).heap[gb501]? = some (.cells #[.int .i64 t495, .int .i64 t496, .int .i64 t497, .string t498, .int .i64 t499] 58 (0, 0))) := ⟨bk_⟩
        have n4_ : Aside0 (Below w.heap.size w (((((w32.setCell ⟨gb501, 0, none⟩ (.int .i64 t495)).setCell ⟨gb501, 1, none⟩ (.int .i64 t496)).setCell ⟨gb501, 2, none⟩ (.int .i64 t497)).setCell ⟨gb501, 3, none⟩ (.string t498)).setCell ⟨gb501, 4, none⟩ (.int .i64 t499))) := ⟨bl_⟩
        (try clear BK478)
        (try clear BK487)
        (try clear BK494)
        (try clear BK501)
        (try clear HB)
        generalize (((((w32.setCell ⟨gb501, 0, none⟩ (.int .i64 t495)).setCell ⟨gb501, 1, none⟩ (.int .i64 t496)).setCell ⟨gb501, 2, none⟩ (.int .i64 t497)).setCell ⟨gb501, 3, none⟩ (.string t498)).setCell ⟨gb501, 4, none⟩ (.int .i64 t499)) = w49 at n0_ n1_ n2_ n3_ n4_ ⊢
        have BK478 := n0_
        have BK487 := n1_
        have BK494 := n2_
        have BK501 := n3_
        have HB := n4_
        clear n0_ n1_ n2_ n3_ n4_
        have n0_ := Aside0.mk (kdw BK478.out)
        have n1_ := Aside0.mk (kdw BK487.out)
        have n2_ := Aside0.mk (kdw BK494.out)
        have n3_ := Aside0.mk (kdw BK501.out)
        have n4_ := Aside0.mk (bd1 HB.out)
        clear BK478
        clear BK487
        clear BK494
        clear BK501
        clear HB
        have BK478 := n0_
        have BK487 := n1_
        have BK494 := n2_
        have BK501 := n3_
        have HB := n4_
        clear n0_ n1_ n2_ n3_ n4_
        refine start_ (n := 35) (S := fun w' => w'.cell? ⟨gb478, 0, none⟩ = some (.int .i64 t470) ∧ w'.cell? ⟨gb478, 1, none⟩ = some (.int .i64 t471) ∧ w'.cell? ⟨gb478, 2, none⟩ = some (.string t472) ∧ w'.cell? ⟨gb478, 3, none⟩ = some (.int .i64 t473) ∧ w'.cell? ⟨gb478, 4, none⟩ = some (.string t474) ∧ w'.cell? ⟨gb478, 5, none⟩ = some (.string t475) ∧ w'.cell? ⟨gb478, 6, none⟩ = some (.int .i64 t476) ∧ w'.cell? ⟨gb487, 0, none⟩ = some (.int .i64 t479) ∧ w'.cell? ⟨gb487, 1, none⟩ = some (.int .i64 t480) ∧ w'.cell? ⟨gb487, 2, none⟩ = some (.string t481) ∧ w'.cell? ⟨gb487, 3, none⟩ = some (.int .i64 t482) ∧ w'.cell? ⟨gb487, 4, none⟩ = some (.string t483) ∧ w'.cell? ⟨gb487, 5, none⟩ = some (.string t484) ∧ w'.cell? ⟨gb487, 6, none⟩ = some (.int .i64 t485) ∧ w'.cell? ⟨gb494, 0, none⟩ = some (.int .i64 t488) ∧ w'.cell? ⟨gb494, 1, none⟩ = some (.int .i64 t489) ∧ w'.cell? ⟨gb494, 2, none⟩ = some (.int .i64 t490) ∧ w'.cell? ⟨gb494, 3, none⟩ = some (.string t491) ∧ w'.cell? ⟨gb494, 4, none⟩ = some (.int .i64 t492) ∧ w'.cell? ⟨gb501, 0, none⟩ = some (.int .i64 t495) ∧ w'.cell? ⟨gb501, 1, none⟩ = some (.int .i64 t496) ∧ w'.cell? ⟨gb501, 2, none⟩ = some (.int .i64 t497) ∧ w'.cell? ⟨gb501, 3, none⟩ = some (.string t498) ∧ w'.cell? ⟨gb501, 4, none⟩ = some (.int .i64 t499)) (ds := []) #[false,false,false,false,false,false,false,false,false,false,false,false,false,false,false,false,false,false,false,false,false,false,false,false,false,false,false,false,false,false,false,false,false,false,false] (by kernel_rfl) rfl rfl ⟨(kcl BK478.out 0).trans rfl, (kcl BK478.out 1).trans rfl, (kcl BK478.out 2).trans rfl, (kcl BK478.out 3).trans rfl, (kcl BK478.out 4).trans rfl, (kcl BK478.out 5).trans rfl, (kcl BK478.out 6).trans rfl, (kcl BK487.out 0).trans rfl, (kcl BK487.out 1).trans rfl, (kcl BK487.out 2).trans rfl, (kcl BK487.out 3).trans rfl, (kcl BK487.out 4).trans rfl, (kcl BK487.out 5).trans rfl, (kcl BK487.out 6).trans rfl, (kcl BK494.out 0).trans rfl, (kcl BK494.out 1).trans rfl, (kcl BK494.out 2).trans rfl, (kcl BK494.out 3).trans rfl, (kcl BK494.out 4).trans rfl, (kcl BK501.out 0).trans rfl, (kcl BK501.out 1).trans rfl, (kcl BK501.out 2).trans rfl, (kcl BK501.out 3).trans rfl, (kcl BK501.out 4).trans rfl⟩ (fun hHeld => ?_); refine with_tabW armoirelaw24_FrameReads.tab10 armoirelaw24_FrameReads.bits10 (fun HT_ HW_ => ?_)
        generalize w49.drew = w50 at BK478 BK487 BK494 BK501 HB hHeld ⊢
        refine pure_ (i := 0) (N := some 43) (v := ?_) (a' := ?_) (bA 35 1) rfl rfl (any_of HT_.out (by kernel_rfl)) (fun _ _ _ h => h) (Or.inl ⟨by rfl, ?_⟩) ?_ ?_
        rotate_left; (intro w'; go_simp; with_reducible rfl); rotate_left; (simp only [Act.put, List.setIfInBounds_toArray, List.set_cons_zero, List.set_cons_succ, i64_w, i32_w]; rfl)
        refine pure_ (i := 1) (N := some 44) (v := ?_) (a' := ?_) (bA 35 3) rfl rfl (any_of HT_.out (by kernel_rfl)) (fun _ _ _ h => h) (Or.inl ⟨by rfl, ?_⟩) ?_ ?_
        rotate_left; (intro w'; go_simp; with_reducible rfl); rotate_left; (simp only [Act.put, List.setIfInBounds_toArray, List.set_cons_zero, List.set_cons_succ, i64_w, i32_w]; rfl)
        refine pure_ (i := 2) (N := some 45) (v := ?_) (a' := ?_) (bA 35 7) rfl rfl (any_of HT_.out (by kernel_rfl)) (fun _ _ _ h => h) (Or.inl ⟨by rfl, ?_⟩) ?_ ?_
        rotate_left; (intro w'; go_simp; with_reducible rfl); rotate_left; (simp only [Act.put, List.setIfInBounds_toArray, List.set_cons_zero, List.set_cons_succ, i64_w, i32_w]; rfl)
        refine pure_ (i := 3) (N := some 46) (v := ?_) (a' := ?_) (bA 35 15) rfl rfl (any_of HT_.out (by kernel_rfl)) (fun _ _ _ h => h) (Or.inl ⟨by rfl, ?_⟩) ?_ ?_
        rotate_left; (intro w'; go_simp; with_reducible rfl); rotate_left; (simp only [Act.put, List.setIfInBounds_toArray, List.set_cons_zero, List.set_cons_succ, i64_w, i32_w]; rfl)
        refine take_ (i := 4) (N := some 47) (v := ?_) (a' := ?_) #[true,true,true,true,true,false,false,false,false,false,false,false,false,false,false,false,false,false,false,false,false,false,false,false,false,false,false,false,false,false,false,false,false,false,false] rfl rfl (tkw HT_.out HW_.out (by kernel_rfl)) (fun _ _ _ h => h) (Or.inl ⟨by rfl, ?_⟩) hHeld ?_ ?_
        rotate_left
        · rintro w' ⟨s0, s1, s2, s3, s4, s5, s6, s7, s8, s9, s10, s11, s12, s13, s14, s15, s16, s17, s18, s19, s20, s21, s22, s23⟩
          go_simp
          with_reducible rfl
        rotate_left; (simp only [Act.put, List.setIfInBounds_toArray, List.set_cons_zero, List.set_cons_succ, i64_w, i32_w]; rfl)
        refine take_ (i := 6) (N := some 49) (v := ?_) (a' := ?_) #[true,true,true,true,true,false,true,false,false,false,false,false,false,false,false,false,false,false,false,false,false,false,false,false,false,false,false,false,false,false,false,false,false,false,false] rfl rfl (tkw HT_.out HW_.out (by kernel_rfl)) (fun _ _ _ h => h) (Or.inl ⟨by rfl, ?_⟩) hHeld ?_ ?_
        rotate_left
        · rintro w' ⟨s0, s1, s2, s3, s4, s5, s6, s7, s8, s9, s10, s11, s12, s13, s14, s15, s16, s17, s18, s19, s20, s21, s22, s23⟩
          go_simp
          with_reducible rfl
        rotate_left; (simp only [Act.put, List.setIfInBounds_toArray, List.set_cons_zero, List.set_cons_succ, i64_w, i32_w]; rfl)
        refine one_ (i := 5) (N := some 48) #[true,true,true,true,true,true,true,false,false,false,false,false,false,false,false,false,false,false,false,false,false,false,false,false,false,false,false,false,false,false,false,false,false,false,false] rfl rfl (one_of HT_.out (by kernel_rfl)) (by decide) (fun K hK => ?_)
        refine goes_ Try.func12 (by kernel_rfl) rfl #[.agg #[.int .i64 t470, .int .i64 t471, .string t472, .int .i64 t473, .string t474, .string t475, .int .i64 t476]] (by rfl) rfl rfl (by (try simp only [List.map_toArray, List.map_cons, List.map_nil]); first | done | rfl | (simp only [List.length_drop, List.length_take]; rfl) | (simp only [Act.eval, Array.getD_eq_getD_getElem?, Option.getD_some, *]; done) | (simp only [Array.mk.injEq, List.cons.injEq, Value.int.injEq, true_and, and_true]; first | omega | (simp [IntKind.wrap, IntKind.bits, IntKind.signed]; omega))) ?_
        with_reducible refine (armoirelaw24_Told.calls t470 t471 t472 t473 t474 t475 t476 t502 t503 t504 t505 t506 t507 t508 _ A38.out).mono ?_
        rintro e w51 ⟨rfl, hb⟩
        refine ⟨_, rfl, ?_⟩
        have n0_ := Aside0.mk (kbl (g := gb478) (o := .cells #[.int .i64 t470, .int .i64 t471, .string t472, .int .i64 t473, .string t474, .string t475, .int .i64 t476] 26 (0, 0)) bk_ hb)
        have n1_ := Aside0.mk (kbl (g := gb487) (o := .cells #[.int .i64 t479, .int .i64 t480, .string t481, .int .i64 t482, .string t483, .string t484, .int .i64 t485] 36 (0, 0)) bk_ hb)
        have n2_ := Aside0.mk (kbl (g := gb494) (o := .cells #[.int .i64 t488, .int .i64 t489, .int .i64 t490, .string t491, .int .i64 t492] 53 (0, 0)) bk_ hb)
        have n3_ := Aside0.mk (kbl (g := gb501) (o := .cells #[.int .i64 t495, .int .i64 t496, .int .i64 t497, .string t498, .int .i64 t499] 58 (0, 0)) bk_ hb)
        have n4_ := Aside0.mk (bsp bl_ hb)
        clear BK478
        clear BK487
        clear BK494
        clear BK501
        clear HB
        have BK478 := n0_
        have BK487 := n1_
        have BK494 := n2_
        have BK501 := n3_
        have HB := n4_
        clear n0_ n1_ n2_ n3_ n4_
        (try clear hb)
        (try clear hb2)
        (try clear hk)
        (try clear hi)
        refine hK.out _ _ ⟨(kcl BK478.out 0).trans rfl, (kcl BK478.out 1).trans rfl, (kcl BK478.out 2).trans rfl, (kcl BK478.out 3).trans rfl, (kcl BK478.out 4).trans rfl, (kcl BK478.out 5).trans rfl, (kcl BK478.out 6).trans rfl, (kcl BK487.out 0).trans rfl, (kcl BK487.out 1).trans rfl, (kcl BK487.out 2).trans rfl, (kcl BK487.out 3).trans rfl, (kcl BK487.out 4).trans rfl, (kcl BK487.out 5).trans rfl, (kcl BK487.out 6).trans rfl, (kcl BK494.out 0).trans rfl, (kcl BK494.out 1).trans rfl, (kcl BK494.out 2).trans rfl, (kcl BK494.out 3).trans rfl, (kcl BK494.out 4).trans rfl, (kcl BK501.out 0).trans rfl, (kcl BK501.out 1).trans rfl, (kcl BK501.out 2).trans rfl, (kcl BK501.out 3).trans rfl, (kcl BK501.out 4).trans rfl⟩ (fun hHeld => ?_)
        clear hK K
        refine norm_ (a' := ?_) ?_ ?_
        rotate_left
        · show Act.put _ (some 48) _ = _
          simp only [Act.put, List.setIfInBounds_toArray, List.set_cons_zero, List.set_cons_succ, i64_w, i32_w]
          rfl
        refine pure_ (i := 7) (N := some 50) (v := ?_) (a' := ?_) (bA 35 255) rfl rfl (any_of HT_.out (by kernel_rfl)) (fun _ _ _ h => h) (Or.inl ⟨by rfl, ?_⟩) ?_ ?_
        rotate_left; (intro w'; go_simp; with_reducible rfl); rotate_left; (simp only [Act.put, List.setIfInBounds_toArray, List.set_cons_zero, List.set_cons_succ, i64_w, i32_w]; rfl)
        refine pure_ (i := 8) (N := some 51) (v := ?_) (a' := ?_) (bA 35 511) rfl rfl (any_of HT_.out (by kernel_rfl)) (fun _ _ _ h => h) (Or.inl ⟨by rfl, ?_⟩) ?_ ?_
        rotate_left; (intro w'; go_simp; with_reducible rfl); rotate_left; (simp only [Act.put, List.setIfInBounds_toArray, List.set_cons_zero, List.set_cons_succ, i64_w, i32_w]; rfl)
        refine pure_ (i := 9) (N := some 52) (v := ?_) (a' := ?_) (bA 35 1023) rfl rfl (any_of HT_.out (by kernel_rfl)) (fun _ _ _ h => h) (Or.inl ⟨by rfl, ?_⟩) ?_ ?_
        rotate_left; (intro w'; go_simp; with_reducible rfl); rotate_left; (simp only [Act.put, List.setIfInBounds_toArray, List.set_cons_zero, List.set_cons_succ, i64_w, i32_w]; rfl)
        refine pure_ (i := 10) (N := some 53) (v := ?_) (a' := ?_) (bA 35 2047) rfl rfl (any_of HT_.out (by kernel_rfl)) (fun _ _ _ h => h) (Or.inl ⟨by rfl, ?_⟩) ?_ ?_
        rotate_left; (intro w'; go_simp; with_reducible rfl); rotate_left; (simp only [Act.put, List.setIfInBounds_toArray, List.set_cons_zero, List.set_cons_succ, i64_w, i32_w]; rfl)
        refine pure_ (i := 11) (N := some 54) (v := ?_) (a' := ?_) (bA 35 4095) rfl rfl (any_of HT_.out (by kernel_rfl)) (fun _ _ _ h => h) (Or.inl ⟨by rfl, ?_⟩) ?_ ?_
        rotate_left; (intro w'; go_simp; with_reducible rfl); rotate_left; (simp only [Act.put, List.setIfInBounds_toArray, List.set_cons_zero, List.set_cons_succ, i64_w, i32_w]; rfl)
        refine pure_ (i := 12) (N := some 55) (v := ?_) (a' := ?_) (bA 35 8191) rfl rfl (any_of HT_.out (by kernel_rfl)) (fun _ _ _ h => h) (Or.inl ⟨by rfl, ?_⟩) ?_ ?_
        rotate_left; (intro w'; go_simp; with_reducible rfl); rotate_left; (simp only [Act.put, List.setIfInBounds_toArray, List.set_cons_zero, List.set_cons_succ, i64_w, i32_w]; rfl)
        refine pure_ (i := 13) (N := some 56) (v := ?_) (a' := ?_) (bA 35 16383) rfl rfl (any_of HT_.out (by kernel_rfl)) (fun _ _ _ h => h) (Or.inl ⟨by rfl, ?_⟩) ?_ ?_
        rotate_left; (intro w'; go_simp; with_reducible rfl); rotate_left; (simp only [Act.put, List.setIfInBounds_toArray, List.set_cons_zero, List.set_cons_succ, i64_w, i32_w]; rfl)
        refine pure_ (i := 14) (N := some 57) (v := ?_) (a' := ?_) (bA 35 32767) rfl rfl (any_of HT_.out (by kernel_rfl)) (fun _ _ _ h => h) (Or.inl ⟨by rfl, ?_⟩) ?_ ?_
        rotate_left; (intro w'; go_simp; with_reducible rfl); rotate_left; (simp only [Act.put, List.setIfInBounds_toArray, List.set_cons_zero, List.set_cons_succ, i64_w, i32_w]; rfl)
        refine pure_ (i := 15) (N := some 58) (v := ?_) (a' := ?_) (bA 35 65535) rfl rfl (any_of HT_.out (by kernel_rfl)) (fun _ _ _ h => h) (Or.inl ⟨by rfl, ?_⟩) ?_ ?_
        rotate_left; (intro w'; go_simp; with_reducible rfl); rotate_left; (simp only [Act.put, List.setIfInBounds_toArray, List.set_cons_zero, List.set_cons_succ, i64_w, i32_w]; rfl)
        refine pure_ (i := 17) (N := some 60) (v := ?_) (a' := ?_) (bA 35 196607) rfl rfl (any_of HT_.out (by kernel_rfl)) (fun _ _ _ h => h) (Or.inl ⟨by rfl, ?_⟩) ?_ ?_
        rotate_left; (intro w'; go_simp; with_reducible rfl); rotate_left; (simp only [Act.put, List.setIfInBounds_toArray, List.set_cons_zero, List.set_cons_succ, i64_w, i32_w]; rfl)
        refine take_ (i := 16) (N := some 59) (v := ?_) (a' := ?_) #[true,true,true,true,true,true,true,true,true,true,true,true,true,true,true,true,true,true,false,false,false,false,false,false,false,false,false,false,false,false,false,false,false,false,false] rfl rfl (tkw HT_.out HW_.out (by kernel_rfl)) (fun _ _ _ h => h) (Or.inl ⟨by rfl, ?_⟩) hHeld ?_ ?_
        rotate_left
        · rintro w' ⟨s0, s1, s2, s3, s4, s5, s6, s7, s8, s9, s10, s11, s12, s13, s14, s15, s16, s17, s18, s19, s20, s21, s22, s23⟩
          go_simp
          with_reducible rfl
        rotate_left; (simp only [Act.put, List.setIfInBounds_toArray, List.set_cons_zero, List.set_cons_succ, i64_w, i32_w]; rfl)
        refine take_ (i := 18) (N := some 61) (v := ?_) (a' := ?_) #[true,true,true,true,true,true,true,true,true,true,true,true,true,true,true,true,true,true,true,false,false,false,false,false,false,false,false,false,false,false,false,false,false,false,false] rfl rfl (tkw HT_.out HW_.out (by kernel_rfl)) (fun _ _ _ h => h) (Or.inl ⟨by rfl, ?_⟩) hHeld ?_ ?_
        rotate_left
        · rintro w' ⟨s0, s1, s2, s3, s4, s5, s6, s7, s8, s9, s10, s11, s12, s13, s14, s15, s16, s17, s18, s19, s20, s21, s22, s23⟩
          go_simp
          with_reducible rfl
        rotate_left; (simp only [Act.put, List.setIfInBounds_toArray, List.set_cons_zero, List.set_cons_succ, i64_w, i32_w]; rfl)
        refine pure_ (i := 19) (N := some 62) (v := ?_) (a' := ?_) (bA 35 1048575) rfl rfl (any_of HT_.out (by kernel_rfl)) (fun _ _ _ h => h) (Or.inl ⟨by rfl, ?_⟩) ?_ ?_
        rotate_left; (intro w'; go_simp; with_reducible rfl); rotate_left; (simp only [Act.put, List.setIfInBounds_toArray, List.set_cons_zero, List.set_cons_succ, i64_w, i32_w]; rfl)
        refine pure_ (i := 20) (N := some 63) (v := ?_) (a' := ?_) (bA 35 2097151) rfl rfl (any_of HT_.out (by kernel_rfl)) (fun _ _ _ h => h) (Or.inl ⟨by rfl, ?_⟩) ?_ ?_
        rotate_left; (intro w'; go_simp; with_reducible rfl); rotate_left; (simp only [Act.put, List.setIfInBounds_toArray, List.set_cons_zero, List.set_cons_succ, i64_w, i32_w]; rfl)
        refine pure_ (i := 21) (N := some 64) (v := ?_) (a' := ?_) (bA 35 4194303) rfl rfl (any_of HT_.out (by kernel_rfl)) (fun _ _ _ h => h) (Or.inl ⟨by rfl, ?_⟩) ?_ ?_
        rotate_left; (intro w'; go_simp; with_reducible rfl); rotate_left; (simp only [Act.put, List.setIfInBounds_toArray, List.set_cons_zero, List.set_cons_succ, i64_w, i32_w]; rfl)
        refine pure_ (i := 22) (N := some 65) (v := ?_) (a' := ?_) (bA 35 8388607) rfl rfl (any_of HT_.out (by kernel_rfl)) (fun _ _ _ h => h) (Or.inl ⟨by rfl, ?_⟩) ?_ ?_
        rotate_left; (intro w'; go_simp; with_reducible rfl); rotate_left; (simp only [Act.put, List.setIfInBounds_toArray, List.set_cons_zero, List.set_cons_succ, i64_w, i32_w]; rfl)
        refine pure_ (i := 24) (N := some 67) (v := ?_) (a' := ?_) (bA 35 25165823) rfl rfl (any_of HT_.out (by kernel_rfl)) (fun _ _ _ h => h) (Or.inl ⟨by rfl, ?_⟩) ?_ ?_
        rotate_left; (intro w'; go_simp; with_reducible rfl); rotate_left; (simp only [Act.put, List.setIfInBounds_toArray, List.set_cons_zero, List.set_cons_succ, i64_w, i32_w]; rfl)
        refine take_ (i := 23) (N := some 66) (v := ?_) (a' := ?_) #[true,true,true,true,true,true,true,true,true,true,true,true,true,true,true,true,true,true,true,true,true,true,true,true,true,false,false,false,false,false,false,false,false,false,false] rfl rfl (tkw HT_.out HW_.out (by kernel_rfl)) (fun _ _ _ h => h) (Or.inl ⟨by rfl, ?_⟩) hHeld ?_ ?_
        rotate_left
        · rintro w' ⟨s0, s1, s2, s3, s4, s5, s6, s7, s8, s9, s10, s11, s12, s13, s14, s15, s16, s17, s18, s19, s20, s21, s22, s23⟩
          go_simp
          with_reducible rfl
        rotate_left; (simp only [Act.put, List.setIfInBounds_toArray, List.set_cons_zero, List.set_cons_succ, i64_w, i32_w]; rfl)
        refine take_ (i := 25) (N := some 68) (v := ?_) (a' := ?_) #[true,true,true,true,true,true,true,true,true,true,true,true,true,true,true,true,true,true,true,true,true,true,true,true,true,true,false,false,false,false,false,false,false,false,false] rfl rfl (tkw HT_.out HW_.out (by kernel_rfl)) (fun _ _ _ h => h) (Or.inl ⟨by rfl, ?_⟩) hHeld ?_ ?_
        rotate_left
        · rintro w' ⟨s0, s1, s2, s3, s4, s5, s6, s7, s8, s9, s10, s11, s12, s13, s14, s15, s16, s17, s18, s19, s20, s21, s22, s23⟩
          go_simp
          with_reducible rfl
        rotate_left; (simp only [Act.put, List.setIfInBounds_toArray, List.set_cons_zero, List.set_cons_succ, i64_w, i32_w]; rfl)
        refine pure_ (i := 26) (N := some 69) (v := ?_) (a' := ?_) (bA 35 134217727) rfl rfl (any_of HT_.out (by kernel_rfl)) (fun _ _ _ h => h) (Or.inl ⟨by rfl, ?_⟩) ?_ ?_
        rotate_left; (intro w'; go_simp; with_reducible rfl); rotate_left; (simp only [Act.put, List.setIfInBounds_toArray, List.set_cons_zero, List.set_cons_succ, i64_w, i32_w]; rfl)
        refine pure_ (i := 27) (N := some 70) (v := ?_) (a' := ?_) (bA 35 268435455) rfl rfl (any_of HT_.out (by kernel_rfl)) (fun _ _ _ h => h) (Or.inl ⟨by rfl, ?_⟩) ?_ ?_
        rotate_left; (intro w'; go_simp; with_reducible rfl); rotate_left; (simp only [Act.put, List.setIfInBounds_toArray, List.set_cons_zero, List.set_cons_succ, i64_w, i32_w]; rfl)
        refine pure_ (i := 28) (N := some 71) (v := ?_) (a' := ?_) (bA 35 536870911) rfl rfl (any_of HT_.out (by kernel_rfl)) (fun _ _ _ h => h) (Or.inl ⟨by rfl, ?_⟩) ?_ ?_
        rotate_left; (intro w'; go_simp; with_reducible rfl); rotate_left; (simp only [Act.put, List.setIfInBounds_toArray, List.set_cons_zero, List.set_cons_succ, i64_w, i32_w]; rfl)
        refine pure_ (i := 29) (N := some 72) (v := undef) (a' := ?_) (bA 35 1073741823) rfl rfl (any_of HT_.out (by kernel_rfl)) (fun _ _ _ h => h) (Or.inr ⟨by rfl, rfl⟩) ?_ ?_
        rotate_left; (simp only [Act.put, List.setIfInBounds_toArray, List.set_cons_zero, List.set_cons_succ, i64_w, i32_w]; rfl)
        refine pure_ (i := 30) (N := some 73) (v := undef) (a' := ?_) (bA 35 2147483647) rfl rfl (any_of HT_.out (by kernel_rfl)) (fun _ _ _ h => h) (Or.inr ⟨by rfl, rfl⟩) ?_ ?_
        rotate_left; (simp only [Act.put, List.setIfInBounds_toArray, List.set_cons_zero, List.set_cons_succ, i64_w, i32_w]; rfl)
        refine pure_ (i := 31) (N := some 74) (v := undef) (a' := ?_) (bA 35 4294967295) rfl rfl (any_of HT_.out (by kernel_rfl)) (fun _ _ _ h => h) (Or.inr ⟨by rfl, rfl⟩) ?_ ?_
        rotate_left; (simp only [Act.put, List.setIfInBounds_toArray, List.set_cons_zero, List.set_cons_succ, i64_w, i32_w]; rfl)
        refine pure_ (i := 32) (N := some 75) (v := undef) (a' := ?_) (bA 35 8589934591) rfl rfl (any_of HT_.out (by kernel_rfl)) (fun _ _ _ h => h) (Or.inr ⟨by rfl, rfl⟩) ?_ ?_
        rotate_left; (simp only [Act.put, List.setIfInBounds_toArray, List.set_cons_zero, List.set_cons_succ, i64_w, i32_w]; rfl)
        refine pure_ (i := 33) (N := some 76) (v := undef) (a' := ?_) (bA 35 17179869183) rfl rfl (any_of HT_.out (by kernel_rfl)) (fun _ _ _ h => h) (Or.inr ⟨by rfl, rfl⟩) ?_ ?_
        rotate_left; (simp only [Act.put, List.setIfInBounds_toArray, List.set_cons_zero, List.set_cons_succ, i64_w, i32_w]; rfl)
        refine pure_ (i := 34) (N := some 77) (v := ?_) (a' := ?_) (bA 35 34359738367) rfl rfl (any_of HT_.out (by kernel_rfl)) (fun _ _ _ h => h) (Or.inl ⟨by rfl, ?_⟩) ?_ ?_
        rotate_left; (intro w'; go_simp; with_reducible rfl); rotate_left; (simp only [Act.put, List.setIfInBounds_toArray, List.set_cons_zero, List.set_cons_succ, i64_w, i32_w]; rfl)
        refine done_ (done_of HT_.out (by kernel_rfl)) ?_
        try go_wp2
        go_meet
        case rel => exact ⟨_, (true), (by first | rfl | (simp; done) | (simp [*]; done) | exact emp1_ _ | exact (emp1_ _).symm | exact emp2_ _ | exact (emp2_ _).symm), H', ⟨by have := HJ3.out; first | omega | exact Nat.le_refl _⟩, ⟨bk_⟩, ⟨bk_⟩, ⟨bk_⟩, ⟨bk_⟩, ⟨bl_⟩⟩
      rw [if_pos c45] at H
      have c45b0 : (t489 == t496) = true := beq_iff_eq.mpr c45
      have c45b1 : (t489 != t496) = false := bne_eq_false_iff_eq.mpr c45
      clear c45
      have H' := Aside0.mk H
      clear H
      try go_wp2
      have n0_ : Aside0 ((((((w32.setCell ⟨gb501, 0, none⟩ (.int .i64 t495)).setCell ⟨gb501, 1, none⟩ (.int .i64 t496)).setCell ⟨gb501, 2, none⟩ (.int .i64 t497)).setCell ⟨gb501, 3, none⟩ (.string t498)).setCell ⟨gb501, 4, none⟩ (.int .i64 t499)).heap[gb478]? = some (.cells #[.int .i64 t470, .int .i64 t471, .string t472, .int .i64 t473, .string t474, .string t475, .int .i64 t476] 26 (0, 0))) := ⟨bk_⟩
      have n1_ : Aside0 ((((((w32.setCell ⟨gb501, 0, none⟩ (.int .i64 t495)).setCell ⟨gb501, 1, none⟩ (.int .i64 t496)).setCell ⟨gb501, 2, none⟩ (.int .i64 t497)).setCell ⟨gb501, 3, none⟩ (.string t498)).setCell ⟨gb501, 4, none⟩ (.int .i64 t499)).heap[gb487]? = some (.cells #[.int .i64 t479, .int .i64 t480, .string t481, .int .i64 t482, .string t483, .string t484, .int .i64 t485] 36 (0, 0))) := ⟨bk_⟩
      have n2_ : Aside0 ((((((w32.setCell ⟨gb501, 0, none⟩ (.int .i64 t495)).setCell ⟨gb501, 1, none⟩ (.int .i64 t496)).setCell ⟨gb501, 2, none⟩ (.int .i64 t497)).setCell ⟨gb501, 3, none⟩ (.string t498)).setCell ⟨gb501, 4, none⟩ (.int .i64 t499)).heap[gb494]? = some (.cells #[.int .i64 t488, .int .i64 t489, .int .i64 t490, .string t491, .int .i64 t492] 53 (0, 0))) := ⟨bk_⟩
      have n3_ : Aside0 ((((((w32.setCell ⟨gb501, 0, none⟩ (.int .i64 t495)).setCell ⟨gb501, 1, none⟩ (.int .i64 t496)).setCell ⟨gb501, 2, none⟩ (.int .i64 t497)).setCell ⟨gb501, 3, none⟩ (.string t498)).setCell ⟨gb501, 4, none⟩ (.int .i64 t499)).heap[gb501]? = some (.cells #[.int .i64 t495, .int .i64 t496, .int .i64 t497, .string t498, .int .i64 t499] 58 (0, 0))) := ⟨bk_⟩
      have n4_ : Aside0 (Below w.heap.size w (((((w32.setCell ⟨gb501, 0, none⟩ (.int .i64 t495)).setCell ⟨gb501, 1, none⟩ (.int .i64 t496)).setCell ⟨gb501, 2, none⟩ (.int .i64 t497)).setCell ⟨gb501, 3, none⟩ (.string t498)).setCell ⟨gb501, 4, none⟩ (.int .i64 t499))) := ⟨bl_⟩
      (try clear BK478)
      (try clear BK487)
      (try clear BK494)
      (try clear BK501)
      (try clear HB)
      generalize (((((w32.setCell ⟨gb501, 0, none⟩ (.int .i64 t495)).setCell ⟨gb501, 1, none⟩ (.int .i64 t496)).setCell ⟨gb501, 2, none⟩ (.int .i64 t497)).setCell ⟨gb501, 3, none⟩ (.string t498)).setCell ⟨gb501, 4, none⟩ (.int .i64 t499)) = w46 at n0_ n1_ n2_ n3_ n4_ ⊢
      have BK478 := n0_
      have BK487 := n1_
      have BK494 := n2_
      have BK501 := n3_
      have HB := n4_
      clear n0_ n1_ n2_ n3_ n4_
      have n0_ := Aside0.mk (kdw BK478.out)
      have n1_ := Aside0.mk (kdw BK487.out)
      have n2_ := Aside0.mk (kdw BK494.out)
      have n3_ := Aside0.mk (kdw BK501.out)
      have n4_ := Aside0.mk (bd1 HB.out)
      clear BK478
      clear BK487
      clear BK494
      clear BK501
      clear HB
      have BK478 := n0_
      have BK487 := n1_
      have BK494 := n2_
      have BK501 := n3_
      have HB := n4_
      clear n0_ n1_ n2_ n3_ n4_
      refine start_ (n := 35) (S := fun w' => w'.cell? ⟨gb478, 0, none⟩ = some (.int .i64 t470) ∧ w'.cell? ⟨gb478, 1, none⟩ = some (.int .i64 t471) ∧ w'.cell? ⟨gb478, 2, none⟩ = some (.string t472) ∧ w'.cell? ⟨gb478, 3, none⟩ = some (.int .i64 t473) ∧ w'.cell? ⟨gb478, 4, none⟩ = some (.string t474) ∧ w'.cell? ⟨gb478, 5, none⟩ = some (.string t475) ∧ w'.cell? ⟨gb478, 6, none⟩ = some (.int .i64 t476) ∧ w'.cell? ⟨gb487, 0, none⟩ = some (.int .i64 t479) ∧ w'.cell? ⟨gb487, 1, none⟩ = some (.int .i64 t480) ∧ w'.cell? ⟨gb487, 2, none⟩ = some (.string t481) ∧ w'.cell? ⟨gb487, 3, none⟩ = some (.int .i64 t482) ∧ w'.cell? ⟨gb487, 4, none⟩ = some (.string t483) ∧ w'.cell? ⟨gb487, 5, none⟩ = some (.string t484) ∧ w'.cell? ⟨gb487, 6, none⟩ = some (.int .i64 t485) ∧ w'.cell? ⟨gb494, 0, none⟩ = some (.int .i64 t488) ∧ w'.cell? ⟨gb494, 1, none⟩ = some (.int .i64 t489) ∧ w'.cell? ⟨gb494, 2, none⟩ = some (.int .i64 t490) ∧ w'.cell? ⟨gb494, 3, none⟩ = some (.string t491) ∧ w'.cell? ⟨gb494, 4, none⟩ = some (.int .i64 t492) ∧ w'.cell? ⟨gb501, 0, none⟩ = some (.int .i64 t495) ∧ w'.cell? ⟨gb501, 1, none⟩ = some (.int .i64 t496) ∧ w'.cell? ⟨gb501, 2, none⟩ = some (.int .i64 t497) ∧ w'.cell? ⟨gb501, 3, none⟩ = some (.string t498) ∧ w'.cell? ⟨gb501, 4, none⟩ = some (.int .i64 t499)) (ds := []) #[false,false,false,false,false,false,false,false,false,false,false,false,false,false,false,false,false,false,false,false,false,false,false,false,false,false,false,false,false,false,false,false,false,false,false] (by kernel_rfl) rfl rfl ⟨(kcl BK478.out 0).trans rfl, (kcl BK478.out 1).trans rfl, (kcl BK478.out 2).trans rfl, (kcl BK478.out 3).trans rfl, (kcl BK478.out 4).trans rfl, (kcl BK478.out 5).trans rfl, (kcl BK478.out 6).trans rfl, (kcl BK487.out 0).trans rfl, (kcl BK487.out 1).trans rfl, (kcl BK487.out 2).trans rfl, (kcl BK487.out 3).trans rfl, (kcl BK487.out 4).trans rfl, (kcl BK487.out 5).trans rfl, (kcl BK487.out 6).trans rfl, (kcl BK494.out 0).trans rfl, (kcl BK494.out 1).trans rfl, (kcl BK494.out 2).trans rfl, (kcl BK494.out 3).trans rfl, (kcl BK494.out 4).trans rfl, (kcl BK501.out 0).trans rfl, (kcl BK501.out 1).trans rfl, (kcl BK501.out 2).trans rfl, (kcl BK501.out 3).trans rfl, (kcl BK501.out 4).trans rfl⟩ (fun hHeld => ?_); refine with_tabW armoirelaw24_FrameReads.tab10 armoirelaw24_FrameReads.bits10 (fun HT_ HW_ => ?_)
      generalize w46.drew = w47 at BK478 BK487 BK494 BK501 HB hHeld ⊢
      refine pure_ (i := 0) (N := some 43) (v := ?_) (a' := ?_) (bA 35 1) rfl rfl (any_of HT_.out (by kernel_rfl)) (fun _ _ _ h => h) (Or.inl ⟨by rfl, ?_⟩) ?_ ?_
      rotate_left; (intro w'; go_simp; with_reducible rfl); rotate_left; (simp only [Act.put, List.setIfInBounds_toArray, List.set_cons_zero, List.set_cons_succ, i64_w, i32_w]; rfl)
      refine pure_ (i := 1) (N := some 44) (v := ?_) (a' := ?_) (bA 35 3) rfl rfl (any_of HT_.out (by kernel_rfl)) (fun _ _ _ h => h) (Or.inl ⟨by rfl, ?_⟩) ?_ ?_
      rotate_left; (intro w'; go_simp; with_reducible rfl); rotate_left; (simp only [Act.put, List.setIfInBounds_toArray, List.set_cons_zero, List.set_cons_succ, i64_w, i32_w]; rfl)
      refine pure_ (i := 2) (N := some 45) (v := ?_) (a' := ?_) (bA 35 7) rfl rfl (any_of HT_.out (by kernel_rfl)) (fun _ _ _ h => h) (Or.inl ⟨by rfl, ?_⟩) ?_ ?_
      rotate_left; (intro w'; go_simp; with_reducible rfl); rotate_left; (simp only [Act.put, List.setIfInBounds_toArray, List.set_cons_zero, List.set_cons_succ, i64_w, i32_w]; rfl)
      refine pure_ (i := 3) (N := some 46) (v := ?_) (a' := ?_) (bA 35 15) rfl rfl (any_of HT_.out (by kernel_rfl)) (fun _ _ _ h => h) (Or.inl ⟨by rfl, ?_⟩) ?_ ?_
      rotate_left; (intro w'; go_simp; with_reducible rfl); rotate_left; (simp only [Act.put, List.setIfInBounds_toArray, List.set_cons_zero, List.set_cons_succ, i64_w, i32_w]; rfl)
      refine take_ (i := 4) (N := some 47) (v := ?_) (a' := ?_) #[true,true,true,true,true,false,false,false,false,false,false,false,false,false,false,false,false,false,false,false,false,false,false,false,false,false,false,false,false,false,false,false,false,false,false] rfl rfl (tkw HT_.out HW_.out (by kernel_rfl)) (fun _ _ _ h => h) (Or.inl ⟨by rfl, ?_⟩) hHeld ?_ ?_
      rotate_left
      · rintro w' ⟨s0, s1, s2, s3, s4, s5, s6, s7, s8, s9, s10, s11, s12, s13, s14, s15, s16, s17, s18, s19, s20, s21, s22, s23⟩
        go_simp
        with_reducible rfl
      rotate_left; (simp only [Act.put, List.setIfInBounds_toArray, List.set_cons_zero, List.set_cons_succ, i64_w, i32_w]; rfl)
      refine take_ (i := 6) (N := some 49) (v := ?_) (a' := ?_) #[true,true,true,true,true,false,true,false,false,false,false,false,false,false,false,false,false,false,false,false,false,false,false,false,false,false,false,false,false,false,false,false,false,false,false] rfl rfl (tkw HT_.out HW_.out (by kernel_rfl)) (fun _ _ _ h => h) (Or.inl ⟨by rfl, ?_⟩) hHeld ?_ ?_
      rotate_left
      · rintro w' ⟨s0, s1, s2, s3, s4, s5, s6, s7, s8, s9, s10, s11, s12, s13, s14, s15, s16, s17, s18, s19, s20, s21, s22, s23⟩
        go_simp
        with_reducible rfl
      rotate_left; (simp only [Act.put, List.setIfInBounds_toArray, List.set_cons_zero, List.set_cons_succ, i64_w, i32_w]; rfl)
      refine one_ (i := 5) (N := some 48) #[true,true,true,true,true,true,true,false,false,false,false,false,false,false,false,false,false,false,false,false,false,false,false,false,false,false,false,false,false,false,false,false,false,false,false] rfl rfl (one_of HT_.out (by kernel_rfl)) (by decide) (fun K hK => ?_)
      refine goes_ Try.func12 (by kernel_rfl) rfl #[.agg #[.int .i64 t470, .int .i64 t471, .string t472, .int .i64 t473, .string t474, .string t475, .int .i64 t476]] (by rfl) rfl rfl (by (try simp only [List.map_toArray, List.map_cons, List.map_nil]); first | done | rfl | (simp only [List.length_drop, List.length_take]; rfl) | (simp only [Act.eval, Array.getD_eq_getD_getElem?, Option.getD_some, *]; done) | (simp only [Array.mk.injEq, List.cons.injEq, Value.int.injEq, true_and, and_true]; first | omega | (simp [IntKind.wrap, IntKind.bits, IntKind.signed]; omega))) ?_
      with_reducible refine (armoirelaw24_Told.calls t470 t471 t472 t473 t474 t475 t476 t502 t503 t504 t505 t506 t507 t508 _ A38.out).mono ?_
      rintro e w48 ⟨rfl, hb⟩
      refine ⟨_, rfl, ?_⟩
      have n0_ := Aside0.mk (kbl (g := gb478) (o := .cells #[.int .i64 t470, .int .i64 t471, .string t472, .int .i64 t473, .string t474, .string t475, .int .i64 t476] 26 (0, 0)) bk_ hb)
      have n1_ := Aside0.mk (kbl (g := gb487) (o := .cells #[.int .i64 t479, .int .i64 t480, .string t481, .int .i64 t482, .string t483, .string t484, .int .i64 t485] 36 (0, 0)) bk_ hb)
      have n2_ := Aside0.mk (kbl (g := gb494) (o := .cells #[.int .i64 t488, .int .i64 t489, .int .i64 t490, .string t491, .int .i64 t492] 53 (0, 0)) bk_ hb)
      have n3_ := Aside0.mk (kbl (g := gb501) (o := .cells #[.int .i64 t495, .int .i64 t496, .int .i64 t497, .string t498, .int .i64 t499] 58 (0, 0)) bk_ hb)
      have n4_ := Aside0.mk (bsp bl_ hb)
      clear BK478
      clear BK487
      clear BK494
      clear BK501
      clear HB
      have BK478 := n0_
      have BK487 := n1_
      have BK494 := n2_
      have BK501 := n3_
      have HB := n4_
      clear n0_ n1_ n2_ n3_ n4_
      (try clear hb)
      (try clear hb2)
      (try clear hk)
      (try clear hi)
      refine hK.out _ _ ⟨(kcl BK478.out 0).trans rfl, (kcl BK478.out 1).trans rfl, (kcl BK478.out 2).trans rfl, (kcl BK478.out 3).trans rfl, (kcl BK478.out 4).trans rfl, (kcl BK478.out 5).trans rfl, (kcl BK478.out 6).trans rfl, (kcl BK487.out 0).trans rfl, (kcl BK487.out 1).trans rfl, (kcl BK487.out 2).trans rfl, (kcl BK487.out 3).trans rfl, (kcl BK487.out 4).trans rfl, (kcl BK487.out 5).trans rfl, (kcl BK487.out 6).trans rfl, (kcl BK494.out 0).trans rfl, (kcl BK494.out 1).trans rfl, (kcl BK494.out 2).trans rfl, (kcl BK494.out 3).trans rfl, (kcl BK494.out 4).trans rfl, (kcl BK501.out 0).trans rfl, (kcl BK501.out 1).trans rfl, (kcl BK501.out 2).trans rfl, (kcl BK501.out 3).trans rfl, (kcl BK501.out 4).trans rfl⟩ (fun hHeld => ?_)
      clear hK K
      refine norm_ (a' := ?_) ?_ ?_
      rotate_left
      · show Act.put _ (some 48) _ = _
        simp only [Act.put, List.setIfInBounds_toArray, List.set_cons_zero, List.set_cons_succ, i64_w, i32_w]
        rfl
      refine pure_ (i := 7) (N := some 50) (v := ?_) (a' := ?_) (bA 35 255) rfl rfl (any_of HT_.out (by kernel_rfl)) (fun _ _ _ h => h) (Or.inl ⟨by rfl, ?_⟩) ?_ ?_
      rotate_left; (intro w'; go_simp; with_reducible rfl); rotate_left; (simp only [Act.put, List.setIfInBounds_toArray, List.set_cons_zero, List.set_cons_succ, i64_w, i32_w]; rfl)
      refine pure_ (i := 8) (N := some 51) (v := ?_) (a' := ?_) (bA 35 511) rfl rfl (any_of HT_.out (by kernel_rfl)) (fun _ _ _ h => h) (Or.inl ⟨by rfl, ?_⟩) ?_ ?_
      rotate_left; (intro w'; go_simp; with_reducible rfl); rotate_left; (simp only [Act.put, List.setIfInBounds_toArray, List.set_cons_zero, List.set_cons_succ, i64_w, i32_w]; rfl)
      refine pure_ (i := 9) (N := some 52) (v := ?_) (a' := ?_) (bA 35 1023) rfl rfl (any_of HT_.out (by kernel_rfl)) (fun _ _ _ h => h) (Or.inl ⟨by rfl, ?_⟩) ?_ ?_
      rotate_left; (intro w'; go_simp; with_reducible rfl); rotate_left; (simp only [Act.put, List.setIfInBounds_toArray, List.set_cons_zero, List.set_cons_succ, i64_w, i32_w]; rfl)
      refine pure_ (i := 10) (N := some 53) (v := ?_) (a' := ?_) (bA 35 2047) rfl rfl (any_of HT_.out (by kernel_rfl)) (fun _ _ _ h => h) (Or.inl ⟨by rfl, ?_⟩) ?_ ?_
      rotate_left; (intro w'; go_simp; with_reducible rfl); rotate_left; (simp only [Act.put, List.setIfInBounds_toArray, List.set_cons_zero, List.set_cons_succ, i64_w, i32_w]; rfl)
      refine pure_ (i := 11) (N := some 54) (v := ?_) (a' := ?_) (bA 35 4095) rfl rfl (any_of HT_.out (by kernel_rfl)) (fun _ _ _ h => h) (Or.inl ⟨by rfl, ?_⟩) ?_ ?_
      rotate_left; (intro w'; go_simp; with_reducible rfl); rotate_left; (simp only [Act.put, List.setIfInBounds_toArray, List.set_cons_zero, List.set_cons_succ, i64_w, i32_w]; rfl)
      refine pure_ (i := 12) (N := some 55) (v := ?_) (a' := ?_) (bA 35 8191) rfl rfl (any_of HT_.out (by kernel_rfl)) (fun _ _ _ h => h) (Or.inl ⟨by rfl, ?_⟩) ?_ ?_
      rotate_left; (intro w'; go_simp; with_reducible rfl); rotate_left; (simp only [Act.put, List.setIfInBounds_toArray, List.set_cons_zero, List.set_cons_succ, i64_w, i32_w]; rfl)
      refine pure_ (i := 13) (N := some 56) (v := ?_) (a' := ?_) (bA 35 16383) rfl rfl (any_of HT_.out (by kernel_rfl)) (fun _ _ _ h => h) (Or.inl ⟨by rfl, ?_⟩) ?_ ?_
      rotate_left; (intro w'; go_simp; with_reducible rfl); rotate_left; (simp only [Act.put, List.setIfInBounds_toArray, List.set_cons_zero, List.set_cons_succ, i64_w, i32_w]; rfl)
      refine pure_ (i := 14) (N := some 57) (v := ?_) (a' := ?_) (bA 35 32767) rfl rfl (any_of HT_.out (by kernel_rfl)) (fun _ _ _ h => h) (Or.inl ⟨by rfl, ?_⟩) ?_ ?_
      rotate_left; (intro w'; go_simp; with_reducible rfl); rotate_left; (simp only [Act.put, List.setIfInBounds_toArray, List.set_cons_zero, List.set_cons_succ, i64_w, i32_w]; rfl)
      refine pure_ (i := 15) (N := some 58) (v := ?_) (a' := ?_) (bA 35 65535) rfl rfl (any_of HT_.out (by kernel_rfl)) (fun _ _ _ h => h) (Or.inl ⟨by rfl, ?_⟩) ?_ ?_
      rotate_left; (intro w'; go_simp; with_reducible rfl); rotate_left; (simp only [Act.put, List.setIfInBounds_toArray, List.set_cons_zero, List.set_cons_succ, i64_w, i32_w]; rfl)
      refine pure_ (i := 17) (N := some 60) (v := ?_) (a' := ?_) (bA 35 196607) rfl rfl (any_of HT_.out (by kernel_rfl)) (fun _ _ _ h => h) (Or.inl ⟨by rfl, ?_⟩) ?_ ?_
      rotate_left; (intro w'; go_simp; with_reducible rfl); rotate_left; (simp only [Act.put, List.setIfInBounds_toArray, List.set_cons_zero, List.set_cons_succ, i64_w, i32_w]; rfl)
      refine take_ (i := 16) (N := some 59) (v := ?_) (a' := ?_) #[true,true,true,true,true,true,true,true,true,true,true,true,true,true,true,true,true,true,false,false,false,false,false,false,false,false,false,false,false,false,false,false,false,false,false] rfl rfl (tkw HT_.out HW_.out (by kernel_rfl)) (fun _ _ _ h => h) (Or.inl ⟨by rfl, ?_⟩) hHeld ?_ ?_
      rotate_left
      · rintro w' ⟨s0, s1, s2, s3, s4, s5, s6, s7, s8, s9, s10, s11, s12, s13, s14, s15, s16, s17, s18, s19, s20, s21, s22, s23⟩
        go_simp
        with_reducible rfl
      rotate_left; (simp only [Act.put, List.setIfInBounds_toArray, List.set_cons_zero, List.set_cons_succ, i64_w, i32_w]; rfl)
      refine take_ (i := 18) (N := some 61) (v := ?_) (a' := ?_) #[true,true,true,true,true,true,true,true,true,true,true,true,true,true,true,true,true,true,true,false,false,false,false,false,false,false,false,false,false,false,false,false,false,false,false] rfl rfl (tkw HT_.out HW_.out (by kernel_rfl)) (fun _ _ _ h => h) (Or.inl ⟨by rfl, ?_⟩) hHeld ?_ ?_
      rotate_left
      · rintro w' ⟨s0, s1, s2, s3, s4, s5, s6, s7, s8, s9, s10, s11, s12, s13, s14, s15, s16, s17, s18, s19, s20, s21, s22, s23⟩
        go_simp
        with_reducible rfl
      rotate_left; (simp only [Act.put, List.setIfInBounds_toArray, List.set_cons_zero, List.set_cons_succ, i64_w, i32_w]; rfl)
      refine pure_ (i := 19) (N := some 62) (v := ?_) (a' := ?_) (bA 35 1048575) rfl rfl (any_of HT_.out (by kernel_rfl)) (fun _ _ _ h => h) (Or.inl ⟨by rfl, ?_⟩) ?_ ?_
      rotate_left; (intro w'; go_simp; with_reducible rfl); rotate_left; (simp only [Act.put, List.setIfInBounds_toArray, List.set_cons_zero, List.set_cons_succ, i64_w, i32_w]; rfl)
      refine pure_ (i := 20) (N := some 63) (v := ?_) (a' := ?_) (bA 35 2097151) rfl rfl (any_of HT_.out (by kernel_rfl)) (fun _ _ _ h => h) (Or.inl ⟨by rfl, ?_⟩) ?_ ?_
      rotate_left; (intro w'; go_simp; with_reducible rfl); rotate_left; (simp only [Act.put, List.setIfInBounds_toArray, List.set_cons_zero, List.set_cons_succ, i64_w, i32_w]; rfl)
      refine pure_ (i := 21) (N := some 64) (v := ?_) (a' := ?_) (bA 35 4194303) rfl rfl (any_of HT_.out (by kernel_rfl)) (fun _ _ _ h => h) (Or.inl ⟨by rfl, ?_⟩) ?_ ?_
      rotate_left; (intro w'; go_simp; with_reducible rfl); rotate_left; (simp only [Act.put, List.setIfInBounds_toArray, List.set_cons_zero, List.set_cons_succ, i64_w, i32_w]; rfl)
      refine pure_ (i := 22) (N := some 65) (v := ?_) (a' := ?_) (bA 35 8388607) rfl rfl (any_of HT_.out (by kernel_rfl)) (fun _ _ _ h => h) (Or.inl ⟨by rfl, ?_⟩) ?_ ?_
      rotate_left; (intro w'; go_simp; with_reducible rfl); rotate_left; (simp only [Act.put, List.setIfInBounds_toArray, List.set_cons_zero, List.set_cons_succ, i64_w, i32_w]; rfl)
      refine pure_ (i := 24) (N := some 67) (v := ?_) (a' := ?_) (bA 35 25165823) rfl rfl (any_of HT_.out (by kernel_rfl)) (fun _ _ _ h => h) (Or.inl ⟨by rfl, ?_⟩) ?_ ?_
      rotate_left; (intro w'; go_simp; with_reducible rfl); rotate_left; (simp only [Act.put, List.setIfInBounds_toArray, List.set_cons_zero, List.set_cons_succ, i64_w, i32_w]; rfl)
      refine take_ (i := 23) (N := some 66) (v := ?_) (a' := ?_) #[true,true,true,true,true,true,true,true,true,true,true,true,true,true,true,true,true,true,true,true,true,true,true,true,true,false,false,false,false,false,false,false,false,false,false] rfl rfl (tkw HT_.out HW_.out (by kernel_rfl)) (fun _ _ _ h => h) (Or.inl ⟨by rfl, ?_⟩) hHeld ?_ ?_
      rotate_left
      · rintro w' ⟨s0, s1, s2, s3, s4, s5, s6, s7, s8, s9, s10, s11, s12, s13, s14, s15, s16, s17, s18, s19, s20, s21, s22, s23⟩
        go_simp
        with_reducible rfl
      rotate_left; (simp only [Act.put, List.setIfInBounds_toArray, List.set_cons_zero, List.set_cons_succ, i64_w, i32_w]; rfl)
      refine take_ (i := 25) (N := some 68) (v := ?_) (a' := ?_) #[true,true,true,true,true,true,true,true,true,true,true,true,true,true,true,true,true,true,true,true,true,true,true,true,true,true,false,false,false,false,false,false,false,false,false] rfl rfl (tkw HT_.out HW_.out (by kernel_rfl)) (fun _ _ _ h => h) (Or.inl ⟨by rfl, ?_⟩) hHeld ?_ ?_
      rotate_left
      · rintro w' ⟨s0, s1, s2, s3, s4, s5, s6, s7, s8, s9, s10, s11, s12, s13, s14, s15, s16, s17, s18, s19, s20, s21, s22, s23⟩
        go_simp
        with_reducible rfl
      rotate_left; (simp only [Act.put, List.setIfInBounds_toArray, List.set_cons_zero, List.set_cons_succ, i64_w, i32_w]; rfl)
      refine pure_ (i := 26) (N := some 69) (v := ?_) (a' := ?_) (bA 35 134217727) rfl rfl (any_of HT_.out (by kernel_rfl)) (fun _ _ _ h => h) (Or.inl ⟨by rfl, ?_⟩) ?_ ?_
      rotate_left; (intro w'; go_simp; with_reducible rfl); rotate_left; (simp only [Act.put, List.setIfInBounds_toArray, List.set_cons_zero, List.set_cons_succ, i64_w, i32_w]; rfl)
      refine pure_ (i := 27) (N := some 70) (v := ?_) (a' := ?_) (bA 35 268435455) rfl rfl (any_of HT_.out (by kernel_rfl)) (fun _ _ _ h => h) (Or.inl ⟨by rfl, ?_⟩) ?_ ?_
      rotate_left; (intro w'; go_simp; with_reducible rfl); rotate_left; (simp only [Act.put, List.setIfInBounds_toArray, List.set_cons_zero, List.set_cons_succ, i64_w, i32_w]; rfl)
      refine pure_ (i := 28) (N := some 71) (v := ?_) (a' := ?_) (bA 35 536870911) rfl rfl (any_of HT_.out (by kernel_rfl)) (fun _ _ _ h => h) (Or.inl ⟨by rfl, ?_⟩) ?_ ?_
      rotate_left; (intro w'; go_simp; with_reducible rfl); rotate_left; (simp only [Act.put, List.setIfInBounds_toArray, List.set_cons_zero, List.set_cons_succ, i64_w, i32_w]; rfl)
      refine pure_ (i := 29) (N := some 72) (v := ?_) (a' := ?_) (bA 35 1073741823) rfl rfl (any_of HT_.out (by kernel_rfl)) (fun _ _ _ h => h) (Or.inl ⟨by rfl, ?_⟩) ?_ ?_
      rotate_left; (intro w'; go_simp; with_reducible rfl); rotate_left; (simp only [Act.put, List.setIfInBounds_toArray, List.set_cons_zero, List.set_cons_succ, i64_w, i32_w]; rfl)
      refine pure_ (i := 31) (N := some 74) (v := ?_) (a' := ?_) (bA 35 3221225471) rfl rfl (any_of HT_.out (by kernel_rfl)) (fun _ _ _ h => h) (Or.inl ⟨by rfl, ?_⟩) ?_ ?_
      rotate_left; (intro w'; go_simp; with_reducible rfl); rotate_left; (simp only [Act.put, List.setIfInBounds_toArray, List.set_cons_zero, List.set_cons_succ, i64_w, i32_w]; rfl)
      refine take_ (i := 30) (N := some 73) (v := ?_) (a' := ?_) #[true,true,true,true,true,true,true,true,true,true,true,true,true,true,true,true,true,true,true,true,true,true,true,true,true,true,true,true,true,true,true,true,false,false,false] rfl rfl (tkw HT_.out HW_.out (by kernel_rfl)) (fun _ _ _ h => h) (Or.inl ⟨by rfl, ?_⟩) hHeld ?_ ?_
      rotate_left
      · rintro w' ⟨s0, s1, s2, s3, s4, s5, s6, s7, s8, s9, s10, s11, s12, s13, s14, s15, s16, s17, s18, s19, s20, s21, s22, s23⟩
        go_simp
        with_reducible rfl
      rotate_left; (simp only [Act.put, List.setIfInBounds_toArray, List.set_cons_zero, List.set_cons_succ, i64_w, i32_w]; rfl)
      refine take_ (i := 32) (N := some 75) (v := ?_) (a' := ?_) #[true,true,true,true,true,true,true,true,true,true,true,true,true,true,true,true,true,true,true,true,true,true,true,true,true,true,true,true,true,true,true,true,true,false,false] rfl rfl (tkw HT_.out HW_.out (by kernel_rfl)) (fun _ _ _ h => h) (Or.inl ⟨by rfl, ?_⟩) hHeld ?_ ?_
      rotate_left
      · rintro w' ⟨s0, s1, s2, s3, s4, s5, s6, s7, s8, s9, s10, s11, s12, s13, s14, s15, s16, s17, s18, s19, s20, s21, s22, s23⟩
        go_simp
        with_reducible rfl
      rotate_left; (simp only [Act.put, List.setIfInBounds_toArray, List.set_cons_zero, List.set_cons_succ, i64_w, i32_w]; rfl)
      refine pure_ (i := 33) (N := some 76) (v := ?_) (a' := ?_) (bA 35 17179869183) rfl rfl (any_of HT_.out (by kernel_rfl)) (fun _ _ _ h => h) (Or.inl ⟨by rfl, ?_⟩) ?_ ?_
      rotate_left; (intro w'; go_simp; with_reducible rfl); rotate_left; (simp only [Act.put, List.setIfInBounds_toArray, List.set_cons_zero, List.set_cons_succ, i64_w, i32_w]; rfl)
      refine pure_ (i := 34) (N := some 77) (v := ?_) (a' := ?_) (bA 35 34359738367) rfl rfl (any_of HT_.out (by kernel_rfl)) (fun _ _ _ h => h) (Or.inl ⟨by rfl, ?_⟩) ?_ ?_
      rotate_left; (intro w'; go_simp; with_reducible rfl); rotate_left; (simp only [Act.put, List.setIfInBounds_toArray, List.set_cons_zero, List.set_cons_succ, i64_w, i32_w]; rfl)
      refine done_ (done_of HT_.out (by kernel_rfl)) ?_
      try go_wp2
      go_meet
      case rel => exact ⟨_, ((!(t490 == t497) || (!(t491.toList == t498.toList) || (!(t492 == t499))))), (by first | rfl | (simp; done) | (simp [*]; done) | exact emp1_ _ | exact (emp1_ _).symm | exact emp2_ _ | exact (emp2_ _).symm), H', ⟨by have := HJ3.out; first | omega | exact Nat.le_refl _⟩, ⟨bk_⟩, ⟨bk_⟩, ⟨bk_⟩, ⟨bk_⟩, ⟨bl_⟩⟩
    clear HC18
    try clear c1
    try clear p2
    try clear c3
    try clear c4
    try clear c12
    try clear c37
    try clear c37b0
    try clear c37b1
    try clear c43
    try clear c43b0
    try clear c43b1
    obtain ⟨kq, x77_17, rfl, HA, HJ17, BK478, BK487, BK494, BK501, HB⟩ := hcut
    cases kq with
    | zero => exact absurd HA.out (by simp [armoirelaw24_FrameReads.j1])
    | succ kj17 =>
      have H := HA.out
      clear HA
      simp only [armoirelaw24_FrameReads.j1] at H
      by_cases c60 : x77_17 = true
      · subst c60
        have H1 : (some false) = some r := by rw [if_pos rfl] at H; exact H
        clear H
        have H := H1
        clear H1
        obtain rfl := Option.some.inj H
        go_wp2
        go_ret
        exact ⟨er_, bl_⟩
      replace c60 := Bool.eq_false_iff.mpr c60
      subst c60
      have H1 : (if t486 = 0 then ((frame_Request_Text.f kj17 t470 t471 t472 t473 t474 t475 t476).bind fun t509 => (if t509.toList = x0_3.toList then ((frame_Request_Check.f kj17 t470 t471 t472 t473 t474 t475 t476).bind fun t510 => (if t510 = 0 then (if t500 = 0 then ((frame_Reply_Text.f kj17 t488 t489 t490 t491 t492).bind fun t511 => (armoirelaw24_FrameReads.j2 kj17 (t511.toList == x0_3.toList))) else (armoirelaw24_FrameReads.j2 kj17 true)) else (armoirelaw24_FrameReads.j2 kj17 false))) else (armoirelaw24_FrameReads.j2 kj17 false))) else (if t500 = 0 then ((frame_Reply_Text.f kj17 t488 t489 t490 t491 t492).bind fun t512 => (armoirelaw24_FrameReads.j2 kj17 (t512.toList == x0_3.toList))) else (armoirelaw24_FrameReads.j2 kj17 true))) = some r := by rw [if_neg (show ¬ (false = true) by decide)] at H; exact H
      clear H
      have H := H1
      clear H1
      have HC61 := Aside0.mk H
      clear H
      go_upto_region 12 with (fail)
      go_cut [4] (fun v4 wc => ∃ (kq : Nat) (x4_60 : Bool), v4 = .bool x4_60 ∧ Aside0 (armoirelaw24_FrameReads.j2 kq x4_60 = some r) ∧ Aside0 (kq ≤ kj17) ∧ Aside0 (wc.heap[gb478]? = some (.cells #[.int .i64 t470, .int .i64 t471, .string t472, .int .i64 t473, .string t474, .string t475, .int .i64 t476] 26 (0, 0))) ∧ Aside0 (wc.heap[gb487]? = some (.cells #[.int .i64 t479, .int .i64 t480, .string t481, .int .i64 t482, .string t483, .string t484, .int .i64 t485] 36 (0, 0))) ∧ Aside0 (wc.heap[gb494]? = some (.cells #[.int .i64 t488, .int .i64 t489, .int .i64 t490, .string t491, .int .i64 t492] 53 (0, 0))) ∧ Aside0 (wc.heap[gb501]? = some (.cells #[.int .i64 t495, .int .i64 t496, .int .i64 t497, .string t498, .int .i64 t499] 58 (0, 0))) ∧ Aside0 (Below w.heap.size w wc))
      case first =>
        have H := HC61.out
        clear HC61
        by_cases c62 : t486 = 0
        rotate_left
        · rw [if_neg c62] at H
          have c62b0 : (t486 == 0) = false := beq_eq_false_iff_ne.mpr c62
          have c62b1 : (t486 != 0) = true := bne_iff_ne.mpr c62
          (first | rw [c62b0] | (simp only [i64_w, i32_w]; rw [c62b0]) | skip)
          by_cases c99 : t500 = 0
          rotate_left
          · rw [if_neg c99] at H
            have c99b0 : (t500 == 0) = false := beq_eq_false_iff_ne.mpr c99
            have c99b1 : (t500 != 0) = true := bne_iff_ne.mpr c99
            have H' := Aside0.mk H
            clear H
            go_wp2
            go_meet
            case rel => exact ⟨_, (true), (by first | rfl | (simp; done) | (simp [*]; done) | exact emp1_ _ | exact (emp1_ _).symm | exact emp2_ _ | exact (emp2_ _).symm), H', ⟨by have := HJ3.out; have := HJ17.out; first | omega | exact Nat.le_refl _⟩, ⟨bk_⟩, ⟨bk_⟩, ⟨bk_⟩, ⟨bk_⟩, ⟨bl_⟩⟩
          rw [if_pos c99] at H
          have c99b0 : (t500 == 0) = true := beq_iff_eq.mpr c99
          have c99b1 : (t500 != 0) = false := bne_eq_false_iff_eq.mpr c99
          clear c99
          replace H := Option.bind_eq_some_iff.mp H
          obtain ⟨t512, A1000, H⟩ := H
          replace H : (armoirelaw24_FrameReads.j2 kj17 (t512.toList == x0_3.toList)) = some r := H
          have A100 := Aside0.mk A1000
          clear A1000
          have H' := Aside0.mk H
          clear H
          have hnb101 := NB494_478.out
          have hnc101 := NB478_494.out
          have hnb102 := NB494_487.out
          have hnc102 := NB487_494.out
          have hnb103 := NB494_501.out
          have hnc103 := NB501_494.out
          have hcz104 := bc5 BK494.out
          go_wp2_with (first | (go_at_call 22; (with_reducible refine (frame_Reply_Text.calls kj17 t488 t489 t490 t491 t492 t512 _ A100.out).mono ?_); rintro e w105 ⟨rfl, hb⟩; have n0_ := Aside0.mk (kbl (g := gb478) (o := .cells #[.int .i64 t470, .int .i64 t471, .string t472, .int .i64 t473, .string t474, .string t475, .int .i64 t476] 26 (0, 0)) bk_ hb); have n1_ := Aside0.mk (kbl (g := gb487) (o := .cells #[.int .i64 t479, .int .i64 t480, .string t481, .int .i64 t482, .string t483, .string t484, .int .i64 t485] 36 (0, 0)) bk_ hb); have n2_ := Aside0.mk (kbl (g := gb494) (o := .cells #[.int .i64 t488, .int .i64 t489, .int .i64 t490, .string t491, .int .i64 t492] 53 (0, 0)) bk_ hb); have n3_ := Aside0.mk (kbl (g := gb501) (o := .cells #[.int .i64 t495, .int .i64 t496, .int .i64 t497, .string t498, .int .i64 t499] 58 (0, 0)) bk_ hb); have n4_ := Aside0.mk (bsp bl_ hb); clear BK478; clear BK487; clear BK494; clear BK501; clear HB; have BK478 := n0_; have BK487 := n1_; have BK494 := n2_; have BK501 := n3_; have HB := n4_; clear n0_ n1_ n2_ n3_ n4_; (try clear hb); (try clear hb2); (try clear hk); (try clear hi)))
          go_meet
          case rel => exact ⟨_, ((t512.toList == x0_3.toList)), (by first | rfl | (simp; done) | (simp [*]; done) | exact emp1_ _ | exact (emp1_ _).symm | exact emp2_ _ | exact (emp2_ _).symm), H', ⟨by have := HJ3.out; have := HJ17.out; first | omega | exact Nat.le_refl _⟩, ⟨bk_⟩, ⟨bk_⟩, ⟨bk_⟩, ⟨bk_⟩, ⟨bl_⟩⟩
        rw [if_pos c62] at H
        have c62b0 : (t486 == 0) = true := beq_iff_eq.mpr c62
        have c62b1 : (t486 != 0) = false := bne_eq_false_iff_eq.mpr c62
        clear c62
        (first | rw [c62b0] | (simp only [i64_w, i32_w]; rw [c62b0]) | skip)
        replace H := Option.bind_eq_some_iff.mp H
        obtain ⟨t509, A630, H⟩ := H
        replace H : (if t509.toList = x0_3.toList then ((frame_Request_Check.f kj17 t470 t471 t472 t473 t474 t475 t476).bind fun t510 => (if t510 = 0 then (if t500 = 0 then ((frame_Reply_Text.f kj17 t488 t489 t490 t491 t492).bind fun t511 => (armoirelaw24_FrameReads.j2 kj17 (t511.toList == x0_3.toList))) else (armoirelaw24_FrameReads.j2 kj17 true)) else (armoirelaw24_FrameReads.j2 kj17 false))) else (armoirelaw24_FrameReads.j2 kj17 false)) = some r := H
        have A63 := Aside0.mk A630
        clear A630
        by_cases c64 : t509.toList = x0_3.toList
        rotate_left
        · rw [if_neg c64] at H
          have c64b0 : (t509.toList == x0_3.toList) = false := beq_eq_false_iff_ne.mpr c64
          have c64b1 : (t509.toList != x0_3.toList) = true := bne_iff_ne.mpr c64
          have H' := Aside0.mk H
          clear H
          have hnb94 := NB478_487.out
          have hnc94 := NB487_478.out
          have hnb95 := NB478_494.out
          have hnc95 := NB494_478.out
          have hnb96 := NB478_501.out
          have hnc96 := NB501_478.out
          have hcz97 := bc7 BK478.out
          go_wp2_with (first | (go_at_call 14; (with_reducible refine (frame_Request_Text.calls kj17 t470 t471 t472 t473 t474 t475 t476 t509 _ A63.out).mono ?_); rintro e w98 ⟨rfl, hb⟩; have n0_ := Aside0.mk (kbl (g := gb478) (o := .cells #[.int .i64 t470, .int .i64 t471, .string t472, .int .i64 t473, .string t474, .string t475, .int .i64 t476] 26 (0, 0)) bk_ hb); have n1_ := Aside0.mk (kbl (g := gb487) (o := .cells #[.int .i64 t479, .int .i64 t480, .string t481, .int .i64 t482, .string t483, .string t484, .int .i64 t485] 36 (0, 0)) bk_ hb); have n2_ := Aside0.mk (kbl (g := gb494) (o := .cells #[.int .i64 t488, .int .i64 t489, .int .i64 t490, .string t491, .int .i64 t492] 53 (0, 0)) bk_ hb); have n3_ := Aside0.mk (kbl (g := gb501) (o := .cells #[.int .i64 t495, .int .i64 t496, .int .i64 t497, .string t498, .int .i64 t499] 58 (0, 0)) bk_ hb); have n4_ := Aside0.mk (bsp bl_ hb); clear BK478; clear BK487; clear BK494; clear BK501; clear HB; have BK478 := n0_; have BK487 := n1_; have BK494 := n2_; have BK501 := n3_; have HB := n4_; clear n0_ n1_ n2_ n3_ n4_; (try clear hb); (try clear hb2); (try clear hk); (try clear hi)))
          go_meet
          case rel => exact ⟨_, (false), (by first | rfl | (simp; done) | (simp [*]; done) | exact emp1_ _ | exact (emp1_ _).symm | exact emp2_ _ | exact (emp2_ _).symm), H', ⟨by have := HJ3.out; have := HJ17.out; first | omega | exact Nat.le_refl _⟩, ⟨bk_⟩, ⟨bk_⟩, ⟨bk_⟩, ⟨bk_⟩, ⟨bl_⟩⟩
        rw [if_pos c64] at H
        have c64b0 : (t509.toList == x0_3.toList) = true := beq_iff_eq.mpr c64
        have c64b1 : (t509.toList != x0_3.toList) = false := bne_eq_false_iff_eq.mpr c64
        clear c64
        replace H := Option.bind_eq_some_iff.mp H
        obtain ⟨t510, A650, H⟩ := H
        replace H : (if t510 = 0 then (if t500 = 0 then ((frame_Reply_Text.f kj17 t488 t489 t490 t491 t492).bind fun t511 => (armoirelaw24_FrameReads.j2 kj17 (t511.toList == x0_3.toList))) else (armoirelaw24_FrameReads.j2 kj17 true)) else (armoirelaw24_FrameReads.j2 kj17 false)) = some r := H
        have A65 := Aside0.mk A650
        clear A650
        by_cases c66 : t510 = 0
        rotate_left
        · rw [if_neg c66] at H
          have c66b0 : (t510 == 0) = false := beq_eq_false_iff_ne.mpr c66
          have c66b1 : (t510 != 0) = true := bne_iff_ne.mpr c66
          have H' := Aside0.mk H
          clear H
          have hnb87 := NB478_487.out
          have hnc87 := NB487_478.out
          have hnb88 := NB478_494.out
          have hnc88 := NB494_478.out
          have hnb89 := NB478_501.out
          have hnc89 := NB501_478.out
          have hcz90 := bc7 BK478.out
          go_wp2_with (first | (go_at_call 14; (with_reducible refine (frame_Request_Text.calls kj17 t470 t471 t472 t473 t474 t475 t476 t509 _ A63.out).mono ?_); rintro e w91 ⟨rfl, hb⟩; have n0_ := Aside0.mk (kbl (g := gb478) (o := .cells #[.int .i64 t470, .int .i64 t471, .string t472, .int .i64 t473, .string t474, .string t475, .int .i64 t476] 26 (0, 0)) bk_ hb); have n1_ := Aside0.mk (kbl (g := gb487) (o := .cells #[.int .i64 t479, .int .i64 t480, .string t481, .int .i64 t482, .string t483, .string t484, .int .i64 t485] 36 (0, 0)) bk_ hb); have n2_ := Aside0.mk (kbl (g := gb494) (o := .cells #[.int .i64 t488, .int .i64 t489, .int .i64 t490, .string t491, .int .i64 t492] 53 (0, 0)) bk_ hb); have n3_ := Aside0.mk (kbl (g := gb501) (o := .cells #[.int .i64 t495, .int .i64 t496, .int .i64 t497, .string t498, .int .i64 t499] 58 (0, 0)) bk_ hb); have n4_ := Aside0.mk (bsp bl_ hb); clear BK478; clear BK487; clear BK494; clear BK501; clear HB; have BK478 := n0_; have BK487 := n1_; have BK494 := n2_; have BK501 := n3_; have HB := n4_; clear n0_ n1_ n2_ n3_ n4_; (try clear hb); (try clear hb2); (try clear hk); (try clear hi); have hcz92 := bc7 BK478.out) | (go_at_call 10; (with_reducible refine (frame_Request_Check.calls kj17 t470 t471 t472 t473 t474 t475 t476 t510 _ A65.out).mono ?_); rintro e w93 ⟨rfl, hb⟩; have n0_ := Aside0.mk (kbl (g := gb478) (o := .cells #[.int .i64 t470, .int .i64 t471, .string t472, .int .i64 t473, .string t474, .string t475, .int .i64 t476] 26 (0, 0)) bk_ hb); have n1_ := Aside0.mk (kbl (g := gb487) (o := .cells #[.int .i64 t479, .int .i64 t480, .string t481, .int .i64 t482, .string t483, .string t484, .int .i64 t485] 36 (0, 0)) bk_ hb); have n2_ := Aside0.mk (kbl (g := gb494) (o := .cells #[.int .i64 t488, .int .i64 t489, .int .i64 t490, .string t491, .int .i64 t492] 53 (0, 0)) bk_ hb); have n3_ := Aside0.mk (kbl (g := gb501) (o := .cells #[.int .i64 t495, .int .i64 t496, .int .i64 t497, .string t498, .int .i64 t499] 58 (0, 0)) bk_ hb); have n4_ := Aside0.mk (bsp bl_ hb); clear BK478; clear BK487; clear BK494; clear BK501; clear HB; have BK478 := n0_; have BK487 := n1_; have BK494 := n2_; have BK501 := n3_; have HB := n4_; clear n0_ n1_ n2_ n3_ n4_; (try clear hb); (try clear hb2); (try clear hk); (try clear hi)))
          go_meet
          case rel => exact ⟨_, (false), (by first | rfl | (simp; done) | (simp [*]; done) | exact emp1_ _ | exact (emp1_ _).symm | exact emp2_ _ | exact (emp2_ _).symm), H', ⟨by have := HJ3.out; have := HJ17.out; first | omega | exact Nat.le_refl _⟩, ⟨bk_⟩, ⟨bk_⟩, ⟨bk_⟩, ⟨bk_⟩, ⟨bl_⟩⟩
        rw [if_pos c66] at H
        have c66b0 : (t510 == 0) = true := beq_iff_eq.mpr c66
        have c66b1 : (t510 != 0) = false := bne_eq_false_iff_eq.mpr c66
        clear c66
        by_cases c67 : t500 = 0
        rotate_left
        · rw [if_neg c67] at H
          have c67b0 : (t500 == 0) = false := beq_eq_false_iff_ne.mpr c67
          have c67b1 : (t500 != 0) = true := bne_iff_ne.mpr c67
          have H' := Aside0.mk H
          clear H
          have hnb80 := NB478_487.out
          have hnc80 := NB487_478.out
          have hnb81 := NB478_494.out
          have hnc81 := NB494_478.out
          have hnb82 := NB478_501.out
          have hnc82 := NB501_478.out
          have hcz83 := bc7 BK478.out
          go_wp2_with (first | (go_at_call 14; (with_reducible refine (frame_Request_Text.calls kj17 t470 t471 t472 t473 t474 t475 t476 t509 _ A63.out).mono ?_); rintro e w84 ⟨rfl, hb⟩; have n0_ := Aside0.mk (kbl (g := gb478) (o := .cells #[.int .i64 t470, .int .i64 t471, .string t472, .int .i64 t473, .string t474, .string t475, .int .i64 t476] 26 (0, 0)) bk_ hb); have n1_ := Aside0.mk (kbl (g := gb487) (o := .cells #[.int .i64 t479, .int .i64 t480, .string t481, .int .i64 t482, .string t483, .string t484, .int .i64 t485] 36 (0, 0)) bk_ hb); have n2_ := Aside0.mk (kbl (g := gb494) (o := .cells #[.int .i64 t488, .int .i64 t489, .int .i64 t490, .string t491, .int .i64 t492] 53 (0, 0)) bk_ hb); have n3_ := Aside0.mk (kbl (g := gb501) (o := .cells #[.int .i64 t495, .int .i64 t496, .int .i64 t497, .string t498, .int .i64 t499] 58 (0, 0)) bk_ hb); have n4_ := Aside0.mk (bsp bl_ hb); clear BK478; clear BK487; clear BK494; clear BK501; clear HB; have BK478 := n0_; have BK487 := n1_; have BK494 := n2_; have BK501 := n3_; have HB := n4_; clear n0_ n1_ n2_ n3_ n4_; (try clear hb); (try clear hb2); (try clear hk); (try clear hi); have hcz85 := bc7 BK478.out) | (go_at_call 10; (with_reducible refine (frame_Request_Check.calls kj17 t470 t471 t472 t473 t474 t475 t476 t510 _ A65.out).mono ?_); rintro e w86 ⟨rfl, hb⟩; have n0_ := Aside0.mk (kbl (g := gb478) (o := .cells #[.int .i64 t470, .int .i64 t471, .string t472, .int .i64 t473, .string t474, .string t475, .int .i64 t476] 26 (0, 0)) bk_ hb); have n1_ := Aside0.mk (kbl (g := gb487) (o := .cells #[.int .i64 t479, .int .i64 t480, .string t481, .int .i64 t482, .string t483, .string t484, .int .i64 t485] 36 (0, 0)) bk_ hb); have n2_ := Aside0.mk (kbl (g := gb494) (o := .cells #[.int .i64 t488, .int .i64 t489, .int .i64 t490, .string t491, .int .i64 t492] 53 (0, 0)) bk_ hb); have n3_ := Aside0.mk (kbl (g := gb501) (o := .cells #[.int .i64 t495, .int .i64 t496, .int .i64 t497, .string t498, .int .i64 t499] 58 (0, 0)) bk_ hb); have n4_ := Aside0.mk (bsp bl_ hb); clear BK478; clear BK487; clear BK494; clear BK501; clear HB; have BK478 := n0_; have BK487 := n1_; have BK494 := n2_; have BK501 := n3_; have HB := n4_; clear n0_ n1_ n2_ n3_ n4_; (try clear hb); (try clear hb2); (try clear hk); (try clear hi)))
          go_meet
          case rel => exact ⟨_, (true), (by first | rfl | (simp; done) | (simp [*]; done) | exact emp1_ _ | exact (emp1_ _).symm | exact emp2_ _ | exact (emp2_ _).symm), H', ⟨by have := HJ3.out; have := HJ17.out; first | omega | exact Nat.le_refl _⟩, ⟨bk_⟩, ⟨bk_⟩, ⟨bk_⟩, ⟨bk_⟩, ⟨bl_⟩⟩
        rw [if_pos c67] at H
        have c67b0 : (t500 == 0) = true := beq_iff_eq.mpr c67
        have c67b1 : (t500 != 0) = false := bne_eq_false_iff_eq.mpr c67
        clear c67
        replace H := Option.bind_eq_some_iff.mp H
        obtain ⟨t511, A680, H⟩ := H
        replace H : (armoirelaw24_FrameReads.j2 kj17 (t511.toList == x0_3.toList)) = some r := H
        have A68 := Aside0.mk A680
        clear A680
        have H' := Aside0.mk H
        clear H
        have hnb69 := NB478_487.out
        have hnc69 := NB487_478.out
        have hnb70 := NB478_494.out
        have hnc70 := NB494_478.out
        have hnb71 := NB478_501.out
        have hnc71 := NB501_478.out
        have hcz72 := bc7 BK478.out
        go_wp2_with (first | (go_at_call 14; (with_reducible refine (frame_Request_Text.calls kj17 t470 t471 t472 t473 t474 t475 t476 t509 _ A63.out).mono ?_); rintro e w73 ⟨rfl, hb⟩; have n0_ := Aside0.mk (kbl (g := gb478) (o := .cells #[.int .i64 t470, .int .i64 t471, .string t472, .int .i64 t473, .string t474, .string t475, .int .i64 t476] 26 (0, 0)) bk_ hb); have n1_ := Aside0.mk (kbl (g := gb487) (o := .cells #[.int .i64 t479, .int .i64 t480, .string t481, .int .i64 t482, .string t483, .string t484, .int .i64 t485] 36 (0, 0)) bk_ hb); have n2_ := Aside0.mk (kbl (g := gb494) (o := .cells #[.int .i64 t488, .int .i64 t489, .int .i64 t490, .string t491, .int .i64 t492] 53 (0, 0)) bk_ hb); have n3_ := Aside0.mk (kbl (g := gb501) (o := .cells #[.int .i64 t495, .int .i64 t496, .int .i64 t497, .string t498, .int .i64 t499] 58 (0, 0)) bk_ hb); have n4_ := Aside0.mk (bsp bl_ hb); clear BK478; clear BK487; clear BK494; clear BK501; clear HB; have BK478 := n0_; have BK487 := n1_; have BK494 := n2_; have BK501 := n3_; have HB := n4_; clear n0_ n1_ n2_ n3_ n4_; (try clear hb); (try clear hb2); (try clear hk); (try clear hi); have hcz74 := bc7 BK478.out) | (go_at_call 10; (with_reducible refine (frame_Request_Check.calls kj17 t470 t471 t472 t473 t474 t475 t476 t510 _ A65.out).mono ?_); rintro e w75 ⟨rfl, hb⟩; have n0_ := Aside0.mk (kbl (g := gb478) (o := .cells #[.int .i64 t470, .int .i64 t471, .string t472, .int .i64 t473, .string t474, .string t475, .int .i64 t476] 26 (0, 0)) bk_ hb); have n1_ := Aside0.mk (kbl (g := gb487) (o := .cells #[.int .i64 t479, .int .i64 t480, .string t481, .int .i64 t482, .string t483, .string t484, .int .i64 t485] 36 (0, 0)) bk_ hb); have n2_ := Aside0.mk (kbl (g := gb494) (o := .cells #[.int .i64 t488, .int .i64 t489, .int .i64 t490, .string t491, .int .i64 t492] 53 (0, 0)) bk_ hb); have n3_ := Aside0.mk (kbl (g := gb501) (o := .cells #[.int .i64 t495, .int .i64 t496, .int .i64 t497, .string t498, .int .i64 t499] 58 (0, 0)) bk_ hb); have n4_ := Aside0.mk (bsp bl_ hb); clear BK478; clear BK487; clear BK494; clear BK501; clear HB; have BK478 := n0_; have BK487 := n1_; have BK494 := n2_; have BK501 := n3_; have HB := n4_; clear n0_ n1_ n2_ n3_ n4_; (try clear hb); (try clear hb2); (try clear hk); (try clear hi); have hnb76 := NB494_487.out; have hnc76 := NB487_494.out; have hnb77 := NB494_501.out; have hnc77 := NB501_494.out; have hcz78 := bc5 BK494.out) | (go_at_call 22; (with_reducible refine (frame_Reply_Text.calls kj17 t488 t489 t490 t491 t492 t511 _ A68.out).mono ?_); rintro e w79 ⟨rfl, hb⟩; have n0_ := Aside0.mk (kbl (g := gb478) (o := .cells #[.int .i64 t470, .int .i64 t471, .string t472, .int .i64 t473, .string t474, .string t475, .int .i64 t476] 26 (0, 0)) bk_ hb); have n1_ := Aside0.mk (kbl (g := gb487) (o := .cells #[.int .i64 t479, .int .i64 t480, .string t481, .int .i64 t482, .string t483, .string t484, .int .i64 t485] 36 (0, 0)) bk_ hb); have n2_ := Aside0.mk (kbl (g := gb494) (o := .cells #[.int .i64 t488, .int .i64 t489, .int .i64 t490, .string t491, .int .i64 t492] 53 (0, 0)) bk_ hb); have n3_ := Aside0.mk (kbl (g := gb501) (o := .cells #[.int .i64 t495, .int .i64 t496, .int .i64 t497, .string t498, .int .i64 t499] 58 (0, 0)) bk_ hb); have n4_ := Aside0.mk (bsp bl_ hb); clear BK478; clear BK487; clear BK494; clear BK501; clear HB; have BK478 := n0_; have BK487 := n1_; have BK494 := n2_; have BK501 := n3_; have HB := n4_; clear n0_ n1_ n2_ n3_ n4_; (try clear hb); (try clear hb2); (try clear hk); (try clear hi)))
        go_meet
        case rel => exact ⟨_, ((t511.toList == x0_3.toList)), (by first | rfl | (simp; done) | (simp [*]; done) | exact emp1_ _ | exact (emp1_ _).symm | exact emp2_ _ | exact (emp2_ _).symm), H', ⟨by have := HJ3.out; have := HJ17.out; first | omega | exact Nat.le_refl _⟩, ⟨bk_⟩, ⟨bk_⟩, ⟨bk_⟩, ⟨bk_⟩, ⟨bl_⟩⟩
      clear HC61
      try clear c1
      try clear p2
      try clear c3
      try clear c4
      try clear c6
      try clear c7
      try clear c8
      try clear c9
      try clear c10
      try clear c12
      try clear c37
      try clear c37b0
      try clear c37b1
      try clear c43
      try clear c43b0
      try clear c43b1
      try clear c60
      try clear c62
      try clear c62b0
      try clear c62b1
      try clear c64
      try clear c64b0
      try clear c64b1
      try clear c66
      try clear c66b0
      try clear c66b1
      try clear c67
      try clear c67b0
      try clear c67b1
      try clear c69
      try clear c70
      try clear c71
      try clear c76
      try clear c77
      try clear c80
      try clear c81
      try clear c82
      try clear c87
      try clear c88
      try clear c89
      try clear c94
      try clear c95
      try clear c96
      try clear c99
      try clear c99b0
      try clear c99b1
      try clear c101
      try clear c102
      try clear c103
      try clear hcz104
      try clear hcz72
      try clear hcz74
      try clear hcz78
      try clear hcz83
      try clear hcz85
      try clear hcz90
      try clear hcz92
      try clear hcz97
      try clear hcz104
      try clear hcz72
      try clear hcz74
      try clear hcz78
      try clear hcz83
      try clear hcz85
      try clear hcz90
      try clear hcz92
      try clear hcz97
      try clear p2
      obtain ⟨kq, x4_60, rfl, HA, HJ60, BK478, BK487, BK494, BK501, HB⟩ := hcut
      cases kq with
      | zero => exact absurd HA.out (by simp [armoirelaw24_FrameReads.j2])
      | succ kj60 =>
        have H := HA.out
        clear HA
        simp only [armoirelaw24_FrameReads.j2] at H
        obtain rfl := Option.some.inj H
        go_wp2
        go_ret
        exact ⟨er_, bl_⟩
def armoirelaw24_FrameReads.Pure : Prop := ∀ (a0 : ByteArray) (a1 : Bool), a0.size ≤ 140737488351232 → ∃ k, armoirelaw24_FrameReads.f k a0 a1 = some true
theorem armoirelaw24_FrameReads.walk (P : armoirelaw24_FrameReads.Pure) (a0 : ByteArray) (a1 : Bool) (w : World) (w0 : a0.size ≤ 140737488351232)  :
    Calls Try.prog 5 #[.string a0, .bool a1] w fun e w' => e = .returned (.bool true) ∧ Below w.heap.size w w' := by
  obtain ⟨k, h⟩ := P a0 a1 w0
  refine (armoirelaw24_FrameReads.calls k a0 a1 true w h).mono ?_
  rintro e w' ⟨rfl, hd⟩
  exact ⟨rfl, hd⟩
end Go.Proofs.Ytkkkmbgflflcnaa.PS

