import Derived.Test.YtkkkmbgflflcnaaQSxPSx6
import Derived.Test.YtkkkmbgflflcnaaQSxPSx12
namespace Go.Proofs.Ytkkkmbgflflcnaa.PS
open Go.Proofs.Ytkkkmbgflflcnaa.PL
open Go.RowKit Go.Proofs.YtkkkmbgflflcnaaW.PrintWords Go.Proofs.YtkkkmbgflflcnaaW.PrintLast Go.Proofs.YtkkkmbgflflcnaaW.PrintMore
attribute [local go_sem] max2_int min2_int max_two min_two max_three min_three max_four min_four
set_option linter.unusedVariables false
set_option linter.unusedSimpArgs false
mutual
def armoireref12_Check.j0 : Nat → Bool → Int → ByteArray → ByteArray → Int → Option (Int)
  | 0, _, _, _, _, _ => none
  | k + 1, x10, x302000, x302001, x302002, x302003 => if x10 = true then (some 6) else ((armoireref12_HasA.f x302000).bind fun t302 => (if t302 = true then (if x302000 = 11 then ((armoireref12_HasN.f x302000).bind fun t303 => (if t303 = true then (armoireref12_Check.j1 k false x302000 x302001 x302002 x302003) else (armoireref12_Check.j1 k (x302003 != 0) x302000 x302001 x302002 x302003))) else (if x302002.toList = ([] : List UInt8) then ((armoireref12_HasN.f x302000).bind fun t304 => (if t304 = true then (armoireref12_Check.j1 k false x302000 x302001 x302002 x302003) else (armoireref12_Check.j1 k (x302003 != 0) x302000 x302001 x302002 x302003))) else (armoireref12_Check.j1 k true x302000 x302001 x302002 x302003))) else (if x302001.toList = ([] : List UInt8) then (if x302000 = 11 then ((armoireref12_HasN.f x302000).bind fun t305 => (if t305 = true then (armoireref12_Check.j1 k false x302000 x302001 x302002 x302003) else (armoireref12_Check.j1 k (x302003 != 0) x302000 x302001 x302002 x302003))) else (if x302002.toList = ([] : List UInt8) then ((armoireref12_HasN.f x302000).bind fun t306 => (if t306 = true then (armoireref12_Check.j1 k false x302000 x302001 x302002 x302003) else (armoireref12_Check.j1 k (x302003 != 0) x302000 x302001 x302002 x302003))) else (armoireref12_Check.j1 k true x302000 x302001 x302002 x302003))) else (armoireref12_Check.j1 k true x302000 x302001 x302002 x302003))))
def armoireref12_Check.j1 : Nat → Bool → Int → ByteArray → ByteArray → Int → Option (Int)
  | 0, _, _, _, _, _ => none
  | k + 1, x40, x302000, x302001, x302002, x302003 => if x40 = true then (some 2) else (if (x302001.size : Int) > 24 then (armoireref12_Check.j2 k true x302000 x302001 x302002 x302003) else (armoireref12_Check.j2 k (decide ((x302002.size : Int) > 24)) x302000 x302001 x302002 x302003))
def armoireref12_Check.j2 : Nat → Bool → Int → ByteArray → ByteArray → Int → Option (Int)
  | 0, _, _, _, _, _ => none
  | k + 1, x50, x302000, x302001, x302002, x302003 => if x50 = true then (some 3) else (if x302000 = 5 then (if x302003 < 1 then (some 4) else (if x302003 > 1048576 then (some 4) else (some 0))) else (if x302000 = 6 then (if x302003 < 1 then (some 4) else (if x302003 > 1048576 then (some 4) else (some 0))) else (some 0)))
end
def armoireref12_Check.f (k : Nat) (a0_0 : Int) (a0_1 : ByteArray) (a0_2 : ByteArray) (a0_3 : Int) : Option (Int) := if a0_0 < 1 then (armoireref12_Check.j0 k true a0_0 a0_1 a0_2 a0_3) else (armoireref12_Check.j0 k (decide (a0_0 > 17)) a0_0 a0_1 a0_2 a0_3)
set_option maxHeartbeats 2000000 in
set_option maxRecDepth 100000 in
theorem armoireref12_Check.calls (k : Nat) (a0_0 : Int) (a0_1 : ByteArray) (a0_2 : ByteArray) (a0_3 : Int) (r : Int) (w : World) (h : armoireref12_Check.f k a0_0 a0_1 a0_2 a0_3 = some r) :
    Calls Try.prog 29 #[.agg #[.int .i64 a0_0, .string a0_1, .string a0_2, .int .i64 a0_3]] w fun e w' => e = .returned (.int .i64 r) ∧ Below w.heap.size w w' := by
  have hu34 := Try.underlying34
  have HB := Aside0.mk (Below.refl w.heap.size w)
  have H : (if a0_0 < 1 then (armoireref12_Check.j0 k true a0_0 a0_1 a0_2 a0_3) else (armoireref12_Check.j0 k (decide (a0_0 > 17)) a0_0 a0_1 a0_2 a0_3)) = some r := h
  clear h
  have HC2 := Aside0.mk H
  clear H
  go_enter Try.func29, Try.ntmps29
  go_upto_region 1 with (first | ((with_reducible refine gds (N := 1) rfl ?_); (try (refine gate_guard (by rfl) ?_; dsimp only)); refine bev ?hg (N := 1) ?hd (cs := #[.int .i64 a0_0, .string a0_1, .string a0_2, .int .i64 a0_3]) (t := 34) ?hr ?_; (case hd => rfl); (case hg => rfl); (case hr => first | (go_simp; done) | (go_simp; rfl)); intro gb301 hg w3 hbox hb; have n0_ := Aside0.mk (bsp bl_ hb); have n1_ := Aside0.mk (hbox); have n2_ := Aside0.mk ((by rw [hg]; exact bsz bl_ : w.heap.size ≤ gb301)); have n3_ := Aside0.mk ((by rw [hg]; exact bsz bl_ : w.heap.size ≤ gb301)); clear HB; have HB := n0_; have BK301 := n1_; have GW301 := n2_; have GE301 := n3_; clear n0_ n1_ n2_ n3_; clear hb hbox hg))
  (try simp only [Act.put, List.setIfInBounds_toArray, List.set_cons_zero, List.set_cons_succ])
  go_cut [10] (fun v10 wc => ∃ (kq : Nat) (x10_1 : Bool), v10 = .bool x10_1 ∧ Aside0 (armoireref12_Check.j0 kq x10_1 a0_0 a0_1 a0_2 a0_3 = some r) ∧ Aside0 (kq ≤ k) ∧ Aside0 (wc.heap[gb301]? = some (.cells #[.int .i64 a0_0, .string a0_1, .string a0_2, .int .i64 a0_3] 34 (0, 0))) ∧ Aside0 (Below w.heap.size w wc))
  case first =>
    have H := HC2.out
    clear HC2
    by_cases c4 : a0_0 < 1
    · rw [if_pos c4] at H
      have c4b0 : decide (a0_0 < 1) = true := decide_eq_true c4
      clear c4
      (first | rw [c4b0] | (simp only [i64_w, i32_w]; rw [c4b0]) | skip)
      have H' := Aside0.mk H
      clear H
      have hcz5 := bc4 BK301.out
      go_wp2
      go_meet
      case rel => exact ⟨_, (true), (by first | rfl | (simp; done) | (simp [*]; done) | exact emp1_ _ | exact (emp1_ _).symm | exact emp2_ _ | exact (emp2_ _).symm), H', ⟨by first | omega | exact Nat.le_refl _⟩, ⟨bk_⟩, ⟨bl_⟩⟩
    rw [if_neg c4] at H
    have c4b0 : decide (a0_0 < 1) = false := decide_eq_false c4
    clear c4
    (first | rw [c4b0] | (simp only [i64_w, i32_w]; rw [c4b0]) | skip)
    have H' := Aside0.mk H
    clear H
    have hcz6 := bc4 BK301.out
    go_wp2
    go_meet
    case rel => exact ⟨_, (decide (a0_0 > 17)), (by first | rfl | (simp; done) | (simp [*]; done) | exact emp1_ _ | exact (emp1_ _).symm | exact emp2_ _ | exact (emp2_ _).symm), H', ⟨by first | omega | exact Nat.le_refl _⟩, ⟨bk_⟩, ⟨bl_⟩⟩
  clear HC2
  try clear c2
  try clear p2
  try clear c4
  try clear c4b0
  try clear hcz5
  try clear hcz6
  try clear hcz5
  try clear hcz6
  obtain ⟨kq, x10_1, rfl, HA, HJ1, BK301, HB⟩ := hcut
  cases kq with
  | zero => exact absurd HA.out (by simp [armoireref12_Check.j0])
  | succ kj1 =>
    have H := HA.out
    clear HA
    simp only [armoireref12_Check.j0] at H
    by_cases c7 : x10_1 = true
    · subst c7
      have H1 : (some 6) = some r := by rw [if_pos rfl] at H; exact H
      clear H
      have H := H1
      clear H1
      obtain rfl := Option.some.inj H
      go_wp2
      go_ret
      exact ⟨er_, bl_⟩
    replace c7 := Bool.eq_false_iff.mpr c7
    subst c7
    have H1 : ((armoireref12_HasA.f a0_0).bind fun t302 => (if t302 = true then (if a0_0 = 11 then ((armoireref12_HasN.f a0_0).bind fun t303 => (if t303 = true then (armoireref12_Check.j1 kj1 false a0_0 a0_1 a0_2 a0_3) else (armoireref12_Check.j1 kj1 (a0_3 != 0) a0_0 a0_1 a0_2 a0_3))) else (if a0_2.toList = ([] : List UInt8) then ((armoireref12_HasN.f a0_0).bind fun t304 => (if t304 = true then (armoireref12_Check.j1 kj1 false a0_0 a0_1 a0_2 a0_3) else (armoireref12_Check.j1 kj1 (a0_3 != 0) a0_0 a0_1 a0_2 a0_3))) else (armoireref12_Check.j1 kj1 true a0_0 a0_1 a0_2 a0_3))) else (if a0_1.toList = ([] : List UInt8) then (if a0_0 = 11 then ((armoireref12_HasN.f a0_0).bind fun t305 => (if t305 = true then (armoireref12_Check.j1 kj1 false a0_0 a0_1 a0_2 a0_3) else (armoireref12_Check.j1 kj1 (a0_3 != 0) a0_0 a0_1 a0_2 a0_3))) else (if a0_2.toList = ([] : List UInt8) then ((armoireref12_HasN.f a0_0).bind fun t306 => (if t306 = true then (armoireref12_Check.j1 kj1 false a0_0 a0_1 a0_2 a0_3) else (armoireref12_Check.j1 kj1 (a0_3 != 0) a0_0 a0_1 a0_2 a0_3))) else (armoireref12_Check.j1 kj1 true a0_0 a0_1 a0_2 a0_3))) else (armoireref12_Check.j1 kj1 true a0_0 a0_1 a0_2 a0_3)))) = some r := by rw [if_neg (show ¬ (false = true) by decide)] at H; exact H
    clear H
    have H := H1
    clear H1
    have HC8 := Aside0.mk H
    clear H
    go_upto_region 3 with (fail)
    go_cut [40] (fun v40 wc => ∃ (kq : Nat) (x40_7 : Bool), v40 = .bool x40_7 ∧ Aside0 (armoireref12_Check.j1 kq x40_7 a0_0 a0_1 a0_2 a0_3 = some r) ∧ Aside0 (kq ≤ kj1) ∧ Aside0 (wc.heap[gb301]? = some (.cells #[.int .i64 a0_0, .string a0_1, .string a0_2, .int .i64 a0_3] 34 (0, 0))) ∧ Aside0 (Below w.heap.size w wc))
    case first =>
      have H := HC8.out
      clear HC8
      replace H := Option.bind_eq_some_iff.mp H
      obtain ⟨t302, A90, H⟩ := H
      replace H : (if t302 = true then (if a0_0 = 11 then ((armoireref12_HasN.f a0_0).bind fun t303 => (if t303 = true then (armoireref12_Check.j1 kj1 false a0_0 a0_1 a0_2 a0_3) else (armoireref12_Check.j1 kj1 (a0_3 != 0) a0_0 a0_1 a0_2 a0_3))) else (if a0_2.toList = ([] : List UInt8) then ((armoireref12_HasN.f a0_0).bind fun t304 => (if t304 = true then (armoireref12_Check.j1 kj1 false a0_0 a0_1 a0_2 a0_3) else (armoireref12_Check.j1 kj1 (a0_3 != 0) a0_0 a0_1 a0_2 a0_3))) else (armoireref12_Check.j1 kj1 true a0_0 a0_1 a0_2 a0_3))) else (if a0_1.toList = ([] : List UInt8) then (if a0_0 = 11 then ((armoireref12_HasN.f a0_0).bind fun t305 => (if t305 = true then (armoireref12_Check.j1 kj1 false a0_0 a0_1 a0_2 a0_3) else (armoireref12_Check.j1 kj1 (a0_3 != 0) a0_0 a0_1 a0_2 a0_3))) else (if a0_2.toList = ([] : List UInt8) then ((armoireref12_HasN.f a0_0).bind fun t306 => (if t306 = true then (armoireref12_Check.j1 kj1 false a0_0 a0_1 a0_2 a0_3) else (armoireref12_Check.j1 kj1 (a0_3 != 0) a0_0 a0_1 a0_2 a0_3))) else (armoireref12_Check.j1 kj1 true a0_0 a0_1 a0_2 a0_3))) else (armoireref12_Check.j1 kj1 true a0_0 a0_1 a0_2 a0_3))) = some r := H
      have A9 := Aside0.mk A90
      clear A90
      by_cases c10 : t302 = true
      · subst c10
        have H1 : (if a0_0 = 11 then ((armoireref12_HasN.f a0_0).bind fun t303 => (if t303 = true then (armoireref12_Check.j1 kj1 false a0_0 a0_1 a0_2 a0_3) else (armoireref12_Check.j1 kj1 (a0_3 != 0) a0_0 a0_1 a0_2 a0_3))) else (if a0_2.toList = ([] : List UInt8) then ((armoireref12_HasN.f a0_0).bind fun t304 => (if t304 = true then (armoireref12_Check.j1 kj1 false a0_0 a0_1 a0_2 a0_3) else (armoireref12_Check.j1 kj1 (a0_3 != 0) a0_0 a0_1 a0_2 a0_3))) else (armoireref12_Check.j1 kj1 true a0_0 a0_1 a0_2 a0_3))) = some r := by rw [if_pos rfl] at H; exact H
        clear H
        have H := H1
        clear H1
        by_cases c11 : a0_0 = 11
        · rw [if_pos c11] at H
          have c11b0 : (a0_0 == 11) = true := beq_iff_eq.mpr c11
          have c11b1 : (a0_0 != 11) = false := bne_eq_false_iff_eq.mpr c11
          clear c11
          (first | rw [c11b0] | (simp only [i64_w, i32_w]; rw [c11b0]) | skip)
          replace H := Option.bind_eq_some_iff.mp H
          obtain ⟨t303, A120, H⟩ := H
          replace H : (if t303 = true then (armoireref12_Check.j1 kj1 false a0_0 a0_1 a0_2 a0_3) else (armoireref12_Check.j1 kj1 (a0_3 != 0) a0_0 a0_1 a0_2 a0_3)) = some r := H
          have A12 := Aside0.mk A120
          clear A120
          by_cases c13 : t303 = true
          · subst c13
            have H1 : (armoireref12_Check.j1 kj1 false a0_0 a0_1 a0_2 a0_3) = some r := by rw [if_pos rfl] at H; exact H
            clear H
            have H := H1
            clear H1
            have H' := Aside0.mk H
            clear H
            have hcz14 := bc4 BK301.out
            go_wp2_with (first | ((with_reducible refine gcl (f := 58) rfl ?_); refine gl_ (some 13) rfl rfl Try.func58 (by kernel_rfl) rfl #[.int .i64 a0_0] rfl ar_ ?_; (with_reducible refine (armoireref12_HasA.calls a0_0 true _ A9.out).mono ?_); rintro e w' ⟨rfl, ⟨nd, rfl⟩⟩; refine ⟨_, rfl, ?_⟩) | (go_at_call 59; (with_reducible refine (armoireref12_HasN.calls a0_0 true _ A12.out).mono ?_); rintro e w' ⟨rfl, ⟨nd, rfl⟩⟩))
            go_meet
            case rel => exact ⟨_, (false), (by first | rfl | (simp; done) | (simp [*]; done) | exact emp1_ _ | exact (emp1_ _).symm | exact emp2_ _ | exact (emp2_ _).symm), H', ⟨by have := HJ1.out; first | omega | exact Nat.le_refl _⟩, ⟨bk_⟩, ⟨bl_⟩⟩
          replace c13 := Bool.eq_false_iff.mpr c13
          subst c13
          have H1 : (armoireref12_Check.j1 kj1 (a0_3 != 0) a0_0 a0_1 a0_2 a0_3) = some r := by rw [if_neg (show ¬ (false = true) by decide)] at H; exact H
          clear H
          have H := H1
          clear H1
          have H' := Aside0.mk H
          clear H
          have hcz15 := bc4 BK301.out
          go_wp2_with (first | ((with_reducible refine gcl (f := 58) rfl ?_); refine gl_ (some 13) rfl rfl Try.func58 (by kernel_rfl) rfl #[.int .i64 a0_0] rfl ar_ ?_; (with_reducible refine (armoireref12_HasA.calls a0_0 true _ A9.out).mono ?_); rintro e w' ⟨rfl, ⟨nd, rfl⟩⟩; refine ⟨_, rfl, ?_⟩) | (go_at_call 59; (with_reducible refine (armoireref12_HasN.calls a0_0 false _ A12.out).mono ?_); rintro e w' ⟨rfl, ⟨nd, rfl⟩⟩))
          go_meet
          case rel => exact ⟨_, ((a0_3 != 0)), (by first | rfl | (simp; done) | (simp [*]; done) | exact emp1_ _ | exact (emp1_ _).symm | exact emp2_ _ | exact (emp2_ _).symm), H', ⟨by have := HJ1.out; first | omega | exact Nat.le_refl _⟩, ⟨bk_⟩, ⟨bl_⟩⟩
        rw [if_neg c11] at H
        have c11b0 : (a0_0 == 11) = false := beq_eq_false_iff_ne.mpr c11
        have c11b1 : (a0_0 != 11) = true := bne_iff_ne.mpr c11
        (first | rw [c11b0] | (simp only [i64_w, i32_w]; rw [c11b0]) | skip)
        by_cases c16 : a0_2.toList = ([] : List UInt8)
        rotate_left
        · rw [if_neg c16] at H
          have c16b0 : (a0_2.toList == ([] : List UInt8)) = false := beq_eq_false_iff_ne.mpr c16
          have c16b1 : (a0_2.toList != ([] : List UInt8)) = true := bne_iff_ne.mpr c16
          (try (have c16b2 : a0_2.toList.isEmpty = false := by simpa using c16))
          have H' := Aside0.mk H
          clear H
          have hcz21 := bc4 BK301.out
          go_wp2_with (first | ((with_reducible refine gcl (f := 58) rfl ?_); refine gl_ (some 13) rfl rfl Try.func58 (by kernel_rfl) rfl #[.int .i64 a0_0] rfl ar_ ?_; (with_reducible refine (armoireref12_HasA.calls a0_0 true _ A9.out).mono ?_); rintro e w' ⟨rfl, ⟨nd, rfl⟩⟩; refine ⟨_, rfl, ?_⟩))
          go_meet
          case rel => exact ⟨_, (true), (by first | rfl | (simp; done) | (simp [*]; done) | exact emp1_ _ | exact (emp1_ _).symm | exact emp2_ _ | exact (emp2_ _).symm), H', ⟨by have := HJ1.out; first | omega | exact Nat.le_refl _⟩, ⟨bk_⟩, ⟨bl_⟩⟩
        rw [if_pos c16] at H
        have c16b0 : (a0_2.toList == ([] : List UInt8)) = true := beq_iff_eq.mpr c16
        have c16b1 : (a0_2.toList != ([] : List UInt8)) = false := bne_eq_false_iff_eq.mpr c16
        (try (have c16b2 : a0_2.toList.isEmpty = true := by simpa using c16))
        clear c16
        replace H := Option.bind_eq_some_iff.mp H
        obtain ⟨t304, A170, H⟩ := H
        replace H : (if t304 = true then (armoireref12_Check.j1 kj1 false a0_0 a0_1 a0_2 a0_3) else (armoireref12_Check.j1 kj1 (a0_3 != 0) a0_0 a0_1 a0_2 a0_3)) = some r := H
        have A17 := Aside0.mk A170
        clear A170
        by_cases c18 : t304 = true
        · subst c18
          have H1 : (armoireref12_Check.j1 kj1 false a0_0 a0_1 a0_2 a0_3) = some r := by rw [if_pos rfl] at H; exact H
          clear H
          have H := H1
          clear H1
          have H' := Aside0.mk H
          clear H
          have hcz19 := bc4 BK301.out
          go_wp2_with (first | ((with_reducible refine gcl (f := 58) rfl ?_); refine gl_ (some 13) rfl rfl Try.func58 (by kernel_rfl) rfl #[.int .i64 a0_0] rfl ar_ ?_; (with_reducible refine (armoireref12_HasA.calls a0_0 true _ A9.out).mono ?_); rintro e w' ⟨rfl, ⟨nd, rfl⟩⟩; refine ⟨_, rfl, ?_⟩) | (go_at_call 59; (with_reducible refine (armoireref12_HasN.calls a0_0 true _ A17.out).mono ?_); rintro e w' ⟨rfl, ⟨nd, rfl⟩⟩))
          go_meet
          case rel => exact ⟨_, (false), (by first | rfl | (simp; done) | (simp [*]; done) | exact emp1_ _ | exact (emp1_ _).symm | exact emp2_ _ | exact (emp2_ _).symm), H', ⟨by have := HJ1.out; first | omega | exact Nat.le_refl _⟩, ⟨bk_⟩, ⟨bl_⟩⟩
        replace c18 := Bool.eq_false_iff.mpr c18
        subst c18
        have H1 : (armoireref12_Check.j1 kj1 (a0_3 != 0) a0_0 a0_1 a0_2 a0_3) = some r := by rw [if_neg (show ¬ (false = true) by decide)] at H; exact H
        clear H
        have H := H1
        clear H1
        have H' := Aside0.mk H
        clear H
        have hcz20 := bc4 BK301.out
        go_wp2_with (first | ((with_reducible refine gcl (f := 58) rfl ?_); refine gl_ (some 13) rfl rfl Try.func58 (by kernel_rfl) rfl #[.int .i64 a0_0] rfl ar_ ?_; (with_reducible refine (armoireref12_HasA.calls a0_0 true _ A9.out).mono ?_); rintro e w' ⟨rfl, ⟨nd, rfl⟩⟩; refine ⟨_, rfl, ?_⟩) | (go_at_call 59; (with_reducible refine (armoireref12_HasN.calls a0_0 false _ A17.out).mono ?_); rintro e w' ⟨rfl, ⟨nd, rfl⟩⟩))
        go_meet
        case rel => exact ⟨_, ((a0_3 != 0)), (by first | rfl | (simp; done) | (simp [*]; done) | exact emp1_ _ | exact (emp1_ _).symm | exact emp2_ _ | exact (emp2_ _).symm), H', ⟨by have := HJ1.out; first | omega | exact Nat.le_refl _⟩, ⟨bk_⟩, ⟨bl_⟩⟩
      replace c10 := Bool.eq_false_iff.mpr c10
      subst c10
      have H1 : (if a0_1.toList = ([] : List UInt8) then (if a0_0 = 11 then ((armoireref12_HasN.f a0_0).bind fun t305 => (if t305 = true then (armoireref12_Check.j1 kj1 false a0_0 a0_1 a0_2 a0_3) else (armoireref12_Check.j1 kj1 (a0_3 != 0) a0_0 a0_1 a0_2 a0_3))) else (if a0_2.toList = ([] : List UInt8) then ((armoireref12_HasN.f a0_0).bind fun t306 => (if t306 = true then (armoireref12_Check.j1 kj1 false a0_0 a0_1 a0_2 a0_3) else (armoireref12_Check.j1 kj1 (a0_3 != 0) a0_0 a0_1 a0_2 a0_3))) else (armoireref12_Check.j1 kj1 true a0_0 a0_1 a0_2 a0_3))) else (armoireref12_Check.j1 kj1 true a0_0 a0_1 a0_2 a0_3)) = some r := by rw [if_neg (show ¬ (false = true) by decide)] at H; exact H
      clear H
      have H := H1
      clear H1
      by_cases c22 : a0_1.toList = ([] : List UInt8)
      rotate_left
      · rw [if_neg c22] at H
        have c22b0 : (a0_1.toList == ([] : List UInt8)) = false := beq_eq_false_iff_ne.mpr c22
        have c22b1 : (a0_1.toList != ([] : List UInt8)) = true := bne_iff_ne.mpr c22
        (try (have c22b2 : a0_1.toList.isEmpty = false := by simpa using c22))
        have H' := Aside0.mk H
        clear H
        have hcz34 := bc4 BK301.out
        go_wp2_with (first | ((with_reducible refine gcl (f := 58) rfl ?_); refine gl_ (some 13) rfl rfl Try.func58 (by kernel_rfl) rfl #[.int .i64 a0_0] rfl ar_ ?_; (with_reducible refine (armoireref12_HasA.calls a0_0 false _ A9.out).mono ?_); rintro e w' ⟨rfl, ⟨nd, rfl⟩⟩; refine ⟨_, rfl, ?_⟩))
        go_meet
        case rel => exact ⟨_, (true), (by first | rfl | (simp; done) | (simp [*]; done) | exact emp1_ _ | exact (emp1_ _).symm | exact emp2_ _ | exact (emp2_ _).symm), H', ⟨by have := HJ1.out; first | omega | exact Nat.le_refl _⟩, ⟨bk_⟩, ⟨bl_⟩⟩
      rw [if_pos c22] at H
      have c22b0 : (a0_1.toList == ([] : List UInt8)) = true := beq_iff_eq.mpr c22
      have c22b1 : (a0_1.toList != ([] : List UInt8)) = false := bne_eq_false_iff_eq.mpr c22
      (try (have c22b2 : a0_1.toList.isEmpty = true := by simpa using c22))
      clear c22
      by_cases c23 : a0_0 = 11
      · rw [if_pos c23] at H
        have c23b0 : (a0_0 == 11) = true := beq_iff_eq.mpr c23
        have c23b1 : (a0_0 != 11) = false := bne_eq_false_iff_eq.mpr c23
        clear c23
        replace H := Option.bind_eq_some_iff.mp H
        obtain ⟨t305, A240, H⟩ := H
        replace H : (if t305 = true then (armoireref12_Check.j1 kj1 false a0_0 a0_1 a0_2 a0_3) else (armoireref12_Check.j1 kj1 (a0_3 != 0) a0_0 a0_1 a0_2 a0_3)) = some r := H
        have A24 := Aside0.mk A240
        clear A240
        by_cases c25 : t305 = true
        · subst c25
          have H1 : (armoireref12_Check.j1 kj1 false a0_0 a0_1 a0_2 a0_3) = some r := by rw [if_pos rfl] at H; exact H
          clear H
          have H := H1
          clear H1
          have H' := Aside0.mk H
          clear H
          have hcz26 := bc4 BK301.out
          go_wp2_with (first | ((with_reducible refine gcl (f := 58) rfl ?_); refine gl_ (some 13) rfl rfl Try.func58 (by kernel_rfl) rfl #[.int .i64 a0_0] rfl ar_ ?_; (with_reducible refine (armoireref12_HasA.calls a0_0 false _ A9.out).mono ?_); rintro e w' ⟨rfl, ⟨nd, rfl⟩⟩; refine ⟨_, rfl, ?_⟩) | (go_at_call 59; (with_reducible refine (armoireref12_HasN.calls a0_0 true _ A24.out).mono ?_); rintro e w' ⟨rfl, ⟨nd, rfl⟩⟩))
          go_meet
          case rel => exact ⟨_, (false), (by first | rfl | (simp; done) | (simp [*]; done) | exact emp1_ _ | exact (emp1_ _).symm | exact emp2_ _ | exact (emp2_ _).symm), H', ⟨by have := HJ1.out; first | omega | exact Nat.le_refl _⟩, ⟨bk_⟩, ⟨bl_⟩⟩
        replace c25 := Bool.eq_false_iff.mpr c25
        subst c25
        have H1 : (armoireref12_Check.j1 kj1 (a0_3 != 0) a0_0 a0_1 a0_2 a0_3) = some r := by rw [if_neg (show ¬ (false = true) by decide)] at H; exact H
        clear H
        have H := H1
        clear H1
        have H' := Aside0.mk H
        clear H
        have hcz27 := bc4 BK301.out
        go_wp2_with (first | ((with_reducible refine gcl (f := 58) rfl ?_); refine gl_ (some 13) rfl rfl Try.func58 (by kernel_rfl) rfl #[.int .i64 a0_0] rfl ar_ ?_; (with_reducible refine (armoireref12_HasA.calls a0_0 false _ A9.out).mono ?_); rintro e w' ⟨rfl, ⟨nd, rfl⟩⟩; refine ⟨_, rfl, ?_⟩) | (go_at_call 59; (with_reducible refine (armoireref12_HasN.calls a0_0 false _ A24.out).mono ?_); rintro e w' ⟨rfl, ⟨nd, rfl⟩⟩))
        go_meet
        case rel => exact ⟨_, ((a0_3 != 0)), (by first | rfl | (simp; done) | (simp [*]; done) | exact emp1_ _ | exact (emp1_ _).symm | exact emp2_ _ | exact (emp2_ _).symm), H', ⟨by have := HJ1.out; first | omega | exact Nat.le_refl _⟩, ⟨bk_⟩, ⟨bl_⟩⟩
      rw [if_neg c23] at H
      have c23b0 : (a0_0 == 11) = false := beq_eq_false_iff_ne.mpr c23
      have c23b1 : (a0_0 != 11) = true := bne_iff_ne.mpr c23
      by_cases c28 : a0_2.toList = ([] : List UInt8)
      rotate_left
      · rw [if_neg c28] at H
        have c28b0 : (a0_2.toList == ([] : List UInt8)) = false := beq_eq_false_iff_ne.mpr c28
        have c28b1 : (a0_2.toList != ([] : List UInt8)) = true := bne_iff_ne.mpr c28
        (try (have c28b2 : a0_2.toList.isEmpty = false := by simpa using c28))
        have H' := Aside0.mk H
        clear H
        have hcz33 := bc4 BK301.out
        go_wp2_with (first | ((with_reducible refine gcl (f := 58) rfl ?_); refine gl_ (some 13) rfl rfl Try.func58 (by kernel_rfl) rfl #[.int .i64 a0_0] rfl ar_ ?_; (with_reducible refine (armoireref12_HasA.calls a0_0 false _ A9.out).mono ?_); rintro e w' ⟨rfl, ⟨nd, rfl⟩⟩; refine ⟨_, rfl, ?_⟩))
        go_meet
        case rel => exact ⟨_, (true), (by first | rfl | (simp; done) | (simp [*]; done) | exact emp1_ _ | exact (emp1_ _).symm | exact emp2_ _ | exact (emp2_ _).symm), H', ⟨by have := HJ1.out; first | omega | exact Nat.le_refl _⟩, ⟨bk_⟩, ⟨bl_⟩⟩
      rw [if_pos c28] at H
      have c28b0 : (a0_2.toList == ([] : List UInt8)) = true := beq_iff_eq.mpr c28
      have c28b1 : (a0_2.toList != ([] : List UInt8)) = false := bne_eq_false_iff_eq.mpr c28
      (try (have c28b2 : a0_2.toList.isEmpty = true := by simpa using c28))
      clear c28
      replace H := Option.bind_eq_some_iff.mp H
      obtain ⟨t306, A290, H⟩ := H
      replace H : (if t306 = true then (armoireref12_Check.j1 kj1 false a0_0 a0_1 a0_2 a0_3) else (armoireref12_Check.j1 kj1 (a0_3 != 0) a0_0 a0_1 a0_2 a0_3)) = some r := H
      have A29 := Aside0.mk A290
      clear A290
      by_cases c30 : t306 = true
      · subst c30
        have H1 : (armoireref12_Check.j1 kj1 false a0_0 a0_1 a0_2 a0_3) = some r := by rw [if_pos rfl] at H; exact H
        clear H
        have H := H1
        clear H1
        have H' := Aside0.mk H
        clear H
        have hcz31 := bc4 BK301.out
        go_wp2_with (first | ((with_reducible refine gcl (f := 58) rfl ?_); refine gl_ (some 13) rfl rfl Try.func58 (by kernel_rfl) rfl #[.int .i64 a0_0] rfl ar_ ?_; (with_reducible refine (armoireref12_HasA.calls a0_0 false _ A9.out).mono ?_); rintro e w' ⟨rfl, ⟨nd, rfl⟩⟩; refine ⟨_, rfl, ?_⟩) | (go_at_call 59; (with_reducible refine (armoireref12_HasN.calls a0_0 true _ A29.out).mono ?_); rintro e w' ⟨rfl, ⟨nd, rfl⟩⟩))
        go_meet
        case rel => exact ⟨_, (false), (by first | rfl | (simp; done) | (simp [*]; done) | exact emp1_ _ | exact (emp1_ _).symm | exact emp2_ _ | exact (emp2_ _).symm), H', ⟨by have := HJ1.out; first | omega | exact Nat.le_refl _⟩, ⟨bk_⟩, ⟨bl_⟩⟩
      replace c30 := Bool.eq_false_iff.mpr c30
      subst c30
      have H1 : (armoireref12_Check.j1 kj1 (a0_3 != 0) a0_0 a0_1 a0_2 a0_3) = some r := by rw [if_neg (show ¬ (false = true) by decide)] at H; exact H
      clear H
      have H := H1
      clear H1
      have H' := Aside0.mk H
      clear H
      have hcz32 := bc4 BK301.out
      go_wp2_with (first | ((with_reducible refine gcl (f := 58) rfl ?_); refine gl_ (some 13) rfl rfl Try.func58 (by kernel_rfl) rfl #[.int .i64 a0_0] rfl ar_ ?_; (with_reducible refine (armoireref12_HasA.calls a0_0 false _ A9.out).mono ?_); rintro e w' ⟨rfl, ⟨nd, rfl⟩⟩; refine ⟨_, rfl, ?_⟩) | (go_at_call 59; (with_reducible refine (armoireref12_HasN.calls a0_0 false _ A29.out).mono ?_); rintro e w' ⟨rfl, ⟨nd, rfl⟩⟩))
      go_meet
      case rel => exact ⟨_, ((a0_3 != 0)), (by first | rfl | (simp; done) | (simp [*]; done) | exact emp1_ _ | exact (emp1_ _).symm | exact emp2_ _ | exact (emp2_ _).symm), H', ⟨by have := HJ1.out; first | omega | exact Nat.le_refl _⟩, ⟨bk_⟩, ⟨bl_⟩⟩
    clear HC8
    try clear c1
    try clear c2
    try clear p2
    try clear c3
    try clear c4
    try clear c4b0
    try clear c5
    try clear c7
    try clear c10
    try clear c11
    try clear c11b0
    try clear c11b1
    try clear c13
    try clear c16
    try clear c16b0
    try clear c16b1
    try clear c16b2
    try clear c18
    try clear c22
    try clear c22b0
    try clear c22b1
    try clear c22b2
    try clear c23
    try clear c23b0
    try clear c23b1
    try clear c25
    try clear c28
    try clear c28b0
    try clear c28b1
    try clear c28b2
    try clear c29
    try clear c30
    try clear hcz14
    try clear hcz15
    try clear hcz19
    try clear hcz20
    try clear hcz21
    try clear hcz26
    try clear hcz27
    try clear hcz31
    try clear hcz32
    try clear hcz33
    try clear hcz34
    try clear hcz5
    try clear hcz6
    try clear hcz14
    try clear hcz15
    try clear hcz19
    try clear hcz20
    try clear hcz21
    try clear hcz26
    try clear hcz27
    try clear hcz31
    try clear hcz32
    try clear hcz33
    try clear hcz34
    try clear hcz5
    try clear hcz6
    try clear p2
    obtain ⟨kq, x40_7, rfl, HA, HJ7, BK301, HB⟩ := hcut
    cases kq with
    | zero => exact absurd HA.out (by simp [armoireref12_Check.j1])
    | succ kj7 =>
      have H := HA.out
      clear HA
      simp only [armoireref12_Check.j1] at H
      by_cases c35 : x40_7 = true
      · subst c35
        have H1 : (some 2) = some r := by rw [if_pos rfl] at H; exact H
        clear H
        have H := H1
        clear H1
        obtain rfl := Option.some.inj H
        go_wp2
        go_ret
        exact ⟨er_, bl_⟩
      replace c35 := Bool.eq_false_iff.mpr c35
      subst c35
      have H1 : (if (a0_1.size : Int) > 24 then (armoireref12_Check.j2 kj7 true a0_0 a0_1 a0_2 a0_3) else (armoireref12_Check.j2 kj7 (decide ((a0_2.size : Int) > 24)) a0_0 a0_1 a0_2 a0_3)) = some r := by rw [if_neg (show ¬ (false = true) by decide)] at H; exact H
      clear H
      have H := H1
      clear H1
      have HC36 := Aside0.mk H
      clear H
      go_upto_region 5 with (fail)
      go_cut [50] (fun v50 wc => ∃ (kq : Nat) (x50_35 : Bool), v50 = .bool x50_35 ∧ Aside0 (armoireref12_Check.j2 kq x50_35 a0_0 a0_1 a0_2 a0_3 = some r) ∧ Aside0 (kq ≤ kj7) ∧ Aside0 (wc.heap[gb301]? = some (.cells #[.int .i64 a0_0, .string a0_1, .string a0_2, .int .i64 a0_3] 34 (0, 0))) ∧ Aside0 (Below w.heap.size w wc))
      case first =>
        have H := HC36.out
        clear HC36
        by_cases c37 : (a0_1.size : Int) > 24
        · rw [if_pos c37] at H
          have c37b0 : decide (24 < (a0_1.size : Int)) = true := decide_eq_true c37
          have c37b1 : decide (24 < a0_1.size) = true := decide_eq_true (by omega)
          clear c37
          (first | rw [c37b0] | rw [c37b1] | (simp only [i64_w, i32_w]; rw [c37b0]) | (simp only [i64_w, i32_w]; rw [c37b1]) | rw [c37b2] | skip)
          have H' := Aside0.mk H
          clear H
          have hcz38 := bc4 BK301.out
          go_wp2
          go_meet
          case rel => exact ⟨_, (true), (by first | rfl | (simp; done) | (simp [*]; done) | exact emp1_ _ | exact (emp1_ _).symm | exact emp2_ _ | exact (emp2_ _).symm), H', ⟨by have := HJ1.out; have := HJ7.out; first | omega | exact Nat.le_refl _⟩, ⟨bk_⟩, ⟨bl_⟩⟩
        rw [if_neg c37] at H
        have c37b0 : decide (24 < (a0_1.size : Int)) = false := decide_eq_false c37
        have c37b1 : decide (24 < a0_1.size) = false := decide_eq_false (by omega)
        clear c37
        (first | rw [c37b0] | rw [c37b1] | (simp only [i64_w, i32_w]; rw [c37b0]) | (simp only [i64_w, i32_w]; rw [c37b1]) | rw [c37b2] | skip)
        have H' := Aside0.mk H
        clear H
        have hcz39 := bc4 BK301.out
        go_wp2
        go_meet
        case rel => exact ⟨_, (decide ((a0_2.size : Int) > 24)), (by first | rfl | (simp; done) | (simp [*]; done) | exact emp1_ _ | exact (emp1_ _).symm | exact emp2_ _ | exact (emp2_ _).symm), H', ⟨by have := HJ1.out; have := HJ7.out; first | omega | exact Nat.le_refl _⟩, ⟨bk_⟩, ⟨bl_⟩⟩
      clear HC36
      try clear c1
      try clear c2
      try clear p2
      try clear c3
      try clear c4
      try clear c4b0
      try clear c5
      try clear c7
      try clear c10
      try clear c11
      try clear c11b0
      try clear c11b1
      try clear c13
      try clear c16
      try clear c16b0
      try clear c16b1
      try clear c16b2
      try clear c18
      try clear c22
      try clear c22b0
      try clear c22b1
      try clear c22b2
      try clear c23
      try clear c23b0
      try clear c23b1
      try clear c25
      try clear c28
      try clear c28b0
      try clear c28b1
      try clear c28b2
      try clear c29
      try clear c30
      try clear c35
      try clear c37
      try clear c37b0
      try clear c37b1
      try clear c37b2
      try clear hcz14
      try clear hcz15
      try clear hcz19
      try clear hcz20
      try clear hcz21
      try clear hcz26
      try clear hcz27
      try clear hcz31
      try clear hcz32
      try clear hcz33
      try clear hcz34
      try clear hcz38
      try clear hcz39
      try clear hcz5
      try clear hcz6
      try clear hcz14
      try clear hcz15
      try clear hcz19
      try clear hcz20
      try clear hcz21
      try clear hcz26
      try clear hcz27
      try clear hcz31
      try clear hcz32
      try clear hcz33
      try clear hcz34
      try clear hcz38
      try clear hcz39
      try clear hcz5
      try clear hcz6
      try clear p2
      obtain ⟨kq, x50_35, rfl, HA, HJ35, BK301, HB⟩ := hcut
      cases kq with
      | zero => exact absurd HA.out (by simp [armoireref12_Check.j2])
      | succ kj35 =>
        have H := HA.out
        clear HA
        simp only [armoireref12_Check.j2] at H
        by_cases c40 : x50_35 = true
        · subst c40
          have H1 : (some 3) = some r := by rw [if_pos rfl] at H; exact H
          clear H
          have H := H1
          clear H1
          obtain rfl := Option.some.inj H
          go_wp2
          go_ret
          exact ⟨er_, bl_⟩
        replace c40 := Bool.eq_false_iff.mpr c40
        subst c40
        have H1 : (if a0_0 = 5 then (if a0_3 < 1 then (some 4) else (if a0_3 > 1048576 then (some 4) else (some 0))) else (if a0_0 = 6 then (if a0_3 < 1 then (some 4) else (if a0_3 > 1048576 then (some 4) else (some 0))) else (some 0))) = some r := by rw [if_neg (show ¬ (false = true) by decide)] at H; exact H
        clear H
        have H := H1
        clear H1
        by_cases c41 : a0_0 = 5
        · rw [if_pos c41] at H
          have c41b0 : (a0_0 == 5) = true := beq_iff_eq.mpr c41
          have c41b1 : (a0_0 != 5) = false := bne_eq_false_iff_eq.mpr c41
          clear c41
          by_cases c42 : a0_3 < 1
          · rw [if_pos c42] at H
            have c42b0 : decide (a0_3 < 1) = true := decide_eq_true c42
            clear c42
            obtain rfl := Option.some.inj H
            have hcz43 := bc4 BK301.out
            go_wp2
            go_ret
            exact ⟨er_, bl_⟩
          rw [if_neg c42] at H
          have c42b0 : decide (a0_3 < 1) = false := decide_eq_false c42
          clear c42
          by_cases c44 : a0_3 > 1048576
          · rw [if_pos c44] at H
            have c44b0 : decide (1048576 < a0_3) = true := decide_eq_true c44
            clear c44
            obtain rfl := Option.some.inj H
            have hcz45 := bc4 BK301.out
            go_wp2
            go_ret
            exact ⟨er_, bl_⟩
          rw [if_neg c44] at H
          have c44b0 : decide (1048576 < a0_3) = false := decide_eq_false c44
          clear c44
          obtain rfl := Option.some.inj H
          have hcz46 := bc4 BK301.out
          go_wp2
          go_ret
          exact ⟨er_, bl_⟩
        rw [if_neg c41] at H
        have c41b0 : (a0_0 == 5) = false := beq_eq_false_iff_ne.mpr c41
        have c41b1 : (a0_0 != 5) = true := bne_iff_ne.mpr c41
        by_cases c47 : a0_0 = 6
        rotate_left
        · rw [if_neg c47] at H
          have c47b0 : (a0_0 == 6) = false := beq_eq_false_iff_ne.mpr c47
          have c47b1 : (a0_0 != 6) = true := bne_iff_ne.mpr c47
          obtain rfl := Option.some.inj H
          have hcz53 := bc4 BK301.out
          go_wp2
          go_ret
          exact ⟨er_, bl_⟩
        rw [if_pos c47] at H
        have c47b0 : (a0_0 == 6) = true := beq_iff_eq.mpr c47
        have c47b1 : (a0_0 != 6) = false := bne_eq_false_iff_eq.mpr c47
        clear c47
        by_cases c48 : a0_3 < 1
        · rw [if_pos c48] at H
          have c48b0 : decide (a0_3 < 1) = true := decide_eq_true c48
          clear c48
          obtain rfl := Option.some.inj H
          have hcz49 := bc4 BK301.out
          go_wp2
          go_ret
          exact ⟨er_, bl_⟩
        rw [if_neg c48] at H
        have c48b0 : decide (a0_3 < 1) = false := decide_eq_false c48
        clear c48
        by_cases c50 : a0_3 > 1048576
        · rw [if_pos c50] at H
          have c50b0 : decide (1048576 < a0_3) = true := decide_eq_true c50
          clear c50
          obtain rfl := Option.some.inj H
          have hcz51 := bc4 BK301.out
          go_wp2
          go_ret
          exact ⟨er_, bl_⟩
        rw [if_neg c50] at H
        have c50b0 : decide (1048576 < a0_3) = false := decide_eq_false c50
        clear c50
        obtain rfl := Option.some.inj H
        have hcz52 := bc4 BK301.out
        go_wp2
        go_ret
        exact ⟨er_, bl_⟩
def armoireref02_TakeI.f (k : Nat) (a0_0 : ByteArray) (a0_1 : Int) : Option (ByteArray × Int × Int) := (armoireref02_TakeU.f k a0_0 a0_1).bind fun bt309 => (if (Int.tmod bt309.2.2 2) = 1 then (some (bt309.1, bt309.2.1, wrap64 ((wrap64 (-(wrap64 (IntKind.u64.wrap (Int.tdiv bt309.2.2 2))))) - 1))) else (some (bt309.1, bt309.2.1, wrap64 (IntKind.u64.wrap (Int.tdiv bt309.2.2 2)))))
set_option maxHeartbeats 2000000 in
set_option maxRecDepth 100000 in
theorem armoireref02_TakeI.calls (k : Nat) (a0_0 : ByteArray) (a0_1 : Int) (r1 : ByteArray) (r2 : Int) (r3 : Int) (w : World) (h : armoireref02_TakeI.f k a0_0 a0_1 = some (r1, r2, r3)) :
    Calls Try.prog 74 #[.agg #[.string a0_0, .int .i64 a0_1]] w fun e w' => e = .returned (.tuple #[.agg #[.string r1, .int .i64 r2], .int .i64 r3]) ∧ Below w.heap.size w w' := by
  have hu88 := Try.underlying88
  have HB := Aside0.mk (Below.refl w.heap.size w)
  have H : ((armoireref02_TakeU.f k a0_0 a0_1).bind fun bt309 => (if (Int.tmod bt309.2.2 2) = 1 then (some (bt309.1, bt309.2.1, wrap64 ((wrap64 (-(wrap64 (IntKind.u64.wrap (Int.tdiv bt309.2.2 2))))) - 1))) else (some (bt309.1, bt309.2.1, wrap64 (IntKind.u64.wrap (Int.tdiv bt309.2.2 2)))))) = some (r1, r2, r3) := h
  clear h
  replace H := Option.bind_eq_some_iff.mp H
  obtain ⟨⟨t309, t310, t311⟩, A20, H⟩ := H
  replace H : (if (Int.tmod t311 2) = 1 then (some (t309, t310, wrap64 ((wrap64 (-(wrap64 (IntKind.u64.wrap (Int.tdiv t311 2))))) - 1))) else (some (t309, t310, wrap64 (IntKind.u64.wrap (Int.tdiv t311 2))))) = some (r1, r2, r3) := H
  have A2 := Aside0.mk A20
  clear A20
  have HS3 := Aside0.mk H
  clear H
  go_enter Try.func74, Try.ntmps74
  go_upto_if 12 with (first | ((with_reducible refine gds (N := 1) rfl ?_); refine bev ?hg (N := 1) ?hd (cs := #[.string a0_0, .int .i64 a0_1]) (t := 88) ?hr ?_; (case hd => rfl); (case hg => rfl); (case hr => first | (go_simp; done) | (go_simp; rfl)); intro gb307 hg w4 hbox hb; have n0_ := Aside0.mk (bsp bl_ hb); have n1_ := Aside0.mk (hbox); have n2_ := Aside0.mk ((by rw [hg]; exact bsz bl_ : w.heap.size ≤ gb307)); have n3_ := Aside0.mk ((by rw [hg]; exact bsz bl_ : w.heap.size ≤ gb307)); clear HB; have HB := n0_; have BK307 := n1_; have GW307 := n2_; have GE307 := n3_; clear n0_ n1_ n2_ n3_; clear hb hbox hg) | ((with_reducible refine gds (N := 2) rfl ?_); refine bev ?hg (N := 2) ?hd (cs := #[.string (⟨#[]⟩ : ByteArray), .int .i64 0]) (t := 88) ?hr ?_; (case hd => rfl); (case hg => rfl); (case hr => first | (go_simp; done) | (go_simp; rfl)); intro gb308 hg w5 hbox hb; have n0_ := Aside0.mk (kbl (g := gb307) (o := .cells #[.string a0_0, .int .i64 a0_1] 88 (0, 0)) bk_ hb); have n1_ := Aside0.mk (bsp bl_ hb); have n2_ := Aside0.mk (hbox); have n3_ := Aside0.mk ((by rw [hg]; exact bsz bl_ : w.heap.size ≤ gb308)); have n4_ := Aside0.mk ((by rw [hg]; exact bsz bl_ : w.heap.size ≤ gb308)); have n5_ := Aside0.mk ((by rw [hg]; exact Nat.ne_of_lt (blk_lt (g := gb307) (o := .cells #[.string a0_0, .int .i64 a0_1] 88 (0, 0)) bk_) : gb307 ≠ gb308)); have n6_ := Aside0.mk ((by rw [hg]; exact Nat.ne_of_gt (blk_lt (g := gb307) (o := .cells #[.string a0_0, .int .i64 a0_1] 88 (0, 0)) bk_) : gb308 ≠ gb307)); clear BK307; clear HB; have BK307 := n0_; have HB := n1_; have BK308 := n2_; have GW308 := n3_; have GE308 := n4_; have NB307_308 := n5_; have NB308_307 := n6_; clear n0_ n1_ n2_ n3_ n4_ n5_ n6_; clear hb hbox hg; have hnb6 := NB307_308.out; have hnc6 := NB308_307.out; have hcz7 := bc2 BK307.out) | ((with_reducible refine gcl (f := 71) rfl ?_); refine gl_ (some 7) rfl rfl Try.func71 (by kernel_rfl) rfl #[.agg #[.string a0_0, .int .i64 a0_1]] rfl ar_ ?_; (with_reducible refine (armoireref02_TakeU.calls k a0_0 a0_1 t309 t310 t311 _ A2.out).mono ?_); rintro e w8 ⟨rfl, hb⟩; refine ⟨_, rfl, ?_⟩; have n0_ := Aside0.mk (kbl (g := gb307) (o := .cells #[.string a0_0, .int .i64 a0_1] 88 (0, 0)) bk_ hb); have n1_ := Aside0.mk (kbl (g := gb308) (o := .cells #[.string (⟨#[]⟩ : ByteArray), .int .i64 0] 88 (0, 0)) bk_ hb); have n2_ := Aside0.mk (bsp bl_ hb); clear BK307; clear BK308; clear HB; have BK307 := n0_; have BK308 := n1_; have HB := n2_; clear n0_ n1_ n2_; (try clear hb); (try clear hb2); (try clear hk); (try clear hi); have hcz9 := bc2 BK307.out))
  (try simp only [Act.put, List.setIfInBounds_toArray, List.set_cons_zero, List.set_cons_succ])
  have H := HS3.out
  clear HS3
  by_cases c10 : (Int.tmod t311 2) = 1
  rotate_left
  · rw [if_neg c10] at H
    have c10b0 : ((Int.tmod t311 2) == 1) = false := beq_eq_false_iff_ne.mpr c10
    have c10b1 : ((Int.tmod t311 2) != 1) = true := bne_iff_ne.mpr c10
    (first | rw [c10b0] | (simp only [i64_w, i32_w]; rw [c10b0]) | skip)
    simp only [Option.some.injEq, Prod.mk.injEq] at H
    obtain ⟨rfl, rfl, rfl⟩ := H
    have hnb14 := NB307_308.out
    have hnc14 := NB308_307.out
    have hcz15 := bc2 BK307.out
    have hcz16 := bc2 BK308.out
    go_wp2
    refine bodyPost_ret (results_ct rfl _ _ gb308 88 #[.string t309, .int .i64 t310] (0, 0) _ rfl bk_ Try.underlying88 rfl (by kernel_rfl)) rfl ?_
    exact ⟨er_, bl_⟩
  rw [if_pos c10] at H
  have c10b0 : ((Int.tmod t311 2) == 1) = true := beq_iff_eq.mpr c10
  have c10b1 : ((Int.tmod t311 2) != 1) = false := bne_eq_false_iff_eq.mpr c10
  clear c10
  (first | rw [c10b0] | (simp only [i64_w, i32_w]; rw [c10b0]) | skip)
  simp only [Option.some.injEq, Prod.mk.injEq] at H
  obtain ⟨rfl, rfl, rfl⟩ := H
  have hnb11 := NB307_308.out
  have hnc11 := NB308_307.out
  have hcz12 := bc2 BK307.out
  have hcz13 := bc2 BK308.out
  go_wp2
  refine bodyPost_ret (results_ct rfl _ _ gb308 88 #[.string t309, .int .i64 t310] (0, 0) _ rfl bk_ Try.underlying88 rfl (by kernel_rfl)) rfl ?_
  exact ⟨er_, bl_⟩
end Go.Proofs.Ytkkkmbgflflcnaa.PS

