import Derived.Test.YtkkkmbgflflcnaaQQxPAx2
import Derived.Test.YtkkkmbgflflcnaaQQxPAx8
namespace Go.Proofs.Ytkkkmbgflflcnaa.PA
open Go.Proofs.Ytkkkmbgflflcnaa.PL
open Go.RowKit Go.Proofs.YtkkkmbgflflcnaaW.PrintWords Go.Proofs.YtkkkmbgflflcnaaW.PrintLast Go.Proofs.YtkkkmbgflflcnaaW.PrintMore
attribute [local go_sem] max2_int min2_int max_two min_two max_three min_three max_four min_four
set_option linter.unusedVariables false
set_option linter.unusedSimpArgs false
mutual
def armoireref12_Check.j0 : Nat → Bool → Int → ByteArray → ByteArray → Int → Option (Int)
  | 0, _, _, _, _, _ => none
  | k + 1, x10, x283000, x283001, x283002, x283003 => if x10 = true then (some 6) else ((armoireref12_HasA.f x283000).bind fun t283 => (if t283 = true then (if x283000 = 11 then ((armoireref12_HasN.f x283000).bind fun t284 => (if t284 = true then (armoireref12_Check.j1 k false x283000 x283001 x283002 x283003) else (armoireref12_Check.j1 k (x283003 != 0) x283000 x283001 x283002 x283003))) else (if x283002.toList = ([] : List UInt8) then ((armoireref12_HasN.f x283000).bind fun t285 => (if t285 = true then (armoireref12_Check.j1 k false x283000 x283001 x283002 x283003) else (armoireref12_Check.j1 k (x283003 != 0) x283000 x283001 x283002 x283003))) else (armoireref12_Check.j1 k true x283000 x283001 x283002 x283003))) else (if x283001.toList = ([] : List UInt8) then (if x283000 = 11 then ((armoireref12_HasN.f x283000).bind fun t286 => (if t286 = true then (armoireref12_Check.j1 k false x283000 x283001 x283002 x283003) else (armoireref12_Check.j1 k (x283003 != 0) x283000 x283001 x283002 x283003))) else (if x283002.toList = ([] : List UInt8) then ((armoireref12_HasN.f x283000).bind fun t287 => (if t287 = true then (armoireref12_Check.j1 k false x283000 x283001 x283002 x283003) else (armoireref12_Check.j1 k (x283003 != 0) x283000 x283001 x283002 x283003))) else (armoireref12_Check.j1 k true x283000 x283001 x283002 x283003))) else (armoireref12_Check.j1 k true x283000 x283001 x283002 x283003))))
def armoireref12_Check.j1 : Nat → Bool → Int → ByteArray → ByteArray → Int → Option (Int)
  | 0, _, _, _, _, _ => none
  | k + 1, x40, x283000, x283001, x283002, x283003 => if x40 = true then (some 2) else (if (x283001.size : Int) > 24 then (armoireref12_Check.j2 k true x283000 x283001 x283002 x283003) else (armoireref12_Check.j2 k (decide ((x283002.size : Int) > 24)) x283000 x283001 x283002 x283003))
def armoireref12_Check.j2 : Nat → Bool → Int → ByteArray → ByteArray → Int → Option (Int)
  | 0, _, _, _, _, _ => none
  | k + 1, x50, x283000, x283001, x283002, x283003 => if x50 = true then (some 3) else (if x283000 = 5 then (if x283003 < 1 then (some 4) else (if x283003 > 1048576 then (some 4) else (some 0))) else (if x283000 = 6 then (if x283003 < 1 then (some 4) else (if x283003 > 1048576 then (some 4) else (some 0))) else (some 0)))
end
def armoireref12_Check.f (k : Nat) (a0_0 : Int) (a0_1 : ByteArray) (a0_2 : ByteArray) (a0_3 : Int) : Option (Int) := if a0_0 < 1 then (armoireref12_Check.j0 k true a0_0 a0_1 a0_2 a0_3) else (armoireref12_Check.j0 k (decide (a0_0 > 17)) a0_0 a0_1 a0_2 a0_3)
set_option maxHeartbeats 2000000 in
set_option maxRecDepth 100000 in
theorem armoireref12_Check.calls (k : Nat) (a0_0 : Int) (a0_1 : ByteArray) (a0_2 : ByteArray) (a0_3 : Int) (r : Int) (w : World) (h : armoireref12_Check.f k a0_0 a0_1 a0_2 a0_3 = some r) :
    Calls Try.prog 29 #[.agg #[.int .i64 a0_0, .string a0_1, .string a0_2, .int .i64 a0_3]] w fun e w' => e = .returned (.int .i64 r) ∧ Below w.heap.size w w' := by
  have hu34 := Try.underlying34
  have HB := Aside0.mk (Below.refl w.heap.size w)
  have H : (if a0_0 < 1 then (armoireref12_Check.j0 k true a0_0 a0_1 a0_2 a0_3) else (armoireref12_Check.j0 k (decide (a0_0 > 17)) a0_0 a0_1 a0_2 a0_3)) = some r := h
  clear h
  have HC2 := Aside0.mk H
  clear H
  go_enter Try.func29, Try.ntmps29
  go_upto_region 1 with (first | ((with_reducible refine gds (N := 1) rfl ?_); (try (refine gate_guard (by rfl) ?_; dsimp only)); refine bev ?hg (N := 1) ?hd (cs := #[.int .i64 a0_0, .string a0_1, .string a0_2, .int .i64 a0_3]) (t := 34) ?hr ?_; (case hd => rfl); (case hg => rfl); (case hr => first | (go_simp; done) | (go_simp; rfl)); intro gb282 hg w3 hbox hb; have n0_ := Aside0.mk (bsp (by repeat (first | (with_reducible first | exact HB.out | apply bal | apply bdn | apply bd1) | exact HB.out)) hb); have n1_ := Aside0.mk (hbox); have n2_ := Aside0.mk ((by rw [hg]; exact (bsz (by repeat (first | (with_reducible first | exact HB.out | apply bal | apply bdn | apply bd1) | exact HB.out))) : w.heap.size ≤ gb282)); have n3_ := Aside0.mk ((by rw [hg]; exact (bsz (by repeat (first | (with_reducible first | exact HB.out | apply bal | apply bdn | apply bd1) | exact HB.out))) : w.heap.size ≤ gb282)); clear HB; have HB := n0_; have BK282 := n1_; have GW282 := n2_; have GE282 := n3_; clear n0_ n1_ n2_ n3_; clear hb hbox hg))
  (try simp only [Act.put, List.setIfInBounds_toArray, List.set_cons_zero, List.set_cons_succ])
  go_cut [10] (fun v10 wc => ∃ (kq : Nat) (x10_1 : Bool), v10 = .bool x10_1 ∧ Aside0 (armoireref12_Check.j0 kq x10_1 a0_0 a0_1 a0_2 a0_3 = some r) ∧ Aside0 (kq ≤ k) ∧ Aside0 (wc.heap[gb282]? = some (.cells #[.int .i64 a0_0, .string a0_1, .string a0_2, .int .i64 a0_3] 34 (0, 0))) ∧ Aside0 (Below w.heap.size w wc))
  case first =>
    have H := HC2.out
    clear HC2
    by_cases c4 : a0_0 < 1
    · rw [if_pos c4] at H
      have c4b0 : decide (a0_0 < 1) = true := decide_eq_true c4
      clear c4
      (first | rw [c4b0] | (simp only [i64_w, i32_w]; rw [c4b0]) | skip)
      have H' := Aside0.mk H
      clear H
      have hcz5_0 : w3.cell? ⟨gb282, 0, none⟩ = some (.int .i64 a0_0) := (kcl BK282.out 0).trans rfl
      have hcz5_1 : w3.cell? ⟨gb282, 1, none⟩ = some (.string a0_1) := (kcl BK282.out 1).trans rfl
      have hcz5_2 : w3.cell? ⟨gb282, 2, none⟩ = some (.string a0_2) := (kcl BK282.out 2).trans rfl
      have hcz5_3 : w3.cell? ⟨gb282, 3, none⟩ = some (.int .i64 a0_3) := (kcl BK282.out 3).trans rfl
      have hfz5_0 := kfr BK282.out 0
      have hfz5_1 := kfr BK282.out 1
      have hfz5_2 := kfr BK282.out 2
      have hfz5_3 := kfr BK282.out 3
      go_wp2
      go_meet
      case rel => exact ⟨_, (true), (by first | rfl | (simp; done) | (simp [*]; done) | exact emp1_ _ | exact (emp1_ _).symm | exact emp2_ _ | exact (emp2_ _).symm), H', ⟨by first | omega | exact Nat.le_refl _⟩, ⟨by (with_reducible repeat (first | refine kdn ?_ _ | refine kdw ?_ | refine kal ?_ _)); exact BK282.out⟩, ⟨by repeat (first | (with_reducible first | exact HB.out | apply bal | apply bdn | apply bd1 | refine bst ?_ GE282.out) | exact HB.out)⟩⟩
    rw [if_neg c4] at H
    have c4b0 : decide (a0_0 < 1) = false := decide_eq_false c4
    clear c4
    (first | rw [c4b0] | (simp only [i64_w, i32_w]; rw [c4b0]) | skip)
    have H' := Aside0.mk H
    clear H
    have hcz6_0 : w3.cell? ⟨gb282, 0, none⟩ = some (.int .i64 a0_0) := (kcl BK282.out 0).trans rfl
    have hcz6_1 : w3.cell? ⟨gb282, 1, none⟩ = some (.string a0_1) := (kcl BK282.out 1).trans rfl
    have hcz6_2 : w3.cell? ⟨gb282, 2, none⟩ = some (.string a0_2) := (kcl BK282.out 2).trans rfl
    have hcz6_3 : w3.cell? ⟨gb282, 3, none⟩ = some (.int .i64 a0_3) := (kcl BK282.out 3).trans rfl
    have hfz6_0 := kfr BK282.out 0
    have hfz6_1 := kfr BK282.out 1
    have hfz6_2 := kfr BK282.out 2
    have hfz6_3 := kfr BK282.out 3
    go_wp2
    go_meet
    case rel => exact ⟨_, (decide (a0_0 > 17)), (by first | rfl | (simp; done) | (simp [*]; done) | exact emp1_ _ | exact (emp1_ _).symm | exact emp2_ _ | exact (emp2_ _).symm), H', ⟨by first | omega | exact Nat.le_refl _⟩, ⟨by (with_reducible repeat (first | refine kdn ?_ _ | refine kdw ?_ | refine kal ?_ _)); exact BK282.out⟩, ⟨by repeat (first | (with_reducible first | exact HB.out | apply bal | apply bdn | apply bd1 | refine bst ?_ GE282.out) | exact HB.out)⟩⟩
  clear HC2
  try clear c2
  try clear p2
  try clear c4
  try clear c4b0
  try clear hcz5_0
  try clear hcz5_1
  try clear hcz5_2
  try clear hcz5_3
  try clear hcz6_0
  try clear hcz6_1
  try clear hcz6_2
  try clear hcz6_3
  try clear hfz5_0
  try clear hfz5_1
  try clear hfz5_2
  try clear hfz5_3
  try clear hfz6_0
  try clear hfz6_1
  try clear hfz6_2
  try clear hfz6_3
  obtain ⟨kq, x10_1, rfl, HA, HJ1, BK282, HB⟩ := hcut
  cases kq with
  | zero => exact absurd HA.out (by simp [armoireref12_Check.j0])
  | succ kj1 =>
    have H := HA.out
    clear HA
    simp only [armoireref12_Check.j0] at H
    by_cases c7 : x10_1 = true
    · subst c7
      have H1 : (some 6) = some r := by rw [if_pos rfl] at H; exact H
      clear H
      have H := H1
      clear H1
      obtain rfl := Option.some.inj H
      go_wp2
      go_ret
      exact ⟨by first | rfl | (simp [errW_none, errW_some] <;> rfl) | (simp [*, errW_none, errW_some] <;> rfl), by repeat (first | (with_reducible first | exact HB.out | apply bal | apply bdn | apply bd1 | refine bst ?_ GE282.out) | exact HB.out)⟩
    replace c7 := Bool.eq_false_iff.mpr c7
    subst c7
    have H1 : ((armoireref12_HasA.f a0_0).bind fun t283 => (if t283 = true then (if a0_0 = 11 then ((armoireref12_HasN.f a0_0).bind fun t284 => (if t284 = true then (armoireref12_Check.j1 kj1 false a0_0 a0_1 a0_2 a0_3) else (armoireref12_Check.j1 kj1 (a0_3 != 0) a0_0 a0_1 a0_2 a0_3))) else (if a0_2.toList = ([] : List UInt8) then ((armoireref12_HasN.f a0_0).bind fun t285 => (if t285 = true then (armoireref12_Check.j1 kj1 false a0_0 a0_1 a0_2 a0_3) else (armoireref12_Check.j1 kj1 (a0_3 != 0) a0_0 a0_1 a0_2 a0_3))) else (armoireref12_Check.j1 kj1 true a0_0 a0_1 a0_2 a0_3))) else (if a0_1.toList = ([] : List UInt8) then (if a0_0 = 11 then ((armoireref12_HasN.f a0_0).bind fun t286 => (if t286 = true then (armoireref12_Check.j1 kj1 false a0_0 a0_1 a0_2 a0_3) else (armoireref12_Check.j1 kj1 (a0_3 != 0) a0_0 a0_1 a0_2 a0_3))) else (if a0_2.toList = ([] : List UInt8) then ((armoireref12_HasN.f a0_0).bind fun t287 => (if t287 = true then (armoireref12_Check.j1 kj1 false a0_0 a0_1 a0_2 a0_3) else (armoireref12_Check.j1 kj1 (a0_3 != 0) a0_0 a0_1 a0_2 a0_3))) else (armoireref12_Check.j1 kj1 true a0_0 a0_1 a0_2 a0_3))) else (armoireref12_Check.j1 kj1 true a0_0 a0_1 a0_2 a0_3)))) = some r := by rw [if_neg (show ¬ (false = true) by decide)] at H; exact H
    clear H
    have H := H1
    clear H1
    have HC8 := Aside0.mk H
    clear H
    go_upto_region 3 with (fail)
    go_cut [40] (fun v40 wc => ∃ (kq : Nat) (x40_7 : Bool), v40 = .bool x40_7 ∧ Aside0 (armoireref12_Check.j1 kq x40_7 a0_0 a0_1 a0_2 a0_3 = some r) ∧ Aside0 (kq ≤ kj1) ∧ Aside0 (wc.heap[gb282]? = some (.cells #[.int .i64 a0_0, .string a0_1, .string a0_2, .int .i64 a0_3] 34 (0, 0))) ∧ Aside0 (Below w.heap.size w wc))
    case first =>
      have H := HC8.out
      clear HC8
      replace H := Option.bind_eq_some_iff.mp H
      obtain ⟨t283, A90, H⟩ := H
      replace H : (if t283 = true then (if a0_0 = 11 then ((armoireref12_HasN.f a0_0).bind fun t284 => (if t284 = true then (armoireref12_Check.j1 kj1 false a0_0 a0_1 a0_2 a0_3) else (armoireref12_Check.j1 kj1 (a0_3 != 0) a0_0 a0_1 a0_2 a0_3))) else (if a0_2.toList = ([] : List UInt8) then ((armoireref12_HasN.f a0_0).bind fun t285 => (if t285 = true then (armoireref12_Check.j1 kj1 false a0_0 a0_1 a0_2 a0_3) else (armoireref12_Check.j1 kj1 (a0_3 != 0) a0_0 a0_1 a0_2 a0_3))) else (armoireref12_Check.j1 kj1 true a0_0 a0_1 a0_2 a0_3))) else (if a0_1.toList = ([] : List UInt8) then (if a0_0 = 11 then ((armoireref12_HasN.f a0_0).bind fun t286 => (if t286 = true then (armoireref12_Check.j1 kj1 false a0_0 a0_1 a0_2 a0_3) else (armoireref12_Check.j1 kj1 (a0_3 != 0) a0_0 a0_1 a0_2 a0_3))) else (if a0_2.toList = ([] : List UInt8) then ((armoireref12_HasN.f a0_0).bind fun t287 => (if t287 = true then (armoireref12_Check.j1 kj1 false a0_0 a0_1 a0_2 a0_3) else (armoireref12_Check.j1 kj1 (a0_3 != 0) a0_0 a0_1 a0_2 a0_3))) else (armoireref12_Check.j1 kj1 true a0_0 a0_1 a0_2 a0_3))) else (armoireref12_Check.j1 kj1 true a0_0 a0_1 a0_2 a0_3))) = some r := H
      have A9 := Aside0.mk A90
      clear A90
      by_cases c10 : t283 = true
      · subst c10
        have H1 : (if a0_0 = 11 then ((armoireref12_HasN.f a0_0).bind fun t284 => (if t284 = true then (armoireref12_Check.j1 kj1 false a0_0 a0_1 a0_2 a0_3) else (armoireref12_Check.j1 kj1 (a0_3 != 0) a0_0 a0_1 a0_2 a0_3))) else (if a0_2.toList = ([] : List UInt8) then ((armoireref12_HasN.f a0_0).bind fun t285 => (if t285 = true then (armoireref12_Check.j1 kj1 false a0_0 a0_1 a0_2 a0_3) else (armoireref12_Check.j1 kj1 (a0_3 != 0) a0_0 a0_1 a0_2 a0_3))) else (armoireref12_Check.j1 kj1 true a0_0 a0_1 a0_2 a0_3))) = some r := by rw [if_pos rfl] at H; exact H
        clear H
        have H := H1
        clear H1
        by_cases c11 : a0_0 = 11
        · rw [if_pos c11] at H
          have c11b0 : (a0_0 == 11) = true := beq_iff_eq.mpr c11
          have c11b1 : (a0_0 != 11) = false := bne_eq_false_iff_eq.mpr c11
          clear c11
          (first | rw [c11b0] | (simp only [i64_w, i32_w]; rw [c11b0]) | skip)
          replace H := Option.bind_eq_some_iff.mp H
          obtain ⟨t284, A120, H⟩ := H
          replace H : (if t284 = true then (armoireref12_Check.j1 kj1 false a0_0 a0_1 a0_2 a0_3) else (armoireref12_Check.j1 kj1 (a0_3 != 0) a0_0 a0_1 a0_2 a0_3)) = some r := H
          have A12 := Aside0.mk A120
          clear A120
          by_cases c13 : t284 = true
          · subst c13
            have H1 : (armoireref12_Check.j1 kj1 false a0_0 a0_1 a0_2 a0_3) = some r := by rw [if_pos rfl] at H; exact H
            clear H
            have H := H1
            clear H1
            have H' := Aside0.mk H
            clear H
            have hcz14_0 : wc.cell? ⟨gb282, 0, none⟩ = some (.int .i64 a0_0) := (kcl BK282.out 0).trans rfl
            have hcz14_1 : wc.cell? ⟨gb282, 1, none⟩ = some (.string a0_1) := (kcl BK282.out 1).trans rfl
            have hcz14_2 : wc.cell? ⟨gb282, 2, none⟩ = some (.string a0_2) := (kcl BK282.out 2).trans rfl
            have hcz14_3 : wc.cell? ⟨gb282, 3, none⟩ = some (.int .i64 a0_3) := (kcl BK282.out 3).trans rfl
            have hfz14_0 := kfr BK282.out 0
            have hfz14_1 := kfr BK282.out 1
            have hfz14_2 := kfr BK282.out 2
            have hfz14_3 := kfr BK282.out 3
            go_wp2_with (first | ((with_reducible refine gcl (f := 58) rfl ?_); refine gl_ (some 13) rfl rfl Try.func58 (by kernel_rfl) rfl #[.int .i64 a0_0] rfl (by (try simp only [List.map_toArray, List.map_cons, List.map_nil]); first | done | rfl | (simp only [List.length_drop, List.length_take]; rfl)) ?_; (with_reducible refine (armoireref12_HasA.calls a0_0 true _ A9.out).mono ?_); rintro e w' ⟨rfl, ⟨nd, rfl⟩⟩; refine ⟨_, rfl, ?_⟩) | (go_at_call 59; (with_reducible refine (armoireref12_HasN.calls a0_0 true _ A12.out).mono ?_); rintro e w' ⟨rfl, ⟨nd, rfl⟩⟩))
            go_meet
            case rel => exact ⟨_, (false), (by first | rfl | (simp; done) | (simp [*]; done) | exact emp1_ _ | exact (emp1_ _).symm | exact emp2_ _ | exact (emp2_ _).symm), H', ⟨by have := HJ1.out; first | omega | exact Nat.le_refl _⟩, ⟨by (with_reducible repeat (first | refine kdn ?_ _ | refine kdw ?_ | refine kal ?_ _)); exact BK282.out⟩, ⟨by repeat (first | (with_reducible first | exact HB.out | apply bal | apply bdn | apply bd1 | refine bst ?_ GE282.out) | exact HB.out)⟩⟩
          replace c13 := Bool.eq_false_iff.mpr c13
          subst c13
          have H1 : (armoireref12_Check.j1 kj1 (a0_3 != 0) a0_0 a0_1 a0_2 a0_3) = some r := by rw [if_neg (show ¬ (false = true) by decide)] at H; exact H
          clear H
          have H := H1
          clear H1
          have H' := Aside0.mk H
          clear H
          have hcz15_0 : wc.cell? ⟨gb282, 0, none⟩ = some (.int .i64 a0_0) := (kcl BK282.out 0).trans rfl
          have hcz15_1 : wc.cell? ⟨gb282, 1, none⟩ = some (.string a0_1) := (kcl BK282.out 1).trans rfl
          have hcz15_2 : wc.cell? ⟨gb282, 2, none⟩ = some (.string a0_2) := (kcl BK282.out 2).trans rfl
          have hcz15_3 : wc.cell? ⟨gb282, 3, none⟩ = some (.int .i64 a0_3) := (kcl BK282.out 3).trans rfl
          have hfz15_0 := kfr BK282.out 0
          have hfz15_1 := kfr BK282.out 1
          have hfz15_2 := kfr BK282.out 2
          have hfz15_3 := kfr BK282.out 3
          go_wp2_with (first | ((with_reducible refine gcl (f := 58) rfl ?_); refine gl_ (some 13) rfl rfl Try.func58 (by kernel_rfl) rfl #[.int .i64 a0_0] rfl (by (try simp only [List.map_toArray, List.map_cons, List.map_nil]); first | done | rfl | (simp only [List.length_drop, List.length_take]; rfl)) ?_; (with_reducible refine (armoireref12_HasA.calls a0_0 true _ A9.out).mono ?_); rintro e w' ⟨rfl, ⟨nd, rfl⟩⟩; refine ⟨_, rfl, ?_⟩) | (go_at_call 59; (with_reducible refine (armoireref12_HasN.calls a0_0 false _ A12.out).mono ?_); rintro e w' ⟨rfl, ⟨nd, rfl⟩⟩))
          go_meet
          case rel => exact ⟨_, ((a0_3 != 0)), (by first | rfl | (simp; done) | (simp [*]; done) | exact emp1_ _ | exact (emp1_ _).symm | exact emp2_ _ | exact (emp2_ _).symm), H', ⟨by have := HJ1.out; first | omega | exact Nat.le_refl _⟩, ⟨by (with_reducible repeat (first | refine kdn ?_ _ | refine kdw ?_ | refine kal ?_ _)); exact BK282.out⟩, ⟨by repeat (first | (with_reducible first | exact HB.out | apply bal | apply bdn | apply bd1 | refine bst ?_ GE282.out) | exact HB.out)⟩⟩
        rw [if_neg c11] at H
        have c11b0 : (a0_0 == 11) = false := beq_eq_false_iff_ne.mpr c11
        have c11b1 : (a0_0 != 11) = true := bne_iff_ne.mpr c11
        (first | rw [c11b0] | (simp only [i64_w, i32_w]; rw [c11b0]) | skip)
        by_cases c16 : a0_2.toList = ([] : List UInt8)
        rotate_left
        · rw [if_neg c16] at H
          have c16b0 : (a0_2.toList == ([] : List UInt8)) = false := beq_eq_false_iff_ne.mpr c16
          have c16b1 : (a0_2.toList != ([] : List UInt8)) = true := bne_iff_ne.mpr c16
          have H' := Aside0.mk H
          clear H
          have hcz21_0 : wc.cell? ⟨gb282, 0, none⟩ = some (.int .i64 a0_0) := (kcl BK282.out 0).trans rfl
          have hcz21_1 : wc.cell? ⟨gb282, 1, none⟩ = some (.string a0_1) := (kcl BK282.out 1).trans rfl
          have hcz21_2 : wc.cell? ⟨gb282, 2, none⟩ = some (.string a0_2) := (kcl BK282.out 2).trans rfl
          have hcz21_3 : wc.cell? ⟨gb282, 3, none⟩ = some (.int .i64 a0_3) := (kcl BK282.out 3).trans rfl
          have hfz21_0 := kfr BK282.out 0
          have hfz21_1 := kfr BK282.out 1
          have hfz21_2 := kfr BK282.out 2
          have hfz21_3 := kfr BK282.out 3
          go_wp2_with (first | ((with_reducible refine gcl (f := 58) rfl ?_); refine gl_ (some 13) rfl rfl Try.func58 (by kernel_rfl) rfl #[.int .i64 a0_0] rfl (by (try simp only [List.map_toArray, List.map_cons, List.map_nil]); first | done | rfl | (simp only [List.length_drop, List.length_take]; rfl)) ?_; (with_reducible refine (armoireref12_HasA.calls a0_0 true _ A9.out).mono ?_); rintro e w' ⟨rfl, ⟨nd, rfl⟩⟩; refine ⟨_, rfl, ?_⟩))
          go_meet
          case rel => exact ⟨_, (true), (by first | rfl | (simp; done) | (simp [*]; done) | exact emp1_ _ | exact (emp1_ _).symm | exact emp2_ _ | exact (emp2_ _).symm), H', ⟨by have := HJ1.out; first | omega | exact Nat.le_refl _⟩, ⟨by (with_reducible repeat (first | refine kdn ?_ _ | refine kdw ?_ | refine kal ?_ _)); exact BK282.out⟩, ⟨by repeat (first | (with_reducible first | exact HB.out | apply bal | apply bdn | apply bd1 | refine bst ?_ GE282.out) | exact HB.out)⟩⟩
        rw [if_pos c16] at H
        have c16b0 : (a0_2.toList == ([] : List UInt8)) = true := beq_iff_eq.mpr c16
        have c16b1 : (a0_2.toList != ([] : List UInt8)) = false := bne_eq_false_iff_eq.mpr c16
        clear c16
        replace H := Option.bind_eq_some_iff.mp H
        obtain ⟨t285, A170, H⟩ := H
        replace H : (if t285 = true then (armoireref12_Check.j1 kj1 false a0_0 a0_1 a0_2 a0_3) else (armoireref12_Check.j1 kj1 (a0_3 != 0) a0_0 a0_1 a0_2 a0_3)) = some r := H
        have A17 := Aside0.mk A170
        clear A170
        by_cases c18 : t285 = true
        · subst c18
          have H1 : (armoireref12_Check.j1 kj1 false a0_0 a0_1 a0_2 a0_3) = some r := by rw [if_pos rfl] at H; exact H
          clear H
          have H := H1
          clear H1
          have H' := Aside0.mk H
          clear H
          have hcz19_0 : wc.cell? ⟨gb282, 0, none⟩ = some (.int .i64 a0_0) := (kcl BK282.out 0).trans rfl
          have hcz19_1 : wc.cell? ⟨gb282, 1, none⟩ = some (.string a0_1) := (kcl BK282.out 1).trans rfl
          have hcz19_2 : wc.cell? ⟨gb282, 2, none⟩ = some (.string a0_2) := (kcl BK282.out 2).trans rfl
          have hcz19_3 : wc.cell? ⟨gb282, 3, none⟩ = some (.int .i64 a0_3) := (kcl BK282.out 3).trans rfl
          have hfz19_0 := kfr BK282.out 0
          have hfz19_1 := kfr BK282.out 1
          have hfz19_2 := kfr BK282.out 2
          have hfz19_3 := kfr BK282.out 3
          go_wp2_with (first | ((with_reducible refine gcl (f := 58) rfl ?_); refine gl_ (some 13) rfl rfl Try.func58 (by kernel_rfl) rfl #[.int .i64 a0_0] rfl (by (try simp only [List.map_toArray, List.map_cons, List.map_nil]); first | done | rfl | (simp only [List.length_drop, List.length_take]; rfl)) ?_; (with_reducible refine (armoireref12_HasA.calls a0_0 true _ A9.out).mono ?_); rintro e w' ⟨rfl, ⟨nd, rfl⟩⟩; refine ⟨_, rfl, ?_⟩) | (go_at_call 59; (with_reducible refine (armoireref12_HasN.calls a0_0 true _ A17.out).mono ?_); rintro e w' ⟨rfl, ⟨nd, rfl⟩⟩))
          go_meet
          case rel => exact ⟨_, (false), (by first | rfl | (simp; done) | (simp [*]; done) | exact emp1_ _ | exact (emp1_ _).symm | exact emp2_ _ | exact (emp2_ _).symm), H', ⟨by have := HJ1.out; first | omega | exact Nat.le_refl _⟩, ⟨by (with_reducible repeat (first | refine kdn ?_ _ | refine kdw ?_ | refine kal ?_ _)); exact BK282.out⟩, ⟨by repeat (first | (with_reducible first | exact HB.out | apply bal | apply bdn | apply bd1 | refine bst ?_ GE282.out) | exact HB.out)⟩⟩
        replace c18 := Bool.eq_false_iff.mpr c18
        subst c18
        have H1 : (armoireref12_Check.j1 kj1 (a0_3 != 0) a0_0 a0_1 a0_2 a0_3) = some r := by rw [if_neg (show ¬ (false = true) by decide)] at H; exact H
        clear H
        have H := H1
        clear H1
        have H' := Aside0.mk H
        clear H
        have hcz20_0 : wc.cell? ⟨gb282, 0, none⟩ = some (.int .i64 a0_0) := (kcl BK282.out 0).trans rfl
        have hcz20_1 : wc.cell? ⟨gb282, 1, none⟩ = some (.string a0_1) := (kcl BK282.out 1).trans rfl
        have hcz20_2 : wc.cell? ⟨gb282, 2, none⟩ = some (.string a0_2) := (kcl BK282.out 2).trans rfl
        have hcz20_3 : wc.cell? ⟨gb282, 3, none⟩ = some (.int .i64 a0_3) := (kcl BK282.out 3).trans rfl
        have hfz20_0 := kfr BK282.out 0
        have hfz20_1 := kfr BK282.out 1
        have hfz20_2 := kfr BK282.out 2
        have hfz20_3 := kfr BK282.out 3
        go_wp2_with (first | ((with_reducible refine gcl (f := 58) rfl ?_); refine gl_ (some 13) rfl rfl Try.func58 (by kernel_rfl) rfl #[.int .i64 a0_0] rfl (by (try simp only [List.map_toArray, List.map_cons, List.map_nil]); first | done | rfl | (simp only [List.length_drop, List.length_take]; rfl)) ?_; (with_reducible refine (armoireref12_HasA.calls a0_0 true _ A9.out).mono ?_); rintro e w' ⟨rfl, ⟨nd, rfl⟩⟩; refine ⟨_, rfl, ?_⟩) | (go_at_call 59; (with_reducible refine (armoireref12_HasN.calls a0_0 false _ A17.out).mono ?_); rintro e w' ⟨rfl, ⟨nd, rfl⟩⟩))
        go_meet
        case rel => exact ⟨_, ((a0_3 != 0)), (by first | rfl | (simp; done) | (simp [*]; done) | exact emp1_ _ | exact (emp1_ _).symm | exact emp2_ _ | exact (emp2_ _).symm), H', ⟨by have := HJ1.out; first | omega | exact Nat.le_refl _⟩, ⟨by (with_reducible repeat (first | refine kdn ?_ _ | refine kdw ?_ | refine kal ?_ _)); exact BK282.out⟩, ⟨by repeat (first | (with_reducible first | exact HB.out | apply bal | apply bdn | apply bd1 | refine bst ?_ GE282.out) | exact HB.out)⟩⟩
      replace c10 := Bool.eq_false_iff.mpr c10
      subst c10
      have H1 : (if a0_1.toList = ([] : List UInt8) then (if a0_0 = 11 then ((armoireref12_HasN.f a0_0).bind fun t286 => (if t286 = true then (armoireref12_Check.j1 kj1 false a0_0 a0_1 a0_2 a0_3) else (armoireref12_Check.j1 kj1 (a0_3 != 0) a0_0 a0_1 a0_2 a0_3))) else (if a0_2.toList = ([] : List UInt8) then ((armoireref12_HasN.f a0_0).bind fun t287 => (if t287 = true then (armoireref12_Check.j1 kj1 false a0_0 a0_1 a0_2 a0_3) else (armoireref12_Check.j1 kj1 (a0_3 != 0) a0_0 a0_1 a0_2 a0_3))) else (armoireref12_Check.j1 kj1 true a0_0 a0_1 a0_2 a0_3))) else (armoireref12_Check.j1 kj1 true a0_0 a0_1 a0_2 a0_3)) = some r := by rw [if_neg (show ¬ (false = true) by decide)] at H; exact H
      clear H
      have H := H1
      clear H1
      by_cases c22 : a0_1.toList = ([] : List UInt8)
      rotate_left
      · rw [if_neg c22] at H
        have c22b0 : (a0_1.toList == ([] : List UInt8)) = false := beq_eq_false_iff_ne.mpr c22
        have c22b1 : (a0_1.toList != ([] : List UInt8)) = true := bne_iff_ne.mpr c22
        have H' := Aside0.mk H
        clear H
        have hcz34_0 : wc.cell? ⟨gb282, 0, none⟩ = some (.int .i64 a0_0) := (kcl BK282.out 0).trans rfl
        have hcz34_1 : wc.cell? ⟨gb282, 1, none⟩ = some (.string a0_1) := (kcl BK282.out 1).trans rfl
        have hcz34_2 : wc.cell? ⟨gb282, 2, none⟩ = some (.string a0_2) := (kcl BK282.out 2).trans rfl
        have hcz34_3 : wc.cell? ⟨gb282, 3, none⟩ = some (.int .i64 a0_3) := (kcl BK282.out 3).trans rfl
        have hfz34_0 := kfr BK282.out 0
        have hfz34_1 := kfr BK282.out 1
        have hfz34_2 := kfr BK282.out 2
        have hfz34_3 := kfr BK282.out 3
        go_wp2_with (first | ((with_reducible refine gcl (f := 58) rfl ?_); refine gl_ (some 13) rfl rfl Try.func58 (by kernel_rfl) rfl #[.int .i64 a0_0] rfl (by (try simp only [List.map_toArray, List.map_cons, List.map_nil]); first | done | rfl | (simp only [List.length_drop, List.length_take]; rfl)) ?_; (with_reducible refine (armoireref12_HasA.calls a0_0 false _ A9.out).mono ?_); rintro e w' ⟨rfl, ⟨nd, rfl⟩⟩; refine ⟨_, rfl, ?_⟩))
        go_meet
        case rel => exact ⟨_, (true), (by first | rfl | (simp; done) | (simp [*]; done) | exact emp1_ _ | exact (emp1_ _).symm | exact emp2_ _ | exact (emp2_ _).symm), H', ⟨by have := HJ1.out; first | omega | exact Nat.le_refl _⟩, ⟨by (with_reducible repeat (first | refine kdn ?_ _ | refine kdw ?_ | refine kal ?_ _)); exact BK282.out⟩, ⟨by repeat (first | (with_reducible first | exact HB.out | apply bal | apply bdn | apply bd1 | refine bst ?_ GE282.out) | exact HB.out)⟩⟩
      rw [if_pos c22] at H
      have c22b0 : (a0_1.toList == ([] : List UInt8)) = true := beq_iff_eq.mpr c22
      have c22b1 : (a0_1.toList != ([] : List UInt8)) = false := bne_eq_false_iff_eq.mpr c22
      clear c22
      by_cases c23 : a0_0 = 11
      · rw [if_pos c23] at H
        have c23b0 : (a0_0 == 11) = true := beq_iff_eq.mpr c23
        have c23b1 : (a0_0 != 11) = false := bne_eq_false_iff_eq.mpr c23
        clear c23
        replace H := Option.bind_eq_some_iff.mp H
        obtain ⟨t286, A240, H⟩ := H
        replace H : (if t286 = true then (armoireref12_Check.j1 kj1 false a0_0 a0_1 a0_2 a0_3) else (armoireref12_Check.j1 kj1 (a0_3 != 0) a0_0 a0_1 a0_2 a0_3)) = some r := H
        have A24 := Aside0.mk A240
        clear A240
        by_cases c25 : t286 = true
        · subst c25
          have H1 : (armoireref12_Check.j1 kj1 false a0_0 a0_1 a0_2 a0_3) = some r := by rw [if_pos rfl] at H; exact H
          clear H
          have H := H1
          clear H1
          have H' := Aside0.mk H
          clear H
          have hcz26_0 : wc.cell? ⟨gb282, 0, none⟩ = some (.int .i64 a0_0) := (kcl BK282.out 0).trans rfl
          have hcz26_1 : wc.cell? ⟨gb282, 1, none⟩ = some (.string a0_1) := (kcl BK282.out 1).trans rfl
          have hcz26_2 : wc.cell? ⟨gb282, 2, none⟩ = some (.string a0_2) := (kcl BK282.out 2).trans rfl
          have hcz26_3 : wc.cell? ⟨gb282, 3, none⟩ = some (.int .i64 a0_3) := (kcl BK282.out 3).trans rfl
          have hfz26_0 := kfr BK282.out 0
          have hfz26_1 := kfr BK282.out 1
          have hfz26_2 := kfr BK282.out 2
          have hfz26_3 := kfr BK282.out 3
          go_wp2_with (first | ((with_reducible refine gcl (f := 58) rfl ?_); refine gl_ (some 13) rfl rfl Try.func58 (by kernel_rfl) rfl #[.int .i64 a0_0] rfl (by (try simp only [List.map_toArray, List.map_cons, List.map_nil]); first | done | rfl | (simp only [List.length_drop, List.length_take]; rfl)) ?_; (with_reducible refine (armoireref12_HasA.calls a0_0 false _ A9.out).mono ?_); rintro e w' ⟨rfl, ⟨nd, rfl⟩⟩; refine ⟨_, rfl, ?_⟩) | (go_at_call 59; (with_reducible refine (armoireref12_HasN.calls a0_0 true _ A24.out).mono ?_); rintro e w' ⟨rfl, ⟨nd, rfl⟩⟩))
          go_meet
          case rel => exact ⟨_, (false), (by first | rfl | (simp; done) | (simp [*]; done) | exact emp1_ _ | exact (emp1_ _).symm | exact emp2_ _ | exact (emp2_ _).symm), H', ⟨by have := HJ1.out; first | omega | exact Nat.le_refl _⟩, ⟨by (with_reducible repeat (first | refine kdn ?_ _ | refine kdw ?_ | refine kal ?_ _)); exact BK282.out⟩, ⟨by repeat (first | (with_reducible first | exact HB.out | apply bal | apply bdn | apply bd1 | refine bst ?_ GE282.out) | exact HB.out)⟩⟩
        replace c25 := Bool.eq_false_iff.mpr c25
        subst c25
        have H1 : (armoireref12_Check.j1 kj1 (a0_3 != 0) a0_0 a0_1 a0_2 a0_3) = some r := by rw [if_neg (show ¬ (false = true) by decide)] at H; exact H
        clear H
        have H := H1
        clear H1
        have H' := Aside0.mk H
        clear H
        have hcz27_0 : wc.cell? ⟨gb282, 0, none⟩ = some (.int .i64 a0_0) := (kcl BK282.out 0).trans rfl
        have hcz27_1 : wc.cell? ⟨gb282, 1, none⟩ = some (.string a0_1) := (kcl BK282.out 1).trans rfl
        have hcz27_2 : wc.cell? ⟨gb282, 2, none⟩ = some (.string a0_2) := (kcl BK282.out 2).trans rfl
        have hcz27_3 : wc.cell? ⟨gb282, 3, none⟩ = some (.int .i64 a0_3) := (kcl BK282.out 3).trans rfl
        have hfz27_0 := kfr BK282.out 0
        have hfz27_1 := kfr BK282.out 1
        have hfz27_2 := kfr BK282.out 2
        have hfz27_3 := kfr BK282.out 3
        go_wp2_with (first | ((with_reducible refine gcl (f := 58) rfl ?_); refine gl_ (some 13) rfl rfl Try.func58 (by kernel_rfl) rfl #[.int .i64 a0_0] rfl (by (try simp only [List.map_toArray, List.map_cons, List.map_nil]); first | done | rfl | (simp only [List.length_drop, List.length_take]; rfl)) ?_; (with_reducible refine (armoireref12_HasA.calls a0_0 false _ A9.out).mono ?_); rintro e w' ⟨rfl, ⟨nd, rfl⟩⟩; refine ⟨_, rfl, ?_⟩) | (go_at_call 59; (with_reducible refine (armoireref12_HasN.calls a0_0 false _ A24.out).mono ?_); rintro e w' ⟨rfl, ⟨nd, rfl⟩⟩))
        go_meet
        case rel => exact ⟨_, ((a0_3 != 0)), (by first | rfl | (simp; done) | (simp [*]; done) | exact emp1_ _ | exact (emp1_ _).symm | exact emp2_ _ | exact (emp2_ _).symm), H', ⟨by have := HJ1.out; first | omega | exact Nat.le_refl _⟩, ⟨by (with_reducible repeat (first | refine kdn ?_ _ | refine kdw ?_ | refine kal ?_ _)); exact BK282.out⟩, ⟨by repeat (first | (with_reducible first | exact HB.out | apply bal | apply bdn | apply bd1 | refine bst ?_ GE282.out) | exact HB.out)⟩⟩
      rw [if_neg c23] at H
      have c23b0 : (a0_0 == 11) = false := beq_eq_false_iff_ne.mpr c23
      have c23b1 : (a0_0 != 11) = true := bne_iff_ne.mpr c23
      by_cases c28 : a0_2.toList = ([] : List UInt8)
      rotate_left
      · rw [if_neg c28] at H
        have c28b0 : (a0_2.toList == ([] : List UInt8)) = false := beq_eq_false_iff_ne.mpr c28
        have c28b1 : (a0_2.toList != ([] : List UInt8)) = true := bne_iff_ne.mpr c28
        have H' := Aside0.mk H
        clear H
        have hcz33_0 : wc.cell? ⟨gb282, 0, none⟩ = some (.int .i64 a0_0) := (kcl BK282.out 0).trans rfl
        have hcz33_1 : wc.cell? ⟨gb282, 1, none⟩ = some (.string a0_1) := (kcl BK282.out 1).trans rfl
        have hcz33_2 : wc.cell? ⟨gb282, 2, none⟩ = some (.string a0_2) := (kcl BK282.out 2).trans rfl
        have hcz33_3 : wc.cell? ⟨gb282, 3, none⟩ = some (.int .i64 a0_3) := (kcl BK282.out 3).trans rfl
        have hfz33_0 := kfr BK282.out 0
        have hfz33_1 := kfr BK282.out 1
        have hfz33_2 := kfr BK282.out 2
        have hfz33_3 := kfr BK282.out 3
        go_wp2_with (first | ((with_reducible refine gcl (f := 58) rfl ?_); refine gl_ (some 13) rfl rfl Try.func58 (by kernel_rfl) rfl #[.int .i64 a0_0] rfl (by (try simp only [List.map_toArray, List.map_cons, List.map_nil]); first | done | rfl | (simp only [List.length_drop, List.length_take]; rfl)) ?_; (with_reducible refine (armoireref12_HasA.calls a0_0 false _ A9.out).mono ?_); rintro e w' ⟨rfl, ⟨nd, rfl⟩⟩; refine ⟨_, rfl, ?_⟩))
        go_meet
        case rel => exact ⟨_, (true), (by first | rfl | (simp; done) | (simp [*]; done) | exact emp1_ _ | exact (emp1_ _).symm | exact emp2_ _ | exact (emp2_ _).symm), H', ⟨by have := HJ1.out; first | omega | exact Nat.le_refl _⟩, ⟨by (with_reducible repeat (first | refine kdn ?_ _ | refine kdw ?_ | refine kal ?_ _)); exact BK282.out⟩, ⟨by repeat (first | (with_reducible first | exact HB.out | apply bal | apply bdn | apply bd1 | refine bst ?_ GE282.out) | exact HB.out)⟩⟩
      rw [if_pos c28] at H
      have c28b0 : (a0_2.toList == ([] : List UInt8)) = true := beq_iff_eq.mpr c28
      have c28b1 : (a0_2.toList != ([] : List UInt8)) = false := bne_eq_false_iff_eq.mpr c28
      clear c28
      replace H := Option.bind_eq_some_iff.mp H
      obtain ⟨t287, A290, H⟩ := H
      replace H : (if t287 = true then (armoireref12_Check.j1 kj1 false a0_0 a0_1 a0_2 a0_3) else (armoireref12_Check.j1 kj1 (a0_3 != 0) a0_0 a0_1 a0_2 a0_3)) = some r := H
      have A29 := Aside0.mk A290
      clear A290
      by_cases c30 : t287 = true
      · subst c30
        have H1 : (armoireref12_Check.j1 kj1 false a0_0 a0_1 a0_2 a0_3) = some r := by rw [if_pos rfl] at H; exact H
        clear H
        have H := H1
        clear H1
        have H' := Aside0.mk H
        clear H
        have hcz31_0 : wc.cell? ⟨gb282, 0, none⟩ = some (.int .i64 a0_0) := (kcl BK282.out 0).trans rfl
        have hcz31_1 : wc.cell? ⟨gb282, 1, none⟩ = some (.string a0_1) := (kcl BK282.out 1).trans rfl
        have hcz31_2 : wc.cell? ⟨gb282, 2, none⟩ = some (.string a0_2) := (kcl BK282.out 2).trans rfl
        have hcz31_3 : wc.cell? ⟨gb282, 3, none⟩ = some (.int .i64 a0_3) := (kcl BK282.out 3).trans rfl
        have hfz31_0 := kfr BK282.out 0
        have hfz31_1 := kfr BK282.out 1
        have hfz31_2 := kfr BK282.out 2
        have hfz31_3 := kfr BK282.out 3
        go_wp2_with (first | ((with_reducible refine gcl (f := 58) rfl ?_); refine gl_ (some 13) rfl rfl Try.func58 (by kernel_rfl) rfl #[.int .i64 a0_0] rfl (by (try simp only [List.map_toArray, List.map_cons, List.map_nil]); first | done | rfl | (simp only [List.length_drop, List.length_take]; rfl)) ?_; (with_reducible refine (armoireref12_HasA.calls a0_0 false _ A9.out).mono ?_); rintro e w' ⟨rfl, ⟨nd, rfl⟩⟩; refine ⟨_, rfl, ?_⟩) | (go_at_call 59; (with_reducible refine (armoireref12_HasN.calls a0_0 true _ A29.out).mono ?_); rintro e w' ⟨rfl, ⟨nd, rfl⟩⟩))
        go_meet
        case rel => exact ⟨_, (false), (by first | rfl | (simp; done) | (simp [*]; done) | exact emp1_ _ | exact (emp1_ _).symm | exact emp2_ _ | exact (emp2_ _).symm), H', ⟨by have := HJ1.out; first | omega | exact Nat.le_refl _⟩, ⟨by (with_reducible repeat (first | refine kdn ?_ _ | refine kdw ?_ | refine kal ?_ _)); exact BK282.out⟩, ⟨by repeat (first | (with_reducible first | exact HB.out | apply bal | apply bdn | apply bd1 | refine bst ?_ GE282.out) | exact HB.out)⟩⟩
      replace c30 := Bool.eq_false_iff.mpr c30
      subst c30
      have H1 : (armoireref12_Check.j1 kj1 (a0_3 != 0) a0_0 a0_1 a0_2 a0_3) = some r := by rw [if_neg (show ¬ (false = true) by decide)] at H; exact H
      clear H
      have H := H1
      clear H1
      have H' := Aside0.mk H
      clear H
      have hcz32_0 : wc.cell? ⟨gb282, 0, none⟩ = some (.int .i64 a0_0) := (kcl BK282.out 0).trans rfl
      have hcz32_1 : wc.cell? ⟨gb282, 1, none⟩ = some (.string a0_1) := (kcl BK282.out 1).trans rfl
      have hcz32_2 : wc.cell? ⟨gb282, 2, none⟩ = some (.string a0_2) := (kcl BK282.out 2).trans rfl
      have hcz32_3 : wc.cell? ⟨gb282, 3, none⟩ = some (.int .i64 a0_3) := (kcl BK282.out 3).trans rfl
      have hfz32_0 := kfr BK282.out 0
      have hfz32_1 := kfr BK282.out 1
      have hfz32_2 := kfr BK282.out 2
      have hfz32_3 := kfr BK282.out 3
      go_wp2_with (first | ((with_reducible refine gcl (f := 58) rfl ?_); refine gl_ (some 13) rfl rfl Try.func58 (by kernel_rfl) rfl #[.int .i64 a0_0] rfl (by (try simp only [List.map_toArray, List.map_cons, List.map_nil]); first | done | rfl | (simp only [List.length_drop, List.length_take]; rfl)) ?_; (with_reducible refine (armoireref12_HasA.calls a0_0 false _ A9.out).mono ?_); rintro e w' ⟨rfl, ⟨nd, rfl⟩⟩; refine ⟨_, rfl, ?_⟩) | (go_at_call 59; (with_reducible refine (armoireref12_HasN.calls a0_0 false _ A29.out).mono ?_); rintro e w' ⟨rfl, ⟨nd, rfl⟩⟩))
      go_meet
      case rel => exact ⟨_, ((a0_3 != 0)), (by first | rfl | (simp; done) | (simp [*]; done) | exact emp1_ _ | exact (emp1_ _).symm | exact emp2_ _ | exact (emp2_ _).symm), H', ⟨by have := HJ1.out; first | omega | exact Nat.le_refl _⟩, ⟨by (with_reducible repeat (first | refine kdn ?_ _ | refine kdw ?_ | refine kal ?_ _)); exact BK282.out⟩, ⟨by repeat (first | (with_reducible first | exact HB.out | apply bal | apply bdn | apply bd1 | refine bst ?_ GE282.out) | exact HB.out)⟩⟩
    clear HC8
    try clear c1
    try clear c2
    try clear p2
    try clear c3
    try clear c4
    try clear c4b0
    try clear c5
    try clear c7
    try clear c10
    try clear c11
    try clear c11b0
    try clear c11b1
    try clear c13
    try clear c16
    try clear c16b0
    try clear c16b1
    try clear c18
    try clear c22
    try clear c22b0
    try clear c22b1
    try clear c23
    try clear c23b0
    try clear c23b1
    try clear c25
    try clear c28
    try clear c28b0
    try clear c28b1
    try clear c29
    try clear c30
    try clear hcz14_0
    try clear hcz14_1
    try clear hcz14_2
    try clear hcz14_3
    try clear hcz15_0
    try clear hcz15_1
    try clear hcz15_2
    try clear hcz15_3
    try clear hcz19_0
    try clear hcz19_1
    try clear hcz19_2
    try clear hcz19_3
    try clear hcz20_0
    try clear hcz20_1
    try clear hcz20_2
    try clear hcz20_3
    try clear hcz21_0
    try clear hcz21_1
    try clear hcz21_2
    try clear hcz21_3
    try clear hcz26_0
    try clear hcz26_1
    try clear hcz26_2
    try clear hcz26_3
    try clear hcz27_0
    try clear hcz27_1
    try clear hcz27_2
    try clear hcz27_3
    try clear hcz31_0
    try clear hcz31_1
    try clear hcz31_2
    try clear hcz31_3
    try clear hcz32_0
    try clear hcz32_1
    try clear hcz32_2
    try clear hcz32_3
    try clear hcz33_0
    try clear hcz33_1
    try clear hcz33_2
    try clear hcz33_3
    try clear hcz34_0
    try clear hcz34_1
    try clear hcz34_2
    try clear hcz34_3
    try clear hcz5_0
    try clear hcz5_1
    try clear hcz5_2
    try clear hcz5_3
    try clear hcz6_0
    try clear hcz6_1
    try clear hcz6_2
    try clear hcz6_3
    try clear hfz14_0
    try clear hfz14_1
    try clear hfz14_2
    try clear hfz14_3
    try clear hfz15_0
    try clear hfz15_1
    try clear hfz15_2
    try clear hfz15_3
    try clear hfz19_0
    try clear hfz19_1
    try clear hfz19_2
    try clear hfz19_3
    try clear hfz20_0
    try clear hfz20_1
    try clear hfz20_2
    try clear hfz20_3
    try clear hfz21_0
    try clear hfz21_1
    try clear hfz21_2
    try clear hfz21_3
    try clear hfz26_0
    try clear hfz26_1
    try clear hfz26_2
    try clear hfz26_3
    try clear hfz27_0
    try clear hfz27_1
    try clear hfz27_2
    try clear hfz27_3
    try clear hfz31_0
    try clear hfz31_1
    try clear hfz31_2
    try clear hfz31_3
    try clear hfz32_0
    try clear hfz32_1
    try clear hfz32_2
    try clear hfz32_3
    try clear hfz33_0
    try clear hfz33_1
    try clear hfz33_2
    try clear hfz33_3
    try clear hfz34_0
    try clear hfz34_1
    try clear hfz34_2
    try clear hfz34_3
    try clear hfz5_0
    try clear hfz5_1
    try clear hfz5_2
    try clear hfz5_3
    try clear hfz6_0
    try clear hfz6_1
    try clear hfz6_2
    try clear hfz6_3
    try clear p2
    obtain ⟨kq, x40_7, rfl, HA, HJ7, BK282, HB⟩ := hcut
    cases kq with
    | zero => exact absurd HA.out (by simp [armoireref12_Check.j1])
    | succ kj7 =>
      have H := HA.out
      clear HA
      simp only [armoireref12_Check.j1] at H
      by_cases c35 : x40_7 = true
      · subst c35
        have H1 : (some 2) = some r := by rw [if_pos rfl] at H; exact H
        clear H
        have H := H1
        clear H1
        obtain rfl := Option.some.inj H
        go_wp2
        go_ret
        exact ⟨by first | rfl | (simp [errW_none, errW_some] <;> rfl) | (simp [*, errW_none, errW_some] <;> rfl), by repeat (first | (with_reducible first | exact HB.out | apply bal | apply bdn | apply bd1 | refine bst ?_ GE282.out) | exact HB.out)⟩
      replace c35 := Bool.eq_false_iff.mpr c35
      subst c35
      have H1 : (if (a0_1.size : Int) > 24 then (armoireref12_Check.j2 kj7 true a0_0 a0_1 a0_2 a0_3) else (armoireref12_Check.j2 kj7 (decide ((a0_2.size : Int) > 24)) a0_0 a0_1 a0_2 a0_3)) = some r := by rw [if_neg (show ¬ (false = true) by decide)] at H; exact H
      clear H
      have H := H1
      clear H1
      have HC36 := Aside0.mk H
      clear H
      go_upto_region 5 with (fail)
      go_cut [50] (fun v50 wc => ∃ (kq : Nat) (x50_35 : Bool), v50 = .bool x50_35 ∧ Aside0 (armoireref12_Check.j2 kq x50_35 a0_0 a0_1 a0_2 a0_3 = some r) ∧ Aside0 (kq ≤ kj7) ∧ Aside0 (wc.heap[gb282]? = some (.cells #[.int .i64 a0_0, .string a0_1, .string a0_2, .int .i64 a0_3] 34 (0, 0))) ∧ Aside0 (Below w.heap.size w wc))
      case first =>
        have H := HC36.out
        clear HC36
        by_cases c37 : (a0_1.size : Int) > 24
        · rw [if_pos c37] at H
          have c37b0 : decide (24 < (a0_1.size : Int)) = true := decide_eq_true c37
          have c37b1 : decide (24 < a0_1.size) = true := decide_eq_true (by omega)
          clear c37
          (first | rw [c37b0] | rw [c37b1] | (simp only [i64_w, i32_w]; rw [c37b0]) | (simp only [i64_w, i32_w]; rw [c37b1]) | skip)
          have H' := Aside0.mk H
          clear H
          have hcz38_0 : wc.cell? ⟨gb282, 0, none⟩ = some (.int .i64 a0_0) := (kcl BK282.out 0).trans rfl
          have hcz38_1 : wc.cell? ⟨gb282, 1, none⟩ = some (.string a0_1) := (kcl BK282.out 1).trans rfl
          have hcz38_2 : wc.cell? ⟨gb282, 2, none⟩ = some (.string a0_2) := (kcl BK282.out 2).trans rfl
          have hcz38_3 : wc.cell? ⟨gb282, 3, none⟩ = some (.int .i64 a0_3) := (kcl BK282.out 3).trans rfl
          have hfz38_0 := kfr BK282.out 0
          have hfz38_1 := kfr BK282.out 1
          have hfz38_2 := kfr BK282.out 2
          have hfz38_3 := kfr BK282.out 3
          go_wp2
          go_meet
          case rel => exact ⟨_, (true), (by first | rfl | (simp; done) | (simp [*]; done) | exact emp1_ _ | exact (emp1_ _).symm | exact emp2_ _ | exact (emp2_ _).symm), H', ⟨by have := HJ1.out; have := HJ7.out; first | omega | exact Nat.le_refl _⟩, ⟨by (with_reducible repeat (first | refine kdn ?_ _ | refine kdw ?_ | refine kal ?_ _)); exact BK282.out⟩, ⟨by repeat (first | (with_reducible first | exact HB.out | apply bal | apply bdn | apply bd1 | refine bst ?_ GE282.out) | exact HB.out)⟩⟩
        rw [if_neg c37] at H
        have c37b0 : decide (24 < (a0_1.size : Int)) = false := decide_eq_false c37
        have c37b1 : decide (24 < a0_1.size) = false := decide_eq_false (by omega)
        clear c37
        (first | rw [c37b0] | rw [c37b1] | (simp only [i64_w, i32_w]; rw [c37b0]) | (simp only [i64_w, i32_w]; rw [c37b1]) | skip)
        have H' := Aside0.mk H
        clear H
        have hcz39_0 : wc.cell? ⟨gb282, 0, none⟩ = some (.int .i64 a0_0) := (kcl BK282.out 0).trans rfl
        have hcz39_1 : wc.cell? ⟨gb282, 1, none⟩ = some (.string a0_1) := (kcl BK282.out 1).trans rfl
        have hcz39_2 : wc.cell? ⟨gb282, 2, none⟩ = some (.string a0_2) := (kcl BK282.out 2).trans rfl
        have hcz39_3 : wc.cell? ⟨gb282, 3, none⟩ = some (.int .i64 a0_3) := (kcl BK282.out 3).trans rfl
        have hfz39_0 := kfr BK282.out 0
        have hfz39_1 := kfr BK282.out 1
        have hfz39_2 := kfr BK282.out 2
        have hfz39_3 := kfr BK282.out 3
        go_wp2
        go_meet
        case rel => exact ⟨_, (decide ((a0_2.size : Int) > 24)), (by first | rfl | (simp; done) | (simp [*]; done) | exact emp1_ _ | exact (emp1_ _).symm | exact emp2_ _ | exact (emp2_ _).symm), H', ⟨by have := HJ1.out; have := HJ7.out; first | omega | exact Nat.le_refl _⟩, ⟨by (with_reducible repeat (first | refine kdn ?_ _ | refine kdw ?_ | refine kal ?_ _)); exact BK282.out⟩, ⟨by repeat (first | (with_reducible first | exact HB.out | apply bal | apply bdn | apply bd1 | refine bst ?_ GE282.out) | exact HB.out)⟩⟩
      clear HC36
      try clear c1
      try clear c2
      try clear p2
      try clear c3
      try clear c4
      try clear c4b0
      try clear c5
      try clear c7
      try clear c10
      try clear c11
      try clear c11b0
      try clear c11b1
      try clear c13
      try clear c16
      try clear c16b0
      try clear c16b1
      try clear c18
      try clear c22
      try clear c22b0
      try clear c22b1
      try clear c23
      try clear c23b0
      try clear c23b1
      try clear c25
      try clear c28
      try clear c28b0
      try clear c28b1
      try clear c29
      try clear c30
      try clear c35
      try clear c37
      try clear c37b0
      try clear c37b1
      try clear hcz14_0
      try clear hcz14_1
      try clear hcz14_2
      try clear hcz14_3
      try clear hcz15_0
      try clear hcz15_1
      try clear hcz15_2
      try clear hcz15_3
      try clear hcz19_0
      try clear hcz19_1
      try clear hcz19_2
      try clear hcz19_3
      try clear hcz20_0
      try clear hcz20_1
      try clear hcz20_2
      try clear hcz20_3
      try clear hcz21_0
      try clear hcz21_1
      try clear hcz21_2
      try clear hcz21_3
      try clear hcz26_0
      try clear hcz26_1
      try clear hcz26_2
      try clear hcz26_3
      try clear hcz27_0
      try clear hcz27_1
      try clear hcz27_2
      try clear hcz27_3
      try clear hcz31_0
      try clear hcz31_1
      try clear hcz31_2
      try clear hcz31_3
      try clear hcz32_0
      try clear hcz32_1
      try clear hcz32_2
      try clear hcz32_3
      try clear hcz33_0
      try clear hcz33_1
      try clear hcz33_2
      try clear hcz33_3
      try clear hcz34_0
      try clear hcz34_1
      try clear hcz34_2
      try clear hcz34_3
      try clear hcz38_0
      try clear hcz38_1
      try clear hcz38_2
      try clear hcz38_3
      try clear hcz39_0
      try clear hcz39_1
      try clear hcz39_2
      try clear hcz39_3
      try clear hcz5_0
      try clear hcz5_1
      try clear hcz5_2
      try clear hcz5_3
      try clear hcz6_0
      try clear hcz6_1
      try clear hcz6_2
      try clear hcz6_3
      try clear hfz14_0
      try clear hfz14_1
      try clear hfz14_2
      try clear hfz14_3
      try clear hfz15_0
      try clear hfz15_1
      try clear hfz15_2
      try clear hfz15_3
      try clear hfz19_0
      try clear hfz19_1
      try clear hfz19_2
      try clear hfz19_3
      try clear hfz20_0
      try clear hfz20_1
      try clear hfz20_2
      try clear hfz20_3
      try clear hfz21_0
      try clear hfz21_1
      try clear hfz21_2
      try clear hfz21_3
      try clear hfz26_0
      try clear hfz26_1
      try clear hfz26_2
      try clear hfz26_3
      try clear hfz27_0
      try clear hfz27_1
      try clear hfz27_2
      try clear hfz27_3
      try clear hfz31_0
      try clear hfz31_1
      try clear hfz31_2
      try clear hfz31_3
      try clear hfz32_0
      try clear hfz32_1
      try clear hfz32_2
      try clear hfz32_3
      try clear hfz33_0
      try clear hfz33_1
      try clear hfz33_2
      try clear hfz33_3
      try clear hfz34_0
      try clear hfz34_1
      try clear hfz34_2
      try clear hfz34_3
      try clear hfz38_0
      try clear hfz38_1
      try clear hfz38_2
      try clear hfz38_3
      try clear hfz39_0
      try clear hfz39_1
      try clear hfz39_2
      try clear hfz39_3
      try clear hfz5_0
      try clear hfz5_1
      try clear hfz5_2
      try clear hfz5_3
      try clear hfz6_0
      try clear hfz6_1
      try clear hfz6_2
      try clear hfz6_3
      try clear p2
      obtain ⟨kq, x50_35, rfl, HA, HJ35, BK282, HB⟩ := hcut
      cases kq with
      | zero => exact absurd HA.out (by simp [armoireref12_Check.j2])
      | succ kj35 =>
        have H := HA.out
        clear HA
        simp only [armoireref12_Check.j2] at H
        by_cases c40 : x50_35 = true
        · subst c40
          have H1 : (some 3) = some r := by rw [if_pos rfl] at H; exact H
          clear H
          have H := H1
          clear H1
          obtain rfl := Option.some.inj H
          go_wp2
          go_ret
          exact ⟨by first | rfl | (simp [errW_none, errW_some] <;> rfl) | (simp [*, errW_none, errW_some] <;> rfl), by repeat (first | (with_reducible first | exact HB.out | apply bal | apply bdn | apply bd1 | refine bst ?_ GE282.out) | exact HB.out)⟩
        replace c40 := Bool.eq_false_iff.mpr c40
        subst c40
        have H1 : (if a0_0 = 5 then (if a0_3 < 1 then (some 4) else (if a0_3 > 1048576 then (some 4) else (some 0))) else (if a0_0 = 6 then (if a0_3 < 1 then (some 4) else (if a0_3 > 1048576 then (some 4) else (some 0))) else (some 0))) = some r := by rw [if_neg (show ¬ (false = true) by decide)] at H; exact H
        clear H
        have H := H1
        clear H1
        by_cases c41 : a0_0 = 5
        · rw [if_pos c41] at H
          have c41b0 : (a0_0 == 5) = true := beq_iff_eq.mpr c41
          have c41b1 : (a0_0 != 5) = false := bne_eq_false_iff_eq.mpr c41
          clear c41
          by_cases c42 : a0_3 < 1
          · rw [if_pos c42] at H
            have c42b0 : decide (a0_3 < 1) = true := decide_eq_true c42
            clear c42
            obtain rfl := Option.some.inj H
            have hcz43_0 : wc.cell? ⟨gb282, 0, none⟩ = some (.int .i64 a0_0) := (kcl BK282.out 0).trans rfl
            have hcz43_1 : wc.cell? ⟨gb282, 1, none⟩ = some (.string a0_1) := (kcl BK282.out 1).trans rfl
            have hcz43_2 : wc.cell? ⟨gb282, 2, none⟩ = some (.string a0_2) := (kcl BK282.out 2).trans rfl
            have hcz43_3 : wc.cell? ⟨gb282, 3, none⟩ = some (.int .i64 a0_3) := (kcl BK282.out 3).trans rfl
            have hfz43_0 := kfr BK282.out 0
            have hfz43_1 := kfr BK282.out 1
            have hfz43_2 := kfr BK282.out 2
            have hfz43_3 := kfr BK282.out 3
            go_wp2
            go_ret
            exact ⟨by first | rfl | (simp [errW_none, errW_some] <;> rfl) | (simp [*, errW_none, errW_some] <;> rfl), by repeat (first | (with_reducible first | exact HB.out | apply bal | apply bdn | apply bd1 | refine bst ?_ GE282.out) | exact HB.out)⟩
          rw [if_neg c42] at H
          have c42b0 : decide (a0_3 < 1) = false := decide_eq_false c42
          clear c42
          by_cases c44 : a0_3 > 1048576
          · rw [if_pos c44] at H
            have c44b0 : decide (1048576 < a0_3) = true := decide_eq_true c44
            clear c44
            obtain rfl := Option.some.inj H
            have hcz45_0 : wc.cell? ⟨gb282, 0, none⟩ = some (.int .i64 a0_0) := (kcl BK282.out 0).trans rfl
            have hcz45_1 : wc.cell? ⟨gb282, 1, none⟩ = some (.string a0_1) := (kcl BK282.out 1).trans rfl
            have hcz45_2 : wc.cell? ⟨gb282, 2, none⟩ = some (.string a0_2) := (kcl BK282.out 2).trans rfl
            have hcz45_3 : wc.cell? ⟨gb282, 3, none⟩ = some (.int .i64 a0_3) := (kcl BK282.out 3).trans rfl
            have hfz45_0 := kfr BK282.out 0
            have hfz45_1 := kfr BK282.out 1
            have hfz45_2 := kfr BK282.out 2
            have hfz45_3 := kfr BK282.out 3
            go_wp2
            go_ret
            exact ⟨by first | rfl | (simp [errW_none, errW_some] <;> rfl) | (simp [*, errW_none, errW_some] <;> rfl), by repeat (first | (with_reducible first | exact HB.out | apply bal | apply bdn | apply bd1 | refine bst ?_ GE282.out) | exact HB.out)⟩
          rw [if_neg c44] at H
          have c44b0 : decide (1048576 < a0_3) = false := decide_eq_false c44
          clear c44
          obtain rfl := Option.some.inj H
          have hcz46_0 : wc.cell? ⟨gb282, 0, none⟩ = some (.int .i64 a0_0) := (kcl BK282.out 0).trans rfl
          have hcz46_1 : wc.cell? ⟨gb282, 1, none⟩ = some (.string a0_1) := (kcl BK282.out 1).trans rfl
          have hcz46_2 : wc.cell? ⟨gb282, 2, none⟩ = some (.string a0_2) := (kcl BK282.out 2).trans rfl
          have hcz46_3 : wc.cell? ⟨gb282, 3, none⟩ = some (.int .i64 a0_3) := (kcl BK282.out 3).trans rfl
          have hfz46_0 := kfr BK282.out 0
          have hfz46_1 := kfr BK282.out 1
          have hfz46_2 := kfr BK282.out 2
          have hfz46_3 := kfr BK282.out 3
          go_wp2
          go_ret
          exact ⟨by first | rfl | (simp [errW_none, errW_some] <;> rfl) | (simp [*, errW_none, errW_some] <;> rfl), by repeat (first | (with_reducible first | exact HB.out | apply bal | apply bdn | apply bd1 | refine bst ?_ GE282.out) | exact HB.out)⟩
        rw [if_neg c41] at H
        have c41b0 : (a0_0 == 5) = false := beq_eq_false_iff_ne.mpr c41
        have c41b1 : (a0_0 != 5) = true := bne_iff_ne.mpr c41
        by_cases c47 : a0_0 = 6
        rotate_left
        · rw [if_neg c47] at H
          have c47b0 : (a0_0 == 6) = false := beq_eq_false_iff_ne.mpr c47
          have c47b1 : (a0_0 != 6) = true := bne_iff_ne.mpr c47
          obtain rfl := Option.some.inj H
          have hcz53_0 : wc.cell? ⟨gb282, 0, none⟩ = some (.int .i64 a0_0) := (kcl BK282.out 0).trans rfl
          have hcz53_1 : wc.cell? ⟨gb282, 1, none⟩ = some (.string a0_1) := (kcl BK282.out 1).trans rfl
          have hcz53_2 : wc.cell? ⟨gb282, 2, none⟩ = some (.string a0_2) := (kcl BK282.out 2).trans rfl
          have hcz53_3 : wc.cell? ⟨gb282, 3, none⟩ = some (.int .i64 a0_3) := (kcl BK282.out 3).trans rfl
          have hfz53_0 := kfr BK282.out 0
          have hfz53_1 := kfr BK282.out 1
          have hfz53_2 := kfr BK282.out 2
          have hfz53_3 := kfr BK282.out 3
          go_wp2
          go_ret
          exact ⟨by first | rfl | (simp [errW_none, errW_some] <;> rfl) | (simp [*, errW_none, errW_some] <;> rfl), by repeat (first | (with_reducible first | exact HB.out | apply bal | apply bdn | apply bd1 | refine bst ?_ GE282.out) | exact HB.out)⟩
        rw [if_pos c47] at H
        have c47b0 : (a0_0 == 6) = true := beq_iff_eq.mpr c47
        have c47b1 : (a0_0 != 6) = false := bne_eq_false_iff_eq.mpr c47
        clear c47
        by_cases c48 : a0_3 < 1
        · rw [if_pos c48] at H
          have c48b0 : decide (a0_3 < 1) = true := decide_eq_true c48
          clear c48
          obtain rfl := Option.some.inj H
          have hcz49_0 : wc.cell? ⟨gb282, 0, none⟩ = some (.int .i64 a0_0) := (kcl BK282.out 0).trans rfl
          have hcz49_1 : wc.cell? ⟨gb282, 1, none⟩ = some (.string a0_1) := (kcl BK282.out 1).trans rfl
          have hcz49_2 : wc.cell? ⟨gb282, 2, none⟩ = some (.string a0_2) := (kcl BK282.out 2).trans rfl
          have hcz49_3 : wc.cell? ⟨gb282, 3, none⟩ = some (.int .i64 a0_3) := (kcl BK282.out 3).trans rfl
          have hfz49_0 := kfr BK282.out 0
          have hfz49_1 := kfr BK282.out 1
          have hfz49_2 := kfr BK282.out 2
          have hfz49_3 := kfr BK282.out 3
          go_wp2
          go_ret
          exact ⟨by first | rfl | (simp [errW_none, errW_some] <;> rfl) | (simp [*, errW_none, errW_some] <;> rfl), by repeat (first | (with_reducible first | exact HB.out | apply bal | apply bdn | apply bd1 | refine bst ?_ GE282.out) | exact HB.out)⟩
        rw [if_neg c48] at H
        have c48b0 : decide (a0_3 < 1) = false := decide_eq_false c48
        clear c48
        by_cases c50 : a0_3 > 1048576
        · rw [if_pos c50] at H
          have c50b0 : decide (1048576 < a0_3) = true := decide_eq_true c50
          clear c50
          obtain rfl := Option.some.inj H
          have hcz51_0 : wc.cell? ⟨gb282, 0, none⟩ = some (.int .i64 a0_0) := (kcl BK282.out 0).trans rfl
          have hcz51_1 : wc.cell? ⟨gb282, 1, none⟩ = some (.string a0_1) := (kcl BK282.out 1).trans rfl
          have hcz51_2 : wc.cell? ⟨gb282, 2, none⟩ = some (.string a0_2) := (kcl BK282.out 2).trans rfl
          have hcz51_3 : wc.cell? ⟨gb282, 3, none⟩ = some (.int .i64 a0_3) := (kcl BK282.out 3).trans rfl
          have hfz51_0 := kfr BK282.out 0
          have hfz51_1 := kfr BK282.out 1
          have hfz51_2 := kfr BK282.out 2
          have hfz51_3 := kfr BK282.out 3
          go_wp2
          go_ret
          exact ⟨by first | rfl | (simp [errW_none, errW_some] <;> rfl) | (simp [*, errW_none, errW_some] <;> rfl), by repeat (first | (with_reducible first | exact HB.out | apply bal | apply bdn | apply bd1 | refine bst ?_ GE282.out) | exact HB.out)⟩
        rw [if_neg c50] at H
        have c50b0 : decide (1048576 < a0_3) = false := decide_eq_false c50
        clear c50
        obtain rfl := Option.some.inj H
        have hcz52_0 : wc.cell? ⟨gb282, 0, none⟩ = some (.int .i64 a0_0) := (kcl BK282.out 0).trans rfl
        have hcz52_1 : wc.cell? ⟨gb282, 1, none⟩ = some (.string a0_1) := (kcl BK282.out 1).trans rfl
        have hcz52_2 : wc.cell? ⟨gb282, 2, none⟩ = some (.string a0_2) := (kcl BK282.out 2).trans rfl
        have hcz52_3 : wc.cell? ⟨gb282, 3, none⟩ = some (.int .i64 a0_3) := (kcl BK282.out 3).trans rfl
        have hfz52_0 := kfr BK282.out 0
        have hfz52_1 := kfr BK282.out 1
        have hfz52_2 := kfr BK282.out 2
        have hfz52_3 := kfr BK282.out 3
        go_wp2
        go_ret
        exact ⟨by first | rfl | (simp [errW_none, errW_some] <;> rfl) | (simp [*, errW_none, errW_some] <;> rfl), by repeat (first | (with_reducible first | exact HB.out | apply bal | apply bdn | apply bd1 | refine bst ?_ GE282.out) | exact HB.out)⟩
end Go.Proofs.Ytkkkmbgflflcnaa.PA

