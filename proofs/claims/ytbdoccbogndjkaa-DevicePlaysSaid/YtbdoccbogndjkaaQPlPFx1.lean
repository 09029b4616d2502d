import Derived.Test.YtbdoccbogndjkaaQPlPFx0
namespace Go.Proofs.Ytbdoccbogndjkaa.PF
open Go.RowKit Go.Proofs.YtbdoccbogndjkaaW.PrintWords Go.Proofs.YtbdoccbogndjkaaW.PrintLast Go.Proofs.YtbdoccbogndjkaaW.PrintMore
attribute [local go_sem] max2_int min2_int max_two min_two max_three min_three max_four min_four
set_option linter.unusedVariables false
set_option linter.unusedSimpArgs false
def armoireref03_Fill.l0 : Nat → ByteArray → Int → Option (ByteArray)
  | 0, _, _ => none
  | k + 1, x0, x3 => if x3 < 64 then (if (x0.size : Int) < 64 then (if x0.size + 1 ≤ 9223372036854775807 then (armoireref03_Fill.l0 k (x0 ++ (⟨#[0]⟩ : ByteArray)) (wrap64 (x3 + 1))) else (none)) else (if 0 ≤ 64 then (if 64 ≤ (x0.size : Int) then (some (x0.extract 0 64)) else (none)) else (none))) else (if 0 ≤ 64 then (if 64 ≤ (x0.size : Int) then (some (x0.extract 0 64)) else (none)) else (none))
def armoireref03_Fill.f (k : Nat) (a0 : ByteArray) : Option (ByteArray) := armoireref03_Fill.l0 k a0 0
theorem armoireref03_Fill.mono_l : ∀ k, (∀ y0 y1, LeO (armoireref03_Fill.l0 k y0 y1) (armoireref03_Fill.l0 (k + 1) y0 y1))
  | 0 => fun _ _ r h => by simp [armoireref03_Fill.l0] at h
  | k + 1 => by
    have ih0 := armoireref03_Fill.mono_l k
    · intro y0 y1
      unfold armoireref03_Fill.l0
      repeat' first
      | (with_reducible exact ih0 _ _)
      | (with_reducible exact LeO.refl _)
      | (with_reducible exact LeO.none _)
      | (with_reducible refine LeO.ite ?_ ?_)
      | (with_reducible refine LeO.bind ?_ (fun _ => ?_))
      | exact ih0 _ _
      | exact LeO.none _
      | refine LeO.ite ?_ ?_
      | refine LeO.bind ?_ (fun _ => ?_)
theorem armoireref03_Fill.mono : ∀ a0 k, LeO (armoireref03_Fill.f k a0) (armoireref03_Fill.f (k + 1) a0) := by
  intro a0 k
  have ih0 := armoireref03_Fill.mono_l k
  unfold armoireref03_Fill.f
  repeat' first
      | (with_reducible exact ih0 _ _)
      | (with_reducible exact LeO.refl _)
      | (with_reducible exact LeO.none _)
      | (with_reducible refine LeO.ite ?_ ?_)
      | (with_reducible refine LeO.bind ?_ (fun _ => ?_))
      | exact ih0 _ _
      | exact LeO.none _
      | refine LeO.ite ?_ ?_
      | refine LeO.bind ?_ (fun _ => ?_)
set_option maxHeartbeats 2000000 in
set_option maxRecDepth 100000 in
theorem armoireref03_Fill.calls (k : Nat) (a0 : ByteArray) (r : ByteArray) (w : World) (h : armoireref03_Fill.f k a0 = some r) :
    Calls Try.prog 16 #[.string a0] w fun e w' => e = .returned (.string r) ∧ Drawn0 w w' := by
  have H : (armoireref03_Fill.l0 k a0 0) = some r := h
  clear h
  have H' := Aside0.mk H
  clear H
  go_enter Try.func16, Try.ntmps16
  go_wp2
  go_loopg [0, 3] k (fun kq v0 v3 w' => ∃ (x0_1 : ByteArray) (x3_1 : Int), v0 = .string x0_1 ∧ v3 = .int .i64 x3_1 ∧ Aside0 (armoireref03_Fill.l0 kq x0_1 x3_1 = some r) ∧ Aside0 (kq ≤ k) ∧ Drawn0 w w')
  case atStart => exact ⟨(a0), (0), (by first | rfl | (simp; done) | (simp [*]; done) | exact emp1_ _ | exact (emp1_ _).symm | exact emp2_ _ | exact (emp2_ _).symm), (by first | rfl | (simp; done) | (simp [*]; done) | exact emp1_ _ | exact (emp1_ _).symm | exact emp2_ _ | exact (emp2_ _).symm), H', ⟨Nat.le_refl _⟩, by repeat (first | exact Drawn0.refl _ | apply Drawn0.step)⟩
  clear H'
  try clear c1
  obtain ⟨x0_1, x3_1, rfl, rfl, HA, HK1, ⟨m1, rfl⟩⟩ := hrel
  cases gk with
  | zero => exact absurd HA.out (by simp [armoireref03_Fill.l0])
  | succ k1 =>
    have H := HA.out
    clear HA
    simp only [armoireref03_Fill.l0] at H
    by_cases c2 : x3_1 < 64
    rotate_left
    · rw [if_neg c2] at H
      have c2b0 : decide (x3_1 < 64) = false := decide_eq_false c2
      clear c2
      by_cases c7 : 0 ≤ 64
      rotate_left
      · rw [if_neg c7] at H
        exact absurd H (by simp)
      rw [if_pos c7] at H
      have c7b0 := eq_true c7
      have c7b1 : decide (0 ≤ 64) = true := decide_eq_true c7
      clear c7
      by_cases c8 : 64 ≤ (x0_1.size : Int)
      rotate_left
      · rw [if_neg c8] at H
        exact absurd H (by simp)
      rw [if_pos c8] at H
      have c8b0 := eq_true c8
      have c8b1 : decide (64 ≤ (x0_1.size : Int)) = true := decide_eq_true c8
      clear c8
      obtain rfl := Option.some.inj H
      go_wp2
      go_ret
      exact ⟨by first | rfl | (simp; done) | (simp [*]; done), by repeat (first | exact Drawn0.refl _ | apply Drawn0.step)⟩
    rw [if_pos c2] at H
    have c2b0 : decide (x3_1 < 64) = true := decide_eq_true c2
    clear c2
    by_cases c3 : (x0_1.size : Int) < 64
    rotate_left
    · rw [if_neg c3] at H
      have c3b0 : decide ((x0_1.size : Int) < 64) = false := decide_eq_false c3
      have c3b1 : decide (x0_1.size < 64) = false := decide_eq_false (by omega)
      clear c3
      by_cases c5 : 0 ≤ 64
      rotate_left
      · rw [if_neg c5] at H
        exact absurd H (by simp)
      rw [if_pos c5] at H
      have c5b0 := eq_true c5
      have c5b1 : decide (0 ≤ 64) = true := decide_eq_true c5
      clear c5
      by_cases c6 : 64 ≤ (x0_1.size : Int)
      rotate_left
      · rw [if_neg c6] at H
        exact absurd H (by simp)
      rw [if_pos c6] at H
      have c6b0 := eq_true c6
      have c6b1 : decide (64 ≤ (x0_1.size : Int)) = true := decide_eq_true c6
      clear c6
      obtain rfl := Option.some.inj H
      go_wp2
      go_ret
      exact ⟨by first | rfl | (simp; done) | (simp [*]; done), by repeat (first | exact Drawn0.refl _ | apply Drawn0.step)⟩
    rw [if_pos c3] at H
    have c3b0 : decide ((x0_1.size : Int) < 64) = true := decide_eq_true c3
    have c3b1 : decide (x0_1.size < 64) = true := decide_eq_true (by omega)
    clear c3
    by_cases c4 : x0_1.size + 1 ≤ 9223372036854775807
    rotate_left
    · rw [if_neg c4] at H
      exact absurd H (by simp)
    rw [if_pos c4] at H
    have c4b0 := eq_true c4
    have c4b1 : decide (x0_1.size + 1 ≤ 9223372036854775807) = true := decide_eq_true c4
    try have c4b2 : (9223372036854775807 < x0_1.size + 1) = False := eq_false (Nat.not_lt.2 c4)
    have H' := Aside0.mk H
    clear H
    go_wp2
    go_roundg k1
    case measure => have := HK1.out; omega
    case rel => exact ⟨(x0_1 ++ (⟨#[0]⟩ : ByteArray)), (wrap64 (x3_1 + 1)), (by first | rfl | (simp; done) | (simp [*]; done) | exact emp1_ _ | exact (emp1_ _).symm | exact emp2_ _ | exact (emp2_ _).symm), (by first | rfl | (simp; done) | (simp [*]; done) | exact emp1_ _ | exact (emp1_ _).symm | exact emp2_ _ | exact (emp2_ _).symm), H', ⟨by have := HK1.out; omega⟩, by repeat (first | exact Drawn0.refl _ | apply Drawn0.step)⟩
def armoireref03_New.l0 : Nat → Int → Int → List ByteArray → Int → Bool → Int → Option (List ByteArray × (List (S72)) × Int × Bool × Int)
  | 0, _, _, _, _, _, _ => none
  | k + 1, x0, x4, x103000, x103002, x103003, x103004 => if x4 < x0 then ((armoireref03_Fill.f k (⟨#[]⟩ : ByteArray)).bind fun t103 => (if x103000.length < 8796093022208 then (armoireref03_New.l0 k x0 (wrap64 (x4 + 1)) (x103000 ++ [t103]) x103002 x103003 x103004) else (none))) else (some (x103000, ([] : List (S72)), x103002, x103003, x103004))
def armoireref03_New.f (k : Nat) (a0 : Int) : Option (List ByteArray × (List (S72)) × Int × Bool × Int) := armoireref03_New.l0 k a0 0 ([] : List ByteArray) (-1) false 0
set_option maxHeartbeats 2000000 in
set_option maxRecDepth 100000 in
theorem armoireref03_New.calls (k : Nat) (a0 : Int) (r1 : List ByteArray) (r2 : List (S72)) (r3 : Int) (r4 : Bool) (r5 : Int) (w : World) (h : armoireref03_New.f k a0 = some (r1, r2, r3, r4, r5)) :
    Calls Try.prog 21 #[.int .i64 a0] w fun e w' => ∃ v0_ v1_ : Value, e = .returned (.agg #[v0_, v1_, .int .i64 r3, .bool r4, .int .i64 r5]) ∧ Kd.R Kd.string 9 w' w.heap.size (fun _ => True) v0_ r1 ∧ Kd.R k72 72 w' w.heap.size (fun _ => True) v1_ r2 ∧ Below w.heap.size w w' := by
  have hu45 := Try.underlying45
  have HB := Aside0.mk (Below.refl w.heap.size w)
  have H : (armoireref03_New.l0 k a0 0 ([] : List ByteArray) (-1) false 0) = some (r1, r2, r3, r4, r5) := h
  clear h
  have H' := Aside0.mk H
  clear H
  go_enter Try.func21, Try.ntmps21
  go_wp2_with (first | ((with_reducible refine gds (N := 2) rfl ?_); refine bev ?hg (N := 2) ?hd (cs := #[.slice none 0 0, .slice none 0 0, .int .i64 0, .bool false, .int .i64 0]) (t := 45) ?hr ?_; (case hd => rfl); (case hg => rfl); (case hr => first | (go_simp; done) | (go_simp; rfl)); intro gb101 hg w2 hbox hb; have n0_ := Aside0.mk (bsp (by repeat (first | (with_reducible first | exact HB.out | apply bal | apply bdn | apply bd1) | exact HB.out)) hb); have n1_ := Aside0.mk (hbox); have n2_ := Aside0.mk ((by rw [hg]; exact (bsz (by repeat (first | (with_reducible first | exact HB.out | apply bal | apply bdn | apply bd1) | exact HB.out))) : w.heap.size ≤ gb101)); have n3_ := Aside0.mk ((by rw [hg]; exact (bsz (by repeat (first | (with_reducible first | exact HB.out | apply bal | apply bdn | apply bd1) | exact HB.out))) : w.heap.size ≤ gb101)); clear HB; have HB := n0_; have BK101 := n1_; have GW101 := n2_; have GE101 := n3_; clear n0_ n1_ n2_ n3_; clear hb hbox hg) | ((with_reducible refine gds (N := 3) rfl ?_); refine bev ?hg (N := 3) ?hd (cs := #[.slice none 0 0, .slice none 0 0, .int .i64 0, .bool false, .int .i64 0]) (t := 45) ?hr ?_; (case hd => rfl); (case hg => rfl); (case hr => first | (go_simp; done) | (go_simp; rfl)); intro gb102 hg w3 hbox hb; have n0_ := Aside0.mk (kbl (g := gb101) (o := .cells #[.slice none 0 0, .slice none 0 0, .int .i64 0, .bool false, .int .i64 0] 45 (0, 0)) (by (with_reducible repeat (first | refine kdn ?_ _ | refine kdw ?_ | refine kal ?_ _)); exact BK101.out) hb); have n1_ := Aside0.mk (bsp (by repeat (first | (with_reducible first | exact HB.out | apply bal | apply bdn | apply bd1 | refine bst ?_ GE101.out) | exact HB.out)) hb); have n2_ := Aside0.mk (hbox); have n3_ := Aside0.mk ((by rw [hg]; exact (bsz (by repeat (first | (with_reducible first | exact HB.out | apply bal | apply bdn | apply bd1 | refine bst ?_ GE101.out) | exact HB.out))) : w.heap.size ≤ gb102)); have n4_ := Aside0.mk ((by rw [hg]; exact (bsz (by repeat (first | (with_reducible first | exact HB.out | apply bal | apply bdn | apply bd1 | refine bst ?_ GE101.out) | exact HB.out))) : w.heap.size ≤ gb102)); have n5_ := Aside0.mk ((by rw [hg]; exact Nat.ne_of_lt (blk_lt (g := gb101) (o := .cells #[.slice none 0 0, .slice none 0 0, .int .i64 0, .bool false, .int .i64 0] 45 (0, 0)) (by (with_reducible repeat (first | refine kdn ?_ _ | refine kdw ?_ | refine kal ?_ _)); exact BK101.out)) : gb101 ≠ gb102)); have n6_ := Aside0.mk ((by rw [hg]; exact Nat.ne_of_gt (blk_lt (g := gb101) (o := .cells #[.slice none 0 0, .slice none 0 0, .int .i64 0, .bool false, .int .i64 0] 45 (0, 0)) (by (with_reducible repeat (first | refine kdn ?_ _ | refine kdw ?_ | refine kal ?_ _)); exact BK101.out)) : gb102 ≠ gb101)); clear BK101; clear HB; have BK101 := n0_; have HB := n1_; have BK102 := n2_; have GW102 := n3_; have GE102 := n4_; have NB101_102 := n5_; have NB102_101 := n6_; clear n0_ n1_ n2_ n3_ n4_ n5_ n6_; clear hb hbox hg; have hnb4 := NB102_101.out; have hnc4 := NB101_102.out; have hcz5_0 : w3.cell? ⟨gb102, 0, none⟩ = some (.slice none 0 0) := (kcl BK102.out 0).trans rfl; have hcz5_1 : w3.cell? ⟨gb102, 1, none⟩ = some (.slice none 0 0) := (kcl BK102.out 1).trans rfl; have hcz5_2 : w3.cell? ⟨gb102, 2, none⟩ = some (.int .i64 0) := (kcl BK102.out 2).trans rfl; have hcz5_3 : w3.cell? ⟨gb102, 3, none⟩ = some (.bool false) := (kcl BK102.out 3).trans rfl; have hcz5_4 : w3.cell? ⟨gb102, 4, none⟩ = some (.int .i64 0) := (kcl BK102.out 4).trans rfl; have hfz5_0 := kfr BK102.out 0; have hfz5_1 := kfr BK102.out 1; have hfz5_2 := kfr BK102.out 2; have hfz5_3 := kfr BK102.out 3; have hfz5_4 := kfr BK102.out 4))
  go_loopg [4] k (fun kq v4 w' => ∃ (x4_1 : Int) (x103000_1 : List ByteArray) (u103000 : Value), v4 = .int .i64 x4_1 ∧ Aside0 (armoireref03_New.l0 kq a0 x4_1 x103000_1 (-1) false 0 = some (r1, r2, r3, r4, r5)) ∧ Aside0 (kq ≤ k) ∧ Aside0 (Kd.R Kd.string 9 w' w.heap.size (fun _ => True) u103000 x103000_1) ∧ Aside0 (w'.heap[gb101]? = some (.cells #[(.slice none 0 0), (.slice none 0 0), .int .i64 0, .bool false, .int .i64 0] 45 (0, 0))) ∧ Aside0 (w'.heap[gb102]? = some (.cells #[u103000, (.slice none 0 0), .int .i64 (-1), .bool false, .int .i64 0] 45 (0, 0))) ∧ Aside0 (Below w.heap.size w w'))
  case atStart => exact ⟨(0), (([] : List ByteArray)), (.slice none 0 0), (by first | rfl | (simp; done) | (simp [*]; done) | exact emp1_ _ | exact (emp1_ _).symm | exact emp2_ _ | exact (emp2_ _).symm), H', ⟨Nat.le_refl _⟩, ⟨by first | exact Kd.R_nil _ _ _ _ _ | exact Kd.N_nil _ _ _ _ _ | exact Kd.V_nil _ _ _ _ _ | exact Kd.Q_nil _ _ _ _ _ | exact Kd.S_nil _ _ _ _ _⟩, ⟨by (with_reducible repeat (first | refine kdn ?_ _ | refine kdw ?_ | refine kal ?_ _)); refine blk_far ?_ NB101_102.out _; (with_reducible repeat (first | refine kdn ?_ _ | refine kdw ?_ | refine kal ?_ _)); refine blk_far ?_ NB101_102.out _; (with_reducible repeat (first | refine kdn ?_ _ | refine kdw ?_ | refine kal ?_ _)); refine blk_far ?_ NB101_102.out _; (with_reducible repeat (first | refine kdn ?_ _ | refine kdw ?_ | refine kal ?_ _)); refine blk_far ?_ NB101_102.out _; (with_reducible repeat (first | refine kdn ?_ _ | refine kdw ?_ | refine kal ?_ _)); refine blk_far ?_ NB101_102.out _; (with_reducible repeat (first | refine kdn ?_ _ | refine kdw ?_ | refine kal ?_ _)); exact BK101.out⟩, ⟨by (with_reducible repeat (first | refine kdn ?_ _ | refine kdw ?_ | refine kal ?_ _)); refine kpt (cs := #[.slice none 0 0, .slice none 0 0, .int .i64 (-1), .bool false, .int .i64 0]) ?_ 4 _ rfl; (with_reducible repeat (first | refine kdn ?_ _ | refine kdw ?_ | refine kal ?_ _)); refine kpt (cs := #[.slice none 0 0, .slice none 0 0, .int .i64 (-1), .bool false, .int .i64 0]) ?_ 3 _ rfl; (with_reducible repeat (first | refine kdn ?_ _ | refine kdw ?_ | refine kal ?_ _)); refine kpt (cs := #[.slice none 0 0, .slice none 0 0, .int .i64 0, .bool false, .int .i64 0]) ?_ 2 _ rfl; (with_reducible repeat (first | refine kdn ?_ _ | refine kdw ?_ | refine kal ?_ _)); refine kpt (cs := #[.slice none 0 0, .slice none 0 0, .int .i64 0, .bool false, .int .i64 0]) ?_ 1 _ rfl; (with_reducible repeat (first | refine kdn ?_ _ | refine kdw ?_ | refine kal ?_ _)); refine kpt (cs := #[.slice none 0 0, .slice none 0 0, .int .i64 0, .bool false, .int .i64 0]) ?_ 0 _ rfl; (with_reducible repeat (first | refine kdn ?_ _ | refine kdw ?_ | refine kal ?_ _)); exact BK102.out⟩, ⟨by repeat (first | (with_reducible first | exact HB.out | apply bal | apply bdn | apply bd1 | refine bst ?_ GE101.out | refine bst ?_ GE102.out) | exact HB.out)⟩⟩
  clear H'
  try clear c2
  try clear p2
  try clear c4
  try clear hcz5_0
  try clear hcz5_1
  try clear hcz5_2
  try clear hcz5_3
  try clear hcz5_4
  try clear hfz5_0
  try clear hfz5_1
  try clear hfz5_2
  try clear hfz5_3
  try clear hfz5_4
  obtain ⟨x4_1, x103000_1, u103000, rfl, HA, HK1, HO_103000, BK101, BK102, HB⟩ := hrel
  cases gk with
  | zero => exact absurd HA.out (by simp [armoireref03_New.l0])
  | succ k1 =>
    have H := HA.out
    clear HA
    simp only [armoireref03_New.l0] at H
    by_cases c6 : x4_1 < a0
    rotate_left
    · rw [if_neg c6] at H
      have c6b0 : decide (x4_1 < a0) = false := decide_eq_false c6
      clear c6
      simp only [Option.some.injEq, Prod.mk.injEq] at H
      obtain ⟨rfl, rfl, rfl, rfl, rfl⟩ := H
      have hnb13 := NB102_101.out
      have hnc13 := NB101_102.out
      have hcz14_0 : wr.cell? ⟨gb102, 0, none⟩ = some (u103000) := (kcl BK102.out 0).trans rfl
      have hcz14_1 : wr.cell? ⟨gb102, 1, none⟩ = some (.slice none 0 0) := (kcl BK102.out 1).trans rfl
      have hcz14_2 : wr.cell? ⟨gb102, 2, none⟩ = some (.int .i64 (-1)) := (kcl BK102.out 2).trans rfl
      have hcz14_3 : wr.cell? ⟨gb102, 3, none⟩ = some (.bool false) := (kcl BK102.out 3).trans rfl
      have hcz14_4 : wr.cell? ⟨gb102, 4, none⟩ = some (.int .i64 0) := (kcl BK102.out 4).trans rfl
      have hfz14_0 := kfr BK102.out 0
      have hfz14_1 := kfr BK102.out 1
      have hfz14_2 := kfr BK102.out 2
      have hfz14_3 := kfr BK102.out 3
      have hfz14_4 := kfr BK102.out 4
      obtain ⟨Ao15, co15, eo15⟩ := Kd.R_slice HO_103000.out
      subst eo15
      have hcz16_0 : wr.cell? ⟨gb101, 0, none⟩ = some (.slice none 0 0) := (kcl BK101.out 0).trans rfl
      have hcz16_1 : wr.cell? ⟨gb101, 1, none⟩ = some (.slice none 0 0) := (kcl BK101.out 1).trans rfl
      have hcz16_2 : wr.cell? ⟨gb101, 2, none⟩ = some (.int .i64 0) := (kcl BK101.out 2).trans rfl
      have hcz16_3 : wr.cell? ⟨gb101, 3, none⟩ = some (.bool false) := (kcl BK101.out 3).trans rfl
      have hcz16_4 : wr.cell? ⟨gb101, 4, none⟩ = some (.int .i64 0) := (kcl BK101.out 4).trans rfl
      have hfz16_0 := kfr BK101.out 0
      have hfz16_1 := kfr BK101.out 1
      have hfz16_2 := kfr BK101.out 2
      have hfz16_3 := kfr BK101.out 3
      have hfz16_4 := kfr BK101.out 4
      go_wp2
      refine bodyPost_ret (results_cell_row rfl _ _ gb101 45 #[.slice Ao15 x103000_1.length co15, .slice none 0 0, .int .i64 (-1), .bool false, .int .i64 0] (0, 0) _ rfl (by (with_reducible repeat (first | refine kdn ?_ _ | refine kdw ?_ | refine kal ?_ _)); refine kpt (cs := #[.slice Ao15 x103000_1.length co15, .slice none 0 0, .int .i64 (-1), .bool false, .int .i64 0]) ?_ 4 _ rfl; (with_reducible repeat (first | refine kdn ?_ _ | refine kdw ?_ | refine kal ?_ _)); refine kpt (cs := #[.slice Ao15 x103000_1.length co15, .slice none 0 0, .int .i64 (-1), .bool false, .int .i64 0]) ?_ 3 _ rfl; (with_reducible repeat (first | refine kdn ?_ _ | refine kdw ?_ | refine kal ?_ _)); refine kpt (cs := #[.slice Ao15 x103000_1.length co15, .slice none 0 0, .int .i64 0, .bool false, .int .i64 0]) ?_ 2 _ rfl; (with_reducible repeat (first | refine kdn ?_ _ | refine kdw ?_ | refine kal ?_ _)); refine kpt (cs := #[.slice Ao15 x103000_1.length co15, .slice none 0 0, .int .i64 0, .bool false, .int .i64 0]) ?_ 1 _ rfl; (with_reducible repeat (first | refine kdn ?_ _ | refine kdw ?_ | refine kal ?_ _)); refine kpt (cs := #[.slice none 0 0, .slice none 0 0, .int .i64 0, .bool false, .int .i64 0]) ?_ 0 _ rfl; (with_reducible repeat (first | refine kdn ?_ _ | refine kdw ?_ | refine kal ?_ _)); exact BK101.out) Try.underlying45 rfl (by kernel_rfl)) rfl ?_
      exact ⟨_, _, by first | rfl | (simp [errW_none, errW_some] <;> rfl) | (simp [*, errW_none, errW_some] <;> rfl), by (with_reducible repeat (first | apply Kd.R_alloc | apply Kd.R_drewN | apply Kd.R_drew)); exact Kd.R_mono (Kd.R_far (p := ⟨gb101, 4, none⟩) (Kd.R_far (p := ⟨gb101, 3, none⟩) (Kd.R_far (p := ⟨gb101, 2, none⟩) (Kd.R_far (p := ⟨gb101, 1, none⟩) (Kd.R_far (p := ⟨gb101, 0, none⟩) (Kd.R_types HO_103000.out BK101.out (by decide)) (fun _ hk => hk.2) (.slice Ao15 x103000_1.length co15)) (fun _ hk => hk.2) (.slice none 0 0)) (fun _ hk => hk.2) (.int .i64 (-1))) (fun _ hk => hk.2) (.bool false)) (fun _ hk => hk.2) (.int .i64 0)) (fun _ hk => trivial), by first | exact Kd.R_nil _ _ _ _ _ | exact Kd.N_nil _ _ _ _ _ | exact Kd.V_nil _ _ _ _ _ | exact Kd.Q_nil _ _ _ _ _ | exact Kd.S_nil _ _ _ _ _, by repeat (first | (with_reducible first | exact HB.out | apply bal | apply bdn | apply bd1 | refine bst ?_ GE101.out | refine bst ?_ GE102.out) | exact HB.out)⟩
    rw [if_pos c6] at H
    have c6b0 : decide (x4_1 < a0) = true := decide_eq_true c6
    clear c6
    replace H := Option.bind_eq_some_iff.mp H
    obtain ⟨t103, A70, H⟩ := H
    replace H : (if x103000_1.length < 8796093022208 then (armoireref03_New.l0 k1 a0 (wrap64 (x4_1 + 1)) (x103000_1 ++ [t103]) (-1) false 0) else (none)) = some (r1, r2, r3, r4, r5) := H
    have A7 := Aside0.mk A70
    clear A70
    by_cases c8 : x103000_1.length < 8796093022208
    rotate_left
    · rw [if_neg c8] at H
      exact absurd H (by simp)
    rw [if_pos c8] at H
    have LMc8 := Aside0.mk c8
    clear c8
    obtain ⟨y104, hy104⟩ : ∃ y_ : List ByteArray, y_ = (x103000_1 ++ [t103]) := ⟨_, rfl⟩
    replace H : (armoireref03_New.l0 k1 a0 (wrap64 (x4_1 + 1)) y104 (-1) false 0) = some (r1, r2, r3, r4, r5) := by first | (rw [hy104]; with_reducible exact H) | (have H2_ := (Option.bind_some _ _).symm.trans H; rw [hy104]; with_reducible exact H2_) | (have H2_ := (Option.bind_some _ _).symm.trans H; with_reducible exact H2_) | with_reducible exact H | (rw [hy104]; exact H) | exact H
    have Ny104 := Aside0.mk hy104
    clear hy104
    have H' := Aside0.mk H
    clear H
    try go_wp2
    have n0_ := Aside0.mk (Kd.R_drew HO_103000.out)
    have n1_ := Aside0.mk (kdw BK101.out)
    have n2_ := Aside0.mk (kdw BK102.out)
    have n3_ := Aside0.mk (bd1 HB.out)
    clear HO_103000
    clear BK101
    clear BK102
    clear HB
    have HO_103000 := n0_
    have BK101 := n1_
    have BK102 := n2_
    have HB := n3_
    clear n0_ n1_ n2_ n3_
    refine start_ (n := 7) (S := fun w' => w'.cell? ⟨gb102, 0, none⟩ = some (u103000) ∧ w'.cell? ⟨gb102, 1, none⟩ = some (.slice none 0 0) ∧ w'.cell? ⟨gb102, 2, none⟩ = some (.int .i64 (-1)) ∧ w'.cell? ⟨gb102, 3, none⟩ = some (.bool false) ∧ w'.cell? ⟨gb102, 4, none⟩ = some (.int .i64 0)) (ds := [6]) #[false,false,false,false,false,false,false] (by kernel_rfl) rfl rfl ⟨(kcl BK102.out 0).trans rfl, (kcl BK102.out 1).trans rfl, (kcl BK102.out 2).trans rfl, (kcl BK102.out 3).trans rfl, (kcl BK102.out 4).trans rfl⟩ (fun hHeld => ?_)
    generalize wr.drew = w9 at HO_103000 BK101 BK102 HB hHeld ⊢
    refine pure_ (i := 0) (N := some 11) (v := ?_) (a' := ?_) (bA 7 1) rfl rfl (by kernel_rfl) (fun _ _ _ h => h) (Or.inl ⟨by rfl, ?_⟩) ?_ ?_
    rotate_left; (intro w'; go_simp; with_reducible rfl); rotate_left; (simp only [Act.put, List.setIfInBounds_toArray, List.set_cons_zero, List.set_cons_succ, i64_w, i32_w]; rfl)
    refine take_ (i := 1) (N := some 12) (v := ?_) (a' := ?_) #[true,true,false,false,false,false,false] rfl rfl (by kernel_rfl) (fun _ _ _ h => h) (Or.inl ⟨by rfl, ?_⟩) hHeld ?_ ?_
    rotate_left
    · rintro w' ⟨s0, s1, s2, s3, s4⟩
      go_simp
      with_reducible rfl
    rotate_left; (simp only [Act.put, List.setIfInBounds_toArray, List.set_cons_zero, List.set_cons_succ, i64_w, i32_w]; rfl)
    refine one_ (i := 2) (N := some 13) #[true,true,true,false,false,false,false] rfl rfl (by kernel_rfl) (by decide) (fun K hK => ?_)
    refine goes_ Try.func16 (by kernel_rfl) rfl #[.string (⟨#[]⟩ : ByteArray)] (by rfl) rfl rfl (by (try simp only [List.map_toArray, List.map_cons, List.map_nil]); first | done | rfl | (simp only [List.length_drop, List.length_take]; rfl) | (simp only [Act.eval, Array.getD_eq_getD_getElem?, Option.getD_some, *]; done) | (simp only [Array.mk.injEq, List.cons.injEq, Value.int.injEq, true_and, and_true]; first | omega | (simp [IntKind.wrap, IntKind.bits, IntKind.signed]; omega))) ?_
    with_reducible refine (armoireref03_Fill.calls k1 (⟨#[]⟩ : ByteArray) t103 _ A7.out).mono ?_
    rintro e w' ⟨rfl, ⟨nd, rfl⟩⟩
    refine ⟨_, rfl, ?_⟩
    refine hK.out _ _ ⟨(kcl BK102.out 0).trans rfl, (kcl BK102.out 1).trans rfl, (kcl BK102.out 2).trans rfl, (kcl BK102.out 3).trans rfl, (kcl BK102.out 4).trans rfl⟩ (fun hHeld => ?_)
    clear hK K
    refine norm_ (a' := ?_) ?_ ?_
    rotate_left
    · show Act.put _ (some 13) _ = _
      simp only [Act.put, List.setIfInBounds_toArray, List.set_cons_zero, List.set_cons_succ, i64_w, i32_w]
      rfl
    refine one_ (i := 3) (N := some 14) #[true,true,true,true,false,false,false] rfl rfl (by kernel_rfl) (by decide) (fun K hK => ?_)
    refine value_ (w1 := ?_) (v := ?_) (by rfl) rfl ?_ ?_
    rotate_left 2
    · go_simp
      constructor
      · rfl
      · rfl
    refine hK.out _ _ ⟨(kcl (kal BK102.out _) 0).trans rfl, (kcl (kal BK102.out _) 1).trans rfl, (kcl (kal BK102.out _) 2).trans rfl, (kcl (kal BK102.out _) 3).trans rfl, (kcl (kal BK102.out _) 4).trans rfl⟩ (fun hHeld => ?_)
    clear hK K
    refine norm_ (a' := ?_) ?_ ?_
    rotate_left
    · show Act.put _ (some 14) _ = _
      simp only [Act.put, List.setIfInBounds_toArray, List.set_cons_zero, List.set_cons_succ, i64_w, i32_w]
      rfl
    refine one_ (i := 4) (N := some 15) #[true,true,true,true,true,false,false] rfl rfl (by kernel_rfl) (by decide) (fun K hK => ?_)
    refine Kd.R_append_step Kd.string (w0 := w) w.heap.size (by rfl) (.tmp 12) (.tmp 14) 29 9 (.string ⟨#[]⟩) 16 rfl Try.underlying29 info9 rfl (by decide) (by omega) u103000 x103000_1 t103 [.string t103] (fun _ => True) (fun _ => False) rfl rfl ?aP (fun _ hk => hk.elim) ?aF ?aO ?aB ?aS ?aL ?_
    (case aP => exact rfl)
    (case aB => exact (by repeat (first | (with_reducible first | exact HB.out | apply bal | apply bdn | apply bd1 | refine bst ?_ GE101.out | refine bst ?_ GE102.out) | exact HB.out)))
    (case aF => exact (fun _ _ => trivial))
    (case aO => exact (by (with_reducible repeat (first | apply Kd.R_alloc | apply Kd.R_drewN | apply Kd.R_drew)); exact HO_103000.out))
    (case aS => exact (bsz (by repeat (first | (with_reducible first | exact HB.out | apply bal | apply bdn | apply bd1 | refine bst ?_ GE101.out | refine bst ?_ GE102.out) | exact HB.out))))
    (case aL => have := LMc8.out; omega)
    intro v105 w10 ho hb hg hat
    rw [← Ny104.out] at ho
    have n0_ := Aside0.mk (blk_grown (g := gb101) (o := .cells #[.slice none 0 0, .slice none 0 0, .int .i64 0, .bool false, .int .i64 0] 45 (0, 0)) (by (with_reducible repeat (first | refine kdn ?_ _ | refine kdw ?_ | refine kal ?_ _)); exact BK101.out) hg (Kd.R_ne HO_103000.out BK101.out (by decide)))
    have n1_ := Aside0.mk (blk_grown (g := gb102) (o := .cells #[u103000, .slice none 0 0, .int .i64 (-1), .bool false, .int .i64 0] 45 (0, 0)) (by (with_reducible repeat (first | refine kdn ?_ _ | refine kdw ?_ | refine kal ?_ _)); exact BK102.out) hg (Kd.R_ne HO_103000.out BK102.out (by decide)))
    have n2_ := Aside0.mk (hb)
    have n3_ := Aside0.mk (ho)
    clear BK101
    clear BK102
    clear HB
    clear HO_103000
    have BK101 := n0_
    have BK102 := n1_
    have HB := n2_
    have HO106 := n3_
    clear n0_ n1_ n2_ n3_
    clear ho hb hg hat
    obtain ⟨Ao11, co11, eo11⟩ := Kd.R_slice HO106.out
    (first | subst eo11 | (injection eo11 with f1_ f2_ f3_; have f4_ := f1_.symm; have f5_ := f3_.symm; clear f1_ f2_ f3_; subst f4_; subst f5_))
    refine hK.out _ _ ⟨(kcl BK102.out 0).trans rfl, (kcl BK102.out 1).trans rfl, (kcl BK102.out 2).trans rfl, (kcl BK102.out 3).trans rfl, (kcl BK102.out 4).trans rfl⟩ (fun hHeld => ?_)
    clear hK K
    refine norm_ (a' := ?_) ?_ ?_
    rotate_left
    · show Act.put _ (some 15) _ = _
      simp only [Act.put, List.setIfInBounds_toArray, List.set_cons_zero, List.set_cons_succ, i64_w, i32_w]
      rfl
    refine pure_ (i := 5) (N := some 16) (v := ?_) (a' := ?_) (bA 7 63) rfl rfl (by kernel_rfl) (fun _ _ _ h => h) (Or.inl ⟨by rfl, ?_⟩) ?_ ?_
    rotate_left; (intro w'; go_simp; with_reducible rfl); rotate_left; (simp only [Act.put, List.setIfInBounds_toArray, List.set_cons_zero, List.set_cons_succ, i64_w, i32_w]; rfl)
    refine last_ (i := 6) (N := none) #[true,true,true,true,true,true,true] rfl rfl (by kernel_rfl) (by decide) (fun K hK => ?_)
    have hs12 : w10.cell? ⟨gb102, 0, none⟩ = some (u103000) := (kcl BK102.out 0).trans rfl
    have hfs12 := kfr BK102.out 0
    have hns12_0 := NB101_102.out
    have hms12_0 := NB102_101.out
    refine skip_ (w1 := ?_) (by rfl) rfl ?_ ?_
    rotate_left
    · go_simp
      rfl
    refine hK.out _ _ ?_
    clear hK K
    refine done_ (by kernel_rfl) ?_
    try go_wp2
    go_roundg k1
    case measure => have := HK1.out; omega
    case rel => exact ⟨(wrap64 (x4_1 + 1)), (y104), (.slice Ao11 y104.length co11), (by first | rfl | (simp; done) | (simp [*]; done) | exact emp1_ _ | exact (emp1_ _).symm | exact emp2_ _ | exact (emp2_ _).symm), H', ⟨by have := HK1.out; omega⟩, ⟨by (with_reducible repeat (first | apply Kd.R_alloc | apply Kd.R_drewN | apply Kd.R_drew)); exact Kd.R_mono (Kd.R_far (p := ⟨gb102, 0, none⟩) (Kd.R_types HO106.out BK102.out (by decide)) (fun _ hk => hk.2) (.slice Ao11 y104.length co11)) (fun _ hk => trivial)⟩, ⟨by (with_reducible repeat (first | refine kdn ?_ _ | refine kdw ?_ | refine kal ?_ _)); refine blk_far ?_ NB101_102.out _; (with_reducible repeat (first | refine kdn ?_ _ | refine kdw ?_ | refine kal ?_ _)); exact BK101.out⟩, ⟨by (with_reducible repeat (first | refine kdn ?_ _ | refine kdw ?_ | refine kal ?_ _)); refine kpt (cs := #[u103000, .slice none 0 0, .int .i64 (-1), .bool false, .int .i64 0]) ?_ 0 _ rfl; (with_reducible repeat (first | refine kdn ?_ _ | refine kdw ?_ | refine kal ?_ _)); exact BK102.out⟩, ⟨by repeat (first | (with_reducible first | exact HB.out | apply bal | apply bdn | apply bd1 | refine bst ?_ GE101.out | refine bst ?_ GE102.out) | exact HB.out)⟩⟩
mutual
def armoireref03_Read.j0 : Nat → Int → Bool → List ByteArray → List (S72) → Int → Bool → Int → Option (ByteArray × Int)
  | 0, _, _, _, _, _, _, _ => none
  | k + 1, x1, x17, x108000, x108001, x108002, x108003, x108004 => if x17 = true then (some ((⟨#[]⟩ : ByteArray), 4)) else (if x108003 = true then (some ((⟨#[]⟩ : ByteArray), 16)) else (if 0 ≤ x1 then (if x1 < (x108000.length : Int) then (armoireref03_Read.l0 k x1 (rdOf ByteArray.empty x108000 x1) x108001 (x108001.length : Int) 0) else (none)) else (none)))
def armoireref03_Read.l0 : Nat → Int → ByteArray → List (S72) → Int → Int → Option (ByteArray × Int)
  | 0, _, _, _, _, _ => none
  | k + 1, x1, x6, x26, x27, x28 => if x28 < x27 then (if 0 ≤ x28 then (if x28 < (x26.length : Int) then (if ((rd_T72 x26 x28).f0) = x1 then (armoireref03_Read.l0 k x1 ((rd_T72 x26 x28).f1) x26 x27 (wrap64 (x28 + 1))) else (armoireref03_Read.l0 k x1 x6 x26 x27 (wrap64 (x28 + 1)))) else (none)) else (none)) else (some (x6, 0))
end
def armoireref03_Read.f (k : Nat) (l0_0 : List ByteArray) (l0_1 : List (S72)) (a0_2 : Int) (a0_3 : Bool) (a0_4 : Int) (a1 : Int) : Option (ByteArray × Int) := if a1 < 0 then (armoireref03_Read.j0 k a1 true l0_0 l0_1 a0_2 a0_3 a0_4) else (armoireref03_Read.j0 k a1 (decide (a1 ≥ (l0_0.length : Int))) l0_0 l0_1 a0_2 a0_3 a0_4)
set_option maxHeartbeats 2000000 in
set_option maxRecDepth 100000 in
theorem armoireref03_Read.calls (k : Nat) (A0_0 : Option Addr) (c0_0 : Nat) (l0_0 : List ByteArray) (A0_1 : Option Addr) (c0_1 : Nat) (l0_1 : List (S72)) (a0_2 : Int) (a0_3 : Bool) (a0_4 : Int) (a1 : Int) (r1 : ByteArray) (r2 : Int) (w : World) (hr0_0 : Kd.C Kd.string w A0_0 l0_0.length l0_0) (hc0_0 : l0_0.length ≤ c0_0) (hr0_1 : Kd.C k72 w A0_1 l0_1.length l0_1) (hc0_1 : l0_1.length ≤ c0_1) (h : armoireref03_Read.f k l0_0 l0_1 a0_2 a0_3 a0_4 a1 = some (r1, r2)) :
    Calls Try.prog 27 #[.agg #[.slice A0_0 l0_0.length c0_0, .slice A0_1 l0_1.length c0_1, .int .i64 a0_2, .bool a0_3, .int .i64 a0_4], .int .i64 a1] w fun e w' => e = .returned (.tuple #[.string r1, .int .i64 r2]) ∧ Below w.heap.size w w' := by
  have hu45 := Try.underlying45
  have hu72 := Try.underlying72
  have HR0_0 := Aside0.mk hr0_0
  have HC0_0 := Aside0.mk hc0_0
  clear hr0_0 hc0_0
  have HR0_1 := Aside0.mk hr0_1
  have HC0_1 := Aside0.mk hc0_1
  clear hr0_1 hc0_1
  have HB := Aside0.mk (Below.refl w.heap.size w)
  have H : (if a1 < 0 then (armoireref03_Read.j0 k a1 true l0_0 l0_1 a0_2 a0_3 a0_4) else (armoireref03_Read.j0 k a1 (decide (a1 ≥ (l0_0.length : Int))) l0_0 l0_1 a0_2 a0_3 a0_4)) = some (r1, r2) := h
  clear h
  have HC3 := Aside0.mk H
  clear H
  go_enter Try.func27, Try.ntmps27
  go_upto_region 1 with (first | ((with_reducible refine gds (N := 2) rfl ?_); (try (refine gate_guard (by rfl) ?_; dsimp only)); refine bev ?hg (N := 2) ?hd (cs := #[.slice A0_0 l0_0.length c0_0, .slice A0_1 l0_1.length c0_1, .int .i64 a0_2, .bool a0_3, .int .i64 a0_4]) (t := 45) ?hr ?_; (case hd => rfl); (case hg => rfl); (case hr => first | (go_simp; done) | (go_simp; rfl)); intro gb107 hg w4 hbox hb; have n0_ := Aside0.mk (bsp (by repeat (first | (with_reducible first | exact HB.out | apply bal | apply bdn | apply bd1) | exact HB.out)) hb); have n1_ := Aside0.mk (hbox); have n2_ := Aside0.mk ((by rw [hg]; exact (bsz (by repeat (first | (with_reducible first | exact HB.out | apply bal | apply bdn | apply bd1) | exact HB.out))) : w.heap.size ≤ gb107)); have n3_ := Aside0.mk ((by rw [hg]; exact (bsz (by repeat (first | (with_reducible first | exact HB.out | apply bal | apply bdn | apply bd1) | exact HB.out))) : w.heap.size ≤ gb107)); clear HB; have HB := n0_; have BK107 := n1_; have GW107 := n2_; have GE107 := n3_; clear n0_ n1_ n2_ n3_; clear hb hbox hg))
  (try simp only [Act.put, List.setIfInBounds_toArray, List.set_cons_zero, List.set_cons_succ])
  go_cut [17] (fun v17 wc => ∃ (kq : Nat) (x17_2 : Bool), v17 = .bool x17_2 ∧ Aside0 (armoireref03_Read.j0 kq a1 x17_2 l0_0 l0_1 a0_2 a0_3 a0_4 = some (r1, r2)) ∧ Aside0 (kq ≤ k) ∧ Aside0 (wc.heap[gb107]? = some (.cells #[(.slice A0_0 l0_0.length c0_0), (.slice A0_1 l0_1.length c0_1), .int .i64 a0_2, .bool a0_3, .int .i64 a0_4] 45 (0, 0))) ∧ Aside0 (Below w.heap.size w wc))
  case first =>
    have H := HC3.out
    clear HC3
    by_cases c5 : a1 < 0
    · rw [if_pos c5] at H
      have c5b0 : decide (a1 < 0) = true := decide_eq_true c5
      clear c5
      (first | rw [c5b0] | (simp only [i64_w, i32_w]; rw [c5b0]) | skip)
      have H' := Aside0.mk H
      clear H
      go_wp2
      go_meet
      case rel => exact ⟨_, (true), (by first | rfl | (simp; done) | (simp [*]; done) | exact emp1_ _ | exact (emp1_ _).symm | exact emp2_ _ | exact (emp2_ _).symm), H', ⟨by first | omega | exact Nat.le_refl _⟩, ⟨by (with_reducible repeat (first | refine kdn ?_ _ | refine kdw ?_ | refine kal ?_ _)); exact BK107.out⟩, ⟨by repeat (first | (with_reducible first | exact HB.out | apply bal | apply bdn | apply bd1 | refine bst ?_ GE107.out) | exact HB.out)⟩⟩
    rw [if_neg c5] at H
    have c5b0 : decide (a1 < 0) = false := decide_eq_false c5
    clear c5
    (first | rw [c5b0] | (simp only [i64_w, i32_w]; rw [c5b0]) | skip)
    have H' := Aside0.mk H
    clear H
    have hcz6_0 : w4.cell? ⟨gb107, 0, none⟩ = some (.slice A0_0 l0_0.length c0_0) := (kcl BK107.out 0).trans rfl
    have hcz6_1 : w4.cell? ⟨gb107, 1, none⟩ = some (.slice A0_1 l0_1.length c0_1) := (kcl BK107.out 1).trans rfl
    have hcz6_2 : w4.cell? ⟨gb107, 2, none⟩ = some (.int .i64 a0_2) := (kcl BK107.out 2).trans rfl
    have hcz6_3 : w4.cell? ⟨gb107, 3, none⟩ = some (.bool a0_3) := (kcl BK107.out 3).trans rfl
    have hcz6_4 : w4.cell? ⟨gb107, 4, none⟩ = some (.int .i64 a0_4) := (kcl BK107.out 4).trans rfl
    have hfz6_0 := kfr BK107.out 0
    have hfz6_1 := kfr BK107.out 1
    have hfz6_2 := kfr BK107.out 2
    have hfz6_3 := kfr BK107.out 3
    have hfz6_4 := kfr BK107.out 4
    go_wp2
    go_meet
    case rel => exact ⟨_, (decide (a1 ≥ (l0_0.length : Int))), (by first | rfl | (simp; done) | (simp [*]; done) | exact emp1_ _ | exact (emp1_ _).symm | exact emp2_ _ | exact (emp2_ _).symm), H', ⟨by first | omega | exact Nat.le_refl _⟩, ⟨by (with_reducible repeat (first | refine kdn ?_ _ | refine kdw ?_ | refine kal ?_ _)); exact BK107.out⟩, ⟨by repeat (first | (with_reducible first | exact HB.out | apply bal | apply bdn | apply bd1 | refine bst ?_ GE107.out) | exact HB.out)⟩⟩
  clear HC3
  try clear c2
  try clear p2
  try clear c5
  try clear c5b0
  try clear hcz6_0
  try clear hcz6_1
  try clear hcz6_2
  try clear hcz6_3
  try clear hcz6_4
  try clear hfz6_0
  try clear hfz6_1
  try clear hfz6_2
  try clear hfz6_3
  try clear hfz6_4
  obtain ⟨kq, x17_2, rfl, HA, HJ2, BK107, HB⟩ := hcut
  cases kq with
  | zero => exact absurd HA.out (by simp [armoireref03_Read.j0])
  | succ kj2 =>
    have H := HA.out
    clear HA
    simp only [armoireref03_Read.j0] at H
    by_cases c7 : x17_2 = true
    · subst c7
      have H1 : (some ((⟨#[]⟩ : ByteArray), 4)) = some (r1, r2) := by rw [if_pos rfl] at H; exact H
      clear H
      have H := H1
      clear H1
      simp only [Option.some.injEq, Prod.mk.injEq] at H
      obtain ⟨rfl, rfl⟩ := H
      go_wp2
      go_ret2
      exact ⟨by first | rfl | (simp [errW_none, errW_some] <;> rfl) | (simp [*, errW_none, errW_some] <;> rfl), by repeat (first | (with_reducible first | exact HB.out | apply bal | apply bdn | apply bd1 | refine bst ?_ GE107.out) | exact HB.out)⟩
    replace c7 := Bool.eq_false_iff.mpr c7
    subst c7
    have H1 : (if a0_3 = true then (some ((⟨#[]⟩ : ByteArray), 16)) else (if 0 ≤ a1 then (if a1 < (l0_0.length : Int) then (armoireref03_Read.l0 kj2 a1 (rdOf ByteArray.empty l0_0 a1) l0_1 (l0_1.length : Int) 0) else (none)) else (none))) = some (r1, r2) := by rw [if_neg (show ¬ (false = true) by decide)] at H; exact H
    clear H
    have H := H1
    clear H1
    by_cases c8 : a0_3 = true
    · subst c8
      have H1 : (some ((⟨#[]⟩ : ByteArray), 16)) = some (r1, r2) := by rw [if_pos rfl] at H; exact H
      clear H
      have H := H1
      clear H1
      simp only [Option.some.injEq, Prod.mk.injEq] at H
      obtain ⟨rfl, rfl⟩ := H
      have hcz9_0 : wc.cell? ⟨gb107, 0, none⟩ = some (.slice A0_0 l0_0.length c0_0) := (kcl BK107.out 0).trans rfl
      have hcz9_1 : wc.cell? ⟨gb107, 1, none⟩ = some (.slice A0_1 l0_1.length c0_1) := (kcl BK107.out 1).trans rfl
      have hcz9_2 : wc.cell? ⟨gb107, 2, none⟩ = some (.int .i64 a0_2) := (kcl BK107.out 2).trans rfl
      have hcz9_3 : wc.cell? ⟨gb107, 3, none⟩ = some (.bool true) := (kcl BK107.out 3).trans rfl
      have hcz9_4 : wc.cell? ⟨gb107, 4, none⟩ = some (.int .i64 a0_4) := (kcl BK107.out 4).trans rfl
      have hfz9_0 := kfr BK107.out 0
      have hfz9_1 := kfr BK107.out 1
      have hfz9_2 := kfr BK107.out 2
      have hfz9_3 := kfr BK107.out 3
      have hfz9_4 := kfr BK107.out 4
      go_wp2
      go_ret2
      exact ⟨by first | rfl | (simp [errW_none, errW_some] <;> rfl) | (simp [*, errW_none, errW_some] <;> rfl), by repeat (first | (with_reducible first | exact HB.out | apply bal | apply bdn | apply bd1 | refine bst ?_ GE107.out) | exact HB.out)⟩
    replace c8 := Bool.eq_false_iff.mpr c8
    subst c8
    have H1 : (if 0 ≤ a1 then (if a1 < (l0_0.length : Int) then (armoireref03_Read.l0 kj2 a1 (rdOf ByteArray.empty l0_0 a1) l0_1 (l0_1.length : Int) 0) else (none)) else (none)) = some (r1, r2) := by rw [if_neg (show ¬ (false = true) by decide)] at H; exact H
    clear H
    have H := H1
    clear H1
    by_cases c10 : 0 ≤ a1
    rotate_left
    · rw [if_neg c10] at H
      exact absurd H (by simp)
    rw [if_pos c10] at H
    have c10b0 : decide (0 ≤ a1) = true := decide_eq_true c10
    clear c10
    by_cases c11 : a1 < (l0_0.length : Int)
    rotate_left
    · rw [if_neg c11] at H
      exact absurd H (by simp)
    rw [if_pos c11] at H
    have c11b0 : decide (a1 < (l0_0.length : Int)) = true := decide_eq_true c11
    clear c11
    have H' := Aside0.mk H
    clear H
    have hcz12_0 : wc.cell? ⟨gb107, 0, none⟩ = some (.slice A0_0 l0_0.length c0_0) := (kcl BK107.out 0).trans rfl
    have hcz12_1 : wc.cell? ⟨gb107, 1, none⟩ = some (.slice A0_1 l0_1.length c0_1) := (kcl BK107.out 1).trans rfl
    have hcz12_2 : wc.cell? ⟨gb107, 2, none⟩ = some (.int .i64 a0_2) := (kcl BK107.out 2).trans rfl
    have hcz12_3 : wc.cell? ⟨gb107, 3, none⟩ = some (.bool false) := (kcl BK107.out 3).trans rfl
    have hcz12_4 : wc.cell? ⟨gb107, 4, none⟩ = some (.int .i64 a0_4) := (kcl BK107.out 4).trans rfl
    have hfz12_0 := kfr BK107.out 0
    have hfz12_1 := kfr BK107.out 1
    have hfz12_2 := kfr BK107.out 2
    have hfz12_3 := kfr BK107.out 3
    have hfz12_4 := kfr BK107.out 4
    have p108 : 0 ≤ (a1 : Int) := of_decide_eq_true (by first | (with_reducible assumption) | assumption)
    have q108 : a1 < (l0_0.length : Int) := of_decide_eq_true (by first | (with_reducible assumption) | assumption)
    obtain ⟨ad108, e108, hx108_0⟩ := Kd.at_string HR0_0.out a1 p108 q108
    cases e108
    replace hx108_0 := (HB.out.cell (World.block_lt_of_cell? w _ hx108_0)).trans hx108_0
    replace p108 := eq_true p108
    replace q108 := eq_true q108
    go_wp2
    go_loopg [6, 28] kj2 (fun kq v6 v28 w' => ∃ (x6_2 : ByteArray) (x28_2 : Int), v6 = .string x6_2 ∧ v28 = .int .i64 x28_2 ∧ Aside0 (armoireref03_Read.l0 kq a1 x6_2 l0_1 (l0_1.length : Int) x28_2 = some (r1, r2)) ∧ Aside0 (kq ≤ kj2) ∧ Aside0 (w'.heap[gb107]? = some (.cells #[(.slice (some ad108) l0_0.length c0_0), (.slice A0_1 l0_1.length c0_1), .int .i64 a0_2, .bool false, .int .i64 a0_4] 45 (0, 0))) ∧ Aside0 (Below w.heap.size w w'))
    case atStart => exact ⟨(rdOf ByteArray.empty l0_0 a1), (0), (by first | rfl | (simp; done) | (simp [*]; done) | exact emp1_ _ | exact (emp1_ _).symm | exact emp2_ _ | exact (emp2_ _).symm), (by first | rfl | (simp; done) | (simp [*]; done) | exact emp1_ _ | exact (emp1_ _).symm | exact emp2_ _ | exact (emp2_ _).symm), H', ⟨Nat.le_refl _⟩, ⟨by (with_reducible repeat (first | refine kdn ?_ _ | refine kdw ?_ | refine kal ?_ _)); exact BK107.out⟩, ⟨by repeat (first | (with_reducible first | exact HB.out | apply bal | apply bdn | apply bd1 | refine bst ?_ GE107.out) | exact HB.out)⟩⟩
    clear H'
    try clear c1
    try clear p1
    try clear q1
    try clear hx1
    try clear c2
    try clear p2
    try clear c5
    try clear c5b0
    try clear c7
    try clear c8
    try clear c10
    try clear c10b0
    try clear p10
    try clear q10
    try clear hx10
    try clear c11
    try clear c11b0
    try clear hcz12_0
    try clear hcz12_1
    try clear hcz12_2
    try clear hcz12_3
    try clear hcz12_4
    try clear hcz6_0
    try clear hcz6_1
    try clear hcz6_2
    try clear hcz6_3
    try clear hcz6_4
    try clear hcz9_0
    try clear hcz9_1
    try clear hcz9_2
    try clear hcz9_3
    try clear hcz9_4
    try clear hfz12_0
    try clear hfz12_1
    try clear hfz12_2
    try clear hfz12_3
    try clear hfz12_4
    try clear hfz6_0
    try clear hfz6_1
    try clear hfz6_2
    try clear hfz6_3
    try clear hfz6_4
    try clear hfz9_0
    try clear hfz9_1
    try clear hfz9_2
    try clear hfz9_3
    try clear hfz9_4
    try clear hx108_0
    try clear p108
    try clear p2
    try clear q108
    obtain ⟨x6_2, x28_2, rfl, rfl, HA, HK2, BK107, HB⟩ := hrel
    cases gk with
    | zero => exact absurd HA.out (by simp [armoireref03_Read.l0])
    | succ k2 =>
      have H := HA.out
      clear HA
      simp only [armoireref03_Read.l0] at H
      by_cases c13 : x28_2 < (l0_1.length : Int)
      rotate_left
      · rw [if_neg c13] at H
        have c13b0 : decide (x28_2 < (l0_1.length : Int)) = false := decide_eq_false c13
        clear c13
        simp only [Option.some.injEq, Prod.mk.injEq] at H
        obtain ⟨rfl, rfl⟩ := H
        go_wp2
        go_ret2
        exact ⟨by first | rfl | (simp [errW_none, errW_some] <;> rfl) | (simp [*, errW_none, errW_some] <;> rfl), by repeat (first | (with_reducible first | exact HB.out | apply bal | apply bdn | apply bd1 | refine bst ?_ GE107.out) | exact HB.out)⟩
      rw [if_pos c13] at H
      have c13b0 : decide (x28_2 < (l0_1.length : Int)) = true := decide_eq_true c13
      clear c13
      by_cases c14 : 0 ≤ x28_2
      rotate_left
      · rw [if_neg c14] at H
        exact absurd H (by simp)
      rw [if_pos c14] at H
      have c14b0 : decide (0 ≤ x28_2) = true := decide_eq_true c14
      clear c14
      by_cases c15 : x28_2 < (l0_1.length : Int)
      rotate_left
      · rw [if_neg c15] at H
        exact absurd H (by simp)
      rw [if_pos c15] at H
      have c15b0 : decide (x28_2 < (l0_1.length : Int)) = true := decide_eq_true c15
      clear c15
      by_cases c16 : ((rd_T72 l0_1 x28_2).f0) = a1
      rotate_left
      · rw [if_neg c16] at H
        have c16b0 : (((rd_T72 l0_1 x28_2).f0) == a1) = false := beq_eq_false_iff_ne.mpr c16
        have c16b1 : (((rd_T72 l0_1 x28_2).f0) != a1) = true := bne_iff_ne.mpr c16
        have H' := Aside0.mk H
        clear H
        have p109 : 0 ≤ (x28_2 : Int) := of_decide_eq_true (by first | (with_reducible assumption) | assumption)
        have q109 : x28_2 < (l0_1.length : Int) := of_decide_eq_true (by first | (with_reducible assumption) | assumption)
        obtain ⟨ad109, e109, hx109_0, hx109_1⟩ := at_T72 HR0_1.out x28_2 p109 q109
        cases e109
        replace hx109_0 := (HB.out.cell (World.block_lt_of_cell? w _ hx109_0)).trans hx109_0
        replace hx109_1 := (HB.out.cell (World.block_lt_of_cell? w _ hx109_1)).trans hx109_1
        replace p109 := eq_true p109
        replace q109 := eq_true q109
        go_wp2_with (first | ((with_reducible refine gds (N := 8) rfl ?_); (try (refine gate_guard (by rfl) ?_; dsimp only)); refine bev ?hg (N := 8) ?hd (cs := #[.int .i64 0, .string (⟨#[]⟩ : ByteArray)]) (t := 72) ?hr ?_; (case hd => rfl); (case hg => rfl); (case hr => first | (go_simp; done) | (go_simp; rfl)); intro gb110 hg w20 hbox hb; have n0_ := Aside0.mk (kbl (g := gb107) (o := .cells #[.slice (some ad108) l0_0.length c0_0, .slice (some ad109) l0_1.length c0_1, .int .i64 a0_2, .bool false, .int .i64 a0_4] 45 (0, 0)) (by (with_reducible repeat (first | refine kdn ?_ _ | refine kdw ?_ | refine kal ?_ _)); exact BK107.out) hb); have n1_ := Aside0.mk (bsp (by repeat (first | (with_reducible first | exact HB.out | apply bal | apply bdn | apply bd1 | refine bst ?_ GE107.out) | exact HB.out)) hb); have n2_ := Aside0.mk (hbox); have n3_ := Aside0.mk ((by rw [hg]; exact (bsz (by repeat (first | (with_reducible first | exact HB.out | apply bal | apply bdn | apply bd1 | refine bst ?_ GE107.out) | exact HB.out))) : w.heap.size ≤ gb110)); have n4_ := Aside0.mk ((by rw [hg]; exact (bsz (by repeat (first | (with_reducible first | exact HB.out | apply bal | apply bdn | apply bd1 | refine bst ?_ GE107.out) | exact HB.out))) : w.heap.size ≤ gb110)); have n5_ := Aside0.mk ((by rw [hg]; exact Nat.ne_of_lt (blk_lt (g := gb107) (o := .cells #[.slice (some ad108) l0_0.length c0_0, .slice (some ad109) l0_1.length c0_1, .int .i64 a0_2, .bool false, .int .i64 a0_4] 45 (0, 0)) (by (with_reducible repeat (first | refine kdn ?_ _ | refine kdw ?_ | refine kal ?_ _)); exact BK107.out)) : gb107 ≠ gb110)); have n6_ := Aside0.mk ((by rw [hg]; exact Nat.ne_of_gt (blk_lt (g := gb107) (o := .cells #[.slice (some ad108) l0_0.length c0_0, .slice (some ad109) l0_1.length c0_1, .int .i64 a0_2, .bool false, .int .i64 a0_4] 45 (0, 0)) (by (with_reducible repeat (first | refine kdn ?_ _ | refine kdw ?_ | refine kal ?_ _)); exact BK107.out)) : gb110 ≠ gb107)); clear BK107; clear HB; have BK107 := n0_; have HB := n1_; have BK110 := n2_; have GW110 := n3_; have GE110 := n4_; have NB107_110 := n5_; have NB110_107 := n6_; clear n0_ n1_ n2_ n3_ n4_ n5_ n6_; clear hb hbox hg; have hnb21 := NB110_107.out; have hnc21 := NB107_110.out; have hcz22_0 : w20.cell? ⟨gb110, 0, none⟩ = some (.int .i64 0) := (kcl BK110.out 0).trans rfl; have hcz22_1 : w20.cell? ⟨gb110, 1, none⟩ = some (.string (⟨#[]⟩ : ByteArray)) := (kcl BK110.out 1).trans rfl; have hfz22_0 := kfr BK110.out 0; have hfz22_1 := kfr BK110.out 1))
        go_roundg k2
        case measure => have := HJ2.out; have := HK2.out; omega
        case rel => exact ⟨(x6_2), (wrap64 (x28_2 + 1)), (by first | rfl | (simp; done) | (simp [*]; done) | exact emp1_ _ | exact (emp1_ _).symm | exact emp2_ _ | exact (emp2_ _).symm), (by first | rfl | (simp; done) | (simp [*]; done) | exact emp1_ _ | exact (emp1_ _).symm | exact emp2_ _ | exact (emp2_ _).symm), H', ⟨by have := HJ2.out; have := HK2.out; omega⟩, ⟨by (with_reducible repeat (first | refine kdn ?_ _ | refine kdw ?_ | refine kal ?_ _)); refine blk_far ?_ NB107_110.out _; (with_reducible repeat (first | refine kdn ?_ _ | refine kdw ?_ | refine kal ?_ _)); refine blk_far ?_ NB107_110.out _; (with_reducible repeat (first | refine kdn ?_ _ | refine kdw ?_ | refine kal ?_ _)); exact BK107.out⟩, ⟨by repeat (first | (with_reducible first | exact HB.out | apply bal | apply bdn | apply bd1 | refine bst ?_ GE107.out | refine bst ?_ GE110.out) | exact HB.out)⟩⟩
      rw [if_pos c16] at H
      have c16b0 : (((rd_T72 l0_1 x28_2).f0) == a1) = true := beq_iff_eq.mpr c16
      have c16b1 : (((rd_T72 l0_1 x28_2).f0) != a1) = false := bne_eq_false_iff_eq.mpr c16
      clear c16
      have H' := Aside0.mk H
      clear H
      have p109 : 0 ≤ (x28_2 : Int) := of_decide_eq_true (by first | (with_reducible assumption) | assumption)
      have q109 : x28_2 < (l0_1.length : Int) := of_decide_eq_true (by first | (with_reducible assumption) | assumption)
      obtain ⟨ad109, e109, hx109_0, hx109_1⟩ := at_T72 HR0_1.out x28_2 p109 q109
      cases e109
      replace hx109_0 := (HB.out.cell (World.block_lt_of_cell? w _ hx109_0)).trans hx109_0
      replace hx109_1 := (HB.out.cell (World.block_lt_of_cell? w _ hx109_1)).trans hx109_1
      replace p109 := eq_true p109
      replace q109 := eq_true q109
      go_wp2_with (first | ((with_reducible refine gds (N := 8) rfl ?_); (try (refine gate_guard (by rfl) ?_; dsimp only)); refine bev ?hg (N := 8) ?hd (cs := #[.int .i64 0, .string (⟨#[]⟩ : ByteArray)]) (t := 72) ?hr ?_; (case hd => rfl); (case hg => rfl); (case hr => first | (go_simp; done) | (go_simp; rfl)); intro gb110 hg w17 hbox hb; have n0_ := Aside0.mk (kbl (g := gb107) (o := .cells #[.slice (some ad108) l0_0.length c0_0, .slice (some ad109) l0_1.length c0_1, .int .i64 a0_2, .bool false, .int .i64 a0_4] 45 (0, 0)) (by (with_reducible repeat (first | refine kdn ?_ _ | refine kdw ?_ | refine kal ?_ _)); exact BK107.out) hb); have n1_ := Aside0.mk (bsp (by repeat (first | (with_reducible first | exact HB.out | apply bal | apply bdn | apply bd1 | refine bst ?_ GE107.out) | exact HB.out)) hb); have n2_ := Aside0.mk (hbox); have n3_ := Aside0.mk ((by rw [hg]; exact (bsz (by repeat (first | (with_reducible first | exact HB.out | apply bal | apply bdn | apply bd1 | refine bst ?_ GE107.out) | exact HB.out))) : w.heap.size ≤ gb110)); have n4_ := Aside0.mk ((by rw [hg]; exact (bsz (by repeat (first | (with_reducible first | exact HB.out | apply bal | apply bdn | apply bd1 | refine bst ?_ GE107.out) | exact HB.out))) : w.heap.size ≤ gb110)); have n5_ := Aside0.mk ((by rw [hg]; exact Nat.ne_of_lt (blk_lt (g := gb107) (o := .cells #[.slice (some ad108) l0_0.length c0_0, .slice (some ad109) l0_1.length c0_1, .int .i64 a0_2, .bool false, .int .i64 a0_4] 45 (0, 0)) (by (with_reducible repeat (first | refine kdn ?_ _ | refine kdw ?_ | refine kal ?_ _)); exact BK107.out)) : gb107 ≠ gb110)); have n6_ := Aside0.mk ((by rw [hg]; exact Nat.ne_of_gt (blk_lt (g := gb107) (o := .cells #[.slice (some ad108) l0_0.length c0_0, .slice (some ad109) l0_1.length c0_1, .int .i64 a0_2, .bool false, .int .i64 a0_4] 45 (0, 0)) (by (with_reducible repeat (first | refine kdn ?_ _ | refine kdw ?_ | refine kal ?_ _)); exact BK107.out)) : gb110 ≠ gb107)); clear BK107; clear HB; have BK107 := n0_; have HB := n1_; have BK110 := n2_; have GW110 := n3_; have GE110 := n4_; have NB107_110 := n5_; have NB110_107 := n6_; clear n0_ n1_ n2_ n3_ n4_ n5_ n6_; clear hb hbox hg; have hnb18 := NB110_107.out; have hnc18 := NB107_110.out; have hcz19_0 : w17.cell? ⟨gb110, 0, none⟩ = some (.int .i64 0) := (kcl BK110.out 0).trans rfl; have hcz19_1 : w17.cell? ⟨gb110, 1, none⟩ = some (.string (⟨#[]⟩ : ByteArray)) := (kcl BK110.out 1).trans rfl; have hfz19_0 := kfr BK110.out 0; have hfz19_1 := kfr BK110.out 1))
      go_roundg k2
      case measure => have := HJ2.out; have := HK2.out; omega
      case rel => exact ⟨((rd_T72 l0_1 x28_2).f1), (wrap64 (x28_2 + 1)), (by first | rfl | (simp; done) | (simp [*]; done) | exact emp1_ _ | exact (emp1_ _).symm | exact emp2_ _ | exact (emp2_ _).symm), (by first | rfl | (simp; done) | (simp [*]; done) | exact emp1_ _ | exact (emp1_ _).symm | exact emp2_ _ | exact (emp2_ _).symm), H', ⟨by have := HJ2.out; have := HK2.out; omega⟩, ⟨by (with_reducible repeat (first | refine kdn ?_ _ | refine kdw ?_ | refine kal ?_ _)); refine blk_far ?_ NB107_110.out _; (with_reducible repeat (first | refine kdn ?_ _ | refine kdw ?_ | refine kal ?_ _)); refine blk_far ?_ NB107_110.out _; (with_reducible repeat (first | refine kdn ?_ _ | refine kdw ?_ | refine kal ?_ _)); exact BK107.out⟩, ⟨by repeat (first | (with_reducible first | exact HB.out | apply bal | apply bdn | apply bd1 | refine bst ?_ GE107.out | refine bst ?_ GE110.out) | exact HB.out)⟩⟩
def armoireref03_last.l0 : Nat → List ByteArray → List (S72) → Int → Int → Option (List ByteArray)
  | 0, _, _, _, _ => none
  | k + 1, x5, x11, x12, x13 => if x13 < x12 then (if 0 ≤ x13 then (if x13 < (x11.length : Int) then (if 0 ≤ ((rd_T72 x11 x13).f0) then (if ((rd_T72 x11 x13).f0) < (x5.length : Int) then (armoireref03_last.l0 k (x5.set (((rd_T72 x11 x13).f0) : Int).toNat ((rd_T72 x11 x13).f1)) x11 x12 (wrap64 (x13 + 1))) else (none)) else (none)) else (none)) else (none)) else (some x5)
def armoireref03_last.f (k : Nat) (l0 : List ByteArray) (l1 : List (S72)) : Option (List ByteArray) := (some (([] : List ByteArray) : List ByteArray)).bind fun y111 => (if y111.length + l0.length < 8796093022208 then (armoireref03_last.l0 k (y111 ++ l0) l1 (l1.length : Int) 0) else (none))
set_option maxHeartbeats 2000000 in
set_option maxRecDepth 100000 in
theorem armoireref03_last.calls (k : Nat) (A0 : Option Addr) (c0 : Nat) (l0 : List ByteArray) (A1 : Option Addr) (c1 : Nat) (l1 : List (S72)) (r : List ByteArray) (w : World) (hr0 : Kd.C Kd.string w A0 l0.length l0) (hc0 : l0.length ≤ c0) (hr1 : Kd.C k72 w A1 l1.length l1) (hc1 : l1.length ≤ c1) (h : armoireref03_last.f k l0 l1 = some r) :
    Calls Try.prog 34 #[.slice A0 l0.length c0, .slice A1 l1.length c1] w fun e w' => ∃ v0_ : Value, e = .returned (v0_) ∧ Kd.R Kd.string 9 w' w.heap.size (fun _ => True) v0_ r ∧ Below w.heap.size w w' := by
  have hu72 := Try.underlying72
  have HR0 := Aside0.mk hr0
  have HC0 := Aside0.mk hc0
  clear hr0 hc0
  have HR1 := Aside0.mk hr1
  have HC1 := Aside0.mk hc1
  clear hr1 hc1
  have HB := Aside0.mk (Below.refl w.heap.size w)
  have H : ((some (([] : List ByteArray) : List ByteArray)).bind fun y111 => (if y111.length + l0.length < 8796093022208 then (armoireref03_last.l0 k (y111 ++ l0) l1 (l1.length : Int) 0) else (none))) = some r := h
  clear h
  obtain ⟨y111, hy111⟩ : ∃ y_ : List ByteArray, y_ = (([] : List ByteArray)) := ⟨_, rfl⟩
  replace H : (if y111.length + l0.length < 8796093022208 then (armoireref03_last.l0 k (y111 ++ l0) l1 (l1.length : Int) 0) else (none)) = some r := by first | (rw [hy111]; with_reducible exact H) | (have H2_ := (Option.bind_some _ _).symm.trans H; rw [hy111]; with_reducible exact H2_) | (have H2_ := (Option.bind_some _ _).symm.trans H; with_reducible exact H2_) | with_reducible exact H | (rw [hy111]; exact H) | exact H
  have Ny111 := Aside0.mk hy111
  clear hy111
  by_cases c3 : y111.length + l0.length < 8796093022208
  rotate_left
  · rw [if_neg c3] at H
    exact absurd H (by simp)
  rw [if_pos c3] at H
  have LMc3 := Aside0.mk c3
  clear c3
  obtain ⟨y114, hy114⟩ : ∃ y_ : List ByteArray, y_ = (y111 ++ l0) := ⟨_, rfl⟩
  replace H : (armoireref03_last.l0 k y114 l1 (l1.length : Int) 0) = some r := by first | (rw [hy114]; with_reducible exact H) | (have H2_ := (Option.bind_some _ _).symm.trans H; rw [hy114]; with_reducible exact H2_) | (have H2_ := (Option.bind_some _ _).symm.trans H; with_reducible exact H2_) | with_reducible exact H | (rw [hy114]; exact H) | exact H
  have Ny114 := Aside0.mk hy114
  clear hy114
  have H' := Aside0.mk H
  clear H
  go_enter Try.func34, Try.ntmps34
  go_wp2_with (first | ((with_reducible refine gds (N := 8) rfl ?_); refine Kd.R_lit Kd.string _ 9 ?hg (N := 8) ?hd (xs := ([] : List ByteArray)) (inner := []) (ok := fun _ => True) (okp := fun _ => True) ?hr ?hp (fun _ hk => hk) trivial (Below.refl _ _) (Nat.le_refl _) (by simp) ?_; (case hd => rfl); (case hg => rfl); (case hr => first | (go_simp; done) | (go_simp; rfl)); (case hp => exact (Reps.none _ _)); intro v112 w4 ho5 hb hg_ hnew_; clear hg_ hnew_; (first | rw [← Ny111.out] at ho5 | (simp only [Int.reduceToNat] at ho5; rw [← Ny111.out] at ho5)); have n0_ := Aside0.mk (Kd.R_lower ho5 (bsz (by repeat (first | (with_reducible first | exact HB.out | apply bal | apply bdn | apply bd1) | exact HB.out)))); have n1_ := Aside0.mk (bsp (by repeat (first | (with_reducible first | exact HB.out | apply bal | apply bdn | apply bd1) | exact HB.out)) hb); clear HB; have HO113 := n0_; have HB := n1_; clear n0_ n1_; clear hb ho5) | ((with_reducible refine gate_builtin (b := .append) (xs := #[.tmp 8, .tmp 9]) rfl ?_); at_builtin; refine Kd.R_append_rows Kd.string (w0 := w) w.heap.size rfl (.tmp 8) (.tmp 9) 29 9 (.string ⟨#[]⟩) 16 rfl Try.underlying29 info9 rfl (by decide) (by omega) v112 y111 l0 _ _ _ (fun _ => True) (fun _ => False) rfl rfl ?aO ?aR (fun _ _ h => h) (fun _ h => h.elim) ?aF ?aB ?aS ?aL ?_; (case aR => repeat (first | exact (Kd.C_below HR0.out HB.out) | (with_reducible refine Kd.C_alloc ?_ _) | (with_reducible refine Kd.C_drewN ?_ _) | (with_reducible refine Kd.C_drew ?_))); (case aB => exact (by repeat (first | (with_reducible first | exact HB.out | apply bal | apply bdn | apply bd1) | exact HB.out))); (case aF => exact (fun _ _ => trivial)); (case aO => exact (by (with_reducible repeat (first | apply Kd.R_alloc | apply Kd.R_drewN | apply Kd.R_drew)); exact HO113.out)); (case aS => exact (bsz (by repeat (first | (with_reducible first | exact HB.out | apply bal | apply bdn | apply bd1) | exact HB.out)))); (case aL => have := LMc3.out; omega); intro v115 w6 ho hb hg hat; rw [← Ny114.out] at ho; have n0_ := Aside0.mk (hb); have n1_ := Aside0.mk (ho); clear HB; clear HO113; have HB := n0_; have HO116 := n1_; clear n0_ n1_; clear ho hb hg hat))
  go_loopg [13] k (fun kq v13 w' => ∃ (x5_1 : List ByteArray) (x13_1 : Int), v13 = .int .i64 x13_1 ∧ Aside0 (armoireref03_last.l0 kq x5_1 l1 (l1.length : Int) x13_1 = some r) ∧ Aside0 (kq ≤ k) ∧ Aside0 (Kd.R Kd.string 9 w' w.heap.size (fun _ => True) v115 x5_1) ∧ Aside0 (Below w.heap.size w w'))
  case atStart => exact ⟨(y114), (0), (by first | rfl | (simp; done) | (simp [*]; done) | exact emp1_ _ | exact (emp1_ _).symm | exact emp2_ _ | exact (emp2_ _).symm), H', ⟨Nat.le_refl _⟩, ⟨by (with_reducible repeat (first | apply Kd.R_alloc | apply Kd.R_drewN | apply Kd.R_drew)); exact HO116.out⟩, ⟨by repeat (first | (with_reducible first | exact HB.out | apply bal | apply bdn | apply bd1) | exact HB.out)⟩⟩
  clear H'
  try clear c1
  try clear p2
  try clear c3
  obtain ⟨x5_1, x13_1, rfl, HA, HK1, HO_5, HB⟩ := hrel
  cases gk with
  | zero => exact absurd HA.out (by simp [armoireref03_last.l0])
  | succ k1 =>
    have H := HA.out
    clear HA
    simp only [armoireref03_last.l0] at H
    by_cases c7 : x13_1 < (l1.length : Int)
    rotate_left
    · rw [if_neg c7] at H
      have c7b0 : decide (x13_1 < (l1.length : Int)) = false := decide_eq_false c7
      clear c7
      obtain rfl := Option.some.inj H
      go_wp2
      go_ret
      exact ⟨_, by first | rfl | (simp [errW_none, errW_some] <;> rfl) | (simp [*, errW_none, errW_some] <;> rfl), by (with_reducible repeat (first | apply Kd.R_alloc | apply Kd.R_drewN | apply Kd.R_drew)); exact HO_5.out, by repeat (first | (with_reducible first | exact HB.out | apply bal | apply bdn | apply bd1) | exact HB.out)⟩
    rw [if_pos c7] at H
    have c7b0 : decide (x13_1 < (l1.length : Int)) = true := decide_eq_true c7
    clear c7
    by_cases c8 : 0 ≤ x13_1
    rotate_left
    · rw [if_neg c8] at H
      exact absurd H (by simp)
    rw [if_pos c8] at H
    have c8b0 : decide (0 ≤ x13_1) = true := decide_eq_true c8
    clear c8
    by_cases c9 : x13_1 < (l1.length : Int)
    rotate_left
    · rw [if_neg c9] at H
      exact absurd H (by simp)
    rw [if_pos c9] at H
    have c9b0 : decide (x13_1 < (l1.length : Int)) = true := decide_eq_true c9
    clear c9
    by_cases c10 : 0 ≤ ((rd_T72 l1 x13_1).f0)
    rotate_left
    · rw [if_neg c10] at H
      exact absurd H (by simp)
    rw [if_pos c10] at H
    have c10b0 : decide (0 ≤ ((rd_T72 l1 x13_1).f0)) = true := decide_eq_true c10
    clear c10
    by_cases c11 : ((rd_T72 l1 x13_1).f0) < (x5_1.length : Int)
    rotate_left
    · rw [if_neg c11] at H
      exact absurd H (by simp)
    rw [if_pos c11] at H
    have c11b0 : decide (((rd_T72 l1 x13_1).f0) < (x5_1.length : Int)) = true := decide_eq_true c11
    clear c11
    obtain ⟨y119, hy119⟩ : ∃ y_ : List ByteArray, y_ = (x5_1.set (((rd_T72 l1 x13_1).f0) : Int).toNat ((rd_T72 l1 x13_1).f1)) := ⟨_, rfl⟩
    replace H : (armoireref03_last.l0 k1 y119 l1 (l1.length : Int) (wrap64 (x13_1 + 1))) = some r := by first | (rw [hy119]; with_reducible exact H) | (have H2_ := (Option.bind_some _ _).symm.trans H; rw [hy119]; with_reducible exact H2_) | (have H2_ := (Option.bind_some _ _).symm.trans H; with_reducible exact H2_) | with_reducible exact H | (rw [hy119]; exact H) | exact H
    have Ny119 := Aside0.mk hy119
    clear hy119
    have H' := Aside0.mk H
    clear H
    have p117 : 0 ≤ (x13_1 : Int) := of_decide_eq_true (by first | (with_reducible assumption) | assumption)
    have q117 : x13_1 < (l1.length : Int) := of_decide_eq_true (by first | (with_reducible assumption) | assumption)
    obtain ⟨ad117, e117, hx117_0, hx117_1⟩ := at_T72 HR1.out x13_1 p117 q117
    cases e117
    replace hx117_0 := (HB.out.cell (World.block_lt_of_cell? w _ hx117_0)).trans hx117_0
    replace hx117_1 := (HB.out.cell (World.block_lt_of_cell? w _ hx117_1)).trans hx117_1
    replace p117 := eq_true p117
    replace q117 := eq_true q117
    go_wp2_with (first | ((with_reducible refine gds (N := 7) rfl ?_); refine bev ?hg (N := 7) ?hd (cs := #[.int .i64 0, .string (⟨#[]⟩ : ByteArray)]) (t := 72) ?hr ?_; (case hd => rfl); (case hg => rfl); (case hr => first | (go_simp; done) | (go_simp; rfl)); intro gb118 hg w13 hbox hb; have n0_ := Aside0.mk (Kd.R_below (by (with_reducible repeat (first | apply Kd.R_alloc | apply Kd.R_drewN | apply Kd.R_drew)); exact HO_5.out) hb); have n1_ := Aside0.mk (bsp (by repeat (first | (with_reducible first | exact HB.out | apply bal | apply bdn | apply bd1) | exact HB.out)) hb); have n2_ := Aside0.mk (hbox); have n3_ := Aside0.mk ((by rw [hg]; exact (bsz (by repeat (first | (with_reducible first | exact HB.out | apply bal | apply bdn | apply bd1) | exact HB.out))) : w.heap.size ≤ gb118)); have n4_ := Aside0.mk ((by rw [hg]; exact (bsz (by repeat (first | (with_reducible first | exact HB.out | apply bal | apply bdn | apply bd1) | exact HB.out))) : w.heap.size ≤ gb118)); clear HO_5; clear HB; have HO_5 := n0_; have HB := n1_; have BK118 := n2_; have GW118 := n3_; have GE118 := n4_; clear n0_ n1_ n2_ n3_ n4_; clear hb hbox hg; have hcz14_0 : w13.cell? ⟨gb118, 0, none⟩ = some (.int .i64 0) := (kcl BK118.out 0).trans rfl; have hcz14_1 : w13.cell? ⟨gb118, 1, none⟩ = some (.string (⟨#[]⟩ : ByteArray)) := (kcl BK118.out 1).trans rfl; have hfz14_0 := kfr BK118.out 0; have hfz14_1 := kfr BK118.out 1) | ((with_reducible refine gate_store (t := 72) (p := 7) rfl ?_); refine store_event (t := 72) (p := 7) (v := ?vo_w15) (w1 := ((w13.setCell ⟨gb118, 0, none⟩ (.int .i64 ((rd_T72 l1 x13_1).f0))).setCell ⟨gb118, 1, none⟩ (.string ((rd_T72 l1 x13_1).f1)))) ?hg ?ho ?hn ?hr ?_; (case ho => rfl); (case hg => rfl); (case hn => rfl); (case hr => first | (go_simp; done) | (go_simp; rfl)); intro w15 hw; have n0_ : Aside0 (Kd.R Kd.string 9 w15 w.heap.size (fun _ => True) v115 x5_1) := ⟨(by rw [hw]; exact (by (with_reducible repeat (first | apply Kd.R_alloc | apply Kd.R_drewN | apply Kd.R_drew)); exact Kd.R_mono (Kd.R_far (p := ⟨gb118, 1, none⟩) (Kd.R_far (p := ⟨gb118, 0, none⟩) (Kd.R_types HO_5.out BK118.out (by decide)) (fun _ hk => hk.2) (.int .i64 ((rd_T72 l1 x13_1).f0))) (fun _ hk => hk.2) (.string ((rd_T72 l1 x13_1).f1))) (fun _ hk => trivial)))⟩; have n1_ : Aside0 (w15.heap[gb118]? = some (.cells #[.int .i64 ((rd_T72 l1 x13_1).f0), .string ((rd_T72 l1 x13_1).f1)] 72 (0, 0))) := ⟨(by rw [hw]; exact (by (with_reducible repeat (first | refine kdn ?_ _ | refine kdw ?_ | refine kal ?_ _)); refine kpt (cs := #[.int .i64 ((rd_T72 l1 x13_1).f0), .string (⟨#[]⟩ : ByteArray)]) ?_ 1 _ rfl; (with_reducible repeat (first | refine kdn ?_ _ | refine kdw ?_ | refine kal ?_ _)); refine kpt (cs := #[.int .i64 0, .string (⟨#[]⟩ : ByteArray)]) ?_ 0 _ rfl; (with_reducible repeat (first | refine kdn ?_ _ | refine kdw ?_ | refine kal ?_ _)); exact BK118.out))⟩; have n2_ : Aside0 (Below w.heap.size w w15) := ⟨(by rw [hw]; exact (by repeat (first | (with_reducible first | exact HB.out | apply bal | apply bdn | apply bd1 | refine bst ?_ GE118.out) | exact HB.out)))⟩; clear hw; clear HO_5; clear BK118; clear HB; have HO_5 := n0_; have BK118 := n1_; have HB := n2_; clear n0_ n1_ n2_; have hcz16_0 : w15.cell? ⟨gb118, 0, none⟩ = some (.int .i64 ((rd_T72 l1 x13_1).f0)) := (kcl BK118.out 0).trans rfl; have hcz16_1 : w15.cell? ⟨gb118, 1, none⟩ = some (.string ((rd_T72 l1 x13_1).f1)) := (kcl BK118.out 1).trans rfl; have hfz16_0 := kfr BK118.out 0; have hfz16_1 := kfr BK118.out 1; have p12 : 0 ≤ (((rd_T72 l1 x13_1).f0) : Int) := of_decide_eq_true (by first | (with_reducible assumption) | assumption); have q12 : (((rd_T72 l1 x13_1).f0) : Int) < ((x5_1.length : Int) : Int) := of_decide_eq_true (by first | (with_reducible assumption) | assumption); obtain ⟨go12, co12, eo12, gb12, gl12, cl12, HG12⟩ := Kd.R_form HO_5.out (by omega); (first | cases eo12 | (injection eo12 with ea_ en_ ec_; (first | subst ea_ | (injection ea_ with ea_; subst ea_)); subst ec_; clear en_)); have GB12 := Aside0.mk gb12; have GG12 := Aside0.mk HG12; clear gb12 gl12 HG12; obtain ⟨hx12_0, hf12_0⟩ := Kd.R_celln (⟨#[]⟩ : ByteArray) HO_5.out (((rd_T72 l1 x13_1).f0) : Int) p12 q12; replace p12 := eq_true p12; replace q12 := eq_true q12; obtain ⟨hy17_, hz17_⟩ := Kd.R_celln (⟨#[]⟩ : ByteArray) HO_5.out (((rd_T72 l1 x13_1).f0) : Int) (of_decide_eq_true (by first | (with_reducible assumption) | assumption)) (of_decide_eq_true (by first | (with_reducible assumption) | assumption)); have HP17 := Kd.R_putg HO_5.out (((rd_T72 l1 x13_1).f0) : Int) ((rd_T72 l1 x13_1).f1)) | ((with_reducible refine gate_store (t := 9) (p := 22) rfl ?_); refine store_event (t := 9) (p := 22) (v := ?vo_w18) (w1 := (w15.setCell ⟨go12, (((rd_T72 l1 x13_1).f0) : Int).toNat, none⟩ (.string ((rd_T72 l1 x13_1).f1)))) ?hg ?ho ?hn ?hr ?_; (case ho => rfl); (case hg => rfl); (case hn => rfl); (case hr => first | (go_simp; done) | (go_simp; rfl)); intro w18 hw; have hg : w15.grownBy w18 (some go12) := (by rw [hw]; exact HP17.2); have hp_ : Kd.R Kd.string 9 w18 w.heap.size (fun _ => True) (.slice (some ⟨go12, 0, none⟩) x5_1.length co12) y119 := (by rw [hw, Ny119.out]; exact HP17.1); clear HP17; have n0_ := Aside0.mk (hp_); have n1_ := Aside0.mk (blk_grown (g := gb118) (o := .cells #[.int .i64 ((rd_T72 l1 x13_1).f0), .string ((rd_T72 l1 x13_1).f1)] 72 (0, 0)) (by (with_reducible repeat (first | refine kdn ?_ _ | refine kdw ?_ | refine kal ?_ _)); exact BK118.out) hg (Kd.R_ne HO_5.out BK118.out (by decide))); have n2_ := Aside0.mk ((by rw [hw]; exact bst (HB.out) GB12.out : Below w.heap.size w w18)); clear HO_5; clear BK118; clear HB; have HO_5 := n0_; have BK118 := n1_; have HB := n2_; clear n0_ n1_ n2_; clear hg hw hp_))
    go_roundg k1
    case measure => have := HK1.out; omega
    case rel => exact ⟨(y119), (wrap64 (x13_1 + 1)), (by first | rfl | (simp; done) | (simp [*]; done) | exact emp1_ _ | exact (emp1_ _).symm | exact emp2_ _ | exact (emp2_ _).symm), H', ⟨by have := HK1.out; omega⟩, ⟨by (with_reducible repeat (first | apply Kd.R_alloc | apply Kd.R_drewN | apply Kd.R_drew)); exact HO_5.out⟩, ⟨by repeat (first | (with_reducible first | exact HB.out | apply bal | apply bdn | apply bd1 | refine bst ?_ GE118.out) | exact HB.out)⟩⟩
end Go.Proofs.Ytbdoccbogndjkaa.PF

