import Derived.Test.YtjiblcncadekcaaQAxPAx0
namespace Go.Proofs.Ytjiblcncadekcaa.PA
open Go.Proofs.Ytjiblcncadekcaa.PL
open Go.RowKit Go.Proofs.YtjiblcncadekcaaW.PrintWords Go.Proofs.YtjiblcncadekcaaW.PrintLast Go.Proofs.YtjiblcncadekcaaW.PrintMore
attribute [local go_sem] max2_int min2_int bl_leq max_two min_two max_three min_three max_four min_four
set_option linter.unusedVariables false
set_option linter.unusedSimpArgs false
def method_Changes.j0 : Nat → Int → Bool → Int → ByteArray → ByteArray → Int → Int → ByteArray → Int → Option (Bool)
  | 0, _, _, _, _, _, _, _, _, _ => none
  | k + 1, x6, x7, x321000, x321001, x321002, x321003, x322000, x322001, x322002 => if x7 = true then (some true) else (if x6 = 3 then (some (x321003 != 0)) else (if x6 = 6 then (some (x322000 == 1)) else (if x6 = 8 then (some (x322000 == 1)) else (if x6 = 9 then (some (x322000 == 1)) else (if x6 = 11 then (some (x322000 == 1)) else (if x6 = 12 then (some (x322000 == 1)) else (if x6 = 15 then (some (x322000 == 1)) else (if x6 = 17 then (some (x322000 == 1)) else (some false)))))))))
def method_Changes.f (k : Nat) (a0_0 : Int) (a0_1 : ByteArray) (a0_2 : ByteArray) (a0_3 : Int) (a1_0 : Int) (a1_1 : ByteArray) (a1_2 : Int) : Option (Bool) := if a0_0 = 2 then (method_Changes.j0 k a0_0 (a0_0 == 2) a0_0 a0_1 a0_2 a0_3 a1_0 a1_1 a1_2) else (if a0_0 = 5 then (method_Changes.j0 k a0_0 (a0_0 == 5) a0_0 a0_1 a0_2 a0_3 a1_0 a1_1 a1_2) else (if a0_0 = 14 then (method_Changes.j0 k a0_0 (a0_0 == 14) a0_0 a0_1 a0_2 a0_3 a1_0 a1_1 a1_2) else (method_Changes.j0 k a0_0 (a0_0 == 16) a0_0 a0_1 a0_2 a0_3 a1_0 a1_1 a1_2)))
set_option maxHeartbeats 8000000 in
set_option maxRecDepth 100000 in
theorem method_Changes.calls (k : Nat) (a0_0 : Int) (a0_1 : ByteArray) (a0_2 : ByteArray) (a0_3 : Int) (a1_0 : Int) (a1_1 : ByteArray) (a1_2 : Int) (r : Bool) (w : World) (h : method_Changes.f k a0_0 a0_1 a0_2 a0_3 a1_0 a1_1 a1_2 = some r) :
    Calls Try.prog 30 #[.agg #[.int .i64 a0_0, .string a0_1, .string a0_2, .int .i64 a0_3], .agg #[.int .i64 a1_0, .string a1_1, .int .i64 a1_2]] w fun e w' => e = .returned (.bool r) ∧ Below w.heap.size w w' := by
  have hu41 := Try.underlying41
  have hu47 := Try.underlying47
  have HB := Aside0.mk (Below.refl w.heap.size w)
  have H : (if a0_0 = 2 then (method_Changes.j0 k a0_0 (a0_0 == 2) a0_0 a0_1 a0_2 a0_3 a1_0 a1_1 a1_2) else (if a0_0 = 5 then (method_Changes.j0 k a0_0 (a0_0 == 5) a0_0 a0_1 a0_2 a0_3 a1_0 a1_1 a1_2) else (if a0_0 = 14 then (method_Changes.j0 k a0_0 (a0_0 == 14) a0_0 a0_1 a0_2 a0_3 a1_0 a1_1 a1_2) else (method_Changes.j0 k a0_0 (a0_0 == 16) a0_0 a0_1 a0_2 a0_3 a1_0 a1_1 a1_2)))) = some r := h
  clear h
  have HC3 := Aside0.mk H
  clear H
  go_enter Try.func30, Try.ntmps30
  go_upto_if 7 with (first | ((with_reducible refine gds (N := 2) rfl ?_); refine bx_ (N := 2) (cs := #[.int .i64 a0_0, .string a0_1, .string a0_2, .int .i64 a0_3]) (t := 41) ?_; intro gb320 hg w4 hbox hb; have n0_ := Aside0.mk (bsp bl_ hb); have n1_ := Aside0.mk (hbox); have n2_ := Aside0.mk ((by rw [hg]; exact bsz bl_ : w.heap.size ≤ gb320)); have n3_ := Aside0.mk ((by rw [hg]; exact bsz bl_ : w.heap.size ≤ gb320)); clear HB; have HB := n0_; have BK320 := n1_; have GW320 := n2_; have GE320 := n3_; clear n0_ n1_ n2_ n3_; clear hb hbox hg) | ((with_reducible refine gds (N := 3) rfl ?_); refine bx_ (N := 3) (cs := #[.int .i64 a1_0, .string a1_1, .int .i64 a1_2]) (t := 47) ?_; intro gb321 hg w5 hbox hb; have n0_ := Aside0.mk (kbl (g := gb320) (o := .cells #[.int .i64 a0_0, .string a0_1, .string a0_2, .int .i64 a0_3] 41 (0, 0)) bk_ hb); have n1_ := Aside0.mk (bsp bl_ hb); have n2_ := Aside0.mk (hbox); have n3_ := Aside0.mk ((by rw [hg]; exact bsz bl_ : w.heap.size ≤ gb321)); have n4_ := Aside0.mk ((by rw [hg]; exact bsz bl_ : w.heap.size ≤ gb321)); have n5_ := Aside0.mk ((by rw [hg]; exact Nat.ne_of_lt (blk_lt (g := gb320) (o := .cells #[.int .i64 a0_0, .string a0_1, .string a0_2, .int .i64 a0_3] 41 (0, 0)) bk_) : gb320 ≠ gb321)); have n6_ := Aside0.mk ((by rw [hg]; exact Nat.ne_of_gt (blk_lt (g := gb320) (o := .cells #[.int .i64 a0_0, .string a0_1, .string a0_2, .int .i64 a0_3] 41 (0, 0)) bk_) : gb321 ≠ gb320)); clear BK320; clear HB; have BK320 := n0_; have HB := n1_; have BK321 := n2_; have GW321 := n3_; have GE321 := n4_; have NB320_321 := n5_; have NB321_320 := n6_; clear n0_ n1_ n2_ n3_ n4_ n5_ n6_; clear hb hbox hg; have hnb6 := NB320_321.out; have hnc6 := NB321_320.out; have hcz7 := bc4 BK320.out))
  (try simp only [Act.put, List.setIfInBounds_toArray, List.set_cons_zero, List.set_cons_succ])
  go_cut [7] (fun v7 wc => ∃ (kq : Nat) (x7_2 : Bool), v7 = .bool x7_2 ∧ Aside0 (method_Changes.j0 kq a0_0 x7_2 a0_0 a0_1 a0_2 a0_3 a1_0 a1_1 a1_2 = some r) ∧ Aside0 (kq ≤ k) ∧ Aside0 (wc.heap[gb320]? = some (.cells #[.int .i64 a0_0, .string a0_1, .string a0_2, .int .i64 a0_3] 41 (0, 0))) ∧ Aside0 (wc.heap[gb321]? = some (.cells #[.int .i64 a1_0, .string a1_1, .int .i64 a1_2] 47 (0, 0))) ∧ Aside0 (Below w.heap.size w wc))
  case first =>
    have H := HC3.out
    clear HC3
    by_cases c8 : a0_0 = 2
    · rw [if_pos c8] at H
      have c8b0 : (a0_0 == 2) = true := beq_iff_eq.mpr c8
      have c8b1 : (a0_0 != 2) = false := bne_eq_false_iff_eq.mpr c8
      clear c8
      (first | rw [c8b0] | (simp only [i64_w, i32_w]; rw [c8b0]) | skip)
      have H' := Aside0.mk H
      clear H
      go_wp2
      go_meet
      case rel => exact ⟨_, ((a0_0 == 2)), eqv_, H', ⟨by first | omega | exact Nat.le_refl _⟩, ⟨bk_⟩, ⟨bk_⟩, ⟨bl_⟩⟩
    rw [if_neg c8] at H
    have c8b0 : (a0_0 == 2) = false := beq_eq_false_iff_ne.mpr c8
    have c8b1 : (a0_0 != 2) = true := bne_iff_ne.mpr c8
    (first | rw [c8b0] | (simp only [i64_w, i32_w]; rw [c8b0]) | skip)
    by_cases c9 : a0_0 = 5
    · rw [if_pos c9] at H
      have c9b0 : (a0_0 == 5) = true := beq_iff_eq.mpr c9
      have c9b1 : (a0_0 != 5) = false := bne_eq_false_iff_eq.mpr c9
      clear c9
      have H' := Aside0.mk H
      clear H
      go_wp2
      go_meet
      case rel => exact ⟨_, ((a0_0 == 5)), eqv_, H', ⟨by first | omega | exact Nat.le_refl _⟩, ⟨bk_⟩, ⟨bk_⟩, ⟨bl_⟩⟩
    rw [if_neg c9] at H
    have c9b0 : (a0_0 == 5) = false := beq_eq_false_iff_ne.mpr c9
    have c9b1 : (a0_0 != 5) = true := bne_iff_ne.mpr c9
    by_cases c10 : a0_0 = 14
    rotate_left
    · rw [if_neg c10] at H
      have c10b0 : (a0_0 == 14) = false := beq_eq_false_iff_ne.mpr c10
      have c10b1 : (a0_0 != 14) = true := bne_iff_ne.mpr c10
      have H' := Aside0.mk H
      clear H
      go_wp2
      go_meet
      case rel => exact ⟨_, ((a0_0 == 16)), eqv_, H', ⟨by first | omega | exact Nat.le_refl _⟩, ⟨bk_⟩, ⟨bk_⟩, ⟨bl_⟩⟩
    rw [if_pos c10] at H
    have c10b0 : (a0_0 == 14) = true := beq_iff_eq.mpr c10
    have c10b1 : (a0_0 != 14) = false := bne_eq_false_iff_eq.mpr c10
    clear c10
    have H' := Aside0.mk H
    clear H
    go_wp2
    go_meet
    case rel => exact ⟨_, ((a0_0 == 14)), eqv_, H', ⟨by first | omega | exact Nat.le_refl _⟩, ⟨bk_⟩, ⟨bk_⟩, ⟨bl_⟩⟩
  clear HC3
  try clear c1
  try clear p2
  try clear c3
  try clear c6
  try clear c8
  try clear c8b0
  try clear c8b1
  try clear c9
  try clear c9b0
  try clear c9b1
  try clear c10
  try clear c10b0
  try clear c10b1
  try clear hcz7
  obtain ⟨kq, x7_2, rfl, HA, HJ2, BK320, BK321, HB⟩ := hcut
  cases kq with
  | zero => exact absurd HA.out (by simp [method_Changes.j0])
  | succ kj2 =>
    have H := HA.out
    clear HA
    simp only [method_Changes.j0] at H
    by_cases c11 : x7_2 = true
    · subst c11
      have H1 : (some true) = some r := by rw [if_pos rfl] at H; exact H
      clear H
      have H := H1
      clear H1
      obtain rfl := Option.some.inj H
      go_wp2
      go_ret
      exact ⟨er_, bl_⟩
    replace c11 := Bool.eq_false_iff.mpr c11
    subst c11
    have H1 : (if a0_0 = 3 then (some (a0_3 != 0)) else (if a0_0 = 6 then (some (a1_0 == 1)) else (if a0_0 = 8 then (some (a1_0 == 1)) else (if a0_0 = 9 then (some (a1_0 == 1)) else (if a0_0 = 11 then (some (a1_0 == 1)) else (if a0_0 = 12 then (some (a1_0 == 1)) else (if a0_0 = 15 then (some (a1_0 == 1)) else (if a0_0 = 17 then (some (a1_0 == 1)) else (some false))))))))) = some r := by rw [if_neg (show ¬ (false = true) by decide)] at H; exact H
    clear H
    have H := H1
    clear H1
    by_cases c12 : a0_0 = 3
    · rw [if_pos c12] at H
      have c12b0 : (a0_0 == 3) = true := beq_iff_eq.mpr c12
      have c12b1 : (a0_0 != 3) = false := bne_eq_false_iff_eq.mpr c12
      clear c12
      obtain rfl := Option.some.inj H
      have hnb13 := NB320_321.out
      have hnc13 := NB321_320.out
      have hcz14 := bc4 BK320.out
      go_wp2
      go_ret
      exact ⟨er_, bl_⟩
    rw [if_neg c12] at H
    have c12b0 : (a0_0 == 3) = false := beq_eq_false_iff_ne.mpr c12
    have c12b1 : (a0_0 != 3) = true := bne_iff_ne.mpr c12
    by_cases c15 : a0_0 = 6
    · rw [if_pos c15] at H
      have c15b0 : (a0_0 == 6) = true := beq_iff_eq.mpr c15
      have c15b1 : (a0_0 != 6) = false := bne_eq_false_iff_eq.mpr c15
      clear c15
      obtain rfl := Option.some.inj H
      have hnb16 := NB321_320.out
      have hnc16 := NB320_321.out
      have hcz17 := bc3 BK321.out
      go_wp2
      go_ret
      exact ⟨er_, bl_⟩
    rw [if_neg c15] at H
    have c15b0 : (a0_0 == 6) = false := beq_eq_false_iff_ne.mpr c15
    have c15b1 : (a0_0 != 6) = true := bne_iff_ne.mpr c15
    by_cases c18 : a0_0 = 8
    · rw [if_pos c18] at H
      have c18b0 : (a0_0 == 8) = true := beq_iff_eq.mpr c18
      have c18b1 : (a0_0 != 8) = false := bne_eq_false_iff_eq.mpr c18
      clear c18
      obtain rfl := Option.some.inj H
      have hnb19 := NB321_320.out
      have hnc19 := NB320_321.out
      have hcz20 := bc3 BK321.out
      go_wp2
      go_ret
      exact ⟨er_, bl_⟩
    rw [if_neg c18] at H
    have c18b0 : (a0_0 == 8) = false := beq_eq_false_iff_ne.mpr c18
    have c18b1 : (a0_0 != 8) = true := bne_iff_ne.mpr c18
    by_cases c21 : a0_0 = 9
    · rw [if_pos c21] at H
      have c21b0 : (a0_0 == 9) = true := beq_iff_eq.mpr c21
      have c21b1 : (a0_0 != 9) = false := bne_eq_false_iff_eq.mpr c21
      clear c21
      obtain rfl := Option.some.inj H
      have hnb22 := NB321_320.out
      have hnc22 := NB320_321.out
      have hcz23 := bc3 BK321.out
      go_wp2
      go_ret
      exact ⟨er_, bl_⟩
    rw [if_neg c21] at H
    have c21b0 : (a0_0 == 9) = false := beq_eq_false_iff_ne.mpr c21
    have c21b1 : (a0_0 != 9) = true := bne_iff_ne.mpr c21
    by_cases c24 : a0_0 = 11
    · rw [if_pos c24] at H
      have c24b0 : (a0_0 == 11) = true := beq_iff_eq.mpr c24
      have c24b1 : (a0_0 != 11) = false := bne_eq_false_iff_eq.mpr c24
      clear c24
      obtain rfl := Option.some.inj H
      have hnb25 := NB321_320.out
      have hnc25 := NB320_321.out
      have hcz26 := bc3 BK321.out
      go_wp2
      go_ret
      exact ⟨er_, bl_⟩
    rw [if_neg c24] at H
    have c24b0 : (a0_0 == 11) = false := beq_eq_false_iff_ne.mpr c24
    have c24b1 : (a0_0 != 11) = true := bne_iff_ne.mpr c24
    by_cases c27 : a0_0 = 12
    · rw [if_pos c27] at H
      have c27b0 : (a0_0 == 12) = true := beq_iff_eq.mpr c27
      have c27b1 : (a0_0 != 12) = false := bne_eq_false_iff_eq.mpr c27
      clear c27
      obtain rfl := Option.some.inj H
      have hnb28 := NB321_320.out
      have hnc28 := NB320_321.out
      have hcz29 := bc3 BK321.out
      go_wp2
      go_ret
      exact ⟨er_, bl_⟩
    rw [if_neg c27] at H
    have c27b0 : (a0_0 == 12) = false := beq_eq_false_iff_ne.mpr c27
    have c27b1 : (a0_0 != 12) = true := bne_iff_ne.mpr c27
    by_cases c30 : a0_0 = 15
    · rw [if_pos c30] at H
      have c30b0 : (a0_0 == 15) = true := beq_iff_eq.mpr c30
      have c30b1 : (a0_0 != 15) = false := bne_eq_false_iff_eq.mpr c30
      clear c30
      obtain rfl := Option.some.inj H
      have hnb31 := NB321_320.out
      have hnc31 := NB320_321.out
      have hcz32 := bc3 BK321.out
      go_wp2
      go_ret
      exact ⟨er_, bl_⟩
    rw [if_neg c30] at H
    have c30b0 : (a0_0 == 15) = false := beq_eq_false_iff_ne.mpr c30
    have c30b1 : (a0_0 != 15) = true := bne_iff_ne.mpr c30
    by_cases c33 : a0_0 = 17
    rotate_left
    · rw [if_neg c33] at H
      have c33b0 : (a0_0 == 17) = false := beq_eq_false_iff_ne.mpr c33
      have c33b1 : (a0_0 != 17) = true := bne_iff_ne.mpr c33
      obtain rfl := Option.some.inj H
      go_wp2
      go_ret
      exact ⟨er_, bl_⟩
    rw [if_pos c33] at H
    have c33b0 : (a0_0 == 17) = true := beq_iff_eq.mpr c33
    have c33b1 : (a0_0 != 17) = false := bne_eq_false_iff_eq.mpr c33
    clear c33
    obtain rfl := Option.some.inj H
    have hnb34 := NB321_320.out
    have hnc34 := NB320_321.out
    have hcz35 := bc3 BK321.out
    go_wp2
    go_ret
    exact ⟨er_, bl_⟩
def method_Growth.j0 : Nat → Bool → Int → ByteArray → ByteArray → Int → Option (Int)
  | 0, _, _, _, _, _ => none
  | k + 1, x10, x323000, x323001, x323002, x323003 => if x10 = true then (some 1) else (if x323000 = 9 then (some (-1)) else (if x323000 = 12 then (some (-1)) else (if x323000 = 15 then (some (-1)) else (if x323000 = 17 then (some (-1)) else (some 0)))))
def method_Growth.f (k : Nat) (a0_0 : Int) (a0_1 : ByteArray) (a0_2 : ByteArray) (a0_3 : Int) (a1_0 : Int) (a1_1 : ByteArray) (a1_2 : Int) : Option (Int) := (method_Changes.f k a0_0 a0_1 a0_2 a0_3 a1_0 a1_1 a1_2).bind fun t324 => (if t324 = true then (if a0_0 = 8 then (method_Growth.j0 k true a0_0 a0_1 a0_2 a0_3) else (if a0_0 = 11 then (method_Growth.j0 k true a0_0 a0_1 a0_2 a0_3) else (if a0_0 = 14 then (method_Growth.j0 k true a0_0 a0_1 a0_2 a0_3) else (method_Growth.j0 k (a0_0 == 16) a0_0 a0_1 a0_2 a0_3)))) else (some 0))
set_option maxHeartbeats 8000000 in
set_option maxRecDepth 100000 in
theorem method_Growth.calls (k : Nat) (a0_0 : Int) (a0_1 : ByteArray) (a0_2 : ByteArray) (a0_3 : Int) (a1_0 : Int) (a1_1 : ByteArray) (a1_2 : Int) (r : Int) (w : World) (h : method_Growth.f k a0_0 a0_1 a0_2 a0_3 a1_0 a1_1 a1_2 = some r) :
    Calls Try.prog 29 #[.agg #[.int .i64 a0_0, .string a0_1, .string a0_2, .int .i64 a0_3], .agg #[.int .i64 a1_0, .string a1_1, .int .i64 a1_2]] w fun e w' => e = .returned (.int .i64 r) ∧ Below w.heap.size w w' := by
  have hu41 := Try.underlying41
  have hu47 := Try.underlying47
  have HB := Aside0.mk (Below.refl w.heap.size w)
  have H : ((method_Changes.f k a0_0 a0_1 a0_2 a0_3 a1_0 a1_1 a1_2).bind fun t324 => (if t324 = true then (if a0_0 = 8 then (method_Growth.j0 k true a0_0 a0_1 a0_2 a0_3) else (if a0_0 = 11 then (method_Growth.j0 k true a0_0 a0_1 a0_2 a0_3) else (if a0_0 = 14 then (method_Growth.j0 k true a0_0 a0_1 a0_2 a0_3) else (method_Growth.j0 k (a0_0 == 16) a0_0 a0_1 a0_2 a0_3)))) else (some 0))) = some r := h
  clear h
  replace H := Option.bind_eq_some_iff.mp H
  obtain ⟨t324, A30, H⟩ := H
  replace H : (if t324 = true then (if a0_0 = 8 then (method_Growth.j0 k true a0_0 a0_1 a0_2 a0_3) else (if a0_0 = 11 then (method_Growth.j0 k true a0_0 a0_1 a0_2 a0_3) else (if a0_0 = 14 then (method_Growth.j0 k true a0_0 a0_1 a0_2 a0_3) else (method_Growth.j0 k (a0_0 == 16) a0_0 a0_1 a0_2 a0_3)))) else (some 0)) = some r := H
  have A3 := Aside0.mk A30
  clear A30
  have HS4 := Aside0.mk H
  clear H
  go_enter Try.func29, Try.ntmps29
  go_upto_if 5 with (first | ((with_reducible refine gds (N := 2) rfl ?_); refine bx_ (N := 2) (cs := #[.int .i64 a0_0, .string a0_1, .string a0_2, .int .i64 a0_3]) (t := 41) ?_; intro gb322 hg w5 hbox hb; have n0_ := Aside0.mk (bsp bl_ hb); have n1_ := Aside0.mk (hbox); have n2_ := Aside0.mk ((by rw [hg]; exact bsz bl_ : w.heap.size ≤ gb322)); have n3_ := Aside0.mk ((by rw [hg]; exact bsz bl_ : w.heap.size ≤ gb322)); clear HB; have HB := n0_; have BK322 := n1_; have GW322 := n2_; have GE322 := n3_; clear n0_ n1_ n2_ n3_; clear hb hbox hg) | ((with_reducible refine gds (N := 3) rfl ?_); refine bx_ (N := 3) (cs := #[.int .i64 a1_0, .string a1_1, .int .i64 a1_2]) (t := 47) ?_; intro gb323 hg w6 hbox hb; have n0_ := Aside0.mk (kbl (g := gb322) (o := .cells #[.int .i64 a0_0, .string a0_1, .string a0_2, .int .i64 a0_3] 41 (0, 0)) bk_ hb); have n1_ := Aside0.mk (bsp bl_ hb); have n2_ := Aside0.mk (hbox); have n3_ := Aside0.mk ((by rw [hg]; exact bsz bl_ : w.heap.size ≤ gb323)); have n4_ := Aside0.mk ((by rw [hg]; exact bsz bl_ : w.heap.size ≤ gb323)); have n5_ := Aside0.mk ((by rw [hg]; exact Nat.ne_of_lt (blk_lt (g := gb322) (o := .cells #[.int .i64 a0_0, .string a0_1, .string a0_2, .int .i64 a0_3] 41 (0, 0)) bk_) : gb322 ≠ gb323)); have n6_ := Aside0.mk ((by rw [hg]; exact Nat.ne_of_gt (blk_lt (g := gb322) (o := .cells #[.int .i64 a0_0, .string a0_1, .string a0_2, .int .i64 a0_3] 41 (0, 0)) bk_) : gb323 ≠ gb322)); clear BK322; clear HB; have BK322 := n0_; have HB := n1_; have BK323 := n2_; have GW323 := n3_; have GE323 := n4_; have NB322_323 := n5_; have NB323_322 := n6_; clear n0_ n1_ n2_ n3_ n4_ n5_ n6_; clear hb hbox hg; have hnb7 := NB322_323.out; have hnc7 := NB323_322.out; have hcz8 := bc4 BK322.out; have hcz9 := bc3 BK323.out) | ((with_reducible refine gcl (f := 30) rfl ?_); refine gl_ (some 8) rfl rfl Try.func30 (by kernel_rfl) rfl #[.agg #[.int .i64 a0_0, .string a0_1, .string a0_2, .int .i64 a0_3], .agg #[.int .i64 a1_0, .string a1_1, .int .i64 a1_2]] rfl ar_ ?_; (with_reducible refine (method_Changes.calls k a0_0 a0_1 a0_2 a0_3 a1_0 a1_1 a1_2 t324 _ A3.out).mono ?_); rintro e w10 ⟨rfl, hb⟩; refine ⟨_, rfl, ?_⟩; have n0_ := Aside0.mk (kbl (g := gb322) (o := .cells #[.int .i64 a0_0, .string a0_1, .string a0_2, .int .i64 a0_3] 41 (0, 0)) bk_ hb); have n1_ := Aside0.mk (kbl (g := gb323) (o := .cells #[.int .i64 a1_0, .string a1_1, .int .i64 a1_2] 47 (0, 0)) bk_ hb); have n2_ := Aside0.mk (bsp bl_ hb); clear BK322; clear BK323; clear HB; have BK322 := n0_; have BK323 := n1_; have HB := n2_; clear n0_ n1_ n2_; (try clear hb); (try clear hb2); (try clear hk); (try clear hi)))
  (try simp only [Act.put, List.setIfInBounds_toArray, List.set_cons_zero, List.set_cons_succ])
  have H := HS4.out
  clear HS4
  by_cases c11 : t324 = true
  rotate_left
  · replace c11 := Bool.eq_false_iff.mpr c11
    subst c11
    have H1 : (some 0) = some r := by rw [if_neg (show ¬ (false = true) by decide)] at H; exact H
    clear H
    have H := H1
    clear H1
    obtain rfl := Option.some.inj H
    go_wp2
    go_ret
    exact ⟨er_, bl_⟩
  subst c11
  have H1 : (if a0_0 = 8 then (method_Growth.j0 k true a0_0 a0_1 a0_2 a0_3) else (if a0_0 = 11 then (method_Growth.j0 k true a0_0 a0_1 a0_2 a0_3) else (if a0_0 = 14 then (method_Growth.j0 k true a0_0 a0_1 a0_2 a0_3) else (method_Growth.j0 k (a0_0 == 16) a0_0 a0_1 a0_2 a0_3)))) = some r := by rw [if_pos rfl] at H; exact H
  clear H
  have H := H1
  clear H1
  have HC12 := Aside0.mk H
  clear H
  go_upto_region 3 with (fail)
  go_cut [10] (fun v10 wc => ∃ (kq : Nat) (x10_11 : Bool), v10 = .bool x10_11 ∧ Aside0 (method_Growth.j0 kq x10_11 a0_0 a0_1 a0_2 a0_3 = some r) ∧ Aside0 (kq ≤ k) ∧ Aside0 (wc.heap[gb322]? = some (.cells #[.int .i64 a0_0, .string a0_1, .string a0_2, .int .i64 a0_3] 41 (0, 0))) ∧ Aside0 (wc.heap[gb323]? = some (.cells #[.int .i64 a1_0, .string a1_1, .int .i64 a1_2] 47 (0, 0))) ∧ Aside0 (Below w.heap.size w wc))
  case first =>
    have H := HC12.out
    clear HC12
    by_cases c13 : a0_0 = 8
    · rw [if_pos c13] at H
      have c13b0 : (a0_0 == 8) = true := beq_iff_eq.mpr c13
      have c13b1 : (a0_0 != 8) = false := bne_eq_false_iff_eq.mpr c13
      clear c13
      (first | rw [c13b0] | (simp only [i64_w, i32_w]; rw [c13b0]) | skip)
      have H' := Aside0.mk H
      clear H
      have hnb14 := NB322_323.out
      have hnc14 := NB323_322.out
      have hcz15 := bc4 BK322.out
      go_wp2
      go_meet
      case rel => exact ⟨_, (true), eqv_, H', ⟨by first | omega | exact Nat.le_refl _⟩, ⟨bk_⟩, ⟨bk_⟩, ⟨bl_⟩⟩
    rw [if_neg c13] at H
    have c13b0 : (a0_0 == 8) = false := beq_eq_false_iff_ne.mpr c13
    have c13b1 : (a0_0 != 8) = true := bne_iff_ne.mpr c13
    (first | rw [c13b0] | (simp only [i64_w, i32_w]; rw [c13b0]) | skip)
    by_cases c16 : a0_0 = 11
    · rw [if_pos c16] at H
      have c16b0 : (a0_0 == 11) = true := beq_iff_eq.mpr c16
      have c16b1 : (a0_0 != 11) = false := bne_eq_false_iff_eq.mpr c16
      clear c16
      have H' := Aside0.mk H
      clear H
      have hnb17 := NB322_323.out
      have hnc17 := NB323_322.out
      have hcz18 := bc4 BK322.out
      go_wp2
      go_meet
      case rel => exact ⟨_, (true), eqv_, H', ⟨by first | omega | exact Nat.le_refl _⟩, ⟨bk_⟩, ⟨bk_⟩, ⟨bl_⟩⟩
    rw [if_neg c16] at H
    have c16b0 : (a0_0 == 11) = false := beq_eq_false_iff_ne.mpr c16
    have c16b1 : (a0_0 != 11) = true := bne_iff_ne.mpr c16
    by_cases c19 : a0_0 = 14
    rotate_left
    · rw [if_neg c19] at H
      have c19b0 : (a0_0 == 14) = false := beq_eq_false_iff_ne.mpr c19
      have c19b1 : (a0_0 != 14) = true := bne_iff_ne.mpr c19
      have H' := Aside0.mk H
      clear H
      have hnb22 := NB322_323.out
      have hnc22 := NB323_322.out
      have hcz23 := bc4 BK322.out
      go_wp2
      go_meet
      case rel => exact ⟨_, ((a0_0 == 16)), eqv_, H', ⟨by first | omega | exact Nat.le_refl _⟩, ⟨bk_⟩, ⟨bk_⟩, ⟨bl_⟩⟩
    rw [if_pos c19] at H
    have c19b0 : (a0_0 == 14) = true := beq_iff_eq.mpr c19
    have c19b1 : (a0_0 != 14) = false := bne_eq_false_iff_eq.mpr c19
    clear c19
    have H' := Aside0.mk H
    clear H
    have hnb20 := NB322_323.out
    have hnc20 := NB323_322.out
    have hcz21 := bc4 BK322.out
    go_wp2
    go_meet
    case rel => exact ⟨_, (true), eqv_, H', ⟨by first | omega | exact Nat.le_refl _⟩, ⟨bk_⟩, ⟨bk_⟩, ⟨bl_⟩⟩
  clear HC12
  try clear c1
  try clear c2
  try clear p2
  try clear c3
  try clear c7
  try clear c11
  try clear c13
  try clear c13b0
  try clear c13b1
  try clear c14
  try clear c16
  try clear c16b0
  try clear c16b1
  try clear c17
  try clear c19
  try clear c19b0
  try clear c19b1
  try clear c20
  try clear c22
  try clear hcz15
  try clear hcz18
  try clear hcz21
  try clear hcz23
  try clear hcz8
  try clear hcz9
  try clear hcz15
  try clear hcz18
  try clear hcz21
  try clear hcz23
  try clear hcz8
  try clear hcz9
  obtain ⟨kq, x10_11, rfl, HA, HJ11, BK322, BK323, HB⟩ := hcut
  cases kq with
  | zero => exact absurd HA.out (by simp [method_Growth.j0])
  | succ kj11 =>
    have H := HA.out
    clear HA
    simp only [method_Growth.j0] at H
    by_cases c24 : x10_11 = true
    · subst c24
      have H1 : (some 1) = some r := by rw [if_pos rfl] at H; exact H
      clear H
      have H := H1
      clear H1
      obtain rfl := Option.some.inj H
      go_wp2
      go_ret
      exact ⟨er_, bl_⟩
    replace c24 := Bool.eq_false_iff.mpr c24
    subst c24
    have H1 : (if a0_0 = 9 then (some (-1)) else (if a0_0 = 12 then (some (-1)) else (if a0_0 = 15 then (some (-1)) else (if a0_0 = 17 then (some (-1)) else (some 0))))) = some r := by rw [if_neg (show ¬ (false = true) by decide)] at H; exact H
    clear H
    have H := H1
    clear H1
    by_cases c25 : a0_0 = 9
    · rw [if_pos c25] at H
      have c25b0 : (a0_0 == 9) = true := beq_iff_eq.mpr c25
      have c25b1 : (a0_0 != 9) = false := bne_eq_false_iff_eq.mpr c25
      clear c25
      obtain rfl := Option.some.inj H
      have hnb26 := NB322_323.out
      have hnc26 := NB323_322.out
      have hcz27 := bc4 BK322.out
      go_wp2
      go_ret
      exact ⟨er_, bl_⟩
    rw [if_neg c25] at H
    have c25b0 : (a0_0 == 9) = false := beq_eq_false_iff_ne.mpr c25
    have c25b1 : (a0_0 != 9) = true := bne_iff_ne.mpr c25
    by_cases c28 : a0_0 = 12
    · rw [if_pos c28] at H
      have c28b0 : (a0_0 == 12) = true := beq_iff_eq.mpr c28
      have c28b1 : (a0_0 != 12) = false := bne_eq_false_iff_eq.mpr c28
      clear c28
      obtain rfl := Option.some.inj H
      have hnb29 := NB322_323.out
      have hnc29 := NB323_322.out
      have hcz30 := bc4 BK322.out
      go_wp2
      go_ret
      exact ⟨er_, bl_⟩
    rw [if_neg c28] at H
    have c28b0 : (a0_0 == 12) = false := beq_eq_false_iff_ne.mpr c28
    have c28b1 : (a0_0 != 12) = true := bne_iff_ne.mpr c28
    by_cases c31 : a0_0 = 15
    · rw [if_pos c31] at H
      have c31b0 : (a0_0 == 15) = true := beq_iff_eq.mpr c31
      have c31b1 : (a0_0 != 15) = false := bne_eq_false_iff_eq.mpr c31
      clear c31
      obtain rfl := Option.some.inj H
      have hnb32 := NB322_323.out
      have hnc32 := NB323_322.out
      have hcz33 := bc4 BK322.out
      go_wp2
      go_ret
      exact ⟨er_, bl_⟩
    rw [if_neg c31] at H
    have c31b0 : (a0_0 == 15) = false := beq_eq_false_iff_ne.mpr c31
    have c31b1 : (a0_0 != 15) = true := bne_iff_ne.mpr c31
    by_cases c34 : a0_0 = 17
    rotate_left
    · rw [if_neg c34] at H
      have c34b0 : (a0_0 == 17) = false := beq_eq_false_iff_ne.mpr c34
      have c34b1 : (a0_0 != 17) = true := bne_iff_ne.mpr c34
      obtain rfl := Option.some.inj H
      have hnb37 := NB322_323.out
      have hnc37 := NB323_322.out
      have hcz38 := bc4 BK322.out
      go_wp2
      go_ret
      exact ⟨er_, bl_⟩
    rw [if_pos c34] at H
    have c34b0 : (a0_0 == 17) = true := beq_iff_eq.mpr c34
    have c34b1 : (a0_0 != 17) = false := bne_eq_false_iff_eq.mpr c34
    clear c34
    obtain rfl := Option.some.inj H
    have hnb35 := NB322_323.out
    have hnc35 := NB323_322.out
    have hcz36 := bc4 BK322.out
    go_wp2
    go_ret
    exact ⟨er_, bl_⟩
def adt_Room.j0 : Nat → Int → Bool → Int → Int → List (S68) → Int → ByteArray → ByteArray → Int → Option (Int)
  | 0, _, _, _, _, _, _, _, _, _ => none
  | k + 1, x4, x15, x326000, x326001, x326002, x327000, x327001, x327002, x327003 => if x15 = true then (some 7) else (if x327000 = 5 then (if (wrap64 ((wrap64 (x326001 + x4)) + x327003)) > 1125899906842624 then (some 7) else (some 0)) else (some 0))
def adt_Room.f (k : Nat) (a0_0 : Int) (a0_1 : Int) (l0_2 : List (S68)) (a1_0 : Int) (a1_1 : ByteArray) (a1_2 : ByteArray) (a1_3 : Int) (a2_0 : Int) (a2_1 : ByteArray) (a2_2 : Int) (a3 : Int) (a4 : Int) : Option (Int) := (method_Growth.f k a1_0 a1_1 a1_2 a1_3 a2_0 a2_1 a2_2).bind fun t328 => (if t328 > 0 then (adt_Room.j0 k a4 (decide ((wrap64 ((wrap64 ((l0_2.length : Int) + a3)) + t328)) > 8)) a0_0 a0_1 l0_2 a1_0 a1_1 a1_2 a1_3) else (adt_Room.j0 k a4 false a0_0 a0_1 l0_2 a1_0 a1_1 a1_2 a1_3))
set_option maxHeartbeats 8000000 in
set_option maxRecDepth 100000 in
theorem adt_Room.calls (k : Nat) (a0_0 : Int) (a0_1 : Int) (A0_2 : Option Addr) (c0_2 : Nat) (l0_2 : List (S68)) (a1_0 : Int) (a1_1 : ByteArray) (a1_2 : ByteArray) (a1_3 : Int) (a2_0 : Int) (a2_1 : ByteArray) (a2_2 : Int) (a3 : Int) (a4 : Int) (r : Int) (w : World) (hr0_2 : Kd.C k68 w A0_2 l0_2.length l0_2) (hc0_2 : l0_2.length ≤ c0_2) (h : adt_Room.f k a0_0 a0_1 l0_2 a1_0 a1_1 a1_2 a1_3 a2_0 a2_1 a2_2 a3 a4 = some r) :
    Calls Try.prog 9 #[.agg #[.int .i64 a0_0, .int .i64 a0_1, .slice A0_2 l0_2.length c0_2], .agg #[.int .i64 a1_0, .string a1_1, .string a1_2, .int .i64 a1_3], .agg #[.int .i64 a2_0, .string a2_1, .int .i64 a2_2], .int .i64 a3, .int .i64 a4] w fun e w' => e = .returned (.int .i64 r) ∧ Below w.heap.size w w' := by
  have hu24 := Try.underlying24
  have hu41 := Try.underlying41
  have hu47 := Try.underlying47
  have HR0_2 := Aside0.mk hr0_2
  have HC0_2 := Aside0.mk hc0_2
  clear hr0_2 hc0_2
  have HB := Aside0.mk (Below.refl w.heap.size w)
  have H : ((method_Growth.f k a1_0 a1_1 a1_2 a1_3 a2_0 a2_1 a2_2).bind fun t328 => (if t328 > 0 then (adt_Room.j0 k a4 (decide ((wrap64 ((wrap64 ((l0_2.length : Int) + a3)) + t328)) > 8)) a0_0 a0_1 l0_2 a1_0 a1_1 a1_2 a1_3) else (adt_Room.j0 k a4 false a0_0 a0_1 l0_2 a1_0 a1_1 a1_2 a1_3))) = some r := h
  clear h
  replace H := Option.bind_eq_some_iff.mp H
  obtain ⟨t328, A60, H⟩ := H
  replace H : (if t328 > 0 then (adt_Room.j0 k a4 (decide ((wrap64 ((wrap64 ((l0_2.length : Int) + a3)) + t328)) > 8)) a0_0 a0_1 l0_2 a1_0 a1_1 a1_2 a1_3) else (adt_Room.j0 k a4 false a0_0 a0_1 l0_2 a1_0 a1_1 a1_2 a1_3)) = some r := H
  have A6 := Aside0.mk A60
  clear A60
  have HC7 := Aside0.mk H
  clear H
  go_enter Try.func9, Try.ntmps9
  go_upto_region 2 with (first | ((with_reducible refine gds (N := 5) rfl ?_); (try (refine gate_guard (by rfl) ?_; dsimp only)); refine bx_ (N := 5) (cs := #[.int .i64 a0_0, .int .i64 a0_1, .slice A0_2 l0_2.length c0_2]) (t := 24) ?_; intro gb325 hg w8 hbox hb; have n0_ := Aside0.mk (bsp bl_ hb); have n1_ := Aside0.mk (hbox); have n2_ := Aside0.mk ((by rw [hg]; exact bsz bl_ : w.heap.size ≤ gb325)); have n3_ := Aside0.mk ((by rw [hg]; exact bsz bl_ : w.heap.size ≤ gb325)); clear HB; have HB := n0_; have BK325 := n1_; have GW325 := n2_; have GE325 := n3_; clear n0_ n1_ n2_ n3_; clear hb hbox hg) | ((with_reducible refine gds (N := 6) rfl ?_); (try (refine gate_guard (by rfl) ?_; dsimp only)); refine bx_ (N := 6) (cs := #[.int .i64 a1_0, .string a1_1, .string a1_2, .int .i64 a1_3]) (t := 41) ?_; intro gb326 hg w9 hbox hb; have n0_ := Aside0.mk (kbl (g := gb325) (o := .cells #[.int .i64 a0_0, .int .i64 a0_1, .slice A0_2 l0_2.length c0_2] 24 (0, 0)) bk_ hb); have n1_ := Aside0.mk (bsp bl_ hb); have n2_ := Aside0.mk (hbox); have n3_ := Aside0.mk ((by rw [hg]; exact bsz bl_ : w.heap.size ≤ gb326)); have n4_ := Aside0.mk ((by rw [hg]; exact bsz bl_ : w.heap.size ≤ gb326)); have n5_ := Aside0.mk ((by rw [hg]; exact Nat.ne_of_lt (blk_lt (g := gb325) (o := .cells #[.int .i64 a0_0, .int .i64 a0_1, .slice A0_2 l0_2.length c0_2] 24 (0, 0)) bk_) : gb325 ≠ gb326)); have n6_ := Aside0.mk ((by rw [hg]; exact Nat.ne_of_gt (blk_lt (g := gb325) (o := .cells #[.int .i64 a0_0, .int .i64 a0_1, .slice A0_2 l0_2.length c0_2] 24 (0, 0)) bk_) : gb326 ≠ gb325)); clear BK325; clear HB; have BK325 := n0_; have HB := n1_; have BK326 := n2_; have GW326 := n3_; have GE326 := n4_; have NB325_326 := n5_; have NB326_325 := n6_; clear n0_ n1_ n2_ n3_ n4_ n5_ n6_; clear hb hbox hg) | ((with_reducible refine gds (N := 7) rfl ?_); (try (refine gate_guard (by rfl) ?_; dsimp only)); refine bx_ (N := 7) (cs := #[.int .i64 a2_0, .string a2_1, .int .i64 a2_2]) (t := 47) ?_; intro gb327 hg w10 hbox hb; have n0_ := Aside0.mk (kbl (g := gb325) (o := .cells #[.int .i64 a0_0, .int .i64 a0_1, .slice A0_2 l0_2.length c0_2] 24 (0, 0)) bk_ hb); have n1_ := Aside0.mk (kbl (g := gb326) (o := .cells #[.int .i64 a1_0, .string a1_1, .string a1_2, .int .i64 a1_3] 41 (0, 0)) bk_ hb); have n2_ := Aside0.mk (bsp bl_ hb); have n3_ := Aside0.mk (hbox); have n4_ := Aside0.mk ((by rw [hg]; exact bsz bl_ : w.heap.size ≤ gb327)); have n5_ := Aside0.mk ((by rw [hg]; exact bsz bl_ : w.heap.size ≤ gb327)); have n6_ := Aside0.mk ((by rw [hg]; exact Nat.ne_of_lt (blk_lt (g := gb325) (o := .cells #[.int .i64 a0_0, .int .i64 a0_1, .slice A0_2 l0_2.length c0_2] 24 (0, 0)) bk_) : gb325 ≠ gb327)); have n7_ := Aside0.mk ((by rw [hg]; exact Nat.ne_of_gt (blk_lt (g := gb325) (o := .cells #[.int .i64 a0_0, .int .i64 a0_1, .slice A0_2 l0_2.length c0_2] 24 (0, 0)) bk_) : gb327 ≠ gb325)); have n8_ := Aside0.mk ((by rw [hg]; exact Nat.ne_of_lt (blk_lt (g := gb326) (o := .cells #[.int .i64 a1_0, .string a1_1, .string a1_2, .int .i64 a1_3] 41 (0, 0)) bk_) : gb326 ≠ gb327)); have n9_ := Aside0.mk ((by rw [hg]; exact Nat.ne_of_gt (blk_lt (g := gb326) (o := .cells #[.int .i64 a1_0, .string a1_1, .string a1_2, .int .i64 a1_3] 41 (0, 0)) bk_) : gb327 ≠ gb326)); clear BK325; clear BK326; clear HB; have BK325 := n0_; have BK326 := n1_; have HB := n2_; have BK327 := n3_; have GW327 := n4_; have GE327 := n5_; have NB325_327 := n6_; have NB327_325 := n7_; have NB326_327 := n8_; have NB327_326 := n9_; clear n0_ n1_ n2_ n3_ n4_ n5_ n6_ n7_ n8_ n9_; clear hb hbox hg; have hnb11 := NB326_325.out; have hnc11 := NB325_326.out; have hnb12 := NB326_327.out; have hnc12 := NB327_326.out; have hcz13 := bc4 BK326.out; have hnb14 := NB327_325.out; have hnc14 := NB325_327.out; have hcz15 := bc3 BK327.out) | ((with_reducible refine gcl (f := 29) rfl ?_); refine gl_ (some 14) rfl rfl Try.func29 (by kernel_rfl) rfl #[.agg #[.int .i64 a1_0, .string a1_1, .string a1_2, .int .i64 a1_3], .agg #[.int .i64 a2_0, .string a2_1, .int .i64 a2_2]] rfl ar_ ?_; (with_reducible refine (method_Growth.calls k a1_0 a1_1 a1_2 a1_3 a2_0 a2_1 a2_2 t328 _ A6.out).mono ?_); rintro e w16 ⟨rfl, hb⟩; refine ⟨_, rfl, ?_⟩; have n0_ := Aside0.mk (kbl (g := gb325) (o := .cells #[.int .i64 a0_0, .int .i64 a0_1, .slice A0_2 l0_2.length c0_2] 24 (0, 0)) bk_ hb); have n1_ := Aside0.mk (kbl (g := gb326) (o := .cells #[.int .i64 a1_0, .string a1_1, .string a1_2, .int .i64 a1_3] 41 (0, 0)) bk_ hb); have n2_ := Aside0.mk (kbl (g := gb327) (o := .cells #[.int .i64 a2_0, .string a2_1, .int .i64 a2_2] 47 (0, 0)) bk_ hb); have n3_ := Aside0.mk (bsp bl_ hb); clear BK325; clear BK326; clear BK327; clear HB; have BK325 := n0_; have BK326 := n1_; have BK327 := n2_; have HB := n3_; clear n0_ n1_ n2_ n3_; (try clear hb); (try clear hb2); (try clear hk); (try clear hi)))
  (try simp only [Act.put, List.setIfInBounds_toArray, List.set_cons_zero, List.set_cons_succ])
  go_cut [15] (fun v15 wc => ∃ (kq : Nat) (x15_6 : Bool), v15 = .bool x15_6 ∧ Aside0 (adt_Room.j0 kq a4 x15_6 a0_0 a0_1 l0_2 a1_0 a1_1 a1_2 a1_3 = some r) ∧ Aside0 (kq ≤ k) ∧ Aside0 (wc.heap[gb325]? = some (.cells #[.int .i64 a0_0, .int .i64 a0_1, (.slice A0_2 l0_2.length c0_2)] 24 (0, 0))) ∧ Aside0 (wc.heap[gb326]? = some (.cells #[.int .i64 a1_0, .string a1_1, .string a1_2, .int .i64 a1_3] 41 (0, 0))) ∧ Aside0 (wc.heap[gb327]? = some (.cells #[.int .i64 a2_0, .string a2_1, .int .i64 a2_2] 47 (0, 0))) ∧ Aside0 (Below w.heap.size w wc))
  case first =>
    have H := HC7.out
    clear HC7
    by_cases c17 : t328 > 0
    rotate_left
    · rw [if_neg c17] at H
      have c17b0 : decide (0 < t328) = false := decide_eq_false c17
      clear c17
      (first | rw [c17b0] | (simp only [i64_w, i32_w]; rw [c17b0]) | skip)
      have H' := Aside0.mk H
      clear H
      go_wp2
      go_meet
      case rel => exact ⟨_, (false), eqv_, H', ⟨by first | omega | exact Nat.le_refl _⟩, ⟨bk_⟩, ⟨bk_⟩, ⟨bk_⟩, ⟨bl_⟩⟩
    rw [if_pos c17] at H
    have c17b0 : decide (0 < t328) = true := decide_eq_true c17
    clear c17
    (first | rw [c17b0] | (simp only [i64_w, i32_w]; rw [c17b0]) | skip)
    have H' := Aside0.mk H
    clear H
    have hnb18 := NB325_326.out
    have hnc18 := NB326_325.out
    have hnb19 := NB325_327.out
    have hnc19 := NB327_325.out
    have hcz20 := bc3 BK325.out
    go_wp2
    go_meet
    case rel => exact ⟨_, (decide ((wrap64 ((wrap64 ((l0_2.length : Int) + a3)) + t328)) > 8)), eqv_, H', ⟨by first | omega | exact Nat.le_refl _⟩, ⟨bk_⟩, ⟨bk_⟩, ⟨bk_⟩, ⟨bl_⟩⟩
  clear HC7
  try clear c1
  try clear c2
  try clear p2
  try clear p6
  try clear c9
  try clear c11
  try clear c12
  try clear c14
  try clear c17
  try clear c17b0
  try clear c18
  try clear c19
  try clear hcz13
  try clear hcz15
  try clear hcz20
  try clear hcz13
  try clear hcz15
  try clear hcz20
  obtain ⟨kq, x15_6, rfl, HA, HJ6, BK325, BK326, BK327, HB⟩ := hcut
  cases kq with
  | zero => exact absurd HA.out (by simp [adt_Room.j0])
  | succ kj6 =>
    have H := HA.out
    clear HA
    simp only [adt_Room.j0] at H
    by_cases c21 : x15_6 = true
    · subst c21
      have H1 : (some 7) = some r := by rw [if_pos rfl] at H; exact H
      clear H
      have H := H1
      clear H1
      obtain rfl := Option.some.inj H
      go_wp2
      go_ret
      exact ⟨er_, bl_⟩
    replace c21 := Bool.eq_false_iff.mpr c21
    subst c21
    have H1 : (if a1_0 = 5 then (if (wrap64 ((wrap64 (a0_1 + a4)) + a1_3)) > 1125899906842624 then (some 7) else (some 0)) else (some 0)) = some r := by rw [if_neg (show ¬ (false = true) by decide)] at H; exact H
    clear H
    have H := H1
    clear H1
    by_cases c22 : a1_0 = 5
    rotate_left
    · rw [if_neg c22] at H
      have c22b0 : (a1_0 == 5) = false := beq_eq_false_iff_ne.mpr c22
      have c22b1 : (a1_0 != 5) = true := bne_iff_ne.mpr c22
      obtain rfl := Option.some.inj H
      have hnb34 := NB326_325.out
      have hnc34 := NB325_326.out
      have hnb35 := NB326_327.out
      have hnc35 := NB327_326.out
      have hcz36 := bc4 BK326.out
      go_wp2
      go_ret
      exact ⟨er_, bl_⟩
    rw [if_pos c22] at H
    have c22b0 : (a1_0 == 5) = true := beq_iff_eq.mpr c22
    have c22b1 : (a1_0 != 5) = false := bne_eq_false_iff_eq.mpr c22
    clear c22
    by_cases c23 : (wrap64 ((wrap64 (a0_1 + a4)) + a1_3)) > 1125899906842624
    · rw [if_pos c23] at H
      have c23b0 : decide (1125899906842624 < (wrap64 ((wrap64 (a0_1 + a4)) + a1_3))) = true := decide_eq_true c23
      clear c23
      obtain rfl := Option.some.inj H
      have hnb24 := NB326_325.out
      have hnc24 := NB325_326.out
      have hnb25 := NB326_327.out
      have hnc25 := NB327_326.out
      have hcz26 := bc4 BK326.out
      have hnb27 := NB325_327.out
      have hnc27 := NB327_325.out
      have hcz28 := bc3 BK325.out
      go_wp2
      go_ret
      exact ⟨er_, bl_⟩
    rw [if_neg c23] at H
    have c23b0 : decide (1125899906842624 < (wrap64 ((wrap64 (a0_1 + a4)) + a1_3))) = false := decide_eq_false c23
    clear c23
    obtain rfl := Option.some.inj H
    have hnb29 := NB326_325.out
    have hnc29 := NB325_326.out
    have hnb30 := NB326_327.out
    have hnc30 := NB327_326.out
    have hcz31 := bc4 BK326.out
    have hnb32 := NB325_327.out
    have hnc32 := NB327_325.out
    have hcz33 := bc3 BK325.out
    go_wp2
    go_ret
    exact ⟨er_, bl_⟩
def value_numeric.f (a0 : Int) : Option (Bool) := if a0 = 2 then (some true) else (some (a0 == 3))
set_option maxHeartbeats 8000000 in
set_option maxRecDepth 100000 in
theorem value_numeric.calls (a0 : Int) (r : Bool) (w : World) (h : value_numeric.f a0 = some r) :
    Calls Try.prog 33 #[.int .i64 a0] w fun e w' => e = .returned (.bool r) ∧ Drawn0 w w' := by
  have H : (if a0 = 2 then (some true) else (some (a0 == 3))) = some r := h
  clear h
  by_cases c2 : a0 = 2
  rotate_left
  · rw [if_neg c2] at H
    have c2b0 : (a0 == 2) = false := beq_eq_false_iff_ne.mpr c2
    have c2b1 : (a0 != 2) = true := bne_iff_ne.mpr c2
    obtain rfl := Option.some.inj H
    go_enter Try.func33, Try.ntmps33
    go_wp2
    go_ret
    exact ⟨by first | rfl | (simp; done) | (simp [*]; done), by repeat (first | exact Drawn0.refl _ | apply Drawn0.step)⟩
  rw [if_pos c2] at H
  have c2b0 : (a0 == 2) = true := beq_iff_eq.mpr c2
  have c2b1 : (a0 != 2) = false := bne_eq_false_iff_eq.mpr c2
  clear c2
  obtain rfl := Option.some.inj H
  go_enter Try.func33, Try.ntmps33
  go_wp2
  go_ret
  exact ⟨by first | rfl | (simp; done) | (simp [*]; done), by repeat (first | exact Drawn0.refl _ | apply Drawn0.step)⟩
end Go.Proofs.Ytjiblcncadekcaa.PA

