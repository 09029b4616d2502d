import Derived.Test.YtjiblcncadekcaaGreatQOxPAx0
import Derived.Test.YtjiblcncadekcaaGreatQOxPAx2
import Derived.Test.YtjiblcncadekcaaGreatQOxPAx10
namespace Go.Proofs.YtjiblcncadekcaaGreat.PA
open Go.Proofs.YtjiblcncadekcaaGreat.PL
open Go.RowKit Go.Proofs.YtjiblcncadekcaaGreatW.PrintWords Go.Proofs.YtjiblcncadekcaaGreatW.PrintLast Go.Proofs.YtjiblcncadekcaaGreatW.PrintMore
attribute [local go_sem] max2_int min2_int bl_leq max_two min_two max_three min_three max_four min_four
set_option linter.unusedVariables false
set_option linter.unusedSimpArgs false
attribute [local go_sem high] eqA40 eqA73
def method_Changes.j0 : Nat → Int → Bool → Int → ByteArray → ByteArray → Int → Int → ByteArray → Int → Option (Bool)
  | 0, _, _, _, _, _, _, _, _, _ => none
  | k + 1, x6, x7, x321000, x321001, x321002, x321003, x322000, x322001, x322002 => if x7 = true then (some true) else (if x6 = 3 then (some (x321003 != 0)) else (if x6 = 6 then (some (x322000 == 1)) else (if x6 = 8 then (some (x322000 == 1)) else (if x6 = 9 then (some (x322000 == 1)) else (if x6 = 11 then (some (x322000 == 1)) else (if x6 = 12 then (some (x322000 == 1)) else (if x6 = 15 then (some (x322000 == 1)) else (if x6 = 17 then (some (x322000 == 1)) else (some false)))))))))
def method_Changes.f (k : Nat) (a0_0 : Int) (a0_1 : ByteArray) (a0_2 : ByteArray) (a0_3 : Int) (a1_0 : Int) (a1_1 : ByteArray) (a1_2 : Int) : Option (Bool) := if a0_0 = 2 then (method_Changes.j0 k a0_0 (a0_0 == 2) a0_0 a0_1 a0_2 a0_3 a1_0 a1_1 a1_2) else (if a0_0 = 5 then (method_Changes.j0 k a0_0 (a0_0 == 5) a0_0 a0_1 a0_2 a0_3 a1_0 a1_1 a1_2) else (if a0_0 = 14 then (method_Changes.j0 k a0_0 (a0_0 == 14) a0_0 a0_1 a0_2 a0_3 a1_0 a1_1 a1_2) else (method_Changes.j0 k a0_0 (a0_0 == 16) a0_0 a0_1 a0_2 a0_3 a1_0 a1_1 a1_2)))
set_option maxHeartbeats 8000000 in
set_option maxRecDepth 100000 in
theorem method_Changes.calls (k : Nat) (a0_0 : Int) (a0_1 : ByteArray) (a0_2 : ByteArray) (a0_3 : Int) (a1_0 : Int) (a1_1 : ByteArray) (a1_2 : Int) (r : Bool) (w : World) (h : method_Changes.f k a0_0 a0_1 a0_2 a0_3 a1_0 a1_1 a1_2 = some r) :
    Calls Tryz.prog 36 #[.agg #[.int .i64 a0_0, .string a0_1, .string a0_2, .int .i64 a0_3], .agg #[.int .i64 a1_0, .string a1_1, .int .i64 a1_2]] w fun e w' => e = .returned (.bool r) ∧ Below w.heap.size w w' := by
  have hu38 := Tryz.underlying38
  have hu40 := Tryz.underlying40
  have HB := Z0.mk (Below.refl w.heap.size w)
  have H : (if a0_0 = 2 then (method_Changes.j0 k a0_0 (a0_0 == 2) a0_0 a0_1 a0_2 a0_3 a1_0 a1_1 a1_2) else (if a0_0 = 5 then (method_Changes.j0 k a0_0 (a0_0 == 5) a0_0 a0_1 a0_2 a0_3 a1_0 a1_1 a1_2) else (if a0_0 = 14 then (method_Changes.j0 k a0_0 (a0_0 == 14) a0_0 a0_1 a0_2 a0_3 a1_0 a1_1 a1_2) else (method_Changes.j0 k a0_0 (a0_0 == 16) a0_0 a0_1 a0_2 a0_3 a1_0 a1_1 a1_2)))) = some r := h
  clear h
  have HC3 := Z0.mk H
  clear H
  go_enter Tryz.func36, Tryz.ntmps36
  go_upto_if 7 with (first | ((with_reducible refine gds (N := 2) rfl ?_); refine bx_ (N := 2) (cs := #[.int .i64 a0_0, .string a0_1, .string a0_2, .int .i64 a0_3]) (t := 38) ?_; intro gb320 hg w4 hbox hb; have n0_ := Z0.mk (bsp bl_ hb); have n1_ := Z0.mk (hbox); have n2_ := Z0.mk ((by rw [hg]; exact bsz bl_ : w.heap.size ≤ gb320)); have n3_ := Z0.mk ((by rw [hg]; exact bsz bl_ : w.heap.size ≤ gb320)); clear HB; have HB := n0_; have BK320 := n1_; have GW320 := n2_; have GE320 := n3_; clear n0_ n1_ n2_ n3_; clear hb hbox hg) | ((with_reducible refine gds (N := 3) rfl ?_); refine bx_ (N := 3) (cs := #[.int .i64 a1_0, .string a1_1, .int .i64 a1_2]) (t := 40) ?_; intro gb321 hg w5 hbox hb; have n0_ := Z0.mk (kbl (g := gb320) bk_ hb); have n1_ := Z0.mk (bsp bl_ hb); have n2_ := Z0.mk (hbox); have n3_ := Z0.mk ((by rw [hg]; exact bsz bl_ : w.heap.size ≤ gb321)); have n4_ := Z0.mk ((by rw [hg]; exact bsz bl_ : w.heap.size ≤ gb321)); have n5_ := Z0.mk ((by rw [hg]; exact Nat.ne_of_lt (klt_ (g := gb320) bk_) : gb320 ≠ gb321)); have n6_ := Z0.mk ((by rw [hg]; exact Nat.ne_of_gt (klt_ (g := gb320) bk_) : gb321 ≠ gb320)); clear BK320; clear HB; have BK320 := n0_; have HB := n1_; have BK321 := n2_; have GW321 := n3_; have GE321 := n4_; have NB320_321 := n5_; have NB321_320 := n6_; clear n0_ n1_ n2_ n3_ n4_ n5_ n6_; clear hb hbox hg; have hnb6 := NB320_321.out; have hnc6 := NB321_320.out; have hcz7 := bc4 BK320.out))
  (try simp only [Act.put, List.setIfInBounds_toArray, List.set_cons_zero, List.set_cons_succ])
  go_cut [7] (fun v7 wc => ∃ (kq : Nat) (x7_2 : Bool), v7 = .bool x7_2 ∧ Z0 (method_Changes.j0 kq a0_0 x7_2 a0_0 a0_1 a0_2 a0_3 a1_0 a1_1 a1_2 = some r) ∧ Z0 (kq ≤ k) ∧ Z0 (wc.heap[gb320]? = some (.cells #[.int .i64 a0_0, .string a0_1, .string a0_2, .int .i64 a0_3] 38 (0, 0))) ∧ Z0 (wc.heap[gb321]? = some (.cells #[.int .i64 a1_0, .string a1_1, .int .i64 a1_2] 40 (0, 0))) ∧ Z0 (Below w.heap.size w wc))
  case first =>
    have H := HC3.out
    clear HC3
    by_cases c8 : a0_0 = 2
    · rw [if_pos c8] at H
      have c8b0 : (a0_0 == 2) = true := beq_iff_eq.mpr c8
      have c8b1 : (a0_0 != 2) = false := bne_eq_false_iff_eq.mpr c8
      clear c8
      (first | rw [c8b0] | (simp only [i64_w, i32_w]; rw [c8b0]) | skip)
      have H' := Z0.mk H
      clear H
      go_wp2
      go_meet
      case rel => exact ⟨_, ((a0_0 == 2)), eqv_, H', ⟨by first | omega | exact Nat.le_refl _⟩, ⟨bk_⟩, ⟨bk_⟩, ⟨bl_⟩⟩
    rw [if_neg c8] at H
    have c8b0 : (a0_0 == 2) = false := beq_eq_false_iff_ne.mpr c8
    have c8b1 : (a0_0 != 2) = true := bne_iff_ne.mpr c8
    (first | rw [c8b0] | (simp only [i64_w, i32_w]; rw [c8b0]) | skip)
    by_cases c9 : a0_0 = 5
    · rw [if_pos c9] at H
      have c9b0 : (a0_0 == 5) = true := beq_iff_eq.mpr c9
      have c9b1 : (a0_0 != 5) = false := bne_eq_false_iff_eq.mpr c9
      clear c9
      have H' := Z0.mk H
      clear H
      go_wp2
      go_meet
      case rel => exact ⟨_, ((a0_0 == 5)), eqv_, H', ⟨by first | omega | exact Nat.le_refl _⟩, ⟨bk_⟩, ⟨bk_⟩, ⟨bl_⟩⟩
    rw [if_neg c9] at H
    have c9b0 : (a0_0 == 5) = false := beq_eq_false_iff_ne.mpr c9
    have c9b1 : (a0_0 != 5) = true := bne_iff_ne.mpr c9
    by_cases c10 : a0_0 = 14
    rotate_left
    · rw [if_neg c10] at H
      have c10b0 : (a0_0 == 14) = false := beq_eq_false_iff_ne.mpr c10
      have c10b1 : (a0_0 != 14) = true := bne_iff_ne.mpr c10
      have H' := Z0.mk H
      clear H
      go_wp2
      go_meet
      case rel => exact ⟨_, ((a0_0 == 16)), eqv_, H', ⟨by first | omega | exact Nat.le_refl _⟩, ⟨bk_⟩, ⟨bk_⟩, ⟨bl_⟩⟩
    rw [if_pos c10] at H
    have c10b0 : (a0_0 == 14) = true := beq_iff_eq.mpr c10
    have c10b1 : (a0_0 != 14) = false := bne_eq_false_iff_eq.mpr c10
    clear c10
    have H' := Z0.mk H
    clear H
    go_wp2
    go_meet
    case rel => exact ⟨_, ((a0_0 == 14)), eqv_, H', ⟨by first | omega | exact Nat.le_refl _⟩, ⟨bk_⟩, ⟨bk_⟩, ⟨bl_⟩⟩
  clear HC3
  try clear c1
  try clear p2
  try clear c3
  try clear c6
  try clear c8
  try clear c8b0
  try clear c8b1
  try clear c9
  try clear c9b0
  try clear c9b1
  try clear c10
  try clear c10b0
  try clear c10b1
  try clear hcz7
  obtain ⟨kq, x7_2, rfl, HA, HJ2, BK320, BK321, HB⟩ := hcut
  cases kq with
  | zero => exact absurd HA.out (by simp [method_Changes.j0])
  | succ kj2 =>
    have H := HA.out
    clear HA
    simp only [method_Changes.j0] at H
    by_cases c11 : x7_2 = true
    · subst c11
      have H1 : (some true) = some r := by rw [if_pos rfl] at H; exact H
      clear H
      have H := H1
      clear H1
      obtain rfl := Option.some.inj H
      go_wp2
      go_ret
      exact ⟨er_, bl_⟩
    replace c11 := Bool.eq_false_iff.mpr c11
    subst c11
    have H1 : (if a0_0 = 3 then (some (a0_3 != 0)) else (if a0_0 = 6 then (some (a1_0 == 1)) else (if a0_0 = 8 then (some (a1_0 == 1)) else (if a0_0 = 9 then (some (a1_0 == 1)) else (if a0_0 = 11 then (some (a1_0 == 1)) else (if a0_0 = 12 then (some (a1_0 == 1)) else (if a0_0 = 15 then (some (a1_0 == 1)) else (if a0_0 = 17 then (some (a1_0 == 1)) else (some false))))))))) = some r := by rw [if_neg (show ¬ (false = true) by decide)] at H; exact H
    clear H
    have H := H1
    clear H1
    by_cases c12 : a0_0 = 3
    · rw [if_pos c12] at H
      have c12b0 : (a0_0 == 3) = true := beq_iff_eq.mpr c12
      have c12b1 : (a0_0 != 3) = false := bne_eq_false_iff_eq.mpr c12
      clear c12
      obtain rfl := Option.some.inj H
      have hnb13 := NB320_321.out
      have hnc13 := NB321_320.out
      have hcz14 := bc4 BK320.out
      go_wp2
      go_ret
      exact ⟨er_, bl_⟩
    rw [if_neg c12] at H
    have c12b0 : (a0_0 == 3) = false := beq_eq_false_iff_ne.mpr c12
    have c12b1 : (a0_0 != 3) = true := bne_iff_ne.mpr c12
    by_cases c15 : a0_0 = 6
    · rw [if_pos c15] at H
      have c15b0 : (a0_0 == 6) = true := beq_iff_eq.mpr c15
      have c15b1 : (a0_0 != 6) = false := bne_eq_false_iff_eq.mpr c15
      clear c15
      obtain rfl := Option.some.inj H
      have hnb16 := NB321_320.out
      have hnc16 := NB320_321.out
      have hcz17 := bc3 BK321.out
      go_wp2
      go_ret
      exact ⟨er_, bl_⟩
    rw [if_neg c15] at H
    have c15b0 : (a0_0 == 6) = false := beq_eq_false_iff_ne.mpr c15
    have c15b1 : (a0_0 != 6) = true := bne_iff_ne.mpr c15
    by_cases c18 : a0_0 = 8
    · rw [if_pos c18] at H
      have c18b0 : (a0_0 == 8) = true := beq_iff_eq.mpr c18
      have c18b1 : (a0_0 != 8) = false := bne_eq_false_iff_eq.mpr c18
      clear c18
      obtain rfl := Option.some.inj H
      have hnb19 := NB321_320.out
      have hnc19 := NB320_321.out
      have hcz20 := bc3 BK321.out
      go_wp2
      go_ret
      exact ⟨er_, bl_⟩
    rw [if_neg c18] at H
    have c18b0 : (a0_0 == 8) = false := beq_eq_false_iff_ne.mpr c18
    have c18b1 : (a0_0 != 8) = true := bne_iff_ne.mpr c18
    by_cases c21 : a0_0 = 9
    · rw [if_pos c21] at H
      have c21b0 : (a0_0 == 9) = true := beq_iff_eq.mpr c21
      have c21b1 : (a0_0 != 9) = false := bne_eq_false_iff_eq.mpr c21
      clear c21
      obtain rfl := Option.some.inj H
      have hnb22 := NB321_320.out
      have hnc22 := NB320_321.out
      have hcz23 := bc3 BK321.out
      go_wp2
      go_ret
      exact ⟨er_, bl_⟩
    rw [if_neg c21] at H
    have c21b0 : (a0_0 == 9) = false := beq_eq_false_iff_ne.mpr c21
    have c21b1 : (a0_0 != 9) = true := bne_iff_ne.mpr c21
    by_cases c24 : a0_0 = 11
    · rw [if_pos c24] at H
      have c24b0 : (a0_0 == 11) = true := beq_iff_eq.mpr c24
      have c24b1 : (a0_0 != 11) = false := bne_eq_false_iff_eq.mpr c24
      clear c24
      obtain rfl := Option.some.inj H
      have hnb25 := NB321_320.out
      have hnc25 := NB320_321.out
      have hcz26 := bc3 BK321.out
      go_wp2
      go_ret
      exact ⟨er_, bl_⟩
    rw [if_neg c24] at H
    have c24b0 : (a0_0 == 11) = false := beq_eq_false_iff_ne.mpr c24
    have c24b1 : (a0_0 != 11) = true := bne_iff_ne.mpr c24
    by_cases c27 : a0_0 = 12
    · rw [if_pos c27] at H
      have c27b0 : (a0_0 == 12) = true := beq_iff_eq.mpr c27
      have c27b1 : (a0_0 != 12) = false := bne_eq_false_iff_eq.mpr c27
      clear c27
      obtain rfl := Option.some.inj H
      have hnb28 := NB321_320.out
      have hnc28 := NB320_321.out
      have hcz29 := bc3 BK321.out
      go_wp2
      go_ret
      exact ⟨er_, bl_⟩
    rw [if_neg c27] at H
    have c27b0 : (a0_0 == 12) = false := beq_eq_false_iff_ne.mpr c27
    have c27b1 : (a0_0 != 12) = true := bne_iff_ne.mpr c27
    by_cases c30 : a0_0 = 15
    · rw [if_pos c30] at H
      have c30b0 : (a0_0 == 15) = true := beq_iff_eq.mpr c30
      have c30b1 : (a0_0 != 15) = false := bne_eq_false_iff_eq.mpr c30
      clear c30
      obtain rfl := Option.some.inj H
      have hnb31 := NB321_320.out
      have hnc31 := NB320_321.out
      have hcz32 := bc3 BK321.out
      go_wp2
      go_ret
      exact ⟨er_, bl_⟩
    rw [if_neg c30] at H
    have c30b0 : (a0_0 == 15) = false := beq_eq_false_iff_ne.mpr c30
    have c30b1 : (a0_0 != 15) = true := bne_iff_ne.mpr c30
    by_cases c33 : a0_0 = 17
    rotate_left
    · rw [if_neg c33] at H
      have c33b0 : (a0_0 == 17) = false := beq_eq_false_iff_ne.mpr c33
      have c33b1 : (a0_0 != 17) = true := bne_iff_ne.mpr c33
      obtain rfl := Option.some.inj H
      go_wp2
      go_ret
      exact ⟨er_, bl_⟩
    rw [if_pos c33] at H
    have c33b0 : (a0_0 == 17) = true := beq_iff_eq.mpr c33
    have c33b1 : (a0_0 != 17) = false := bne_eq_false_iff_eq.mpr c33
    clear c33
    obtain rfl := Option.some.inj H
    have hnb34 := NB321_320.out
    have hnc34 := NB320_321.out
    have hcz35 := bc3 BK321.out
    go_wp2
    go_ret
    exact ⟨er_, bl_⟩
def adt_Legal.l0 : Nat → List (S40) → Int → Int → Int → ByteArray → Int → Option (Bool)
  | 0, _, _, _, _, _, _ => none
  | k + 1, x11, x12, x13, x357000, x357001, x357002 => if x13 < x12 then (if 0 ≤ x13 then (if x13 < (x11.length : Int) then (if (((rd_T40 x11 x13).f0) == x357000 && ((((rd_T40 x11 x13).f1).toList) == x357001.toList && (((rd_T40 x11 x13).f2) == x357002))) = true then (some true) else (adt_Legal.l0 k x11 x12 (wrap64 (x13 + 1)) x357000 x357001 x357002)) else (none)) else (none)) else (some false)
def adt_Legal.f (k : Nat) (a0_0 : Int) (a0_1 : Int) (l0_2 : List (S73)) (a1_0 : Int) (a1_1 : ByteArray) (a1_2 : ByteArray) (a1_3 : Int) (a2_0 : Int) (a2_1 : ByteArray) (a2_2 : Int) : Option (Bool) := (adt_Answers.f k a0_0 a0_1 l0_2 a1_0 a1_1 a1_2 a1_3).bind fun t357 => (adt_Legal.l0 k t357 (t357.length : Int) 0 a2_0 a2_1 a2_2)
set_option maxHeartbeats 8000000 in
set_option maxRecDepth 100000 in
theorem adt_Legal.calls (k : Nat) (a0_0 : Int) (a0_1 : Int) (A0_2 : Option Addr) (c0_2 : Nat) (l0_2 : List (S73)) (a1_0 : Int) (a1_1 : ByteArray) (a1_2 : ByteArray) (a1_3 : Int) (a2_0 : Int) (a2_1 : ByteArray) (a2_2 : Int) (r : Bool) (w : World) (hr0_2 : Kd.C k73 w A0_2 l0_2.length l0_2) (hc0_2 : l0_2.length ≤ c0_2) (h : adt_Legal.f k a0_0 a0_1 l0_2 a1_0 a1_1 a1_2 a1_3 a2_0 a2_1 a2_2 = some r) :
    Calls Tryz.prog 15 #[.agg #[.int .i64 a0_0, .int .i64 a0_1, .slice A0_2 l0_2.length c0_2], .agg #[.int .i64 a1_0, .string a1_1, .string a1_2, .int .i64 a1_3], .agg #[.int .i64 a2_0, .string a2_1, .int .i64 a2_2]] w fun e w' => e = .returned (.bool r) ∧ Below w.heap.size w w' := by
  have hu24 := Tryz.underlying24
  have hu38 := Tryz.underlying38
  have hu40 := Tryz.underlying40
  have HR0_2 := Z0.mk hr0_2
  have HC0_2 := Z0.mk hc0_2
  clear hr0_2 hc0_2
  have HB := Z0.mk (Below.refl w.heap.size w)
  have H : ((adt_Answers.f k a0_0 a0_1 l0_2 a1_0 a1_1 a1_2 a1_3).bind fun t357 => (adt_Legal.l0 k t357 (t357.length : Int) 0 a2_0 a2_1 a2_2)) = some r := h
  clear h
  replace H := Option.bind_eq_some_iff.mp H
  obtain ⟨t357, A40, H⟩ := H
  replace H : (adt_Legal.l0 k t357 (t357.length : Int) 0 a2_0 a2_1 a2_2) = some r := H
  have A4 := Z0.mk A40
  clear A40
  have H' := Z0.mk H
  clear H
  go_enter Tryz.func15, Tryz.ntmps15
  go_wp2_with (first | ((with_reducible refine gds (N := 3) rfl ?_); refine bx_ (N := 3) (cs := #[.int .i64 a0_0, .int .i64 a0_1, .slice A0_2 l0_2.length c0_2]) (t := 24) ?_; intro gb354 hg w5 hbox hb; have n0_ := Z0.mk (bsp bl_ hb); have n1_ := Z0.mk (hbox); have n2_ := Z0.mk ((by rw [hg]; exact bsz bl_ : w.heap.size ≤ gb354)); have n3_ := Z0.mk ((by rw [hg]; exact bsz bl_ : w.heap.size ≤ gb354)); clear HB; have HB := n0_; have BK354 := n1_; have GW354 := n2_; have GE354 := n3_; clear n0_ n1_ n2_ n3_; clear hb hbox hg) | ((with_reducible refine gds (N := 4) rfl ?_); refine bx_ (N := 4) (cs := #[.int .i64 a1_0, .string a1_1, .string a1_2, .int .i64 a1_3]) (t := 38) ?_; intro gb355 hg w6 hbox hb; have n0_ := Z0.mk (kbl (g := gb354) bk_ hb); have n1_ := Z0.mk (bsp bl_ hb); have n2_ := Z0.mk (hbox); have n3_ := Z0.mk ((by rw [hg]; exact bsz bl_ : w.heap.size ≤ gb355)); have n4_ := Z0.mk ((by rw [hg]; exact bsz bl_ : w.heap.size ≤ gb355)); have n5_ := Z0.mk ((by rw [hg]; exact Nat.ne_of_lt (klt_ (g := gb354) bk_) : gb354 ≠ gb355)); have n6_ := Z0.mk ((by rw [hg]; exact Nat.ne_of_gt (klt_ (g := gb354) bk_) : gb355 ≠ gb354)); clear BK354; clear HB; have BK354 := n0_; have HB := n1_; have BK355 := n2_; have GW355 := n3_; have GE355 := n4_; have NB354_355 := n5_; have NB355_354 := n6_; clear n0_ n1_ n2_ n3_ n4_ n5_ n6_; clear hb hbox hg) | ((with_reducible refine gds (N := 5) rfl ?_); refine bx_ (N := 5) (cs := #[.int .i64 a2_0, .string a2_1, .int .i64 a2_2]) (t := 40) ?_; intro gb356 hg w7 hbox hb; have n0_ := Z0.mk (kbl (g := gb354) bk_ hb); have n1_ := Z0.mk (kbl (g := gb355) bk_ hb); have n2_ := Z0.mk (bsp bl_ hb); have n3_ := Z0.mk (hbox); have n4_ := Z0.mk ((by rw [hg]; exact bsz bl_ : w.heap.size ≤ gb356)); have n5_ := Z0.mk ((by rw [hg]; exact bsz bl_ : w.heap.size ≤ gb356)); have n6_ := Z0.mk ((by rw [hg]; exact Nat.ne_of_lt (klt_ (g := gb354) bk_) : gb354 ≠ gb356)); have n7_ := Z0.mk ((by rw [hg]; exact Nat.ne_of_gt (klt_ (g := gb354) bk_) : gb356 ≠ gb354)); have n8_ := Z0.mk ((by rw [hg]; exact Nat.ne_of_lt (klt_ (g := gb355) bk_) : gb355 ≠ gb356)); have n9_ := Z0.mk ((by rw [hg]; exact Nat.ne_of_gt (klt_ (g := gb355) bk_) : gb356 ≠ gb355)); clear BK354; clear BK355; clear HB; have BK354 := n0_; have BK355 := n1_; have HB := n2_; have BK356 := n3_; have GW356 := n4_; have GE356 := n5_; have NB354_356 := n6_; have NB356_354 := n7_; have NB355_356 := n8_; have NB356_355 := n9_; clear n0_ n1_ n2_ n3_ n4_ n5_ n6_ n7_ n8_ n9_; clear hb hbox hg; have hnb8 := NB354_355.out; have hnc8 := NB355_354.out; have hnb9 := NB354_356.out; have hnc9 := NB356_354.out; have hcz10 := bc3 BK354.out; have hnb11 := NB355_356.out; have hnc11 := NB356_355.out; have hcz12 := bc4 BK355.out) | ((with_reducible refine gcl (f := 9) rfl ?_); refine gl_ (some 11) rfl rfl Tryz.func9 (by kernel_rfl) rfl #[.agg #[.int .i64 a0_0, .int .i64 a0_1, .slice A0_2 l0_2.length c0_2], .agg #[.int .i64 a1_0, .string a1_1, .string a1_2, .int .i64 a1_3]] rfl ar_ ?_; (with_reducible refine (adt_Answers.calls k a0_0 a0_1 _ _ l0_2 a1_0 a1_1 a1_2 a1_3 t357 _ ?side1 ?side2 A4.out).mono ?_); (case side1 => repeat (first | exact (Kd.C_below HR0_2.out HB.out) | (with_reducible refine Kd.C_alloc ?_ _) | (with_reducible refine Kd.C_drewN ?_ _) | (with_reducible refine Kd.C_drew ?_))); (case side2 => exact HC0_2.out); rintro e w13 ⟨v358, rfl, ho0, hb⟩; refine ⟨_, rfl, ?_⟩; have n0_ := Z0.mk (Kd.R_lower (Kd.R_newB ho0 (g := gb356) bk_) (bsz bl_)); have n1_ := Z0.mk (kbl (g := gb354) bk_ hb); have n2_ := Z0.mk (kbl (g := gb355) bk_ hb); have n3_ := Z0.mk (kbl (g := gb356) bk_ hb); have n4_ := Z0.mk (bsp bl_ hb); clear BK354; clear BK355; clear BK356; clear HB; have HO359 := n0_; have BK354 := n1_; have BK355 := n2_; have BK356 := n3_; have HB := n4_; clear n0_ n1_ n2_ n3_ n4_; (try clear hb); (try clear hb2); (try clear hk); (try clear hi); (try clear ho0); obtain ⟨Ao14, co14, eo14⟩ := Kd.R_slice HO359.out; subst eo14))
  go_loopg [13] k (fun kq v13 w' => ∃ (x13_1 : Int), v13 = .int .i64 x13_1 ∧ Z0 (adt_Legal.l0 kq t357 (t357.length : Int) x13_1 a2_0 a2_1 a2_2 = some r) ∧ Z0 (kq ≤ k) ∧ Z0 (Kd.R k40 40 w' w.heap.size (fun k_ => k_ ≠ gb356) (.slice Ao14 t357.length co14) t357) ∧ Z0 (w'.heap[gb354]? = some (.cells #[.int .i64 a0_0, .int .i64 a0_1, (.slice A0_2 l0_2.length c0_2)] 24 (0, 0))) ∧ Z0 (w'.heap[gb355]? = some (.cells #[.int .i64 a1_0, .string a1_1, .string a1_2, .int .i64 a1_3] 38 (0, 0))) ∧ Z0 (w'.heap[gb356]? = some (.cells #[.int .i64 a2_0, .string a2_1, .int .i64 a2_2] 40 (0, 0))) ∧ Z0 (Below w.heap.size w w'))
  case atStart => exact ⟨(0), eqv_, H', ⟨Nat.le_refl _⟩, ⟨by (with_reducible repeat (first | apply Kd.R_alloc | apply Kd.R_drewN | apply Kd.R_drew)); exact Kd.R_mono HO359.out (fun _ hk => hk.2)⟩, ⟨bk_⟩, ⟨bk_⟩, ⟨bk_⟩, ⟨bl_⟩⟩
  clear H'
  try clear c1
  try clear p2
  try clear c8
  try clear c9
  try clear c11
  try clear hcz10
  try clear hcz12
  try clear hcz10
  try clear hcz12
  obtain ⟨x13_1, rfl, HA, HK1, HO_11, BK354, BK355, BK356, HB⟩ := hrel
  cases gk with
  | zero => exact absurd HA.out (by simp [adt_Legal.l0])
  | succ k1 =>
    have H := HA.out
    clear HA
    simp only [adt_Legal.l0] at H
    by_cases c15 : x13_1 < (t357.length : Int)
    rotate_left
    · rw [if_neg c15] at H
      have c15b0 : decide (x13_1 < (t357.length : Int)) = false := decide_eq_false c15
      clear c15
      obtain rfl := Option.some.inj H
      go_wp2
      go_ret
      exact ⟨er_, bl_⟩
    rw [if_pos c15] at H
    have c15b0 : decide (x13_1 < (t357.length : Int)) = true := decide_eq_true c15
    clear c15
    by_cases c16 : 0 ≤ x13_1
    rotate_left
    · rw [if_neg c16] at H
      exact absurd H (by simp)
    rw [if_pos c16] at H
    have c16b0 : decide (0 ≤ x13_1) = true := decide_eq_true c16
    clear c16
    by_cases c17 : x13_1 < (t357.length : Int)
    rotate_left
    · rw [if_neg c17] at H
      exact absurd H (by simp)
    rw [if_pos c17] at H
    have c17b0 : decide (x13_1 < (t357.length : Int)) = true := decide_eq_true c17
    clear c17
    have HS18 := Z0.mk H
    clear H
    have p360 : 0 ≤ (x13_1 : Int) := of_decide_eq_true (by first | (with_reducible assumption) | assumption)
    have q360 : x13_1 < (t357.length : Int) := of_decide_eq_true (by first | (with_reducible assumption) | assumption)
    obtain ⟨ad360, e360, hx360_0, hx360_1, hx360_2⟩ := at_T40 (Kd.R_reads' HO_11.out).2.2 x13_1 p360 q360
    cases e360
    replace p360 := eq_true p360
    replace q360 := eq_true q360
    go_upto_if 19 with (first | ((with_reducible refine gds (N := 8) rfl ?_); refine bx_ (N := 8) (cs := #[.int .i64 0, .string (⟨#[]⟩ : ByteArray), .int .i64 0]) (t := 40) ?_; intro gb361 hg w19 hbox hb; have n0_ := Z0.mk (Kd.R_below (Kd.R_elderB (by (with_reducible repeat (first | apply Kd.R_alloc | apply Kd.R_drewN | apply Kd.R_drew)); exact HO_11.out) gb361 (Nat.le_of_eq hg.symm)) hb); have n1_ := Z0.mk (kbl (g := gb354) bk_ hb); have n2_ := Z0.mk (kbl (g := gb355) bk_ hb); have n3_ := Z0.mk (kbl (g := gb356) bk_ hb); have n4_ := Z0.mk (bsp bl_ hb); have n5_ := Z0.mk (hbox); have n6_ := Z0.mk ((by rw [hg]; exact bsz bl_ : w.heap.size ≤ gb361)); have n7_ := Z0.mk ((by rw [hg]; exact bsz bl_ : w.heap.size ≤ gb361)); have n8_ := Z0.mk ((by rw [hg]; exact Nat.ne_of_lt (klt_ (g := gb354) bk_) : gb354 ≠ gb361)); have n9_ := Z0.mk ((by rw [hg]; exact Nat.ne_of_gt (klt_ (g := gb354) bk_) : gb361 ≠ gb354)); have n10_ := Z0.mk ((by rw [hg]; exact Nat.ne_of_lt (klt_ (g := gb355) bk_) : gb355 ≠ gb361)); have n11_ := Z0.mk ((by rw [hg]; exact Nat.ne_of_gt (klt_ (g := gb355) bk_) : gb361 ≠ gb355)); have n12_ := Z0.mk ((by rw [hg]; exact Nat.ne_of_lt (klt_ (g := gb356) bk_) : gb356 ≠ gb361)); have n13_ := Z0.mk ((by rw [hg]; exact Nat.ne_of_gt (klt_ (g := gb356) bk_) : gb361 ≠ gb356)); clear HO_11; clear BK354; clear BK355; clear BK356; clear HB; have HO_11 := n0_; have BK354 := n1_; have BK355 := n2_; have BK356 := n3_; have HB := n4_; have BK361 := n5_; have GW361 := n6_; have GE361 := n7_; have NB354_361 := n8_; have NB361_354 := n9_; have NB355_361 := n10_; have NB361_355 := n11_; have NB356_361 := n12_; have NB361_356 := n13_; clear n0_ n1_ n2_ n3_ n4_ n5_ n6_ n7_ n8_ n9_ n10_ n11_ n12_ n13_; clear hb hbox hg; have hnb20 := NB361_354.out; have hnc20 := NB354_361.out; have hnb21 := NB361_355.out; have hnc21 := NB355_361.out; have hnb22 := NB361_356.out; have hnc22 := NB356_361.out; have hcz23 := bc3 BK361.out; have hnb24 := NB356_354.out; have hnc24 := NB354_356.out; have hnb25 := NB356_355.out; have hnc25 := NB355_356.out; have hcz26 := bc3 BK356.out))
    (try simp only [Act.put, List.setIfInBounds_toArray, List.set_cons_zero, List.set_cons_succ])
    have H := HS18.out
    clear HS18
    by_cases c27 : (((rd_T40 t357 x13_1).f0) == a2_0 && ((((rd_T40 t357 x13_1).f1).toList) == a2_1.toList && (((rd_T40 t357 x13_1).f2) == a2_2))) = true
    · rw [if_pos c27] at H
      have c27b0 : (((rd_T40 t357 x13_1).f0) == a2_0 && ((((rd_T40 t357 x13_1).f1).toList) == a2_1.toList && (((rd_T40 t357 x13_1).f2) == a2_2))) = true := c27
      (try (have c27b1 : decide (((rd_T40 t357 x13_1).f0) = a2_0 && ((((rd_T40 t357 x13_1).f1).toList) == a2_1.toList && (((rd_T40 t357 x13_1).f2) == a2_2))) = true := by simpa using c27))
      (try (have c27b2 : (((rd_T40 t357 x13_1).f0) == a2_0 && ((((rd_T40 t357 x13_1).f1).toList) == a2_1.toList && (((rd_T40 t357 x13_1).f2) == a2_2))) = true := by simpa using c27))
      clear c27
      (first | rw [c27b0] | (simp only [i64_w, i32_w]; rw [c27b0]) | skip)
      obtain rfl := Option.some.inj H
      go_wp2
      go_ret
      exact ⟨er_, bl_⟩
    rw [if_neg c27] at H
    have c27b0 : (((rd_T40 t357 x13_1).f0) == a2_0 && ((((rd_T40 t357 x13_1).f1).toList) == a2_1.toList && (((rd_T40 t357 x13_1).f2) == a2_2))) = false := by simpa using c27
    (try (have c27b1 : decide (((rd_T40 t357 x13_1).f0) = a2_0 && ((((rd_T40 t357 x13_1).f1).toList) == a2_1.toList && (((rd_T40 t357 x13_1).f2) == a2_2))) = false := by simpa using c27))
    (try (have c27b2 : (((rd_T40 t357 x13_1).f0) == a2_0 && ((((rd_T40 t357 x13_1).f1).toList) == a2_1.toList && (((rd_T40 t357 x13_1).f2) == a2_2))) = false := by simpa using c27))
    (try (have c27b3 : ¬ (((rd_T40 t357 x13_1).f0) = a2_0 && ((((rd_T40 t357 x13_1).f1).toList) == a2_1.toList && (((rd_T40 t357 x13_1).f2) == a2_2))) := by simpa using c27))
    clear c27
    (first | rw [c27b0] | (simp only [i64_w, i32_w]; rw [c27b0]) | skip)
    have H' := Z0.mk H
    clear H
    go_wp2
    go_roundg k1
    case measure => have := HK1.out; omega
    case rel => exact ⟨(wrap64 (x13_1 + 1)), eqv_, H', ⟨by have := HK1.out; omega⟩, ⟨by (with_reducible repeat (first | apply Kd.R_alloc | apply Kd.R_drewN | apply Kd.R_drew)); exact Kd.R_mono (Kd.R_far (p := ⟨gb361, 2, none⟩) (Kd.R_far (p := ⟨gb361, 1, none⟩) (Kd.R_far (p := ⟨gb361, 0, none⟩) (Kd.R_mono HO_11.out (fun k_ hk => (⟨hk, hk.2⟩ : _ ∧ k_ ≠ gb361))) (fun _ hk => hk.2) (.int .i64 ((rd_T40 t357 x13_1).f0))) (fun _ hk => hk.2) (.string ((rd_T40 t357 x13_1).f1))) (fun _ hk => hk.2) (.int .i64 ((rd_T40 t357 x13_1).f2))) (fun _ hk => hk.1.1)⟩, ⟨bk_⟩, ⟨bk_⟩, ⟨bk_⟩, ⟨bl_⟩⟩
def value_Row_39.l0 : Nat → List (S73) → List (S73) → Int → Int → Option (Bool)
  | 0, _, _, _, _ => none
  | k + 1, x0, x1, x12, x13 => if x13 < x12 then (if 0 ≤ x13 then (if x13 < (x0.length : Int) then (if x13 < (x1.length : Int) then (if (!((((rd_T73 x0 x13).f0).toList) == (((rd_T73 x1 x13).f0).toList)) || (!((((rd_T73 x0 x13).f1).toList) == (((rd_T73 x1 x13).f1).toList)))) = true then (some false) else (value_Row_39.l0 k x0 x1 x12 (wrap64 (x13 + 1)))) else (none)) else (none)) else (none)) else (some true)
def value_Row_39.f (k : Nat) (l0 : List (S73)) (l1 : List (S73)) : Option (Bool) := if (l0.length : Int) = (l1.length : Int) then (value_Row_39.l0 k l0 l1 (l0.length : Int) 0) else (some false)
set_option maxHeartbeats 8000000 in
set_option maxRecDepth 100000 in
theorem value_Row_39.calls (k : Nat) (A0 : Option Addr) (c0 : Nat) (l0 : List (S73)) (A1 : Option Addr) (c1 : Nat) (l1 : List (S73)) (r : Bool) (w : World) (hr0 : Kd.C k73 w A0 l0.length l0) (hc0 : l0.length ≤ c0) (hr1 : Kd.C k73 w A1 l1.length l1) (hc1 : l1.length ≤ c1) (h : value_Row_39.f k l0 l1 = some r) :
    Calls Tryz.prog 39 #[.slice A0 l0.length c0, .slice A1 l1.length c1] w fun e w' => e = .returned (.bool r) ∧ Drawn0 w w' := by
  have hu73 := Tryz.underlying73
  have HR0 := Z0.mk hr0
  have HC0 := Z0.mk hc0
  clear hr0 hc0
  have HR1 := Z0.mk hr1
  have HC1 := Z0.mk hc1
  clear hr1 hc1
  have H : (if (l0.length : Int) = (l1.length : Int) then (value_Row_39.l0 k l0 l1 (l0.length : Int) 0) else (some false)) = some r := h
  clear h
  by_cases c3 : (l0.length : Int) = (l1.length : Int)
  rotate_left
  · rw [if_neg c3] at H
    have c3b0 : ((l0.length : Int) == (l1.length : Int)) = false := beq_eq_false_iff_ne.mpr c3
    have c3b1 : ((l0.length : Int) != (l1.length : Int)) = true := bne_iff_ne.mpr c3
    have c3b2 : (l0.length == l1.length) = false := by first | simpa using c3 | (simp at c3 ⊢; omega)
    obtain rfl := Option.some.inj H
    go_enter Tryz.func39, Tryz.ntmps39
    go_wp2
    repeat (go_quiet (fail); try go_wp2)
    go_ret
    exact ⟨by first | rfl | (simp; done) | (simp [*]; done), by repeat (first | exact Drawn0.refl _ | apply Drawn0.step)⟩
  rw [if_pos c3] at H
  have c3b0 : ((l0.length : Int) == (l1.length : Int)) = true := beq_iff_eq.mpr c3
  have c3b1 : ((l0.length : Int) != (l1.length : Int)) = false := bne_eq_false_iff_eq.mpr c3
  have c3b2 : (l0.length == l1.length) = true := by first | simpa using c3 | (simp at c3 ⊢; omega)
  clear c3
  have H' := Z0.mk H
  clear H
  go_enter Tryz.func39, Tryz.ntmps39
  go_wp2
  repeat (go_quiet (fail); try go_wp2)
  go_loopg [13] k (fun kq v13 w' => ∃ (x13_1 : Int), v13 = .int .i64 x13_1 ∧ Z0 (value_Row_39.l0 kq l0 l1 (l0.length : Int) x13_1 = some r) ∧ Z0 (kq ≤ k) ∧ Drawn0 w w')
  case atStart => exact ⟨(0), eqv_, H', ⟨Nat.le_refl _⟩, by repeat (first | exact Drawn0.refl _ | apply Drawn0.step)⟩
  clear H'
  try clear c1
  try clear p2
  try clear c3
  try clear c3b0
  try clear c3b1
  try clear c3b2
  obtain ⟨x13_1, rfl, HA, HK1, ⟨m1, rfl⟩⟩ := hrel
  cases gk with
  | zero => exact absurd HA.out (by simp [value_Row_39.l0])
  | succ k1 =>
    have H := HA.out
    clear HA
    simp only [value_Row_39.l0] at H
    by_cases c4 : x13_1 < (l0.length : Int)
    rotate_left
    · rw [if_neg c4] at H
      have c4b0 : decide (x13_1 < (l0.length : Int)) = false := decide_eq_false c4
      clear c4
      obtain rfl := Option.some.inj H
      go_wp2
      repeat (go_quiet (fail); try go_wp2)
      go_ret
      exact ⟨by first | rfl | (simp; done) | (simp [*]; done), by repeat (first | exact Drawn0.refl _ | apply Drawn0.step)⟩
    rw [if_pos c4] at H
    have c4b0 : decide (x13_1 < (l0.length : Int)) = true := decide_eq_true c4
    clear c4
    by_cases c5 : 0 ≤ x13_1
    rotate_left
    · rw [if_neg c5] at H
      exact absurd H (by simp)
    rw [if_pos c5] at H
    have c5b0 : decide (0 ≤ x13_1) = true := decide_eq_true c5
    clear c5
    by_cases c6 : x13_1 < (l0.length : Int)
    rotate_left
    · rw [if_neg c6] at H
      exact absurd H (by simp)
    rw [if_pos c6] at H
    have c6b0 : decide (x13_1 < (l0.length : Int)) = true := decide_eq_true c6
    clear c6
    by_cases c7 : x13_1 < (l1.length : Int)
    rotate_left
    · rw [if_neg c7] at H
      exact absurd H (by simp)
    rw [if_pos c7] at H
    have c7b0 : decide (x13_1 < (l1.length : Int)) = true := decide_eq_true c7
    clear c7
    by_cases c8 : (!((((rd_T73 l0 x13_1).f0).toList) == (((rd_T73 l1 x13_1).f0).toList)) || (!((((rd_T73 l0 x13_1).f1).toList) == (((rd_T73 l1 x13_1).f1).toList)))) = true
    · rw [if_pos c8] at H
      have c8b0 : (!((((rd_T73 l0 x13_1).f0).toList) == (((rd_T73 l1 x13_1).f0).toList)) || (!((((rd_T73 l0 x13_1).f1).toList) == (((rd_T73 l1 x13_1).f1).toList)))) = true := c8
      clear c8
      obtain rfl := Option.some.inj H
      have p362 : 0 ≤ (x13_1 : Int) := of_decide_eq_true (by first | (with_reducible assumption) | assumption)
      have q362 : x13_1 < (l0.length : Int) := of_decide_eq_true (by first | (with_reducible assumption) | assumption)
      obtain ⟨ad362, e362, hx362_0, hx362_1⟩ := at_T73 HR0.out x13_1 p362 q362
      cases e362
      replace p362 := eq_true p362
      replace q362 := eq_true q362
      have p363 : 0 ≤ (x13_1 : Int) := of_decide_eq_true (by first | (with_reducible assumption) | assumption)
      have q363 : x13_1 < (l1.length : Int) := of_decide_eq_true (by first | (with_reducible assumption) | assumption)
      obtain ⟨ad363, e363, hx363_0, hx363_1⟩ := at_T73 HR1.out x13_1 p363 q363
      cases e363
      replace p363 := eq_true p363
      replace q363 := eq_true q363
      go_wp2
      repeat (go_quiet (fail); try go_wp2)
      go_ret
      exact ⟨by first | rfl | (simp; done) | (simp [*]; done), by repeat (first | exact Drawn0.refl _ | apply Drawn0.step)⟩
    rw [if_neg c8] at H
    have c8b0 : (!((((rd_T73 l0 x13_1).f0).toList) == (((rd_T73 l1 x13_1).f0).toList)) || (!((((rd_T73 l0 x13_1).f1).toList) == (((rd_T73 l1 x13_1).f1).toList)))) = false := by simpa using c8
    clear c8
    have H' := Z0.mk H
    clear H
    have p362 : 0 ≤ (x13_1 : Int) := of_decide_eq_true (by first | (with_reducible assumption) | assumption)
    have q362 : x13_1 < (l0.length : Int) := of_decide_eq_true (by first | (with_reducible assumption) | assumption)
    obtain ⟨ad362, e362, hx362_0, hx362_1⟩ := at_T73 HR0.out x13_1 p362 q362
    cases e362
    replace p362 := eq_true p362
    replace q362 := eq_true q362
    have p363 : 0 ≤ (x13_1 : Int) := of_decide_eq_true (by first | (with_reducible assumption) | assumption)
    have q363 : x13_1 < (l1.length : Int) := of_decide_eq_true (by first | (with_reducible assumption) | assumption)
    obtain ⟨ad363, e363, hx363_0, hx363_1⟩ := at_T73 HR1.out x13_1 p363 q363
    cases e363
    replace p363 := eq_true p363
    replace q363 := eq_true q363
    go_wp2
    repeat (go_quiet (fail); try go_wp2)
    go_roundg k1
    case measure => have := HK1.out; omega
    case rel => exact ⟨(wrap64 (x13_1 + 1)), eqv_, H', ⟨by have := HK1.out; omega⟩, by repeat (first | exact Drawn0.refl _ | apply Drawn0.step)⟩
def value_State_Same.f (k : Nat) (a0_0 : Int) (a0_1 : Int) (l0_2 : List (S73)) (a1_0 : Int) (a1_1 : Int) (l1_2 : List (S73)) : Option (Bool) := if a0_0 = a1_0 then (if a0_1 = a1_1 then ((value_Row_39.f k l0_2 l1_2).bind fun t366 => (some t366)) else (some false)) else (some false)
set_option maxHeartbeats 8000000 in
set_option maxRecDepth 100000 in
theorem value_State_Same.calls (k : Nat) (a0_0 : Int) (a0_1 : Int) (A0_2 : Option Addr) (c0_2 : Nat) (l0_2 : List (S73)) (a1_0 : Int) (a1_1 : Int) (A1_2 : Option Addr) (c1_2 : Nat) (l1_2 : List (S73)) (r : Bool) (w : World) (hr0_2 : Kd.C k73 w A0_2 l0_2.length l0_2) (hc0_2 : l0_2.length ≤ c0_2) (hr1_2 : Kd.C k73 w A1_2 l1_2.length l1_2) (hc1_2 : l1_2.length ≤ c1_2) (h : value_State_Same.f k a0_0 a0_1 l0_2 a1_0 a1_1 l1_2 = some r) :
    Calls Tryz.prog 17 #[.agg #[.int .i64 a0_0, .int .i64 a0_1, .slice A0_2 l0_2.length c0_2], .agg #[.int .i64 a1_0, .int .i64 a1_1, .slice A1_2 l1_2.length c1_2]] w fun e w' => e = .returned (.bool r) ∧ Below w.heap.size w w' := by
  have hu24 := Tryz.underlying24
  have HR0_2 := Z0.mk hr0_2
  have HC0_2 := Z0.mk hc0_2
  clear hr0_2 hc0_2
  have HR1_2 := Z0.mk hr1_2
  have HC1_2 := Z0.mk hc1_2
  clear hr1_2 hc1_2
  have HB := Z0.mk (Below.refl w.heap.size w)
  have H : (if a0_0 = a1_0 then (if a0_1 = a1_1 then ((value_Row_39.f k l0_2 l1_2).bind fun t366 => (some t366)) else (some false)) else (some false)) = some r := h
  clear h
  by_cases c3 : a0_0 = a1_0
  rotate_left
  · rw [if_neg c3] at H
    have c3b0 : (a0_0 == a1_0) = false := beq_eq_false_iff_ne.mpr c3
    have c3b1 : (a0_0 != a1_0) = true := bne_iff_ne.mpr c3
    obtain rfl := Option.some.inj H
    go_enter Tryz.func17, Tryz.ntmps17
    go_wp2_with (first | ((with_reducible refine gds (N := 2) rfl ?_); refine bx_ (N := 2) (cs := #[.int .i64 a0_0, .int .i64 a0_1, .slice A0_2 l0_2.length c0_2]) (t := 24) ?_; intro gb364 hg w16 hbox hb; have n0_ := Z0.mk (bsp bl_ hb); have n1_ := Z0.mk (hbox); have n2_ := Z0.mk ((by rw [hg]; exact bsz bl_ : w.heap.size ≤ gb364)); have n3_ := Z0.mk ((by rw [hg]; exact bsz bl_ : w.heap.size ≤ gb364)); clear HB; have HB := n0_; have BK364 := n1_; have GW364 := n2_; have GE364 := n3_; clear n0_ n1_ n2_ n3_; clear hb hbox hg) | ((with_reducible refine gds (N := 3) rfl ?_); refine bx_ (N := 3) (cs := #[.int .i64 a1_0, .int .i64 a1_1, .slice A1_2 l1_2.length c1_2]) (t := 24) ?_; intro gb365 hg w17 hbox hb; have n0_ := Z0.mk (kbl (g := gb364) bk_ hb); have n1_ := Z0.mk (bsp bl_ hb); have n2_ := Z0.mk (hbox); have n3_ := Z0.mk ((by rw [hg]; exact bsz bl_ : w.heap.size ≤ gb365)); have n4_ := Z0.mk ((by rw [hg]; exact bsz bl_ : w.heap.size ≤ gb365)); have n5_ := Z0.mk ((by rw [hg]; exact Nat.ne_of_lt (klt_ (g := gb364) bk_) : gb364 ≠ gb365)); have n6_ := Z0.mk ((by rw [hg]; exact Nat.ne_of_gt (klt_ (g := gb364) bk_) : gb365 ≠ gb364)); clear BK364; clear HB; have BK364 := n0_; have HB := n1_; have BK365 := n2_; have GW365 := n3_; have GE365 := n4_; have NB364_365 := n5_; have NB365_364 := n6_; clear n0_ n1_ n2_ n3_ n4_ n5_ n6_; clear hb hbox hg; have hnb18 := NB364_365.out; have hnc18 := NB365_364.out; have hcz19 := bc3 BK364.out; have hcz20 := bc3 BK365.out))
    go_ret
    exact ⟨er_, bl_⟩
  rw [if_pos c3] at H
  have c3b0 : (a0_0 == a1_0) = true := beq_iff_eq.mpr c3
  have c3b1 : (a0_0 != a1_0) = false := bne_eq_false_iff_eq.mpr c3
  clear c3
  by_cases c4 : a0_1 = a1_1
  rotate_left
  · rw [if_neg c4] at H
    have c4b0 : (a0_1 == a1_1) = false := beq_eq_false_iff_ne.mpr c4
    have c4b1 : (a0_1 != a1_1) = true := bne_iff_ne.mpr c4
    obtain rfl := Option.some.inj H
    go_enter Tryz.func17, Tryz.ntmps17
    go_wp2_with (first | ((with_reducible refine gds (N := 2) rfl ?_); refine bx_ (N := 2) (cs := #[.int .i64 a0_0, .int .i64 a0_1, .slice A0_2 l0_2.length c0_2]) (t := 24) ?_; intro gb364 hg w11 hbox hb; have n0_ := Z0.mk (bsp bl_ hb); have n1_ := Z0.mk (hbox); have n2_ := Z0.mk ((by rw [hg]; exact bsz bl_ : w.heap.size ≤ gb364)); have n3_ := Z0.mk ((by rw [hg]; exact bsz bl_ : w.heap.size ≤ gb364)); clear HB; have HB := n0_; have BK364 := n1_; have GW364 := n2_; have GE364 := n3_; clear n0_ n1_ n2_ n3_; clear hb hbox hg) | ((with_reducible refine gds (N := 3) rfl ?_); refine bx_ (N := 3) (cs := #[.int .i64 a1_0, .int .i64 a1_1, .slice A1_2 l1_2.length c1_2]) (t := 24) ?_; intro gb365 hg w12 hbox hb; have n0_ := Z0.mk (kbl (g := gb364) bk_ hb); have n1_ := Z0.mk (bsp bl_ hb); have n2_ := Z0.mk (hbox); have n3_ := Z0.mk ((by rw [hg]; exact bsz bl_ : w.heap.size ≤ gb365)); have n4_ := Z0.mk ((by rw [hg]; exact bsz bl_ : w.heap.size ≤ gb365)); have n5_ := Z0.mk ((by rw [hg]; exact Nat.ne_of_lt (klt_ (g := gb364) bk_) : gb364 ≠ gb365)); have n6_ := Z0.mk ((by rw [hg]; exact Nat.ne_of_gt (klt_ (g := gb364) bk_) : gb365 ≠ gb364)); clear BK364; clear HB; have BK364 := n0_; have HB := n1_; have BK365 := n2_; have GW365 := n3_; have GE365 := n4_; have NB364_365 := n5_; have NB365_364 := n6_; clear n0_ n1_ n2_ n3_ n4_ n5_ n6_; clear hb hbox hg; have hnb13 := NB364_365.out; have hnc13 := NB365_364.out; have hcz14 := bc3 BK364.out; have hcz15 := bc3 BK365.out))
    go_ret
    exact ⟨er_, bl_⟩
  rw [if_pos c4] at H
  have c4b0 : (a0_1 == a1_1) = true := beq_iff_eq.mpr c4
  have c4b1 : (a0_1 != a1_1) = false := bne_eq_false_iff_eq.mpr c4
  clear c4
  replace H := Option.bind_eq_some_iff.mp H
  obtain ⟨t366, A50, H⟩ := H
  replace H : (some t366) = some r := H
  have A5 := Z0.mk A50
  clear A50
  obtain rfl := Option.some.inj H
  go_enter Tryz.func17, Tryz.ntmps17
  go_wp2_with (first | ((with_reducible refine gds (N := 2) rfl ?_); refine bx_ (N := 2) (cs := #[.int .i64 a0_0, .int .i64 a0_1, .slice A0_2 l0_2.length c0_2]) (t := 24) ?_; intro gb364 hg w6 hbox hb; have n0_ := Z0.mk (bsp bl_ hb); have n1_ := Z0.mk (hbox); have n2_ := Z0.mk ((by rw [hg]; exact bsz bl_ : w.heap.size ≤ gb364)); have n3_ := Z0.mk ((by rw [hg]; exact bsz bl_ : w.heap.size ≤ gb364)); clear HB; have HB := n0_; have BK364 := n1_; have GW364 := n2_; have GE364 := n3_; clear n0_ n1_ n2_ n3_; clear hb hbox hg) | ((with_reducible refine gds (N := 3) rfl ?_); refine bx_ (N := 3) (cs := #[.int .i64 a1_0, .int .i64 a1_1, .slice A1_2 l1_2.length c1_2]) (t := 24) ?_; intro gb365 hg w7 hbox hb; have n0_ := Z0.mk (kbl (g := gb364) bk_ hb); have n1_ := Z0.mk (bsp bl_ hb); have n2_ := Z0.mk (hbox); have n3_ := Z0.mk ((by rw [hg]; exact bsz bl_ : w.heap.size ≤ gb365)); have n4_ := Z0.mk ((by rw [hg]; exact bsz bl_ : w.heap.size ≤ gb365)); have n5_ := Z0.mk ((by rw [hg]; exact Nat.ne_of_lt (klt_ (g := gb364) bk_) : gb364 ≠ gb365)); have n6_ := Z0.mk ((by rw [hg]; exact Nat.ne_of_gt (klt_ (g := gb364) bk_) : gb365 ≠ gb364)); clear BK364; clear HB; have BK364 := n0_; have HB := n1_; have BK365 := n2_; have GW365 := n3_; have GE365 := n4_; have NB364_365 := n5_; have NB365_364 := n6_; clear n0_ n1_ n2_ n3_ n4_ n5_ n6_; clear hb hbox hg; have hnb8 := NB364_365.out; have hnc8 := NB365_364.out; have hcz9 := bc3 BK364.out; have hcz10 := bc3 BK365.out) | (go_at_call 39; (with_reducible refine (value_Row_39.calls k _ _ l0_2 _ _ l1_2 t366 _ ?side1 ?side2 ?side3 ?side4 A5.out).mono ?_); (case side1 => repeat (first | exact (Kd.C_below HR0_2.out HB.out) | (with_reducible refine Kd.C_alloc ?_ _) | (with_reducible refine Kd.C_drewN ?_ _) | (with_reducible refine Kd.C_drew ?_))); (case side2 => exact HC0_2.out); (case side3 => repeat (first | exact (Kd.C_below HR1_2.out HB.out) | (with_reducible refine Kd.C_alloc ?_ _) | (with_reducible refine Kd.C_drewN ?_ _) | (with_reducible refine Kd.C_drew ?_))); (case side4 => exact HC1_2.out); rintro e w' ⟨rfl, ⟨nd, rfl⟩⟩))
  go_ret
  exact ⟨er_, bl_⟩
def commute_plain.l0 : Nat → List Int → Int → Int → Int → ByteArray → Int → Option (Bool)
  | 0, _, _, _, _, _, _ => none
  | k + 1, x7, x8, x9, x370000, x370001, x370002 => if x9 < x8 then (if 0 ≤ x9 then (if x9 < (x7.length : Int) then (if (x370000 == (rd x7 x9) && (x370001.toList == ([] : List UInt8) && (x370002 == 0))) = true then (some true) else (commute_plain.l0 k x7 x8 (wrap64 (x9 + 1)) x370000 x370001 x370002)) else (none)) else (none)) else (some false)
def commute_plain.f (k : Nat) (a0_0 : Int) (a0_1 : ByteArray) (a0_2 : Int) (l1 : List Int) : Option (Bool) := commute_plain.l0 k l1 (l1.length : Int) 0 a0_0 a0_1 a0_2
set_option maxHeartbeats 8000000 in
set_option maxRecDepth 100000 in
theorem commute_plain.calls (k : Nat) (a0_0 : Int) (a0_1 : ByteArray) (a0_2 : Int) (A1 : Option Addr) (c1 : Nat) (l1 : List Int) (r : Bool) (w : World) (hr1 : Kd.C (Kd.int .i64) w A1 l1.length l1) (hc1 : l1.length ≤ c1) (h : commute_plain.f k a0_0 a0_1 a0_2 l1 = some r) :
    Calls Tryz.prog 84 #[.agg #[.int .i64 a0_0, .string a0_1, .int .i64 a0_2], .slice A1 l1.length c1] w fun e w' => e = .returned (.bool r) ∧ Below w.heap.size w w' := by
  have hu40 := Tryz.underlying40
  have HR1 := Z0.mk hr1
  have HC1 := Z0.mk hc1
  clear hr1 hc1
  have HB := Z0.mk (Below.refl w.heap.size w)
  have H : (commute_plain.l0 k l1 (l1.length : Int) 0 a0_0 a0_1 a0_2) = some r := h
  clear h
  have H' := Z0.mk H
  clear H
  go_enter Tryz.func84, Tryz.ntmps84
  go_wp2_with (first | ((with_reducible refine gds (N := 2) rfl ?_); refine bx_ (N := 2) (cs := #[.int .i64 a0_0, .string a0_1, .int .i64 a0_2]) (t := 40) ?_; intro gb369 hg w3 hbox hb; have n0_ := Z0.mk (bsp bl_ hb); have n1_ := Z0.mk (hbox); have n2_ := Z0.mk ((by rw [hg]; exact bsz bl_ : w.heap.size ≤ gb369)); have n3_ := Z0.mk ((by rw [hg]; exact bsz bl_ : w.heap.size ≤ gb369)); clear HB; have HB := n0_; have BK369 := n1_; have GW369 := n2_; have GE369 := n3_; clear n0_ n1_ n2_ n3_; clear hb hbox hg))
  go_loopg [9] k (fun kq v9 w' => ∃ (x9_1 : Int), v9 = .int .i64 x9_1 ∧ Z0 (commute_plain.l0 kq l1 (l1.length : Int) x9_1 a0_0 a0_1 a0_2 = some r) ∧ Z0 (kq ≤ k) ∧ Z0 (w'.heap[gb369]? = some (.cells #[.int .i64 a0_0, .string a0_1, .int .i64 a0_2] 40 (0, 0))) ∧ Z0 (Below w.heap.size w w'))
  case atStart => exact ⟨(0), eqv_, H', ⟨Nat.le_refl _⟩, ⟨bk_⟩, ⟨bl_⟩⟩
  clear H'
  try clear c1
  try clear p2
  obtain ⟨x9_1, rfl, HA, HK1, BK369, HB⟩ := hrel
  cases gk with
  | zero => exact absurd HA.out (by simp [commute_plain.l0])
  | succ k1 =>
    have H := HA.out
    clear HA
    simp only [commute_plain.l0] at H
    by_cases c4 : x9_1 < (l1.length : Int)
    rotate_left
    · rw [if_neg c4] at H
      have c4b0 : decide (x9_1 < (l1.length : Int)) = false := decide_eq_false c4
      clear c4
      obtain rfl := Option.some.inj H
      go_wp2
      go_ret
      exact ⟨er_, bl_⟩
    rw [if_pos c4] at H
    have c4b0 : decide (x9_1 < (l1.length : Int)) = true := decide_eq_true c4
    clear c4
    by_cases c5 : 0 ≤ x9_1
    rotate_left
    · rw [if_neg c5] at H
      exact absurd H (by simp)
    rw [if_pos c5] at H
    have c5b0 : decide (0 ≤ x9_1) = true := decide_eq_true c5
    clear c5
    by_cases c6 : x9_1 < (l1.length : Int)
    rotate_left
    · rw [if_neg c6] at H
      exact absurd H (by simp)
    rw [if_pos c6] at H
    have c6b0 : decide (x9_1 < (l1.length : Int)) = true := decide_eq_true c6
    clear c6
    by_cases c7 : (a0_0 == (rd l1 x9_1) && (a0_1.toList == ([] : List UInt8) && (a0_2 == 0))) = true
    · rw [if_pos c7] at H
      have c7b0 : (a0_0 == (rd l1 x9_1) && (a0_1.toList == ([] : List UInt8) && (a0_2 == 0))) = true := c7
      (try (have c7b1 : decide (a0_0 = (rd l1 x9_1) && (a0_1.toList == ([] : List UInt8) && (a0_2 == 0))) = true := by simpa using c7))
      (try (have c7b2 : (a0_0 == (rd l1 x9_1) && (a0_1.toList == ([] : List UInt8) && (a0_2 == 0))) = true := by simpa using c7))
      (try (have c7b9 : (a0_0 == (rd l1 x9_1) && (a0_1.toList.isEmpty && (a0_2 == 0))) = true := by simpa using c7))
      clear c7
      obtain rfl := Option.some.inj H
      have p370 : 0 ≤ (x9_1 : Int) := of_decide_eq_true (by first | (with_reducible assumption) | assumption)
      have q370 : x9_1 < (l1.length : Int) := of_decide_eq_true (by first | (with_reducible assumption) | assumption)
      obtain ⟨ad370, e370, hx370_0⟩ := Kd.at_int HR1.out x9_1 p370 q370
      cases e370
      replace hx370_0 := (HB.out.cell (World.block_lt_of_cell? w _ hx370_0)).trans hx370_0
      replace p370 := eq_true p370
      replace q370 := eq_true q370
      have hcz8 := bc3 BK369.out
      go_wp2
      go_ret
      exact ⟨er_, bl_⟩
    rw [if_neg c7] at H
    have c7b0 : (a0_0 == (rd l1 x9_1) && (a0_1.toList == ([] : List UInt8) && (a0_2 == 0))) = false := by simpa using c7
    (try (have c7b1 : decide (a0_0 = (rd l1 x9_1) && (a0_1.toList == ([] : List UInt8) && (a0_2 == 0))) = false := by simpa using c7))
    (try (have c7b2 : (a0_0 == (rd l1 x9_1) && (a0_1.toList == ([] : List UInt8) && (a0_2 == 0))) = false := by simpa using c7))
    (try (have c7b9 : (a0_0 == (rd l1 x9_1) && (a0_1.toList.isEmpty && (a0_2 == 0))) = false := by simpa using c7))
    (try (have c7b3 : ¬ (a0_0 = (rd l1 x9_1) && (a0_1.toList == ([] : List UInt8) && (a0_2 == 0))) := by simpa using c7))
    clear c7
    have H' := Z0.mk H
    clear H
    have p370 : 0 ≤ (x9_1 : Int) := of_decide_eq_true (by first | (with_reducible assumption) | assumption)
    have q370 : x9_1 < (l1.length : Int) := of_decide_eq_true (by first | (with_reducible assumption) | assumption)
    obtain ⟨ad370, e370, hx370_0⟩ := Kd.at_int HR1.out x9_1 p370 q370
    cases e370
    replace hx370_0 := (HB.out.cell (World.block_lt_of_cell? w _ hx370_0)).trans hx370_0
    replace p370 := eq_true p370
    replace q370 := eq_true q370
    have hcz9 := bc3 BK369.out
    go_wp2
    go_roundg k1
    case measure => have := HK1.out; omega
    case rel => exact ⟨(wrap64 (x9_1 + 1)), eqv_, H', ⟨by have := HK1.out; omega⟩, ⟨bk_⟩, ⟨bl_⟩⟩
end Go.Proofs.YtjiblcncadekcaaGreat.PA

