import Derived.Test.YtjiblcncadekcaaGreatQOxPAx0
namespace Go.Proofs.YtjiblcncadekcaaGreat.PA
open Go.Proofs.YtjiblcncadekcaaGreat.PL
open Go.RowKit Go.Proofs.YtjiblcncadekcaaGreatW.PrintWords Go.Proofs.YtjiblcncadekcaaGreatW.PrintLast Go.Proofs.YtjiblcncadekcaaGreatW.PrintMore
attribute [local go_sem] max2_int min2_int bl_leq max_two min_two max_three min_three max_four min_four
set_option linter.unusedVariables false
set_option linter.unusedSimpArgs false
mutual
def armoireref11_row.j0 : Nat → Int → List (S72) → Int → Bool → ByteArray → ByteArray → Option (Int)
  | 0, _, _, _, _, _, _ => none
  | k + 1, x0, x1, x2, x21, x168000, x168001 => if x21 = true then (some 3) else (if x0 = 5 then (if x0 = 1 then (armoireref11_row.j1 k x0 x1 x2 (x168000.toList == ([] : List UInt8)) x168000 x168001) else (armoireref11_row.j1 k x0 x1 x2 false x168000 x168001)) else (if x168001.toList = ([] : List UInt8) then (if x0 = 1 then (armoireref11_row.j1 k x0 x1 x2 (x168000.toList == ([] : List UInt8)) x168000 x168001) else (armoireref11_row.j1 k x0 x1 x2 false x168000 x168001)) else (armoireref11_row.j1 k x0 x1 x2 true x168000 x168001)))
def armoireref11_row.j1 : Nat → Int → List (S72) → Int → Bool → ByteArray → ByteArray → Option (Int)
  | 0, _, _, _, _, _, _ => none
  | k + 1, x0, x1, x2, x37, x168000, x168001 => if x37 = true then (some 2) else (if x2 > 0 then (if x0 = 4 then (if 0 ≤ (wrap64 (x2 - 1)) then (if (wrap64 (x2 - 1)) < (x1.length : Int) then (armoireref11_row.j2 k x0 x1 x2 (!(Op.bytesLess (((rd_T72 x1 (wrap64 (x2 - 1))).f0).toList) x168000.toList)) x168000 x168001) else (none)) else (none)) else (if x0 = 5 then (if 0 ≤ (wrap64 (x2 - 1)) then (if (wrap64 (x2 - 1)) < (x1.length : Int) then (armoireref11_row.j2 k x0 x1 x2 (!(Op.bytesLess (((rd_T72 x1 (wrap64 (x2 - 1))).f0).toList) x168000.toList)) x168000 x168001) else (none)) else (none)) else (armoireref11_row.j2 k x0 x1 x2 false x168000 x168001))) else (armoireref11_row.j2 k x0 x1 x2 false x168000 x168001))
def armoireref11_row.j2 : Nat → Int → List (S72) → Int → Bool → ByteArray → ByteArray → Option (Int)
  | 0, _, _, _, _, _, _ => none
  | k + 1, x0, x1, x2, x58, x168000, x168001 => if x58 = true then (some 2) else (if x2 > 0 then (if x0 = 7 then (if 0 ≤ (wrap64 (x2 - 1)) then (if (wrap64 (x2 - 1)) < (x1.length : Int) then (if (Op.bytesLess x168000.toList (((rd_T72 x1 (wrap64 (x2 - 1))).f0).toList)) = true then (some 2) else (some 0)) else (none)) else (none)) else (some 0)) else (some 0))
end
def armoireref11_row.f (k : Nat) (a0 : Int) (l1 : List (S72)) (a2 : Int) : Option (Int) := if 0 ≤ a2 then (if a2 < (l1.length : Int) then (if (((rd_T72 l1 a2).f0).size : Int) > 24 then (armoireref11_row.j0 k a0 l1 a2 true ((rd_T72 l1 a2).f0) ((rd_T72 l1 a2).f1)) else (armoireref11_row.j0 k a0 l1 a2 (decide ((((rd_T72 l1 a2).f1).size : Int) > 24)) ((rd_T72 l1 a2).f0) ((rd_T72 l1 a2).f1))) else (none)) else (none)
set_option maxHeartbeats 8000000 in
set_option maxRecDepth 100000 in
theorem armoireref11_row.calls (k : Nat) (a0 : Int) (A1 : Option Addr) (c1 : Nat) (l1 : List (S72)) (a2 : Int) (r : Int) (w : World) (hr1 : Kd.C k72 w A1 l1.length l1) (hc1 : l1.length ≤ c1) (h : armoireref11_row.f k a0 l1 a2 = some r) :
    Calls Tryz.prog 67 #[.int .i64 a0, .slice A1 l1.length c1, .int .i64 a2] w fun e w' => e = .returned (.int .i64 r) ∧ Below w.heap.size w w' := by
  have hu72 := Tryz.underlying72
  have HR1 := Z0.mk hr1
  have HC1 := Z0.mk hc1
  clear hr1 hc1
  have HB := Z0.mk (Below.refl w.heap.size w)
  have H : (if 0 ≤ a2 then (if a2 < (l1.length : Int) then (if (((rd_T72 l1 a2).f0).size : Int) > 24 then (armoireref11_row.j0 k a0 l1 a2 true ((rd_T72 l1 a2).f0) ((rd_T72 l1 a2).f1)) else (armoireref11_row.j0 k a0 l1 a2 (decide ((((rd_T72 l1 a2).f1).size : Int) > 24)) ((rd_T72 l1 a2).f0) ((rd_T72 l1 a2).f1))) else (none)) else (none)) = some r := h
  clear h
  by_cases c4 : 0 ≤ a2
  rotate_left
  · rw [if_neg c4] at H
    exact absurd H (by simp)
  rw [if_pos c4] at H
  have c4b0 : decide (0 ≤ a2) = true := decide_eq_true c4
  clear c4
  by_cases c5 : a2 < (l1.length : Int)
  rotate_left
  · rw [if_neg c5] at H
    exact absurd H (by simp)
  rw [if_pos c5] at H
  have c5b0 : decide (a2 < (l1.length : Int)) = true := decide_eq_true c5
  clear c5
  have HC6 := Z0.mk H
  clear H
  have p166 : 0 ≤ (a2 : Int) := of_decide_eq_true (by first | (with_reducible assumption) | assumption)
  have q166 : a2 < (l1.length : Int) := of_decide_eq_true (by first | (with_reducible assumption) | assumption)
  obtain ⟨ad166, e166, hx166_0, hx166_1⟩ := at_T72 HR1.out a2 p166 q166
  cases e166
  replace p166 := eq_true p166
  replace q166 := eq_true q166
  go_enter Tryz.func67, Tryz.ntmps67
  go_upto_region 2 with (first | ((with_reducible refine gds (N := 7) rfl ?_); (try (refine gate_guard (by rfl) ?_; dsimp only)); refine bx_ (N := 7) (cs := #[.string (⟨#[]⟩ : ByteArray), .string (⟨#[]⟩ : ByteArray)]) (t := 72) ?_; intro gb167 hg w7 hbox hb; have n0_ := Z0.mk (bsp bl_ hb); have n1_ := Z0.mk (hbox); have n2_ := Z0.mk ((by rw [hg]; exact bsz bl_ : w.heap.size ≤ gb167)); have n3_ := Z0.mk ((by rw [hg]; exact bsz bl_ : w.heap.size ≤ gb167)); clear HB; have HB := n0_; have BK167 := n1_; have GW167 := n2_; have GE167 := n3_; clear n0_ n1_ n2_ n3_; clear hb hbox hg; have hcz8 := bc2 BK167.out))
  repeat (go_quiet (first | ((with_reducible refine gds (N := 7) rfl ?_); (try (refine gate_guard (by rfl) ?_; dsimp only)); refine bx_ (N := 7) (cs := #[.string (⟨#[]⟩ : ByteArray), .string (⟨#[]⟩ : ByteArray)]) (t := 72) ?_; intro gb167 hg w7 hbox hb; have n0_ := Z0.mk (bsp bl_ hb); have n1_ := Z0.mk (hbox); have n2_ := Z0.mk ((by rw [hg]; exact bsz bl_ : w.heap.size ≤ gb167)); have n3_ := Z0.mk ((by rw [hg]; exact bsz bl_ : w.heap.size ≤ gb167)); clear HB; have HB := n0_; have BK167 := n1_; have GW167 := n2_; have GE167 := n3_; clear n0_ n1_ n2_ n3_; clear hb hbox hg; have hcz8_0 : w7.cell? ⟨gb167, 0, none⟩ = some (.string (⟨#[]⟩ : ByteArray)) := (kcl BK167.out 0).trans rfl; have hcz8_1 : w7.cell? ⟨gb167, 1, none⟩ = some (.string (⟨#[]⟩ : ByteArray)) := (kcl BK167.out 1).trans rfl; have hfz8_0 := kfr BK167.out 0; have hfz8_1 := kfr BK167.out 1)); go_upto_region 2 with (first | ((with_reducible refine gds (N := 7) rfl ?_); (try (refine gate_guard (by rfl) ?_; dsimp only)); refine bx_ (N := 7) (cs := #[.string (⟨#[]⟩ : ByteArray), .string (⟨#[]⟩ : ByteArray)]) (t := 72) ?_; intro gb167 hg w7 hbox hb; have n0_ := Z0.mk (bsp bl_ hb); have n1_ := Z0.mk (hbox); have n2_ := Z0.mk ((by rw [hg]; exact bsz bl_ : w.heap.size ≤ gb167)); have n3_ := Z0.mk ((by rw [hg]; exact bsz bl_ : w.heap.size ≤ gb167)); clear HB; have HB := n0_; have BK167 := n1_; have GW167 := n2_; have GE167 := n3_; clear n0_ n1_ n2_ n3_; clear hb hbox hg; have hcz8 := bc2 BK167.out)))
  (try simp only [Act.put, List.setIfInBounds_toArray, List.set_cons_zero, List.set_cons_succ])
  go_cut [21] (fun v21 wc => ∃ (kq : Nat) (x21_5 : Bool), v21 = .bool x21_5 ∧ Z0 (armoireref11_row.j0 kq a0 l1 a2 x21_5 ((rd_T72 l1 a2).f0) ((rd_T72 l1 a2).f1) = some r) ∧ Z0 (kq ≤ k) ∧ Z0 (wc.heap[gb167]? = some (.cells #[.string ((rd_T72 l1 a2).f0), .string ((rd_T72 l1 a2).f1)] 72 (0, 0))) ∧ Z0 (Below w.heap.size w wc))
  case first =>
    have H := HC6.out
    clear HC6
    by_cases c9 : (((rd_T72 l1 a2).f0).size : Int) > 24
    · rw [if_pos c9] at H
      have c9b0 : decide (24 < (((rd_T72 l1 a2).f0).size : Int)) = true := decide_eq_true c9
      have c9b1 : decide (24 < ((rd_T72 l1 a2).f0).size) = true := decide_eq_true (by omega)
      clear c9
      (first | rw [c9b0] | rw [c9b1] | (simp only [i64_w, i32_w]; rw [c9b0]) | (simp only [i64_w, i32_w]; rw [c9b1]) | rw [c9b2] | skip)
      have H' := Z0.mk H
      clear H
      have hcz10 := bc2 BK167.out
      go_wp2
      repeat (go_quiet (fail); try go_wp2)
      go_meet
      case rel => exact ⟨_, (true), eqv_, H', ⟨by first | omega | exact Nat.le_refl _⟩, ⟨bk_⟩, ⟨bl_⟩⟩
    rw [if_neg c9] at H
    have c9b0 : decide (24 < (((rd_T72 l1 a2).f0).size : Int)) = false := decide_eq_false c9
    have c9b1 : decide (24 < ((rd_T72 l1 a2).f0).size) = false := decide_eq_false (by omega)
    clear c9
    (first | rw [c9b0] | rw [c9b1] | (simp only [i64_w, i32_w]; rw [c9b0]) | (simp only [i64_w, i32_w]; rw [c9b1]) | rw [c9b2] | skip)
    have H' := Z0.mk H
    clear H
    have hcz11 := bc2 BK167.out
    go_wp2
    repeat (go_quiet (fail); try go_wp2)
    go_meet
    case rel => exact ⟨_, (decide ((((rd_T72 l1 a2).f1).size : Int) > 24)), eqv_, H', ⟨by first | omega | exact Nat.le_refl _⟩, ⟨bk_⟩, ⟨bl_⟩⟩
  clear HC6
  try clear c1
  try clear p1
  try clear q1
  try clear hx1
  try clear p2
  try clear c4
  try clear c4b0
  try clear c5
  try clear c5b0
  try clear c6
  try clear c9
  try clear c9b0
  try clear c9b1
  try clear c9b2
  try clear hcz10
  try clear hcz11
  try clear hcz8
  try clear hcz10
  try clear hcz11
  try clear hcz8
  try clear hx166_0
  try clear hx166_1
  try clear p166
  try clear q166
  obtain ⟨kq, x21_5, rfl, HA, HJ5, BK167, HB⟩ := hcut
  cases kq with
  | zero => exact absurd HA.out (by simp [armoireref11_row.j0])
  | succ kj5 =>
    have H := HA.out
    clear HA
    simp only [armoireref11_row.j0] at H
    by_cases c12 : x21_5 = true
    · subst c12
      have H1 : (some 3) = some r := by rw [if_pos rfl] at H; exact H
      clear H
      have H := H1
      clear H1
      obtain rfl := Option.some.inj H
      go_wp2
      repeat (go_quiet (fail); try go_wp2)
      go_ret
      exact ⟨er_, bl_⟩
    replace c12 := Bool.eq_false_iff.mpr c12
    subst c12
    have H1 : (if a0 = 5 then (if a0 = 1 then (armoireref11_row.j1 kj5 a0 l1 a2 (((rd_T72 l1 a2).f0).toList == ([] : List UInt8)) ((rd_T72 l1 a2).f0) ((rd_T72 l1 a2).f1)) else (armoireref11_row.j1 kj5 a0 l1 a2 false ((rd_T72 l1 a2).f0) ((rd_T72 l1 a2).f1))) else (if ((rd_T72 l1 a2).f1).toList = ([] : List UInt8) then (if a0 = 1 then (armoireref11_row.j1 kj5 a0 l1 a2 (((rd_T72 l1 a2).f0).toList == ([] : List UInt8)) ((rd_T72 l1 a2).f0) ((rd_T72 l1 a2).f1)) else (armoireref11_row.j1 kj5 a0 l1 a2 false ((rd_T72 l1 a2).f0) ((rd_T72 l1 a2).f1))) else (armoireref11_row.j1 kj5 a0 l1 a2 true ((rd_T72 l1 a2).f0) ((rd_T72 l1 a2).f1)))) = some r := by rw [if_neg (show ¬ (false = true) by decide)] at H; exact H
    clear H
    have H := H1
    clear H1
    have HC13 := Z0.mk H
    clear H
    go_upto_region 4 with (fail)
    repeat (go_quiet (fail); go_upto_region 4 with (fail))
    go_cut [37] (fun v37 wc => ∃ (kq : Nat) (x37_12 : Bool), v37 = .bool x37_12 ∧ Z0 (armoireref11_row.j1 kq a0 l1 a2 x37_12 ((rd_T72 l1 a2).f0) ((rd_T72 l1 a2).f1) = some r) ∧ Z0 (kq ≤ kj5) ∧ Z0 (wc.heap[gb167]? = some (.cells #[.string ((rd_T72 l1 a2).f0), .string ((rd_T72 l1 a2).f1)] 72 (0, 0))) ∧ Z0 (Below w.heap.size w wc))
    case first =>
      have H := HC13.out
      clear HC13
      by_cases c14 : a0 = 5
      · rw [if_pos c14] at H
        have c14b0 : (a0 == 5) = true := beq_iff_eq.mpr c14
        have c14b1 : (a0 != 5) = false := bne_eq_false_iff_eq.mpr c14
        clear c14
        (first | rw [c14b0] | (simp only [i64_w, i32_w]; rw [c14b0]) | skip)
        by_cases c15 : a0 = 1
        rotate_left
        · rw [if_neg c15] at H
          have c15b0 : (a0 == 1) = false := beq_eq_false_iff_ne.mpr c15
          have c15b1 : (a0 != 1) = true := bne_iff_ne.mpr c15
          have H' := Z0.mk H
          clear H
          go_wp2
          repeat (go_quiet (fail); try go_wp2)
          go_meet
          case rel => exact ⟨_, (false), eqv_, H', ⟨by have := HJ5.out; first | omega | exact Nat.le_refl _⟩, ⟨bk_⟩, ⟨bl_⟩⟩
        rw [if_pos c15] at H
        have c15b0 : (a0 == 1) = true := beq_iff_eq.mpr c15
        have c15b1 : (a0 != 1) = false := bne_eq_false_iff_eq.mpr c15
        clear c15
        have H' := Z0.mk H
        clear H
        have hcz16 := bc2 BK167.out
        go_wp2
        repeat (go_quiet (fail); try go_wp2)
        go_meet
        case rel => exact ⟨_, ((((rd_T72 l1 a2).f0).toList == ([] : List UInt8))), eqv_, H', ⟨by have := HJ5.out; first | omega | exact Nat.le_refl _⟩, ⟨bk_⟩, ⟨bl_⟩⟩
      rw [if_neg c14] at H
      have c14b0 : (a0 == 5) = false := beq_eq_false_iff_ne.mpr c14
      have c14b1 : (a0 != 5) = true := bne_iff_ne.mpr c14
      (first | rw [c14b0] | (simp only [i64_w, i32_w]; rw [c14b0]) | skip)
      by_cases c17 : ((rd_T72 l1 a2).f1).toList = ([] : List UInt8)
      rotate_left
      · rw [if_neg c17] at H
        have c17b0 : (((rd_T72 l1 a2).f1).toList == ([] : List UInt8)) = false := beq_eq_false_iff_ne.mpr c17
        have c17b1 : (((rd_T72 l1 a2).f1).toList != ([] : List UInt8)) = true := bne_iff_ne.mpr c17
        (try (have c17b2 : ((rd_T72 l1 a2).f1).toList.isEmpty = false := by simpa using c17))
        have H' := Z0.mk H
        clear H
        have hcz21 := bc2 BK167.out
        go_wp2
        repeat (go_quiet (fail); try go_wp2)
        go_meet
        case rel => exact ⟨_, (true), eqv_, H', ⟨by have := HJ5.out; first | omega | exact Nat.le_refl _⟩, ⟨bk_⟩, ⟨bl_⟩⟩
      rw [if_pos c17] at H
      have c17b0 : (((rd_T72 l1 a2).f1).toList == ([] : List UInt8)) = true := beq_iff_eq.mpr c17
      have c17b1 : (((rd_T72 l1 a2).f1).toList != ([] : List UInt8)) = false := bne_eq_false_iff_eq.mpr c17
      (try (have c17b2 : ((rd_T72 l1 a2).f1).toList.isEmpty = true := by simpa using c17))
      clear c17
      by_cases c18 : a0 = 1
      rotate_left
      · rw [if_neg c18] at H
        have c18b0 : (a0 == 1) = false := beq_eq_false_iff_ne.mpr c18
        have c18b1 : (a0 != 1) = true := bne_iff_ne.mpr c18
        have H' := Z0.mk H
        clear H
        have hcz20 := bc2 BK167.out
        go_wp2
        repeat (go_quiet (fail); try go_wp2)
        go_meet
        case rel => exact ⟨_, (false), eqv_, H', ⟨by have := HJ5.out; first | omega | exact Nat.le_refl _⟩, ⟨bk_⟩, ⟨bl_⟩⟩
      rw [if_pos c18] at H
      have c18b0 : (a0 == 1) = true := beq_iff_eq.mpr c18
      have c18b1 : (a0 != 1) = false := bne_eq_false_iff_eq.mpr c18
      clear c18
      have H' := Z0.mk H
      clear H
      have hcz19 := bc2 BK167.out
      go_wp2
      repeat (go_quiet (fail); try go_wp2)
      go_meet
      case rel => exact ⟨_, ((((rd_T72 l1 a2).f0).toList == ([] : List UInt8))), eqv_, H', ⟨by have := HJ5.out; first | omega | exact Nat.le_refl _⟩, ⟨bk_⟩, ⟨bl_⟩⟩
    clear HC13
    try clear c1
    try clear p1
    try clear q1
    try clear hx1
    try clear p2
    try clear c4
    try clear c4b0
    try clear c5
    try clear c5b0
    try clear c6
    try clear c9
    try clear c9b0
    try clear c9b1
    try clear c9b2
    try clear c12
    try clear c14
    try clear c14b0
    try clear c14b1
    try clear c15
    try clear c15b0
    try clear c15b1
    try clear p16
    try clear q16
    try clear hx16
    try clear c17
    try clear c17b0
    try clear c17b1
    try clear c17b2
    try clear c18
    try clear c18b0
    try clear c18b1
    try clear hcz10
    try clear hcz11
    try clear hcz16
    try clear hcz19
    try clear hcz20
    try clear hcz21
    try clear hcz8
    try clear hcz10
    try clear hcz11
    try clear hcz16
    try clear hcz19
    try clear hcz20
    try clear hcz21
    try clear hcz8
    try clear hx166_0
    try clear hx166_1
    try clear p1
    try clear p166
    try clear p2
    try clear q1
    try clear q166
    obtain ⟨kq, x37_12, rfl, HA, HJ12, BK167, HB⟩ := hcut
    cases kq with
    | zero => exact absurd HA.out (by simp [armoireref11_row.j1])
    | succ kj12 =>
      have H := HA.out
      clear HA
      simp only [armoireref11_row.j1] at H
      by_cases c22 : x37_12 = true
      · subst c22
        have H1 : (some 2) = some r := by rw [if_pos rfl] at H; exact H
        clear H
        have H := H1
        clear H1
        obtain rfl := Option.some.inj H
        go_wp2
        repeat (go_quiet (fail); try go_wp2)
        go_ret
        exact ⟨er_, bl_⟩
      replace c22 := Bool.eq_false_iff.mpr c22
      subst c22
      have H1 : (if a2 > 0 then (if a0 = 4 then (if 0 ≤ (wrap64 (a2 - 1)) then (if (wrap64 (a2 - 1)) < (l1.length : Int) then (armoireref11_row.j2 kj12 a0 l1 a2 (!(Op.bytesLess (((rd_T72 l1 (wrap64 (a2 - 1))).f0).toList) ((rd_T72 l1 a2).f0).toList)) ((rd_T72 l1 a2).f0) ((rd_T72 l1 a2).f1)) else (none)) else (none)) else (if a0 = 5 then (if 0 ≤ (wrap64 (a2 - 1)) then (if (wrap64 (a2 - 1)) < (l1.length : Int) then (armoireref11_row.j2 kj12 a0 l1 a2 (!(Op.bytesLess (((rd_T72 l1 (wrap64 (a2 - 1))).f0).toList) ((rd_T72 l1 a2).f0).toList)) ((rd_T72 l1 a2).f0) ((rd_T72 l1 a2).f1)) else (none)) else (none)) else (armoireref11_row.j2 kj12 a0 l1 a2 false ((rd_T72 l1 a2).f0) ((rd_T72 l1 a2).f1)))) else (armoireref11_row.j2 kj12 a0 l1 a2 false ((rd_T72 l1 a2).f0) ((rd_T72 l1 a2).f1))) = some r := by rw [if_neg (show ¬ (false = true) by decide)] at H; exact H
      clear H
      have H := H1
      clear H1
      have HC23 := Z0.mk H
      clear H
      go_upto_region 6 with (fail)
      repeat (go_quiet (fail); go_upto_region 6 with (fail))
      go_cut [58] (fun v58 wc => ∃ (kq : Nat) (x58_22 : Bool), v58 = .bool x58_22 ∧ Z0 (armoireref11_row.j2 kq a0 l1 a2 x58_22 ((rd_T72 l1 a2).f0) ((rd_T72 l1 a2).f1) = some r) ∧ Z0 (kq ≤ kj12) ∧ Z0 (wc.heap[gb167]? = some (.cells #[.string ((rd_T72 l1 a2).f0), .string ((rd_T72 l1 a2).f1)] 72 (0, 0))) ∧ Z0 (Below w.heap.size w wc))
      case first =>
        have H := HC23.out
        clear HC23
        by_cases c24 : a2 > 0
        rotate_left
        · rw [if_neg c24] at H
          have c24b0 : decide (0 < a2) = false := decide_eq_false c24
          clear c24
          (first | rw [c24b0] | (simp only [i64_w, i32_w]; rw [c24b0]) | skip)
          have H' := Z0.mk H
          clear H
          go_wp2
          repeat (go_quiet (fail); try go_wp2)
          go_meet
          case rel => exact ⟨_, (false), eqv_, H', ⟨by have := HJ5.out; have := HJ12.out; first | omega | exact Nat.le_refl _⟩, ⟨bk_⟩, ⟨bl_⟩⟩
        rw [if_pos c24] at H
        have c24b0 : decide (0 < a2) = true := decide_eq_true c24
        clear c24
        (first | rw [c24b0] | (simp only [i64_w, i32_w]; rw [c24b0]) | skip)
        by_cases c25 : a0 = 4
        · rw [if_pos c25] at H
          have c25b0 : (a0 == 4) = true := beq_iff_eq.mpr c25
          have c25b1 : (a0 != 4) = false := bne_eq_false_iff_eq.mpr c25
          clear c25
          obtain ⟨ji26, hji26⟩ : ∃ j_ : Int, (wrap64 (a2 - 1)) = j_ := ⟨_, rfl⟩
          replace H : (if 0 ≤ (ji26) then (if (ji26) < (l1.length : Int) then (armoireref11_row.j2 kj12 a0 l1 a2 (!(Op.bytesLess (((rd_T72 l1 (ji26)).f0).toList) ((rd_T72 l1 a2).f0).toList)) ((rd_T72 l1 a2).f0) ((rd_T72 l1 a2).f1)) else (none)) else (none)) = some r := by first | (rw [hji26] at H; exact H) | (simp only [hji26] at H ⊢; exact H)
          have hji26w : (IntKind.i64.wrap (a2 - 1)) = ji26 := (i64_w _).trans hji26
          by_cases c27 : 0 ≤ (ji26)
          rotate_left
          · rw [if_neg c27] at H
            exact absurd H (by simp)
          rw [if_pos c27] at H
          have c27b0 : decide (0 ≤ (ji26)) = true := decide_eq_true c27
          clear c27
          by_cases c28 : (ji26) < (l1.length : Int)
          rotate_left
          · rw [if_neg c28] at H
            exact absurd H (by simp)
          rw [if_pos c28] at H
          have c28b0 : decide ((ji26) < (l1.length : Int)) = true := decide_eq_true c28
          clear c28
          have H' := Z0.mk H
          clear H
          have p168 : 0 ≤ ((ji26) : Int) := of_decide_eq_true (by first | (with_reducible assumption) | assumption)
          have q168 : (ji26) < (l1.length : Int) := of_decide_eq_true (by first | (with_reducible assumption) | assumption)
          obtain ⟨ad168, e168, hx168_0, hx168_1⟩ := at_T72 HR1.out (ji26) p168 q168
          obtain rfl : ad166 = ad168 := (by injection e168)
          replace hx168_0 := (HB.out.cell (World.block_lt_of_cell? w _ hx168_0)).trans hx168_0
          replace hx168_1 := (HB.out.cell (World.block_lt_of_cell? w _ hx168_1)).trans hx168_1
          replace p168 := eq_true p168
          replace q168 := eq_true q168
          have hcz29 := bc2 BK167.out
          go_wp2
          repeat (go_quiet (fail); try go_wp2)
          go_meet
          case rel => exact ⟨_, (!(Op.bytesLess (((rd_T72 l1 (ji26)).f0).toList) ((rd_T72 l1 a2).f0).toList)), (by first | rfl | (simp; done) | (simp only [← hji26] <;> (first | rfl | simp)) | (simp [*]; done)), H', ⟨by have := HJ5.out; have := HJ12.out; first | omega | exact Nat.le_refl _⟩, ⟨bk_⟩, ⟨bl_⟩⟩
        rw [if_neg c25] at H
        have c25b0 : (a0 == 4) = false := beq_eq_false_iff_ne.mpr c25
        have c25b1 : (a0 != 4) = true := bne_iff_ne.mpr c25
        by_cases c30 : a0 = 5
        rotate_left
        · rw [if_neg c30] at H
          have c30b0 : (a0 == 5) = false := beq_eq_false_iff_ne.mpr c30
          have c30b1 : (a0 != 5) = true := bne_iff_ne.mpr c30
          have H' := Z0.mk H
          clear H
          go_wp2
          repeat (go_quiet (fail); try go_wp2)
          go_meet
          case rel => exact ⟨_, (false), eqv_, H', ⟨by have := HJ5.out; have := HJ12.out; first | omega | exact Nat.le_refl _⟩, ⟨bk_⟩, ⟨bl_⟩⟩
        rw [if_pos c30] at H
        have c30b0 : (a0 == 5) = true := beq_iff_eq.mpr c30
        have c30b1 : (a0 != 5) = false := bne_eq_false_iff_eq.mpr c30
        clear c30
        obtain ⟨ji31, hji31⟩ : ∃ j_ : Int, (wrap64 (a2 - 1)) = j_ := ⟨_, rfl⟩
        replace H : (if 0 ≤ (ji31) then (if (ji31) < (l1.length : Int) then (armoireref11_row.j2 kj12 a0 l1 a2 (!(Op.bytesLess (((rd_T72 l1 (ji31)).f0).toList) ((rd_T72 l1 a2).f0).toList)) ((rd_T72 l1 a2).f0) ((rd_T72 l1 a2).f1)) else (none)) else (none)) = some r := by first | (rw [hji31] at H; exact H) | (simp only [hji31] at H ⊢; exact H)
        have hji31w : (IntKind.i64.wrap (a2 - 1)) = ji31 := (i64_w _).trans hji31
        by_cases c32 : 0 ≤ (ji31)
        rotate_left
        · rw [if_neg c32] at H
          exact absurd H (by simp)
        rw [if_pos c32] at H
        have c32b0 : decide (0 ≤ (ji31)) = true := decide_eq_true c32
        clear c32
        by_cases c33 : (ji31) < (l1.length : Int)
        rotate_left
        · rw [if_neg c33] at H
          exact absurd H (by simp)
        rw [if_pos c33] at H
        have c33b0 : decide ((ji31) < (l1.length : Int)) = true := decide_eq_true c33
        clear c33
        have H' := Z0.mk H
        clear H
        have p169 : 0 ≤ ((ji31) : Int) := of_decide_eq_true (by first | (with_reducible assumption) | assumption)
        have q169 : (ji31) < (l1.length : Int) := of_decide_eq_true (by first | (with_reducible assumption) | assumption)
        obtain ⟨ad169, e169, hx169_0, hx169_1⟩ := at_T72 HR1.out (ji31) p169 q169
        obtain rfl : ad166 = ad169 := (by injection e169)
        replace hx169_0 := (HB.out.cell (World.block_lt_of_cell? w _ hx169_0)).trans hx169_0
        replace hx169_1 := (HB.out.cell (World.block_lt_of_cell? w _ hx169_1)).trans hx169_1
        replace p169 := eq_true p169
        replace q169 := eq_true q169
        have hcz34 := bc2 BK167.out
        go_wp2
        repeat (go_quiet (fail); try go_wp2)
        go_meet
        case rel => exact ⟨_, (!(Op.bytesLess (((rd_T72 l1 (ji31)).f0).toList) ((rd_T72 l1 a2).f0).toList)), (by first | rfl | (simp; done) | (simp only [← hji31] <;> (first | rfl | simp)) | (simp [*]; done)), H', ⟨by have := HJ5.out; have := HJ12.out; first | omega | exact Nat.le_refl _⟩, ⟨bk_⟩, ⟨bl_⟩⟩
      clear HC23
      try clear c1
      try clear p1
      try clear q1
      try clear hx1
      try clear c2
      try clear p2
      try clear c3
      try clear c4
      try clear c4b0
      try clear c5
      try clear c5b0
      try clear c6
      try clear p6
      try clear c9
      try clear c9b0
      try clear c9b1
      try clear c9b2
      try clear c12
      try clear c14
      try clear c14b0
      try clear c14b1
      try clear c15
      try clear c15b0
      try clear c15b1
      try clear p16
      try clear q16
      try clear hx16
      try clear c17
      try clear c17b0
      try clear c17b1
      try clear c17b2
      try clear c18
      try clear c18b0
      try clear c18b1
      try clear c22
      try clear c24
      try clear c24b0
      try clear c25
      try clear c25b0
      try clear c25b1
      try clear c27
      try clear c27b0
      try clear c28
      try clear c28b0
      try clear c30
      try clear c30b0
      try clear c30b1
      try clear c32
      try clear c32b0
      try clear c33
      try clear c33b0
      try clear hcz10
      try clear hcz11
      try clear hcz16
      try clear hcz19
      try clear hcz20
      try clear hcz21
      try clear hcz29
      try clear hcz34
      try clear hcz8
      try clear hcz10
      try clear hcz11
      try clear hcz16
      try clear hcz19
      try clear hcz20
      try clear hcz21
      try clear hcz29
      try clear hcz34
      try clear hcz8
      try clear hx166_0
      try clear hx166_1
      try clear hx168_0
      try clear hx168_1
      try clear hx169_0
      try clear hx169_1
      try clear p1
      try clear p16
      try clear p166
      try clear p168
      try clear p169
      try clear p2
      try clear q1
      try clear q16
      try clear q166
      try clear q168
      try clear q169
      obtain ⟨kq, x58_22, rfl, HA, HJ22, BK167, HB⟩ := hcut
      cases kq with
      | zero => exact absurd HA.out (by simp [armoireref11_row.j2])
      | succ kj22 =>
        have H := HA.out
        clear HA
        simp only [armoireref11_row.j2] at H
        by_cases c35 : x58_22 = true
        · subst c35
          have H1 : (some 2) = some r := by rw [if_pos rfl] at H; exact H
          clear H
          have H := H1
          clear H1
          obtain rfl := Option.some.inj H
          go_wp2
          repeat (go_quiet (fail); try go_wp2)
          go_ret
          exact ⟨er_, bl_⟩
        replace c35 := Bool.eq_false_iff.mpr c35
        subst c35
        have H1 : (if a2 > 0 then (if a0 = 7 then (if 0 ≤ (wrap64 (a2 - 1)) then (if (wrap64 (a2 - 1)) < (l1.length : Int) then (if (Op.bytesLess ((rd_T72 l1 a2).f0).toList (((rd_T72 l1 (wrap64 (a2 - 1))).f0).toList)) = true then (some 2) else (some 0)) else (none)) else (none)) else (some 0)) else (some 0)) = some r := by rw [if_neg (show ¬ (false = true) by decide)] at H; exact H
        clear H
        have H := H1
        clear H1
        by_cases c36 : a2 > 0
        rotate_left
        · rw [if_neg c36] at H
          have c36b0 : decide (0 < a2) = false := decide_eq_false c36
          clear c36
          obtain rfl := Option.some.inj H
          go_wp2
          repeat (go_quiet (fail); try go_wp2)
          go_ret
          exact ⟨er_, bl_⟩
        rw [if_pos c36] at H
        have c36b0 : decide (0 < a2) = true := decide_eq_true c36
        clear c36
        by_cases c37 : a0 = 7
        rotate_left
        · rw [if_neg c37] at H
          have c37b0 : (a0 == 7) = false := beq_eq_false_iff_ne.mpr c37
          have c37b1 : (a0 != 7) = true := bne_iff_ne.mpr c37
          obtain rfl := Option.some.inj H
          go_wp2
          repeat (go_quiet (fail); try go_wp2)
          go_ret
          exact ⟨er_, bl_⟩
        rw [if_pos c37] at H
        have c37b0 : (a0 == 7) = true := beq_iff_eq.mpr c37
        have c37b1 : (a0 != 7) = false := bne_eq_false_iff_eq.mpr c37
        clear c37
        obtain ⟨ji38, hji38⟩ : ∃ j_ : Int, (wrap64 (a2 - 1)) = j_ := ⟨_, rfl⟩
        replace H : (if 0 ≤ (ji38) then (if (ji38) < (l1.length : Int) then (if (Op.bytesLess ((rd_T72 l1 a2).f0).toList (((rd_T72 l1 (ji38)).f0).toList)) = true then (some 2) else (some 0)) else (none)) else (none)) = some r := by first | (rw [hji38] at H; exact H) | (simp only [hji38] at H ⊢; exact H)
        have hji38w : (IntKind.i64.wrap (a2 - 1)) = ji38 := (i64_w _).trans hji38
        by_cases c39 : 0 ≤ (ji38)
        rotate_left
        · rw [if_neg c39] at H
          exact absurd H (by simp)
        rw [if_pos c39] at H
        have c39b0 : decide (0 ≤ (ji38)) = true := decide_eq_true c39
        clear c39
        by_cases c40 : (ji38) < (l1.length : Int)
        rotate_left
        · rw [if_neg c40] at H
          exact absurd H (by simp)
        rw [if_pos c40] at H
        have c40b0 : decide ((ji38) < (l1.length : Int)) = true := decide_eq_true c40
        clear c40
        by_cases c41 : (Op.bytesLess ((rd_T72 l1 a2).f0).toList (((rd_T72 l1 (ji38)).f0).toList)) = true
        · rw [if_pos c41] at H
          have c41b0 : (Op.bytesLess ((rd_T72 l1 a2).f0).toList (((rd_T72 l1 (ji38)).f0).toList)) = true := c41
          (try (have c41b1 : (Op.bytesLess (((rd_T72 l1 (ji38)).f0).toList) ((rd_T72 l1 a2).f0).toList) = false := bl_gt c41))
          (try (have c41b2 : ((((rd_T72 l1 (ji38)).f0).toList) == ((rd_T72 l1 a2).f0).toList) = false := bl_ne c41))
          (try (have c41b3 : (!(Op.bytesLess (((rd_T72 l1 (ji38)).f0).toList) ((rd_T72 l1 a2).f0).toList || (((rd_T72 l1 (ji38)).f0).toList) == ((rd_T72 l1 a2).f0).toList)) = true := bl_yy c41))
          clear c41
          obtain rfl := Option.some.inj H
          have p170 : 0 ≤ ((ji38) : Int) := of_decide_eq_true (by first | (with_reducible assumption) | assumption)
          have q170 : (ji38) < (l1.length : Int) := of_decide_eq_true (by first | (with_reducible assumption) | assumption)
          obtain ⟨ad170, e170, hx170_0, hx170_1⟩ := at_T72 HR1.out (ji38) p170 q170
          obtain rfl : ad166 = ad170 := (by injection e170)
          replace hx170_0 := (HB.out.cell (World.block_lt_of_cell? w _ hx170_0)).trans hx170_0
          replace hx170_1 := (HB.out.cell (World.block_lt_of_cell? w _ hx170_1)).trans hx170_1
          replace p170 := eq_true p170
          replace q170 := eq_true q170
          have hcz42 := bc2 BK167.out
          go_wp2
          repeat (go_quiet (fail); try go_wp2)
          go_ret
          exact ⟨by first | rfl | (simp [errW_none, errW_some] <;> rfl) | (simp only [← hji38]; first | rfl | (simp [errW_none, errW_some] <;> rfl)) | (simp [*, errW_none, errW_some] <;> rfl), bl_⟩
        rw [if_neg c41] at H
        have c41b0 : (Op.bytesLess ((rd_T72 l1 a2).f0).toList (((rd_T72 l1 (ji38)).f0).toList)) = false := by simpa using c41
        (try (have c41b1 : (Op.bytesLess (((rd_T72 l1 (ji38)).f0).toList) ((rd_T72 l1 a2).f0).toList || (((rd_T72 l1 (ji38)).f0).toList) == ((rd_T72 l1 a2).f0).toList) = true := bl_le c41))
        (try (have c41b2 : ((!Op.bytesLess (((rd_T72 l1 (ji38)).f0).toList) ((rd_T72 l1 a2).f0).toList) = true ∧ (!(((rd_T72 l1 (ji38)).f0).toList) == ((rd_T72 l1 a2).f0).toList) = true) = False := bl_and c41))
        (try (have c41b3 : (!Op.bytesLess (((rd_T72 l1 (ji38)).f0).toList) ((rd_T72 l1 a2).f0).toList && !(((rd_T72 l1 (ji38)).f0).toList) == ((rd_T72 l1 a2).f0).toList) = false := bl_bb c41))
        (try (have c41b4 : (!(Op.bytesLess (((rd_T72 l1 (ji38)).f0).toList) ((rd_T72 l1 a2).f0).toList || (((rd_T72 l1 (ji38)).f0).toList) == ((rd_T72 l1 a2).f0).toList)) = false := bl_nn c41))
        clear c41
        obtain rfl := Option.some.inj H
        have p170 : 0 ≤ ((ji38) : Int) := of_decide_eq_true (by first | (with_reducible assumption) | assumption)
        have q170 : (ji38) < (l1.length : Int) := of_decide_eq_true (by first | (with_reducible assumption) | assumption)
        obtain ⟨ad170, e170, hx170_0, hx170_1⟩ := at_T72 HR1.out (ji38) p170 q170
        obtain rfl : ad166 = ad170 := (by injection e170)
        replace hx170_0 := (HB.out.cell (World.block_lt_of_cell? w _ hx170_0)).trans hx170_0
        replace hx170_1 := (HB.out.cell (World.block_lt_of_cell? w _ hx170_1)).trans hx170_1
        replace p170 := eq_true p170
        replace q170 := eq_true q170
        have hcz43 := bc2 BK167.out
        go_wp2
        repeat (go_quiet (fail); try go_wp2)
        go_ret
        exact ⟨by first | rfl | (simp [errW_none, errW_some] <;> rfl) | (simp only [← hji38]; first | rfl | (simp [errW_none, errW_some] <;> rfl)) | (simp [*, errW_none, errW_some] <;> rfl), bl_⟩
end Go.Proofs.YtjiblcncadekcaaGreat.PA

