import Derived.Test.YtjiblcncadekcaaGreatQOxPAx0
import Derived.Test.YtjiblcncadekcaaGreatQOxPAx5
namespace Go.Proofs.YtjiblcncadekcaaGreat.PA
open Go.Proofs.YtjiblcncadekcaaGreat.PL
open Go.RowKit Go.Proofs.YtjiblcncadekcaaGreatW.PrintWords Go.Proofs.YtjiblcncadekcaaGreatW.PrintLast Go.Proofs.YtjiblcncadekcaaGreatW.PrintMore
attribute [local go_sem] max2_int min2_int bl_leq max_two min_two max_three min_three max_four min_four
set_option linter.unusedVariables false
set_option linter.unusedSimpArgs false
mutual
def armoireref11_Check.j0 : Nat → Bool → Int → Int → List (S72) → Option (Int)
  | 0, _, _, _, _ => none
  | k + 1, x12, x172000, x172001, x172002 => if x12 = true then (some 6) else (if x172000 = 2 then (armoireref11_Check.j1 k true x172000 x172001 x172002) else (armoireref11_Check.j1 k (x172000 == 3) x172000 x172001 x172002))
def armoireref11_Check.j1 : Nat → Bool → Int → Int → List (S72) → Option (Int)
  | 0, _, _, _, _ => none
  | k + 1, x3, x172000, x172001, x172002 => if x3 = true then (if (x172002.length : Int) > 0 then (armoireref11_Check.j2 k true x172000 x172001 x172002) else (if x172000 = 3 then (armoireref11_Check.j2 k (decide (x172001 < 0)) x172000 x172001 x172002) else (armoireref11_Check.j2 k false x172000 x172001 x172002))) else (if x172001 = 0 then (if x172000 = 3 then (armoireref11_Check.j2 k (decide (x172001 < 0)) x172000 x172001 x172002) else (armoireref11_Check.j2 k false x172000 x172001 x172002)) else (armoireref11_Check.j2 k true x172000 x172001 x172002))
def armoireref11_Check.j2 : Nat → Bool → Int → Int → List (S72) → Option (Int)
  | 0, _, _, _, _ => none
  | k + 1, x46, x172000, x172001, x172002 => if x46 = true then (some 2) else (if (x172002.length : Int) > 8 then (armoireref11_Check.j3 k true x172000 x172001 x172002) else (if x172000 = 1 then (armoireref11_Check.j3 k (decide ((x172002.length : Int) > 1)) x172000 x172001 x172002) else (armoireref11_Check.j3 k false x172000 x172001 x172002)))
def armoireref11_Check.j3 : Nat → Bool → Int → Int → List (S72) → Option (Int)
  | 0, _, _, _, _ => none
  | k + 1, x61, x172000, x172001, x172002 => if x61 = true then (some 7) else (armoireref11_Check.l0 k (x172002.length : Int) 0 x172000 x172001 x172002)
def armoireref11_Check.l0 : Nat → Int → Int → Int → Int → List (S72) → Option (Int)
  | 0, _, _, _, _, _ => none
  | k + 1, x64, x65, x172000, x172001, x172002 => if x65 < x64 then ((armoireref11_row.f k x172000 x172002 x65).bind fun t172 => (if t172 = 0 then (armoireref11_Check.l0 k x64 (wrap64 (x65 + 1)) x172000 x172001 x172002) else ((armoireref11_row.f k x172000 x172002 x65).bind fun t173 => (some t173)))) else (some 0)
end
def armoireref11_Check.f (k : Nat) (a0_0 : Int) (a0_1 : Int) (l0_2 : List (S72)) : Option (Int) := if a0_0 < 1 then (armoireref11_Check.j0 k true a0_0 a0_1 l0_2) else (armoireref11_Check.j0 k (decide (a0_0 > 7)) a0_0 a0_1 l0_2)
set_option maxHeartbeats 8000000 in
set_option maxRecDepth 100000 in
theorem armoireref11_Check.calls (k : Nat) (a0_0 : Int) (a0_1 : Int) (A0_2 : Option Addr) (c0_2 : Nat) (l0_2 : List (S72)) (r : Int) (w : World) (hr0_2 : Kd.C k72 w A0_2 l0_2.length l0_2) (hc0_2 : l0_2.length ≤ c0_2) (h : armoireref11_Check.f k a0_0 a0_1 l0_2 = some r) :
    Calls Tryz.prog 48 #[.agg #[.int .i64 a0_0, .int .i64 a0_1, .slice A0_2 l0_2.length c0_2]] w fun e w' => e = .returned (.int .i64 r) ∧ Below w.heap.size w w' := by
  have hu30 := Tryz.underlying30
  have HR0_2 := Z0.mk hr0_2
  have HC0_2 := Z0.mk hc0_2
  clear hr0_2 hc0_2
  have HB := Z0.mk (Below.refl w.heap.size w)
  have H : (if a0_0 < 1 then (armoireref11_Check.j0 k true a0_0 a0_1 l0_2) else (armoireref11_Check.j0 k (decide (a0_0 > 7)) a0_0 a0_1 l0_2)) = some r := h
  clear h
  have HC2 := Z0.mk H
  clear H
  go_enter Tryz.func48, Tryz.ntmps48
  go_upto_region 1 with (first | ((with_reducible refine gds (N := 1) rfl ?_); (try (refine gate_guard (by rfl) ?_; dsimp only)); refine bx_ (N := 1) (cs := #[.int .i64 a0_0, .int .i64 a0_1, .slice A0_2 l0_2.length c0_2]) (t := 30) ?_; intro gb171 hg w3 hbox hb; have n0_ := Z0.mk (bsp bl_ hb); have n1_ := Z0.mk (hbox); have n2_ := Z0.mk ((by rw [hg]; exact bsz bl_ : w.heap.size ≤ gb171)); have n3_ := Z0.mk ((by rw [hg]; exact bsz bl_ : w.heap.size ≤ gb171)); clear HB; have HB := n0_; have BK171 := n1_; have GW171 := n2_; have GE171 := n3_; clear n0_ n1_ n2_ n3_; clear hb hbox hg))
  (try simp only [Act.put, List.setIfInBounds_toArray, List.set_cons_zero, List.set_cons_succ])
  go_cut [12] (fun v12 wc => ∃ (kq : Nat) (x12_1 : Bool), v12 = .bool x12_1 ∧ Z0 (armoireref11_Check.j0 kq x12_1 a0_0 a0_1 l0_2 = some r) ∧ Z0 (kq ≤ k) ∧ Z0 (wc.heap[gb171]? = some (.cells #[.int .i64 a0_0, .int .i64 a0_1, (.slice A0_2 l0_2.length c0_2)] 30 (0, 0))) ∧ Z0 (Below w.heap.size w wc))
  case first =>
    have H := HC2.out
    clear HC2
    by_cases c4 : a0_0 < 1
    · rw [if_pos c4] at H
      have c4b0 : decide (a0_0 < 1) = true := decide_eq_true c4
      clear c4
      (first | rw [c4b0] | (simp only [i64_w, i32_w]; rw [c4b0]) | skip)
      have H' := Z0.mk H
      clear H
      have hcz5 := bc3 BK171.out
      go_wp2
      go_meet
      case rel => exact ⟨_, (true), eqv_, H', ⟨by first | omega | exact Nat.le_refl _⟩, ⟨bk_⟩, ⟨bl_⟩⟩
    rw [if_neg c4] at H
    have c4b0 : decide (a0_0 < 1) = false := decide_eq_false c4
    clear c4
    (first | rw [c4b0] | (simp only [i64_w, i32_w]; rw [c4b0]) | skip)
    have H' := Z0.mk H
    clear H
    have hcz6 := bc3 BK171.out
    go_wp2
    go_meet
    case rel => exact ⟨_, (decide (a0_0 > 7)), eqv_, H', ⟨by first | omega | exact Nat.le_refl _⟩, ⟨bk_⟩, ⟨bl_⟩⟩
  clear HC2
  try clear p2
  try clear c4
  try clear c4b0
  try clear hcz5
  try clear hcz6
  try clear hcz5
  try clear hcz6
  obtain ⟨kq, x12_1, rfl, HA, HJ1, BK171, HB⟩ := hcut
  cases kq with
  | zero => exact absurd HA.out (by simp [armoireref11_Check.j0])
  | succ kj1 =>
    have H := HA.out
    clear HA
    simp only [armoireref11_Check.j0] at H
    by_cases c7 : x12_1 = true
    · subst c7
      have H1 : (some 6) = some r := by rw [if_pos rfl] at H; exact H
      clear H
      have H := H1
      clear H1
      obtain rfl := Option.some.inj H
      go_wp2
      go_ret
      exact ⟨er_, bl_⟩
    replace c7 := Bool.eq_false_iff.mpr c7
    subst c7
    have H1 : (if a0_0 = 2 then (armoireref11_Check.j1 kj1 true a0_0 a0_1 l0_2) else (armoireref11_Check.j1 kj1 (a0_0 == 3) a0_0 a0_1 l0_2)) = some r := by rw [if_neg (show ¬ (false = true) by decide)] at H; exact H
    clear H
    have H := H1
    clear H1
    have HC8 := Z0.mk H
    clear H
    go_upto_region 3 with (fail)
    go_cut [3] (fun v3 wc => ∃ (kq : Nat) (x3_7 : Bool), v3 = .bool x3_7 ∧ Z0 (armoireref11_Check.j1 kq x3_7 a0_0 a0_1 l0_2 = some r) ∧ Z0 (kq ≤ kj1) ∧ Z0 (wc.heap[gb171]? = some (.cells #[.int .i64 a0_0, .int .i64 a0_1, (.slice A0_2 l0_2.length c0_2)] 30 (0, 0))) ∧ Z0 (Below w.heap.size w wc))
    case first =>
      have H := HC8.out
      clear HC8
      by_cases c9 : a0_0 = 2
      rotate_left
      · rw [if_neg c9] at H
        have c9b0 : (a0_0 == 2) = false := beq_eq_false_iff_ne.mpr c9
        have c9b1 : (a0_0 != 2) = true := bne_iff_ne.mpr c9
        (first | rw [c9b0] | (simp only [i64_w, i32_w]; rw [c9b0]) | skip)
        have H' := Z0.mk H
        clear H
        have hcz11 := bc3 BK171.out
        go_wp2
        go_meet
        case rel => exact ⟨_, ((a0_0 == 3)), eqv_, H', ⟨by have := HJ1.out; first | omega | exact Nat.le_refl _⟩, ⟨bk_⟩, ⟨bl_⟩⟩
      rw [if_pos c9] at H
      have c9b0 : (a0_0 == 2) = true := beq_iff_eq.mpr c9
      have c9b1 : (a0_0 != 2) = false := bne_eq_false_iff_eq.mpr c9
      clear c9
      (first | rw [c9b0] | (simp only [i64_w, i32_w]; rw [c9b0]) | skip)
      have H' := Z0.mk H
      clear H
      have hcz10 := bc3 BK171.out
      go_wp2
      go_meet
      case rel => exact ⟨_, (true), eqv_, H', ⟨by have := HJ1.out; first | omega | exact Nat.le_refl _⟩, ⟨bk_⟩, ⟨bl_⟩⟩
    clear HC8
    try clear p2
    try clear c4
    try clear c4b0
    try clear c7
    try clear c9
    try clear c9b0
    try clear c9b1
    try clear hcz10
    try clear hcz11
    try clear hcz5
    try clear hcz6
    try clear hcz10
    try clear hcz11
    try clear hcz5
    try clear hcz6
    try clear p2
    obtain ⟨kq, x3_7, rfl, HA, HJ7, BK171, HB⟩ := hcut
    cases kq with
    | zero => exact absurd HA.out (by simp [armoireref11_Check.j1])
    | succ kj7 =>
      have H := HA.out
      clear HA
      simp only [armoireref11_Check.j1] at H
      have HC12 := Z0.mk H
      clear H
      go_upto_region 4 with (fail)
      go_cut [46] (fun v46 wc => ∃ (kq : Nat) (x46_11 : Bool), v46 = .bool x46_11 ∧ Z0 (armoireref11_Check.j2 kq x46_11 a0_0 a0_1 l0_2 = some r) ∧ Z0 (kq ≤ kj7) ∧ Z0 (wc.heap[gb171]? = some (.cells #[.int .i64 a0_0, .int .i64 a0_1, (.slice A0_2 l0_2.length c0_2)] 30 (0, 0))) ∧ Z0 (Below w.heap.size w wc))
      case first =>
        have H := HC12.out
        clear HC12
        by_cases c13 : x3_7 = true
        rotate_left
        · replace c13 := Bool.eq_false_iff.mpr c13
          subst c13
          have H1 : (if a0_1 = 0 then (if a0_0 = 3 then (armoireref11_Check.j2 kj7 (decide (a0_1 < 0)) a0_0 a0_1 l0_2) else (armoireref11_Check.j2 kj7 false a0_0 a0_1 l0_2)) else (armoireref11_Check.j2 kj7 true a0_0 a0_1 l0_2)) = some r := by rw [if_neg (show ¬ (false = true) by decide)] at H; exact H
          clear H
          have H := H1
          clear H1
          by_cases c19 : a0_1 = 0
          rotate_left
          · rw [if_neg c19] at H
            have c19b0 : (a0_1 == 0) = false := beq_eq_false_iff_ne.mpr c19
            have c19b1 : (a0_1 != 0) = true := bne_iff_ne.mpr c19
            have H' := Z0.mk H
            clear H
            have hcz23 := bc3 BK171.out
            go_wp2
            go_meet
            case rel => exact ⟨_, (true), eqv_, H', ⟨by have := HJ1.out; have := HJ7.out; first | omega | exact Nat.le_refl _⟩, ⟨bk_⟩, ⟨bl_⟩⟩
          rw [if_pos c19] at H
          have c19b0 : (a0_1 == 0) = true := beq_iff_eq.mpr c19
          have c19b1 : (a0_1 != 0) = false := bne_eq_false_iff_eq.mpr c19
          clear c19
          by_cases c20 : a0_0 = 3
          rotate_left
          · rw [if_neg c20] at H
            have c20b0 : (a0_0 == 3) = false := beq_eq_false_iff_ne.mpr c20
            have c20b1 : (a0_0 != 3) = true := bne_iff_ne.mpr c20
            have H' := Z0.mk H
            clear H
            have hcz22 := bc3 BK171.out
            go_wp2
            go_meet
            case rel => exact ⟨_, (false), eqv_, H', ⟨by have := HJ1.out; have := HJ7.out; first | omega | exact Nat.le_refl _⟩, ⟨bk_⟩, ⟨bl_⟩⟩
          rw [if_pos c20] at H
          have c20b0 : (a0_0 == 3) = true := beq_iff_eq.mpr c20
          have c20b1 : (a0_0 != 3) = false := bne_eq_false_iff_eq.mpr c20
          clear c20
          have H' := Z0.mk H
          clear H
          have hcz21 := bc3 BK171.out
          go_wp2
          go_meet
          case rel => exact ⟨_, (decide (a0_1 < 0)), eqv_, H', ⟨by have := HJ1.out; have := HJ7.out; first | omega | exact Nat.le_refl _⟩, ⟨bk_⟩, ⟨bl_⟩⟩
        subst c13
        have H1 : (if (l0_2.length : Int) > 0 then (armoireref11_Check.j2 kj7 true a0_0 a0_1 l0_2) else (if a0_0 = 3 then (armoireref11_Check.j2 kj7 (decide (a0_1 < 0)) a0_0 a0_1 l0_2) else (armoireref11_Check.j2 kj7 false a0_0 a0_1 l0_2))) = some r := by rw [if_pos rfl] at H; exact H
        clear H
        have H := H1
        clear H1
        by_cases c14 : (l0_2.length : Int) > 0
        · rw [if_pos c14] at H
          have c14b0 : decide (0 < (l0_2.length : Int)) = true := decide_eq_true c14
          have c14b1 : decide (0 < l0_2.length) = true := decide_eq_true (by omega)
          clear c14
          (first | rw [c14b0] | (simp only [i64_w, i32_w]; rw [c14b0]) | skip)
          have H' := Z0.mk H
          clear H
          have hcz15 := bc3 BK171.out
          go_wp2
          go_meet
          case rel => exact ⟨_, (true), eqv_, H', ⟨by have := HJ1.out; have := HJ7.out; first | omega | exact Nat.le_refl _⟩, ⟨bk_⟩, ⟨bl_⟩⟩
        rw [if_neg c14] at H
        have c14b0 : decide (0 < (l0_2.length : Int)) = false := decide_eq_false c14
        have c14b1 : decide (0 < l0_2.length) = false := decide_eq_false (by omega)
        clear c14
        (first | rw [c14b0] | (simp only [i64_w, i32_w]; rw [c14b0]) | skip)
        by_cases c16 : a0_0 = 3
        rotate_left
        · rw [if_neg c16] at H
          have c16b0 : (a0_0 == 3) = false := beq_eq_false_iff_ne.mpr c16
          have c16b1 : (a0_0 != 3) = true := bne_iff_ne.mpr c16
          have H' := Z0.mk H
          clear H
          have hcz18 := bc3 BK171.out
          go_wp2
          go_meet
          case rel => exact ⟨_, (false), eqv_, H', ⟨by have := HJ1.out; have := HJ7.out; first | omega | exact Nat.le_refl _⟩, ⟨bk_⟩, ⟨bl_⟩⟩
        rw [if_pos c16] at H
        have c16b0 : (a0_0 == 3) = true := beq_iff_eq.mpr c16
        have c16b1 : (a0_0 != 3) = false := bne_eq_false_iff_eq.mpr c16
        clear c16
        have H' := Z0.mk H
        clear H
        have hcz17 := bc3 BK171.out
        go_wp2
        go_meet
        case rel => exact ⟨_, (decide (a0_1 < 0)), eqv_, H', ⟨by have := HJ1.out; have := HJ7.out; first | omega | exact Nat.le_refl _⟩, ⟨bk_⟩, ⟨bl_⟩⟩
      clear HC12
      try clear c1
      try clear c2
      try clear p2
      try clear c4
      try clear c4b0
      try clear c7
      try clear c9
      try clear c9b0
      try clear c9b1
      try clear c13
      try clear c14
      try clear c14b0
      try clear c14b1
      try clear c16
      try clear c16b0
      try clear c16b1
      try clear c19
      try clear c19b0
      try clear c19b1
      try clear c20
      try clear c20b0
      try clear c20b1
      try clear hcz10
      try clear hcz11
      try clear hcz15
      try clear hcz17
      try clear hcz18
      try clear hcz21
      try clear hcz22
      try clear hcz23
      try clear hcz5
      try clear hcz6
      try clear hcz10
      try clear hcz11
      try clear hcz15
      try clear hcz17
      try clear hcz18
      try clear hcz21
      try clear hcz22
      try clear hcz23
      try clear hcz5
      try clear hcz6
      try clear p2
      obtain ⟨kq, x46_11, rfl, HA, HJ11, BK171, HB⟩ := hcut
      cases kq with
      | zero => exact absurd HA.out (by simp [armoireref11_Check.j2])
      | succ kj11 =>
        have H := HA.out
        clear HA
        simp only [armoireref11_Check.j2] at H
        by_cases c24 : x46_11 = true
        · subst c24
          have H1 : (some 2) = some r := by rw [if_pos rfl] at H; exact H
          clear H
          have H := H1
          clear H1
          obtain rfl := Option.some.inj H
          go_wp2
          go_ret
          exact ⟨er_, bl_⟩
        replace c24 := Bool.eq_false_iff.mpr c24
        subst c24
        have H1 : (if (l0_2.length : Int) > 8 then (armoireref11_Check.j3 kj11 true a0_0 a0_1 l0_2) else (if a0_0 = 1 then (armoireref11_Check.j3 kj11 (decide ((l0_2.length : Int) > 1)) a0_0 a0_1 l0_2) else (armoireref11_Check.j3 kj11 false a0_0 a0_1 l0_2))) = some r := by rw [if_neg (show ¬ (false = true) by decide)] at H; exact H
        clear H
        have H := H1
        clear H1
        have HC25 := Z0.mk H
        clear H
        go_upto_region 6 with (fail)
        go_cut [61] (fun v61 wc => ∃ (kq : Nat) (x61_24 : Bool), v61 = .bool x61_24 ∧ Z0 (armoireref11_Check.j3 kq x61_24 a0_0 a0_1 l0_2 = some r) ∧ Z0 (kq ≤ kj11) ∧ Z0 (wc.heap[gb171]? = some (.cells #[.int .i64 a0_0, .int .i64 a0_1, (.slice A0_2 l0_2.length c0_2)] 30 (0, 0))) ∧ Z0 (Below w.heap.size w wc))
        case first =>
          have H := HC25.out
          clear HC25
          by_cases c26 : (l0_2.length : Int) > 8
          · rw [if_pos c26] at H
            have c26b0 : decide (8 < (l0_2.length : Int)) = true := decide_eq_true c26
            have c26b1 : decide (8 < l0_2.length) = true := decide_eq_true (by omega)
            clear c26
            (first | rw [c26b0] | (simp only [i64_w, i32_w]; rw [c26b0]) | skip)
            have H' := Z0.mk H
            clear H
            have hcz27 := bc3 BK171.out
            go_wp2
            go_meet
            case rel => exact ⟨_, (true), eqv_, H', ⟨by have := HJ1.out; have := HJ7.out; have := HJ11.out; first | omega | exact Nat.le_refl _⟩, ⟨bk_⟩, ⟨bl_⟩⟩
          rw [if_neg c26] at H
          have c26b0 : decide (8 < (l0_2.length : Int)) = false := decide_eq_false c26
          have c26b1 : decide (8 < l0_2.length) = false := decide_eq_false (by omega)
          clear c26
          (first | rw [c26b0] | (simp only [i64_w, i32_w]; rw [c26b0]) | skip)
          by_cases c28 : a0_0 = 1
          rotate_left
          · rw [if_neg c28] at H
            have c28b0 : (a0_0 == 1) = false := beq_eq_false_iff_ne.mpr c28
            have c28b1 : (a0_0 != 1) = true := bne_iff_ne.mpr c28
            have H' := Z0.mk H
            clear H
            have hcz30 := bc3 BK171.out
            go_wp2
            go_meet
            case rel => exact ⟨_, (false), eqv_, H', ⟨by have := HJ1.out; have := HJ7.out; have := HJ11.out; first | omega | exact Nat.le_refl _⟩, ⟨bk_⟩, ⟨bl_⟩⟩
          rw [if_pos c28] at H
          have c28b0 : (a0_0 == 1) = true := beq_iff_eq.mpr c28
          have c28b1 : (a0_0 != 1) = false := bne_eq_false_iff_eq.mpr c28
          clear c28
          have H' := Z0.mk H
          clear H
          have hcz29 := bc3 BK171.out
          go_wp2
          go_meet
          case rel => exact ⟨_, (decide ((l0_2.length : Int) > 1)), eqv_, H', ⟨by have := HJ1.out; have := HJ7.out; have := HJ11.out; first | omega | exact Nat.le_refl _⟩, ⟨bk_⟩, ⟨bl_⟩⟩
        clear HC25
        try clear c1
        try clear c2
        try clear p2
        try clear c4
        try clear c4b0
        try clear c7
        try clear c9
        try clear c9b0
        try clear c9b1
        try clear c13
        try clear c14
        try clear c14b0
        try clear c14b1
        try clear c16
        try clear c16b0
        try clear c16b1
        try clear c19
        try clear c19b0
        try clear c19b1
        try clear c20
        try clear c20b0
        try clear c20b1
        try clear c24
        try clear c26
        try clear c26b0
        try clear c26b1
        try clear c28
        try clear c28b0
        try clear c28b1
        try clear hcz10
        try clear hcz11
        try clear hcz15
        try clear hcz17
        try clear hcz18
        try clear hcz21
        try clear hcz22
        try clear hcz23
        try clear hcz27
        try clear hcz29
        try clear hcz30
        try clear hcz5
        try clear hcz6
        try clear hcz10
        try clear hcz11
        try clear hcz15
        try clear hcz17
        try clear hcz18
        try clear hcz21
        try clear hcz22
        try clear hcz23
        try clear hcz27
        try clear hcz29
        try clear hcz30
        try clear hcz5
        try clear hcz6
        try clear p2
        obtain ⟨kq, x61_24, rfl, HA, HJ24, BK171, HB⟩ := hcut
        cases kq with
        | zero => exact absurd HA.out (by simp [armoireref11_Check.j3])
        | succ kj24 =>
          have H := HA.out
          clear HA
          simp only [armoireref11_Check.j3] at H
          by_cases c31 : x61_24 = true
          · subst c31
            have H1 : (some 7) = some r := by rw [if_pos rfl] at H; exact H
            clear H
            have H := H1
            clear H1
            obtain rfl := Option.some.inj H
            go_wp2
            go_ret
            exact ⟨er_, bl_⟩
          replace c31 := Bool.eq_false_iff.mpr c31
          subst c31
          have H1 : (armoireref11_Check.l0 kj24 (l0_2.length : Int) 0 a0_0 a0_1 l0_2) = some r := by rw [if_neg (show ¬ (false = true) by decide)] at H; exact H
          clear H
          have H := H1
          clear H1
          have H' := Z0.mk H
          clear H
          have hcz32 := bc3 BK171.out
          go_wp2
          go_loopg [65] kj24 (fun kq v65 w' => ∃ (x65_5 : Int), v65 = .int .i64 x65_5 ∧ Z0 (armoireref11_Check.l0 kq (l0_2.length : Int) x65_5 a0_0 a0_1 l0_2 = some r) ∧ Z0 (kq ≤ kj24) ∧ Z0 (w'.heap[gb171]? = some (.cells #[.int .i64 a0_0, .int .i64 a0_1, (.slice A0_2 l0_2.length c0_2)] 30 (0, 0))) ∧ Z0 (Below w.heap.size w w'))
          case atStart => exact ⟨(0), eqv_, H', ⟨Nat.le_refl _⟩, ⟨bk_⟩, ⟨bl_⟩⟩
          clear H'
          try clear c1
          try clear c2
          try clear p2
          try clear c3
          try clear c4
          try clear c4b0
          try clear c7
          try clear c9
          try clear c9b0
          try clear c9b1
          try clear c13
          try clear c14
          try clear c14b0
          try clear c14b1
          try clear c16
          try clear c16b0
          try clear c16b1
          try clear c19
          try clear c19b0
          try clear c19b1
          try clear c20
          try clear c20b0
          try clear c20b1
          try clear c24
          try clear c26
          try clear c26b0
          try clear c26b1
          try clear c28
          try clear c28b0
          try clear c28b1
          try clear c31
          try clear hcz10
          try clear hcz11
          try clear hcz15
          try clear hcz17
          try clear hcz18
          try clear hcz21
          try clear hcz22
          try clear hcz23
          try clear hcz27
          try clear hcz29
          try clear hcz30
          try clear hcz32
          try clear hcz5
          try clear hcz6
          try clear hcz10
          try clear hcz11
          try clear hcz15
          try clear hcz17
          try clear hcz18
          try clear hcz21
          try clear hcz22
          try clear hcz23
          try clear hcz27
          try clear hcz29
          try clear hcz30
          try clear hcz32
          try clear hcz5
          try clear hcz6
          try clear p2
          obtain ⟨x65_5, rfl, HA, HK5, BK171, HB⟩ := hrel
          cases gk with
          | zero => exact absurd HA.out (by simp [armoireref11_Check.l0])
          | succ k5 =>
            have H := HA.out
            clear HA
            simp only [armoireref11_Check.l0] at H
            by_cases c33 : x65_5 < (l0_2.length : Int)
            rotate_left
            · rw [if_neg c33] at H
              have c33b0 : decide (x65_5 < (l0_2.length : Int)) = false := decide_eq_false c33
              clear c33
              obtain rfl := Option.some.inj H
              go_wp2
              go_ret
              exact ⟨er_, bl_⟩
            rw [if_pos c33] at H
            have c33b0 : decide (x65_5 < (l0_2.length : Int)) = true := decide_eq_true c33
            clear c33
            replace H := Option.bind_eq_some_iff.mp H
            obtain ⟨t172, A340, H⟩ := H
            replace H : (if t172 = 0 then (armoireref11_Check.l0 k5 (l0_2.length : Int) (wrap64 (x65_5 + 1)) a0_0 a0_1 l0_2) else ((armoireref11_row.f k5 a0_0 l0_2 x65_5).bind fun t173 => (some t173))) = some r := H
            have A34 := Z0.mk A340
            clear A340
            have HS35 := Z0.mk H
            clear H
            have hcz36 := bc3 BK171.out
            go_upto_if 74 with (first | ((with_reducible refine gcl (f := 67) rfl ?_); refine gl_ (some 73) rfl rfl Tryz.func67 (by kernel_rfl) rfl #[.int .i64 a0_0, .slice A0_2 l0_2.length c0_2, .int .i64 x65_5] rfl ar_ ?_; (with_reducible refine (armoireref11_row.calls k5 a0_0 _ _ l0_2 x65_5 t172 _ ?side1 ?side2 A34.out).mono ?_); (case side1 => repeat (first | exact (Kd.C_below HR0_2.out HB.out) | (with_reducible refine Kd.C_alloc ?_ _) | (with_reducible refine Kd.C_drewN ?_ _) | (with_reducible refine Kd.C_drew ?_))); (case side2 => exact HC0_2.out); rintro e w37 ⟨rfl, hb⟩; refine ⟨_, rfl, ?_⟩; have n0_ := Z0.mk (kbl (g := gb171) bk_ hb); have n1_ := Z0.mk (bsp bl_ hb); clear BK171; clear HB; have BK171 := n0_; have HB := n1_; clear n0_ n1_; (try clear hb); (try clear hb2); (try clear hk); (try clear hi)))
            (try simp only [Act.put, List.setIfInBounds_toArray, List.set_cons_zero, List.set_cons_succ])
            have H := HS35.out
            clear HS35
            by_cases c38 : t172 = 0
            · rw [if_pos c38] at H
              have c38b0 : (t172 == 0) = true := beq_iff_eq.mpr c38
              have c38b1 : (t172 != 0) = false := bne_eq_false_iff_eq.mpr c38
              clear c38
              (first | rw [c38b0] | (simp only [i64_w, i32_w]; rw [c38b0]) | skip)
              have H' := Z0.mk H
              clear H
              go_wp2
              go_roundg k5
              case measure => have := HJ1.out; have := HJ7.out; have := HJ11.out; have := HJ24.out; have := HK5.out; omega
              case rel => exact ⟨(wrap64 (x65_5 + 1)), eqv_, H', ⟨by have := HJ1.out; have := HJ7.out; have := HJ11.out; have := HJ24.out; have := HK5.out; omega⟩, ⟨bk_⟩, ⟨bl_⟩⟩
            rw [if_neg c38] at H
            have c38b0 : (t172 == 0) = false := beq_eq_false_iff_ne.mpr c38
            have c38b1 : (t172 != 0) = true := bne_iff_ne.mpr c38
            (first | rw [c38b0] | (simp only [i64_w, i32_w]; rw [c38b0]) | skip)
            replace H := Option.bind_eq_some_iff.mp H
            obtain ⟨t173, A390, H⟩ := H
            replace H : (some t173) = some r := H
            have A39 := Z0.mk A390
            clear A390
            obtain rfl := Option.some.inj H
            have hcz40 := bc3 BK171.out
            go_wp2_with (first | ((with_reducible refine gcl (f := 67) rfl ?_); refine gl_ (some 80) rfl rfl Tryz.func67 (by kernel_rfl) rfl #[.int .i64 a0_0, .slice A0_2 l0_2.length c0_2, .int .i64 x65_5] rfl ar_ ?_; (with_reducible refine (armoireref11_row.calls k5 a0_0 _ _ l0_2 x65_5 t173 _ ?side1 ?side2 A39.out).mono ?_); (case side1 => repeat (first | exact (Kd.C_below HR0_2.out HB.out) | (with_reducible refine Kd.C_alloc ?_ _) | (with_reducible refine Kd.C_drewN ?_ _) | (with_reducible refine Kd.C_drew ?_))); (case side2 => exact HC0_2.out); rintro e w41 ⟨rfl, hb⟩; refine ⟨_, rfl, ?_⟩; have n0_ := Z0.mk (kbl (g := gb171) bk_ hb); have n1_ := Z0.mk (bsp bl_ hb); clear BK171; clear HB; have BK171 := n0_; have HB := n1_; clear n0_ n1_; (try clear hb); (try clear hb2); (try clear hk); (try clear hi)))
            go_ret
            exact ⟨er_, bl_⟩
end Go.Proofs.YtjiblcncadekcaaGreat.PA

