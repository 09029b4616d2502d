import Derived.Test.YtjiblcncadekcaaQAxPAx0
import Derived.Test.YtjiblcncadekcaaQAxPAx11
namespace Go.Proofs.Ytjiblcncadekcaa.PA
open Go.Proofs.Ytjiblcncadekcaa.PL
open Go.RowKit Go.Proofs.YtjiblcncadekcaaW.PrintWords Go.Proofs.YtjiblcncadekcaaW.PrintLast Go.Proofs.YtjiblcncadekcaaW.PrintMore
attribute [local go_sem] max2_int min2_int bl_leq max_two min_two max_three min_three max_four min_four
set_option linter.unusedVariables false
set_option linter.unusedSimpArgs false
mutual
def value_State_Check.j3 : Nat → Int → Int → List (S68) → Option (Int)
  | 0, _, _, _ => none
  | k + 1, x360000, x360001, x360002 => value_State_Check.l0 k x360002 (x360002.length : Int) 0 x360000 x360001 x360002
def value_State_Check.l0 : Nat → List (S68) → Int → Int → Int → Int → List (S68) → Option (Int)
  | 0, _, _, _, _, _, _ => none
  | k + 1, x58, x59, x60, x360000, x360001, x360002 => if x60 < x59 then (if 0 ≤ x60 then (if x60 < (x58.length : Int) then (if (((rd_T68 x58 x60).f0).size : Int) > 24 then (value_State_Check.j5 k x60 x58 x59 x60 true x360000 x360001 x360002 ((rd_T68 x58 x60).f0) ((rd_T68 x58 x60).f1)) else (value_State_Check.j5 k x60 x58 x59 x60 (decide ((((rd_T68 x58 x60).f1).size : Int) > 24)) x360000 x360001 x360002 ((rd_T68 x58 x60).f0) ((rd_T68 x58 x60).f1))) else (none)) else (none)) else (some 0)
def value_State_Check.j5 : Nat → Int → List (S68) → Int → Int → Bool → Int → Int → List (S68) → ByteArray → ByteArray → Option (Int)
  | 0, _, _, _, _, _, _, _, _, _, _ => none
  | k + 1, x3, x58, x59, x60, x65, x360000, x360001, x360002, x364000, x364001 => if x65 = true then (some 3) else (if x360000 = 5 then (value_State_Check.j6 k x3 x58 x59 x60 false x360000 x360001 x360002 x364000 x364001) else (value_State_Check.j6 k x3 x58 x59 x60 (x364001.toList != ([] : List UInt8)) x360000 x360001 x360002 x364000 x364001))
def value_State_Check.j6 : Nat → Int → List (S68) → Int → Int → Bool → Int → Int → List (S68) → ByteArray → ByteArray → Option (Int)
  | 0, _, _, _, _, _, _, _, _, _, _ => none
  | k + 1, x3, x58, x59, x60, x76, x360000, x360001, x360002, x364000, x364001 => if x76 = true then (some 2) else (if x360000 = 4 then (if x3 > 0 then (if 0 ≤ (wrap64 (x3 - 1)) then (if (wrap64 (x3 - 1)) < (x360002.length : Int) then (value_State_Check.j7 k x3 x58 x59 x60 (!(Op.bytesLess (((rd_T68 x360002 (wrap64 (x3 - 1))).f0).toList) x364000.toList)) x360000 x360001 x360002 x364000 x364001) else (none)) else (none)) else (value_State_Check.j7 k x3 x58 x59 x60 false x360000 x360001 x360002 x364000 x364001)) else (if x360000 = 5 then (if x3 > 0 then (if 0 ≤ (wrap64 (x3 - 1)) then (if (wrap64 (x3 - 1)) < (x360002.length : Int) then (value_State_Check.j7 k x3 x58 x59 x60 (!(Op.bytesLess (((rd_T68 x360002 (wrap64 (x3 - 1))).f0).toList) x364000.toList)) x360000 x360001 x360002 x364000 x364001) else (none)) else (none)) else (value_State_Check.j7 k x3 x58 x59 x60 false x360000 x360001 x360002 x364000 x364001)) else (value_State_Check.j7 k x3 x58 x59 x60 false x360000 x360001 x360002 x364000 x364001)))
def value_State_Check.j7 : Nat → Int → List (S68) → Int → Int → Bool → Int → Int → List (S68) → ByteArray → ByteArray → Option (Int)
  | 0, _, _, _, _, _, _, _, _, _, _ => none
  | k + 1, x3, x58, x59, x60, x76, x360000, x360001, x360002, x364000, x364001 => if x76 = true then (some 2) else (if x360000 = 7 then (if x3 > 0 then (if 0 ≤ (wrap64 (x3 - 1)) then (if (wrap64 (x3 - 1)) < (x360002.length : Int) then (value_State_Check.j8 k x58 x59 x60 (Op.bytesLess x364000.toList (((rd_T68 x360002 (wrap64 (x3 - 1))).f0).toList)) x360000 x360001 x360002 x364000 x364001) else (none)) else (none)) else (value_State_Check.j8 k x58 x59 x60 false x360000 x360001 x360002 x364000 x364001)) else (value_State_Check.j8 k x58 x59 x60 false x360000 x360001 x360002 x364000 x364001))
def value_State_Check.j8 : Nat → List (S68) → Int → Int → Bool → Int → Int → List (S68) → ByteArray → ByteArray → Option (Int)
  | 0, _, _, _, _, _, _, _, _, _ => none
  | k + 1, x58, x59, x60, x76, x360000, x360001, x360002, x364000, x364001 => if x76 = true then (some 2) else (if x360000 = 1 then (if x364000.toList = ([] : List UInt8) then (some 2) else (value_State_Check.l0 k x58 x59 (wrap64 (x60 + 1)) x360000 x360001 x360002)) else (value_State_Check.l0 k x58 x59 (wrap64 (x60 + 1)) x360000 x360001 x360002))
def value_State_Check.j0 : Nat → Bool → Int → Int → List (S68) → Option (Int)
  | 0, _, _, _, _ => none
  | k + 1, x5, x360000, x360001, x360002 => if x5 = true then (some 6) else ((value_numeric.f x360000).bind fun t360 => (if t360 = true then (value_State_Check.j1 k (decide ((x360002.length : Int) > 0)) x360000 x360001 x360002) else (value_State_Check.j1 k false x360000 x360001 x360002)))
def value_State_Check.j1 : Nat → Bool → Int → Int → List (S68) → Option (Int)
  | 0, _, _, _, _ => none
  | k + 1, x14, x360000, x360001, x360002 => if x14 = true then (value_State_Check.j2 k x14 x360000 x360001 x360002) else ((value_numeric.f x360000).bind fun t361 => (if t361 = true then (if x360000 = 3 then (value_State_Check.j2 k (decide (x360001 < 0)) x360000 x360001 x360002) else (value_State_Check.j2 k false x360000 x360001 x360002)) else (if x360001 = 0 then (if x360000 = 3 then (value_State_Check.j2 k (decide (x360001 < 0)) x360000 x360001 x360002) else (value_State_Check.j2 k false x360000 x360001 x360002)) else (value_State_Check.j2 k (x360001 != 0) x360000 x360001 x360002))))
def value_State_Check.j2 : Nat → Bool → Int → Int → List (S68) → Option (Int)
  | 0, _, _, _, _ => none
  | k + 1, x14, x360000, x360001, x360002 => if x14 = true then (some 2) else (if (x360002.length : Int) > 8 then (some 7) else (if x360000 = 1 then (if (x360002.length : Int) > 1 then (some 7) else (value_State_Check.j3 k x360000 x360001 x360002)) else (value_State_Check.j3 k x360000 x360001 x360002)))
end
def value_State_Check.f (k : Nat) (a0_0 : Int) (a0_1 : Int) (l0_2 : List (S68)) : Option (Int) := if a0_0 < 1 then (value_State_Check.j0 k true a0_0 a0_1 l0_2) else (value_State_Check.j0 k (decide (a0_0 > 7)) a0_0 a0_1 l0_2)
set_option maxHeartbeats 8000000 in
set_option maxRecDepth 100000 in
theorem value_State_Check.calls (k : Nat) (a0_0 : Int) (a0_1 : Int) (A0_2 : Option Addr) (c0_2 : Nat) (l0_2 : List (S68)) (r : Int) (w : World) (hr0_2 : Kd.C k68 w A0_2 l0_2.length l0_2) (hc0_2 : l0_2.length ≤ c0_2) (h : value_State_Check.f k a0_0 a0_1 l0_2 = some r) :
    Calls Try.prog 12 #[.agg #[.int .i64 a0_0, .int .i64 a0_1, .slice A0_2 l0_2.length c0_2]] w fun e w' => e = .returned (.int .i64 r) ∧ Below w.heap.size w w' := by
  have hu24 := Try.underlying24
  have hu68 := Try.underlying68
  have HR0_2 := Aside0.mk hr0_2
  have HC0_2 := Aside0.mk hc0_2
  clear hr0_2 hc0_2
  have HB := Aside0.mk (Below.refl w.heap.size w)
  have H : (if a0_0 < 1 then (value_State_Check.j0 k true a0_0 a0_1 l0_2) else (value_State_Check.j0 k (decide (a0_0 > 7)) a0_0 a0_1 l0_2)) = some r := h
  clear h
  have HC2 := Aside0.mk H
  clear H
  go_enter Try.func12, Try.ntmps12
  go_upto_block 0 with (first | ((with_reducible refine gds (N := 1) rfl ?_); (try (refine gate_guard (by rfl) ?_; dsimp only)); refine bx_ (N := 1) (cs := #[.int .i64 a0_0, .int .i64 a0_1, .slice A0_2 l0_2.length c0_2]) (t := 24) ?_; intro gb359 hg w3 hbox hb; have n0_ := Aside0.mk (bsp bl_ hb); have n1_ := Aside0.mk (hbox); have n2_ := Aside0.mk ((by rw [hg]; exact bsz bl_ : w.heap.size ≤ gb359)); have n3_ := Aside0.mk ((by rw [hg]; exact bsz bl_ : w.heap.size ≤ gb359)); clear HB; have HB := n0_; have BK359 := n1_; have GW359 := n2_; have GE359 := n3_; clear n0_ n1_ n2_ n3_; clear hb hbox hg))
  repeat (go_quiet (first | ((with_reducible refine gds (N := 1) rfl ?_); (try (refine gate_guard (by rfl) ?_; dsimp only)); refine bx_ (N := 1) (cs := #[.int .i64 a0_0, .int .i64 a0_1, .slice A0_2 l0_2.length c0_2]) (t := 24) ?_; intro gb359 hg w3 hbox hb; have n0_ := Aside0.mk (bsp bl_ hb); have n1_ := Aside0.mk (hbox); have n2_ := Aside0.mk ((by rw [hg]; exact bsz bl_ : w.heap.size ≤ gb359)); have n3_ := Aside0.mk ((by rw [hg]; exact bsz bl_ : w.heap.size ≤ gb359)); clear HB; have HB := n0_; have BK359 := n1_; have GW359 := n2_; have GE359 := n3_; clear n0_ n1_ n2_ n3_; clear hb hbox hg)); go_upto_block 0 with (first | ((with_reducible refine gds (N := 1) rfl ?_); (try (refine gate_guard (by rfl) ?_; dsimp only)); refine bx_ (N := 1) (cs := #[.int .i64 a0_0, .int .i64 a0_1, .slice A0_2 l0_2.length c0_2]) (t := 24) ?_; intro gb359 hg w3 hbox hb; have n0_ := Aside0.mk (bsp bl_ hb); have n1_ := Aside0.mk (hbox); have n2_ := Aside0.mk ((by rw [hg]; exact bsz bl_ : w.heap.size ≤ gb359)); have n3_ := Aside0.mk ((by rw [hg]; exact bsz bl_ : w.heap.size ≤ gb359)); clear HB; have HB := n0_; have BK359 := n1_; have GW359 := n2_; have GE359 := n3_; clear n0_ n1_ n2_ n3_; clear hb hbox hg)))
  (try simp only [Act.put, List.setIfInBounds_toArray, List.set_cons_zero, List.set_cons_succ])
  go_cut [] (fun wc => ∃ (kq : Nat), Aside0 (value_State_Check.j3 kq a0_0 a0_1 l0_2 = some r) ∧ Aside0 (kq ≤ k) ∧ Aside0 (wc.heap[gb359]? = some (.cells #[.int .i64 a0_0, .int .i64 a0_1, (.slice A0_2 l0_2.length c0_2)] 24 (0, 0))) ∧ Aside0 (Below w.heap.size w wc))
  case first =>
    have H := HC2.out
    clear HC2
    have HC4 := Aside0.mk H
    clear H
    go_upto_region 1 with (fail)
    repeat (go_quiet (fail); go_upto_region 1 with (fail))
    go_cut [5] (fun v5 wc => ∃ (kq : Nat) (x5_3 : Bool), v5 = .bool x5_3 ∧ Aside0 (value_State_Check.j0 kq x5_3 a0_0 a0_1 l0_2 = some r) ∧ Aside0 (kq ≤ k) ∧ Aside0 (wc.heap[gb359]? = some (.cells #[.int .i64 a0_0, .int .i64 a0_1, (.slice A0_2 l0_2.length c0_2)] 24 (0, 0))) ∧ Aside0 (Below w.heap.size w wc))
    case first =>
      have H := HC4.out
      clear HC4
      by_cases c5 : a0_0 < 1
      · rw [if_pos c5] at H
        have c5b0 : decide (a0_0 < 1) = true := decide_eq_true c5
        clear c5
        (first | rw [c5b0] | (simp only [i64_w, i32_w]; rw [c5b0]) | skip)
        have H' := Aside0.mk H
        clear H
        have hcz6 := bc3 BK359.out
        go_wp2
        repeat (go_quiet (fail); try go_wp2)
        go_meet
        case rel => exact ⟨_, (true), eqv_, H', ⟨by first | omega | exact Nat.le_refl _⟩, ⟨bk_⟩, ⟨bl_⟩⟩
      rw [if_neg c5] at H
      have c5b0 : decide (a0_0 < 1) = false := decide_eq_false c5
      clear c5
      (first | rw [c5b0] | (simp only [i64_w, i32_w]; rw [c5b0]) | skip)
      have H' := Aside0.mk H
      clear H
      have hcz7 := bc3 BK359.out
      go_wp2
      repeat (go_quiet (fail); try go_wp2)
      go_meet
      case rel => exact ⟨_, (decide (a0_0 > 7)), eqv_, H', ⟨by first | omega | exact Nat.le_refl _⟩, ⟨bk_⟩, ⟨bl_⟩⟩
    clear HC4
    try clear c1
    try clear p2
    try clear c5
    try clear c5b0
    try clear hcz6
    try clear hcz7
    try clear hcz6
    try clear hcz7
    obtain ⟨kq, x5_3, rfl, HA, HJ3, BK359, HB⟩ := hcut
    cases kq with
    | zero => exact absurd HA.out (by simp [value_State_Check.j0])
    | succ kj3 =>
      have H := HA.out
      clear HA
      simp only [value_State_Check.j0] at H
      by_cases c8 : x5_3 = true
      · subst c8
        have H1 : (some 6) = some r := by rw [if_pos rfl] at H; exact H
        clear H
        have H := H1
        clear H1
        obtain rfl := Option.some.inj H
        go_wp2
        repeat (go_quiet (fail); try go_wp2)
        go_ret
        exact ⟨er_, bl_⟩
      replace c8 := Bool.eq_false_iff.mpr c8
      subst c8
      have H1 : ((value_numeric.f a0_0).bind fun t360 => (if t360 = true then (value_State_Check.j1 kj3 (decide ((l0_2.length : Int) > 0)) a0_0 a0_1 l0_2) else (value_State_Check.j1 kj3 false a0_0 a0_1 l0_2))) = some r := by rw [if_neg (show ¬ (false = true) by decide)] at H; exact H
      clear H
      have H := H1
      clear H1
      have HC9 := Aside0.mk H
      clear H
      go_upto_region 3 with (fail)
      repeat (go_quiet (fail); go_upto_region 3 with (fail))
      go_cut [14] (fun v14 wc => ∃ (kq : Nat) (x14_8 : Bool), v14 = .bool x14_8 ∧ Aside0 (value_State_Check.j1 kq x14_8 a0_0 a0_1 l0_2 = some r) ∧ Aside0 (kq ≤ kj3) ∧ Aside0 (wc.heap[gb359]? = some (.cells #[.int .i64 a0_0, .int .i64 a0_1, (.slice A0_2 l0_2.length c0_2)] 24 (0, 0))) ∧ Aside0 (Below w.heap.size w wc))
      case first =>
        have H := HC9.out
        clear HC9
        replace H := Option.bind_eq_some_iff.mp H
        obtain ⟨t360, A100, H⟩ := H
        replace H : (if t360 = true then (value_State_Check.j1 kj3 (decide ((l0_2.length : Int) > 0)) a0_0 a0_1 l0_2) else (value_State_Check.j1 kj3 false a0_0 a0_1 l0_2)) = some r := H
        have A10 := Aside0.mk A100
        clear A100
        by_cases c11 : t360 = true
        · subst c11
          have H1 : (value_State_Check.j1 kj3 (decide ((l0_2.length : Int) > 0)) a0_0 a0_1 l0_2) = some r := by rw [if_pos rfl] at H; exact H
          clear H
          have H := H1
          clear H1
          have H' := Aside0.mk H
          clear H
          have hcz12 := bc3 BK359.out
          go_wp2_with (first | (go_at_call 33; (with_reducible refine (value_numeric.calls a0_0 true _ A10.out).mono ?_); rintro e w' ⟨rfl, ⟨nd, rfl⟩⟩; (try first | exact ⟨rfl, _, World.drewN_drewN _ _ _⟩ | exact ⟨rfl, _, Eq.trans (World.drewN_drewN _ _ _) (congrArg (World.drewN _) (Nat.add_assoc _ _ _))⟩)))
          repeat (go_quiet (first | (go_at_call 33; (with_reducible refine (value_numeric.calls a0_0 true _ A10.out).mono ?_); rintro e w' ⟨rfl, ⟨nd, rfl⟩⟩; (try first | exact ⟨rfl, _, World.drewN_drewN _ _ _⟩ | exact ⟨rfl, _, Eq.trans (World.drewN_drewN _ _ _) (congrArg (World.drewN _) (Nat.add_assoc _ _ _))⟩))); try go_wp2_with (first | (go_at_call 33; (with_reducible refine (value_numeric.calls a0_0 true _ A10.out).mono ?_); rintro e w' ⟨rfl, ⟨nd, rfl⟩⟩; (try first | exact ⟨rfl, _, World.drewN_drewN _ _ _⟩ | exact ⟨rfl, _, Eq.trans (World.drewN_drewN _ _ _) (congrArg (World.drewN _) (Nat.add_assoc _ _ _))⟩))))
          go_meet
          case rel => exact ⟨_, (decide ((l0_2.length : Int) > 0)), eqv_, H', ⟨by have := HJ3.out; first | omega | exact Nat.le_refl _⟩, ⟨bk_⟩, ⟨bl_⟩⟩
        replace c11 := Bool.eq_false_iff.mpr c11
        subst c11
        have H1 : (value_State_Check.j1 kj3 false a0_0 a0_1 l0_2) = some r := by rw [if_neg (show ¬ (false = true) by decide)] at H; exact H
        clear H
        have H := H1
        clear H1
        have H' := Aside0.mk H
        clear H
        have hcz13 := bc3 BK359.out
        go_wp2_with (first | (go_at_call 33; (with_reducible refine (value_numeric.calls a0_0 false _ A10.out).mono ?_); rintro e w' ⟨rfl, ⟨nd, rfl⟩⟩; (try first | exact ⟨rfl, _, World.drewN_drewN _ _ _⟩ | exact ⟨rfl, _, Eq.trans (World.drewN_drewN _ _ _) (congrArg (World.drewN _) (Nat.add_assoc _ _ _))⟩)))
        repeat (go_quiet (first | (go_at_call 33; (with_reducible refine (value_numeric.calls a0_0 false _ A10.out).mono ?_); rintro e w' ⟨rfl, ⟨nd, rfl⟩⟩; (try first | exact ⟨rfl, _, World.drewN_drewN _ _ _⟩ | exact ⟨rfl, _, Eq.trans (World.drewN_drewN _ _ _) (congrArg (World.drewN _) (Nat.add_assoc _ _ _))⟩))); try go_wp2_with (first | (go_at_call 33; (with_reducible refine (value_numeric.calls a0_0 false _ A10.out).mono ?_); rintro e w' ⟨rfl, ⟨nd, rfl⟩⟩; (try first | exact ⟨rfl, _, World.drewN_drewN _ _ _⟩ | exact ⟨rfl, _, Eq.trans (World.drewN_drewN _ _ _) (congrArg (World.drewN _) (Nat.add_assoc _ _ _))⟩))))
        go_meet
        case rel => exact ⟨_, (false), eqv_, H', ⟨by have := HJ3.out; first | omega | exact Nat.le_refl _⟩, ⟨bk_⟩, ⟨bl_⟩⟩
      clear HC9
      try clear c1
      try clear p2
      try clear c5
      try clear c5b0
      try clear c8
      try clear c11
      try clear c12
      try clear hcz12
      try clear hcz13
      try clear hcz6
      try clear hcz7
      try clear hcz12
      try clear hcz13
      try clear hcz6
      try clear hcz7
      try clear p2
      obtain ⟨kq, x14_8, rfl, HA, HJ8, BK359, HB⟩ := hcut
      cases kq with
      | zero => exact absurd HA.out (by simp [value_State_Check.j1])
      | succ kj8 =>
        have H := HA.out
        clear HA
        simp only [value_State_Check.j1] at H
        have HC14 := Aside0.mk H
        clear H
        go_upto_if 14 with (fail)
        repeat (go_quiet (fail); go_upto_if 14 with (fail))
        go_cut [14] (fun v14 wc => ∃ (kq : Nat) (x14_13 : Bool), v14 = .bool x14_13 ∧ Aside0 (value_State_Check.j2 kq x14_13 a0_0 a0_1 l0_2 = some r) ∧ Aside0 (kq ≤ kj8) ∧ Aside0 (wc.heap[gb359]? = some (.cells #[.int .i64 a0_0, .int .i64 a0_1, (.slice A0_2 l0_2.length c0_2)] 24 (0, 0))) ∧ Aside0 (Below w.heap.size w wc))
        case first =>
          have H := HC14.out
          clear HC14
          by_cases c15 : x14_8 = true
          · subst c15
            have H1 : (value_State_Check.j2 kj8 true a0_0 a0_1 l0_2) = some r := by rw [if_pos rfl] at H; exact H
            clear H
            have H := H1
            clear H1
            have H' := Aside0.mk H
            clear H
            go_wp2
            repeat (go_quiet (fail); try go_wp2)
            go_meet
            case rel => exact ⟨_, (true), eqv_, H', ⟨by have := HJ3.out; have := HJ8.out; first | omega | exact Nat.le_refl _⟩, ⟨bk_⟩, ⟨bl_⟩⟩
          replace c15 := Bool.eq_false_iff.mpr c15
          subst c15
          have H1 : ((value_numeric.f a0_0).bind fun t361 => (if t361 = true then (if a0_0 = 3 then (value_State_Check.j2 kj8 (decide (a0_1 < 0)) a0_0 a0_1 l0_2) else (value_State_Check.j2 kj8 false a0_0 a0_1 l0_2)) else (if a0_1 = 0 then (if a0_0 = 3 then (value_State_Check.j2 kj8 (decide (a0_1 < 0)) a0_0 a0_1 l0_2) else (value_State_Check.j2 kj8 false a0_0 a0_1 l0_2)) else (value_State_Check.j2 kj8 (a0_1 != 0) a0_0 a0_1 l0_2)))) = some r := by rw [if_neg (show ¬ (false = true) by decide)] at H; exact H
          clear H
          have H := H1
          clear H1
          replace H := Option.bind_eq_some_iff.mp H
          obtain ⟨t361, A160, H⟩ := H
          replace H : (if t361 = true then (if a0_0 = 3 then (value_State_Check.j2 kj8 (decide (a0_1 < 0)) a0_0 a0_1 l0_2) else (value_State_Check.j2 kj8 false a0_0 a0_1 l0_2)) else (if a0_1 = 0 then (if a0_0 = 3 then (value_State_Check.j2 kj8 (decide (a0_1 < 0)) a0_0 a0_1 l0_2) else (value_State_Check.j2 kj8 false a0_0 a0_1 l0_2)) else (value_State_Check.j2 kj8 (a0_1 != 0) a0_0 a0_1 l0_2))) = some r := H
          have A16 := Aside0.mk A160
          clear A160
          by_cases c17 : t361 = true
          · subst c17
            have H1 : (if a0_0 = 3 then (value_State_Check.j2 kj8 (decide (a0_1 < 0)) a0_0 a0_1 l0_2) else (value_State_Check.j2 kj8 false a0_0 a0_1 l0_2)) = some r := by rw [if_pos rfl] at H; exact H
            clear H
            have H := H1
            clear H1
            by_cases c18 : a0_0 = 3
            rotate_left
            · rw [if_neg c18] at H
              have c18b0 : (a0_0 == 3) = false := beq_eq_false_iff_ne.mpr c18
              have c18b1 : (a0_0 != 3) = true := bne_iff_ne.mpr c18
              (first | rw [c18b0] | (simp only [i64_w, i32_w]; rw [c18b0]) | skip)
              have H' := Aside0.mk H
              clear H
              have hcz20 := bc3 BK359.out
              go_wp2_with (first | (go_at_call 33; (with_reducible refine (value_numeric.calls a0_0 true _ A16.out).mono ?_); rintro e w' ⟨rfl, ⟨nd, rfl⟩⟩; (try first | exact ⟨rfl, _, World.drewN_drewN _ _ _⟩ | exact ⟨rfl, _, Eq.trans (World.drewN_drewN _ _ _) (congrArg (World.drewN _) (Nat.add_assoc _ _ _))⟩)))
              repeat (go_quiet (first | (go_at_call 33; (with_reducible refine (value_numeric.calls a0_0 true _ A16.out).mono ?_); rintro e w' ⟨rfl, ⟨nd, rfl⟩⟩; (try first | exact ⟨rfl, _, World.drewN_drewN _ _ _⟩ | exact ⟨rfl, _, Eq.trans (World.drewN_drewN _ _ _) (congrArg (World.drewN _) (Nat.add_assoc _ _ _))⟩))); try go_wp2_with (first | (go_at_call 33; (with_reducible refine (value_numeric.calls a0_0 true _ A16.out).mono ?_); rintro e w' ⟨rfl, ⟨nd, rfl⟩⟩; (try first | exact ⟨rfl, _, World.drewN_drewN _ _ _⟩ | exact ⟨rfl, _, Eq.trans (World.drewN_drewN _ _ _) (congrArg (World.drewN _) (Nat.add_assoc _ _ _))⟩))))
              go_meet
              case rel => exact ⟨_, (false), eqv_, H', ⟨by have := HJ3.out; have := HJ8.out; first | omega | exact Nat.le_refl _⟩, ⟨bk_⟩, ⟨bl_⟩⟩
            rw [if_pos c18] at H
            have c18b0 : (a0_0 == 3) = true := beq_iff_eq.mpr c18
            have c18b1 : (a0_0 != 3) = false := bne_eq_false_iff_eq.mpr c18
            clear c18
            (first | rw [c18b0] | (simp only [i64_w, i32_w]; rw [c18b0]) | skip)
            have H' := Aside0.mk H
            clear H
            have hcz19 := bc3 BK359.out
            go_wp2_with (first | (go_at_call 33; (with_reducible refine (value_numeric.calls a0_0 true _ A16.out).mono ?_); rintro e w' ⟨rfl, ⟨nd, rfl⟩⟩; (try first | exact ⟨rfl, _, World.drewN_drewN _ _ _⟩ | exact ⟨rfl, _, Eq.trans (World.drewN_drewN _ _ _) (congrArg (World.drewN _) (Nat.add_assoc _ _ _))⟩)))
            repeat (go_quiet (first | (go_at_call 33; (with_reducible refine (value_numeric.calls a0_0 true _ A16.out).mono ?_); rintro e w' ⟨rfl, ⟨nd, rfl⟩⟩; (try first | exact ⟨rfl, _, World.drewN_drewN _ _ _⟩ | exact ⟨rfl, _, Eq.trans (World.drewN_drewN _ _ _) (congrArg (World.drewN _) (Nat.add_assoc _ _ _))⟩))); try go_wp2_with (first | (go_at_call 33; (with_reducible refine (value_numeric.calls a0_0 true _ A16.out).mono ?_); rintro e w' ⟨rfl, ⟨nd, rfl⟩⟩; (try first | exact ⟨rfl, _, World.drewN_drewN _ _ _⟩ | exact ⟨rfl, _, Eq.trans (World.drewN_drewN _ _ _) (congrArg (World.drewN _) (Nat.add_assoc _ _ _))⟩))))
            go_meet
            case rel => exact ⟨_, (decide (a0_1 < 0)), eqv_, H', ⟨by have := HJ3.out; have := HJ8.out; first | omega | exact Nat.le_refl _⟩, ⟨bk_⟩, ⟨bl_⟩⟩
          replace c17 := Bool.eq_false_iff.mpr c17
          subst c17
          have H1 : (if a0_1 = 0 then (if a0_0 = 3 then (value_State_Check.j2 kj8 (decide (a0_1 < 0)) a0_0 a0_1 l0_2) else (value_State_Check.j2 kj8 false a0_0 a0_1 l0_2)) else (value_State_Check.j2 kj8 (a0_1 != 0) a0_0 a0_1 l0_2)) = some r := by rw [if_neg (show ¬ (false = true) by decide)] at H; exact H
          clear H
          have H := H1
          clear H1
          by_cases c21 : a0_1 = 0
          rotate_left
          · rw [if_neg c21] at H
            have c21b0 : (a0_1 == 0) = false := beq_eq_false_iff_ne.mpr c21
            have c21b1 : (a0_1 != 0) = true := bne_iff_ne.mpr c21
            have H' := Aside0.mk H
            clear H
            have hcz25 := bc3 BK359.out
            go_wp2_with (first | (go_at_call 33; (with_reducible refine (value_numeric.calls a0_0 false _ A16.out).mono ?_); rintro e w' ⟨rfl, ⟨nd, rfl⟩⟩; (try first | exact ⟨rfl, _, World.drewN_drewN _ _ _⟩ | exact ⟨rfl, _, Eq.trans (World.drewN_drewN _ _ _) (congrArg (World.drewN _) (Nat.add_assoc _ _ _))⟩)))
            repeat (go_quiet (first | (go_at_call 33; (with_reducible refine (value_numeric.calls a0_0 false _ A16.out).mono ?_); rintro e w' ⟨rfl, ⟨nd, rfl⟩⟩; (try first | exact ⟨rfl, _, World.drewN_drewN _ _ _⟩ | exact ⟨rfl, _, Eq.trans (World.drewN_drewN _ _ _) (congrArg (World.drewN _) (Nat.add_assoc _ _ _))⟩))); try go_wp2_with (first | (go_at_call 33; (with_reducible refine (value_numeric.calls a0_0 false _ A16.out).mono ?_); rintro e w' ⟨rfl, ⟨nd, rfl⟩⟩; (try first | exact ⟨rfl, _, World.drewN_drewN _ _ _⟩ | exact ⟨rfl, _, Eq.trans (World.drewN_drewN _ _ _) (congrArg (World.drewN _) (Nat.add_assoc _ _ _))⟩))))
            go_meet
            case rel => exact ⟨_, ((a0_1 != 0)), eqv_, H', ⟨by have := HJ3.out; have := HJ8.out; first | omega | exact Nat.le_refl _⟩, ⟨bk_⟩, ⟨bl_⟩⟩
          rw [if_pos c21] at H
          have c21b0 : (a0_1 == 0) = true := beq_iff_eq.mpr c21
          have c21b1 : (a0_1 != 0) = false := bne_eq_false_iff_eq.mpr c21
          clear c21
          by_cases c22 : a0_0 = 3
          rotate_left
          · rw [if_neg c22] at H
            have c22b0 : (a0_0 == 3) = false := beq_eq_false_iff_ne.mpr c22
            have c22b1 : (a0_0 != 3) = true := bne_iff_ne.mpr c22
            have H' := Aside0.mk H
            clear H
            have hcz24 := bc3 BK359.out
            go_wp2_with (first | (go_at_call 33; (with_reducible refine (value_numeric.calls a0_0 false _ A16.out).mono ?_); rintro e w' ⟨rfl, ⟨nd, rfl⟩⟩; (try first | exact ⟨rfl, _, World.drewN_drewN _ _ _⟩ | exact ⟨rfl, _, Eq.trans (World.drewN_drewN _ _ _) (congrArg (World.drewN _) (Nat.add_assoc _ _ _))⟩)))
            repeat (go_quiet (first | (go_at_call 33; (with_reducible refine (value_numeric.calls a0_0 false _ A16.out).mono ?_); rintro e w' ⟨rfl, ⟨nd, rfl⟩⟩; (try first | exact ⟨rfl, _, World.drewN_drewN _ _ _⟩ | exact ⟨rfl, _, Eq.trans (World.drewN_drewN _ _ _) (congrArg (World.drewN _) (Nat.add_assoc _ _ _))⟩))); try go_wp2_with (first | (go_at_call 33; (with_reducible refine (value_numeric.calls a0_0 false _ A16.out).mono ?_); rintro e w' ⟨rfl, ⟨nd, rfl⟩⟩; (try first | exact ⟨rfl, _, World.drewN_drewN _ _ _⟩ | exact ⟨rfl, _, Eq.trans (World.drewN_drewN _ _ _) (congrArg (World.drewN _) (Nat.add_assoc _ _ _))⟩))))
            go_meet
            case rel => exact ⟨_, (false), eqv_, H', ⟨by have := HJ3.out; have := HJ8.out; first | omega | exact Nat.le_refl _⟩, ⟨bk_⟩, ⟨bl_⟩⟩
          rw [if_pos c22] at H
          have c22b0 : (a0_0 == 3) = true := beq_iff_eq.mpr c22
          have c22b1 : (a0_0 != 3) = false := bne_eq_false_iff_eq.mpr c22
          clear c22
          have H' := Aside0.mk H
          clear H
          have hcz23 := bc3 BK359.out
          go_wp2_with (first | (go_at_call 33; (with_reducible refine (value_numeric.calls a0_0 false _ A16.out).mono ?_); rintro e w' ⟨rfl, ⟨nd, rfl⟩⟩; (try first | exact ⟨rfl, _, World.drewN_drewN _ _ _⟩ | exact ⟨rfl, _, Eq.trans (World.drewN_drewN _ _ _) (congrArg (World.drewN _) (Nat.add_assoc _ _ _))⟩)))
          repeat (go_quiet (first | (go_at_call 33; (with_reducible refine (value_numeric.calls a0_0 false _ A16.out).mono ?_); rintro e w' ⟨rfl, ⟨nd, rfl⟩⟩; (try first | exact ⟨rfl, _, World.drewN_drewN _ _ _⟩ | exact ⟨rfl, _, Eq.trans (World.drewN_drewN _ _ _) (congrArg (World.drewN _) (Nat.add_assoc _ _ _))⟩))); try go_wp2_with (first | (go_at_call 33; (with_reducible refine (value_numeric.calls a0_0 false _ A16.out).mono ?_); rintro e w' ⟨rfl, ⟨nd, rfl⟩⟩; (try first | exact ⟨rfl, _, World.drewN_drewN _ _ _⟩ | exact ⟨rfl, _, Eq.trans (World.drewN_drewN _ _ _) (congrArg (World.drewN _) (Nat.add_assoc _ _ _))⟩))))
          go_meet
          case rel => exact ⟨_, (decide (a0_1 < 0)), eqv_, H', ⟨by have := HJ3.out; have := HJ8.out; first | omega | exact Nat.le_refl _⟩, ⟨bk_⟩, ⟨bl_⟩⟩
        clear HC14
        try clear c1
        try clear c2
        try clear p2
        try clear c5
        try clear c5b0
        try clear c8
        try clear c11
        try clear c12
        try clear c15
        try clear c17
        try clear c18
        try clear c18b0
        try clear c18b1
        try clear c21
        try clear c21b0
        try clear c21b1
        try clear c22
        try clear c22b0
        try clear c22b1
        try clear hcz12
        try clear hcz13
        try clear hcz19
        try clear hcz20
        try clear hcz23
        try clear hcz24
        try clear hcz25
        try clear hcz6
        try clear hcz7
        try clear hcz12
        try clear hcz13
        try clear hcz19
        try clear hcz20
        try clear hcz23
        try clear hcz24
        try clear hcz25
        try clear hcz6
        try clear hcz7
        try clear p2
        obtain ⟨kq, x14_13, rfl, HA, HJ13, BK359, HB⟩ := hcut
        cases kq with
        | zero => exact absurd HA.out (by simp [value_State_Check.j2])
        | succ kj13 =>
          have H := HA.out
          clear HA
          simp only [value_State_Check.j2] at H
          by_cases c26 : x14_13 = true
          · subst c26
            have H1 : (some 2) = some r := by rw [if_pos rfl] at H; exact H
            clear H
            have H := H1
            clear H1
            obtain rfl := Option.some.inj H
            go_wp2
            repeat (go_quiet (fail); try go_wp2)
            go_ret
            exact ⟨er_, bl_⟩
          replace c26 := Bool.eq_false_iff.mpr c26
          subst c26
          have H1 : (if (l0_2.length : Int) > 8 then (some 7) else (if a0_0 = 1 then (if (l0_2.length : Int) > 1 then (some 7) else (value_State_Check.j3 kj13 a0_0 a0_1 l0_2)) else (value_State_Check.j3 kj13 a0_0 a0_1 l0_2))) = some r := by rw [if_neg (show ¬ (false = true) by decide)] at H; exact H
          clear H
          have H := H1
          clear H1
          by_cases c27 : (l0_2.length : Int) > 8
          · rw [if_pos c27] at H
            have c27b0 : decide (8 < (l0_2.length : Int)) = true := decide_eq_true c27
            have c27b1 : decide (8 < l0_2.length) = true := decide_eq_true (by omega)
            clear c27
            obtain rfl := Option.some.inj H
            have hcz28 := bc3 BK359.out
            go_wp2
            repeat (go_quiet (fail); try go_wp2)
            go_ret
            exact ⟨er_, bl_⟩
          rw [if_neg c27] at H
          have c27b0 : decide (8 < (l0_2.length : Int)) = false := decide_eq_false c27
          have c27b1 : decide (8 < l0_2.length) = false := decide_eq_false (by omega)
          clear c27
          by_cases c29 : a0_0 = 1
          rotate_left
          · rw [if_neg c29] at H
            have c29b0 : (a0_0 == 1) = false := beq_eq_false_iff_ne.mpr c29
            have c29b1 : (a0_0 != 1) = true := bne_iff_ne.mpr c29
            have H' := Aside0.mk H
            clear H
            have hcz33 := bc3 BK359.out
            go_wp2
            repeat (go_quiet (fail); try go_wp2)
            go_meet
            case rel => exact ⟨_, H', ⟨by have := HJ3.out; have := HJ8.out; have := HJ13.out; first | omega | exact Nat.le_refl _⟩, ⟨bk_⟩, ⟨bl_⟩⟩
          rw [if_pos c29] at H
          have c29b0 : (a0_0 == 1) = true := beq_iff_eq.mpr c29
          have c29b1 : (a0_0 != 1) = false := bne_eq_false_iff_eq.mpr c29
          clear c29
          by_cases c30 : (l0_2.length : Int) > 1
          · rw [if_pos c30] at H
            have c30b0 : decide (1 < (l0_2.length : Int)) = true := decide_eq_true c30
            have c30b1 : decide (1 < l0_2.length) = true := decide_eq_true (by omega)
            clear c30
            obtain rfl := Option.some.inj H
            have hcz31 := bc3 BK359.out
            go_wp2
            repeat (go_quiet (fail); try go_wp2)
            go_ret
            exact ⟨er_, bl_⟩
          rw [if_neg c30] at H
          have c30b0 : decide (1 < (l0_2.length : Int)) = false := decide_eq_false c30
          have c30b1 : decide (1 < l0_2.length) = false := decide_eq_false (by omega)
          clear c30
          have H' := Aside0.mk H
          clear H
          have hcz32 := bc3 BK359.out
          go_wp2
          repeat (go_quiet (fail); try go_wp2)
          go_meet
          case rel => exact ⟨_, H', ⟨by have := HJ3.out; have := HJ8.out; have := HJ13.out; first | omega | exact Nat.le_refl _⟩, ⟨bk_⟩, ⟨bl_⟩⟩
  clear HC2
  try clear c1
  try clear c2
  try clear p2
  try clear c3
  try clear c5
  try clear c5b0
  try clear c8
  try clear c11
  try clear c12
  try clear c15
  try clear c17
  try clear c18
  try clear c18b0
  try clear c18b1
  try clear c21
  try clear c21b0
  try clear c21b1
  try clear c22
  try clear c22b0
  try clear c22b1
  try clear c26
  try clear c27
  try clear c27b0
  try clear c27b1
  try clear c29
  try clear c29b0
  try clear c29b1
  try clear c30
  try clear c30b0
  try clear c30b1
  try clear hcz12
  try clear hcz13
  try clear hcz19
  try clear hcz20
  try clear hcz23
  try clear hcz24
  try clear hcz25
  try clear hcz28
  try clear hcz31
  try clear hcz32
  try clear hcz33
  try clear hcz6
  try clear hcz7
  try clear hcz12
  try clear hcz13
  try clear hcz19
  try clear hcz20
  try clear hcz23
  try clear hcz24
  try clear hcz25
  try clear hcz28
  try clear hcz31
  try clear hcz32
  try clear hcz33
  try clear hcz6
  try clear hcz7
  try clear p2
  obtain ⟨kq, HA, HJ1, BK359, HB⟩ := hcut
  cases kq with
  | zero => exact absurd HA.out (by simp [value_State_Check.j3])
  | succ kj1 =>
    have H := HA.out
    clear HA
    simp only [value_State_Check.j3] at H
    have H' := Aside0.mk H
    clear H
    have hcz34 := bc3 BK359.out
    go_wp2
    repeat (go_quiet (fail); try go_wp2)
    go_loopg [60] kj1 (fun kq v60 w' => ∃ (x60_2 : Int), v60 = .int .i64 x60_2 ∧ Aside0 (value_State_Check.l0 kq l0_2 (l0_2.length : Int) x60_2 a0_0 a0_1 l0_2 = some r) ∧ Aside0 (kq ≤ kj1) ∧ Aside0 (w'.heap[gb359]? = some (.cells #[.int .i64 a0_0, .int .i64 a0_1, (.slice A0_2 l0_2.length c0_2)] 24 (0, 0))) ∧ Aside0 (Below w.heap.size w w'))
    case atStart => exact ⟨(0), eqv_, H', ⟨Nat.le_refl _⟩, ⟨bk_⟩, ⟨bl_⟩⟩
    clear H'
    try clear c1
    try clear c2
    try clear p2
    try clear c3
    try clear c5
    try clear c5b0
    try clear c8
    try clear c11
    try clear c12
    try clear c15
    try clear c17
    try clear c18
    try clear c18b0
    try clear c18b1
    try clear c21
    try clear c21b0
    try clear c21b1
    try clear c22
    try clear c22b0
    try clear c22b1
    try clear c26
    try clear c27
    try clear c27b0
    try clear c27b1
    try clear c29
    try clear c29b0
    try clear c29b1
    try clear c30
    try clear c30b0
    try clear c30b1
    try clear hcz12
    try clear hcz13
    try clear hcz19
    try clear hcz20
    try clear hcz23
    try clear hcz24
    try clear hcz25
    try clear hcz28
    try clear hcz31
    try clear hcz32
    try clear hcz33
    try clear hcz34
    try clear hcz6
    try clear hcz7
    try clear hcz12
    try clear hcz13
    try clear hcz19
    try clear hcz20
    try clear hcz23
    try clear hcz24
    try clear hcz25
    try clear hcz28
    try clear hcz31
    try clear hcz32
    try clear hcz33
    try clear hcz34
    try clear hcz6
    try clear hcz7
    try clear p2
    obtain ⟨x60_2, rfl, HA, HK2, BK359, HB⟩ := hrel
    cases gk with
    | zero => exact absurd HA.out (by simp [value_State_Check.l0])
    | succ k2 =>
      have H := HA.out
      clear HA
      simp only [value_State_Check.l0] at H
      by_cases c35 : x60_2 < (l0_2.length : Int)
      rotate_left
      · rw [if_neg c35] at H
        have c35b0 : decide (x60_2 < (l0_2.length : Int)) = false := decide_eq_false c35
        clear c35
        obtain rfl := Option.some.inj H
        go_wp2
        repeat (go_quiet (fail); try go_wp2)
        go_ret
        exact ⟨er_, bl_⟩
      rw [if_pos c35] at H
      have c35b0 : decide (x60_2 < (l0_2.length : Int)) = true := decide_eq_true c35
      clear c35
      by_cases c36 : 0 ≤ x60_2
      rotate_left
      · rw [if_neg c36] at H
        exact absurd H (by simp)
      rw [if_pos c36] at H
      have c36b0 : decide (0 ≤ x60_2) = true := decide_eq_true c36
      clear c36
      by_cases c37 : x60_2 < (l0_2.length : Int)
      rotate_left
      · rw [if_neg c37] at H
        exact absurd H (by simp)
      rw [if_pos c37] at H
      have c37b0 : decide (x60_2 < (l0_2.length : Int)) = true := decide_eq_true c37
      clear c37
      have HC38 := Aside0.mk H
      clear H
      have p362 : 0 ≤ (x60_2 : Int) := of_decide_eq_true (by first | (with_reducible assumption) | assumption)
      have q362 : x60_2 < (l0_2.length : Int) := of_decide_eq_true (by first | (with_reducible assumption) | assumption)
      obtain ⟨ad362, e362, hx362_0, hx362_1⟩ := at_T68 HR0_2.out x60_2 p362 q362
      cases e362
      replace hx362_0 := (HB.out.cell (World.block_lt_of_cell? w _ hx362_0)).trans hx362_0
      replace hx362_1 := (HB.out.cell (World.block_lt_of_cell? w _ hx362_1)).trans hx362_1
      replace p362 := eq_true p362
      replace q362 := eq_true q362
      go_upto_region 12 with (first | ((with_reducible refine gds (N := 4) rfl ?_); (try (refine gate_guard (by rfl) ?_; dsimp only)); refine bx_ (N := 4) (cs := #[.string (⟨#[]⟩ : ByteArray), .string (⟨#[]⟩ : ByteArray)]) (t := 68) ?_; intro gb363 hg w39 hbox hb; have n0_ := Aside0.mk (kbl (g := gb359) (o := .cells #[.int .i64 a0_0, .int .i64 a0_1, .slice (some ad362) l0_2.length c0_2] 24 (0, 0)) bk_ hb); have n1_ := Aside0.mk (bsp bl_ hb); have n2_ := Aside0.mk (hbox); have n3_ := Aside0.mk ((by rw [hg]; exact bsz bl_ : w.heap.size ≤ gb363)); have n4_ := Aside0.mk ((by rw [hg]; exact bsz bl_ : w.heap.size ≤ gb363)); have n5_ := Aside0.mk ((by rw [hg]; exact Nat.ne_of_lt (blk_lt (g := gb359) (o := .cells #[.int .i64 a0_0, .int .i64 a0_1, .slice (some ad362) l0_2.length c0_2] 24 (0, 0)) bk_) : gb359 ≠ gb363)); have n6_ := Aside0.mk ((by rw [hg]; exact Nat.ne_of_gt (blk_lt (g := gb359) (o := .cells #[.int .i64 a0_0, .int .i64 a0_1, .slice (some ad362) l0_2.length c0_2] 24 (0, 0)) bk_) : gb363 ≠ gb359)); clear BK359; clear HB; have BK359 := n0_; have HB := n1_; have BK363 := n2_; have GW363 := n3_; have GE363 := n4_; have NB359_363 := n5_; have NB363_359 := n6_; clear n0_ n1_ n2_ n3_ n4_ n5_ n6_; clear hb hbox hg; have hnb40 := NB363_359.out; have hnc40 := NB359_363.out; have hcz41 := bc2 BK363.out))
      repeat (go_quiet (first | ((with_reducible refine gds (N := 4) rfl ?_); (try (refine gate_guard (by rfl) ?_; dsimp only)); refine bx_ (N := 4) (cs := #[.string (⟨#[]⟩ : ByteArray), .string (⟨#[]⟩ : ByteArray)]) (t := 68) ?_; intro gb363 hg w39 hbox hb; have n0_ := Aside0.mk (kbl (g := gb359) (o := .cells #[.int .i64 a0_0, .int .i64 a0_1, .slice (some ad362) l0_2.length c0_2] 24 (0, 0)) bk_ hb); have n1_ := Aside0.mk (bsp bl_ hb); have n2_ := Aside0.mk (hbox); have n3_ := Aside0.mk ((by rw [hg]; exact bsz bl_ : w.heap.size ≤ gb363)); have n4_ := Aside0.mk ((by rw [hg]; exact bsz bl_ : w.heap.size ≤ gb363)); have n5_ := Aside0.mk ((by rw [hg]; exact Nat.ne_of_lt (blk_lt (g := gb359) (o := .cells #[.int .i64 a0_0, .int .i64 a0_1, .slice (some ad362) l0_2.length c0_2] 24 (0, 0)) bk_) : gb359 ≠ gb363)); have n6_ := Aside0.mk ((by rw [hg]; exact Nat.ne_of_gt (blk_lt (g := gb359) (o := .cells #[.int .i64 a0_0, .int .i64 a0_1, .slice (some ad362) l0_2.length c0_2] 24 (0, 0)) bk_) : gb363 ≠ gb359)); clear BK359; clear HB; have BK359 := n0_; have HB := n1_; have BK363 := n2_; have GW363 := n3_; have GE363 := n4_; have NB359_363 := n5_; have NB363_359 := n6_; clear n0_ n1_ n2_ n3_ n4_ n5_ n6_; clear hb hbox hg; have hnb40 := NB363_359.out; have hnc40 := NB359_363.out; have hcz41_0 : w39.cell? ⟨gb363, 0, none⟩ = some (.string (⟨#[]⟩ : ByteArray)) := (kcl BK363.out 0).trans rfl; have hcz41_1 : w39.cell? ⟨gb363, 1, none⟩ = some (.string (⟨#[]⟩ : ByteArray)) := (kcl BK363.out 1).trans rfl; have hfz41_0 := kfr BK363.out 0; have hfz41_1 := kfr BK363.out 1)); go_upto_region 12 with (first | ((with_reducible refine gds (N := 4) rfl ?_); (try (refine gate_guard (by rfl) ?_; dsimp only)); refine bx_ (N := 4) (cs := #[.string (⟨#[]⟩ : ByteArray), .string (⟨#[]⟩ : ByteArray)]) (t := 68) ?_; intro gb363 hg w39 hbox hb; have n0_ := Aside0.mk (kbl (g := gb359) (o := .cells #[.int .i64 a0_0, .int .i64 a0_1, .slice (some ad362) l0_2.length c0_2] 24 (0, 0)) bk_ hb); have n1_ := Aside0.mk (bsp bl_ hb); have n2_ := Aside0.mk (hbox); have n3_ := Aside0.mk ((by rw [hg]; exact bsz bl_ : w.heap.size ≤ gb363)); have n4_ := Aside0.mk ((by rw [hg]; exact bsz bl_ : w.heap.size ≤ gb363)); have n5_ := Aside0.mk ((by rw [hg]; exact Nat.ne_of_lt (blk_lt (g := gb359) (o := .cells #[.int .i64 a0_0, .int .i64 a0_1, .slice (some ad362) l0_2.length c0_2] 24 (0, 0)) bk_) : gb359 ≠ gb363)); have n6_ := Aside0.mk ((by rw [hg]; exact Nat.ne_of_gt (blk_lt (g := gb359) (o := .cells #[.int .i64 a0_0, .int .i64 a0_1, .slice (some ad362) l0_2.length c0_2] 24 (0, 0)) bk_) : gb363 ≠ gb359)); clear BK359; clear HB; have BK359 := n0_; have HB := n1_; have BK363 := n2_; have GW363 := n3_; have GE363 := n4_; have NB359_363 := n5_; have NB363_359 := n6_; clear n0_ n1_ n2_ n3_ n4_ n5_ n6_; clear hb hbox hg; have hnb40 := NB363_359.out; have hnc40 := NB359_363.out; have hcz41 := bc2 BK363.out)))
      (try simp only [Act.put, List.setIfInBounds_toArray, List.set_cons_zero, List.set_cons_succ])
      go_cut [65] (fun v65 wc => ∃ (kq : Nat) (x65_37 : Bool), v65 = .bool x65_37 ∧ Aside0 (value_State_Check.j5 kq x60_2 l0_2 (l0_2.length : Int) x60_2 x65_37 a0_0 a0_1 l0_2 ((rd_T68 l0_2 x60_2).f0) ((rd_T68 l0_2 x60_2).f1) = some r) ∧ Aside0 (kq ≤ k2) ∧ Aside0 (wc.heap[gb359]? = some (.cells #[.int .i64 a0_0, .int .i64 a0_1, (.slice (some ad362) l0_2.length c0_2)] 24 (0, 0))) ∧ Aside0 (wc.heap[gb363]? = some (.cells #[.string ((rd_T68 l0_2 x60_2).f0), .string ((rd_T68 l0_2 x60_2).f1)] 68 (0, 0))) ∧ Aside0 (Below w.heap.size w wc))
      case first =>
        have H := HC38.out
        clear HC38
        by_cases c42 : (((rd_T68 l0_2 x60_2).f0).size : Int) > 24
        · rw [if_pos c42] at H
          have c42b0 : decide (24 < (((rd_T68 l0_2 x60_2).f0).size : Int)) = true := decide_eq_true c42
          have c42b1 : decide (24 < ((rd_T68 l0_2 x60_2).f0).size) = true := decide_eq_true (by omega)
          clear c42
          (first | rw [c42b0] | rw [c42b1] | (simp only [i64_w, i32_w]; rw [c42b0]) | (simp only [i64_w, i32_w]; rw [c42b1]) | rw [c42b2] | skip)
          have H' := Aside0.mk H
          clear H
          have hnb43 := NB363_359.out
          have hnc43 := NB359_363.out
          have hcz44 := bc2 BK363.out
          go_wp2
          repeat (go_quiet (fail); try go_wp2)
          go_meet
          case rel => exact ⟨_, (true), eqv_, H', ⟨by have := HJ1.out; have := HK2.out; first | omega | exact Nat.le_refl _⟩, ⟨bk_⟩, ⟨bk_⟩, ⟨bl_⟩⟩
        rw [if_neg c42] at H
        have c42b0 : decide (24 < (((rd_T68 l0_2 x60_2).f0).size : Int)) = false := decide_eq_false c42
        have c42b1 : decide (24 < ((rd_T68 l0_2 x60_2).f0).size) = false := decide_eq_false (by omega)
        clear c42
        (first | rw [c42b0] | rw [c42b1] | (simp only [i64_w, i32_w]; rw [c42b0]) | (simp only [i64_w, i32_w]; rw [c42b1]) | rw [c42b2] | skip)
        have H' := Aside0.mk H
        clear H
        have hnb45 := NB363_359.out
        have hnc45 := NB359_363.out
        have hcz46 := bc2 BK363.out
        go_wp2
        repeat (go_quiet (fail); try go_wp2)
        go_meet
        case rel => exact ⟨_, (decide ((((rd_T68 l0_2 x60_2).f1).size : Int) > 24)), eqv_, H', ⟨by have := HJ1.out; have := HK2.out; first | omega | exact Nat.le_refl _⟩, ⟨bk_⟩, ⟨bk_⟩, ⟨bl_⟩⟩
      clear HC38
      try clear c1
      try clear c2
      try clear p2
      try clear c3
      try clear p3
      try clear q3
      try clear hx3
      try clear c4
      try clear c5
      try clear c5b0
      try clear c8
      try clear c11
      try clear c12
      try clear c15
      try clear c17
      try clear c18
      try clear c18b0
      try clear c18b1
      try clear c21
      try clear c21b0
      try clear c21b1
      try clear c22
      try clear c22b0
      try clear c22b1
      try clear c26
      try clear c27
      try clear c27b0
      try clear c27b1
      try clear c29
      try clear c29b0
      try clear c29b1
      try clear c30
      try clear c30b0
      try clear c30b1
      try clear c35
      try clear c35b0
      try clear c36
      try clear c36b0
      try clear p36
      try clear q36
      try clear hx36
      try clear c37
      try clear c37b0
      try clear c40
      try clear c42
      try clear c42b0
      try clear c42b1
      try clear c42b2
      try clear c43
      try clear c45
      try clear hcz12
      try clear hcz13
      try clear hcz19
      try clear hcz20
      try clear hcz23
      try clear hcz24
      try clear hcz25
      try clear hcz28
      try clear hcz31
      try clear hcz32
      try clear hcz33
      try clear hcz34
      try clear hcz41
      try clear hcz44
      try clear hcz46
      try clear hcz6
      try clear hcz7
      try clear hcz12
      try clear hcz13
      try clear hcz19
      try clear hcz20
      try clear hcz23
      try clear hcz24
      try clear hcz25
      try clear hcz28
      try clear hcz31
      try clear hcz32
      try clear hcz33
      try clear hcz34
      try clear hcz41
      try clear hcz44
      try clear hcz46
      try clear hcz6
      try clear hcz7
      try clear hx362_0
      try clear hx362_1
      try clear p2
      try clear p362
      try clear q362
      obtain ⟨kq, x65_37, rfl, HA, HJ37, BK359, BK363, HB⟩ := hcut
      cases kq with
      | zero => exact absurd HA.out (by simp [value_State_Check.j5])
      | succ kj37 =>
        have H := HA.out
        clear HA
        simp only [value_State_Check.j5] at H
        by_cases c47 : x65_37 = true
        · subst c47
          have H1 : (some 3) = some r := by rw [if_pos rfl] at H; exact H
          clear H
          have H := H1
          clear H1
          obtain rfl := Option.some.inj H
          go_wp2
          repeat (go_quiet (fail); try go_wp2)
          go_ret
          exact ⟨er_, bl_⟩
        replace c47 := Bool.eq_false_iff.mpr c47
        subst c47
        have H1 : (if a0_0 = 5 then (value_State_Check.j6 kj37 x60_2 l0_2 (l0_2.length : Int) x60_2 false a0_0 a0_1 l0_2 ((rd_T68 l0_2 x60_2).f0) ((rd_T68 l0_2 x60_2).f1)) else (value_State_Check.j6 kj37 x60_2 l0_2 (l0_2.length : Int) x60_2 (((rd_T68 l0_2 x60_2).f1).toList != ([] : List UInt8)) a0_0 a0_1 l0_2 ((rd_T68 l0_2 x60_2).f0) ((rd_T68 l0_2 x60_2).f1))) = some r := by rw [if_neg (show ¬ (false = true) by decide)] at H; exact H
        clear H
        have H := H1
        clear H1
        have HC48 := Aside0.mk H
        clear H
        go_upto_region 14 with (fail)
        repeat (go_quiet (fail); go_upto_region 14 with (fail))
        go_cut [76] (fun v76 wc => ∃ (kq : Nat) (x76_47 : Bool), v76 = .bool x76_47 ∧ Aside0 (value_State_Check.j6 kq x60_2 l0_2 (l0_2.length : Int) x60_2 x76_47 a0_0 a0_1 l0_2 ((rd_T68 l0_2 x60_2).f0) ((rd_T68 l0_2 x60_2).f1) = some r) ∧ Aside0 (kq ≤ kj37) ∧ Aside0 (wc.heap[gb359]? = some (.cells #[.int .i64 a0_0, .int .i64 a0_1, (.slice (some ad362) l0_2.length c0_2)] 24 (0, 0))) ∧ Aside0 (wc.heap[gb363]? = some (.cells #[.string ((rd_T68 l0_2 x60_2).f0), .string ((rd_T68 l0_2 x60_2).f1)] 68 (0, 0))) ∧ Aside0 (Below w.heap.size w wc))
        case first =>
          have H := HC48.out
          clear HC48
          by_cases c49 : a0_0 = 5
          · rw [if_pos c49] at H
            have c49b0 : (a0_0 == 5) = true := beq_iff_eq.mpr c49
            have c49b1 : (a0_0 != 5) = false := bne_eq_false_iff_eq.mpr c49
            clear c49
            (first | rw [c49b0] | (simp only [i64_w, i32_w]; rw [c49b0]) | skip)
            have H' := Aside0.mk H
            clear H
            have hnb50 := NB359_363.out
            have hnc50 := NB363_359.out
            have hcz51 := bc3 BK359.out
            go_wp2
            repeat (go_quiet (fail); try go_wp2)
            go_meet
            case rel => exact ⟨_, (false), eqv_, H', ⟨by have := HJ1.out; have := HK2.out; have := HJ37.out; first | omega | exact Nat.le_refl _⟩, ⟨bk_⟩, ⟨bk_⟩, ⟨bl_⟩⟩
          rw [if_neg c49] at H
          have c49b0 : (a0_0 == 5) = false := beq_eq_false_iff_ne.mpr c49
          have c49b1 : (a0_0 != 5) = true := bne_iff_ne.mpr c49
          (first | rw [c49b0] | (simp only [i64_w, i32_w]; rw [c49b0]) | skip)
          have H' := Aside0.mk H
          clear H
          have hnb52 := NB359_363.out
          have hnc52 := NB363_359.out
          have hcz53 := bc3 BK359.out
          have hcz54 := bc2 BK363.out
          go_wp2
          repeat (go_quiet (fail); try go_wp2)
          go_meet
          case rel => exact ⟨_, ((((rd_T68 l0_2 x60_2).f1).toList != ([] : List UInt8))), eqv_, H', ⟨by have := HJ1.out; have := HK2.out; have := HJ37.out; first | omega | exact Nat.le_refl _⟩, ⟨bk_⟩, ⟨bk_⟩, ⟨bl_⟩⟩
        clear HC48
        try clear c1
        try clear c2
        try clear p2
        try clear c3
        try clear p3
        try clear q3
        try clear hx3
        try clear c4
        try clear c5
        try clear c5b0
        try clear c8
        try clear c11
        try clear c12
        try clear c15
        try clear c17
        try clear c18
        try clear c18b0
        try clear c18b1
        try clear c21
        try clear c21b0
        try clear c21b1
        try clear c22
        try clear c22b0
        try clear c22b1
        try clear c26
        try clear c27
        try clear c27b0
        try clear c27b1
        try clear c29
        try clear c29b0
        try clear c29b1
        try clear c30
        try clear c30b0
        try clear c30b1
        try clear c35
        try clear c35b0
        try clear c36
        try clear c36b0
        try clear p36
        try clear q36
        try clear hx36
        try clear c37
        try clear c37b0
        try clear c40
        try clear c42
        try clear c42b0
        try clear c42b1
        try clear c42b2
        try clear c43
        try clear c45
        try clear c47
        try clear c49
        try clear c49b0
        try clear c49b1
        try clear c50
        try clear c52
        try clear hcz12
        try clear hcz13
        try clear hcz19
        try clear hcz20
        try clear hcz23
        try clear hcz24
        try clear hcz25
        try clear hcz28
        try clear hcz31
        try clear hcz32
        try clear hcz33
        try clear hcz34
        try clear hcz41
        try clear hcz44
        try clear hcz46
        try clear hcz51
        try clear hcz53
        try clear hcz54
        try clear hcz6
        try clear hcz7
        try clear hcz12
        try clear hcz13
        try clear hcz19
        try clear hcz20
        try clear hcz23
        try clear hcz24
        try clear hcz25
        try clear hcz28
        try clear hcz31
        try clear hcz32
        try clear hcz33
        try clear hcz34
        try clear hcz41
        try clear hcz44
        try clear hcz46
        try clear hcz51
        try clear hcz53
        try clear hcz54
        try clear hcz6
        try clear hcz7
        try clear hx362_0
        try clear hx362_1
        try clear p2
        try clear p3
        try clear p36
        try clear p362
        try clear q3
        try clear q36
        try clear q362
        obtain ⟨kq, x76_47, rfl, HA, HJ47, BK359, BK363, HB⟩ := hcut
        cases kq with
        | zero => exact absurd HA.out (by simp [value_State_Check.j6])
        | succ kj47 =>
          have H := HA.out
          clear HA
          simp only [value_State_Check.j6] at H
          by_cases c55 : x76_47 = true
          · subst c55
            have H1 : (some 2) = some r := by rw [if_pos rfl] at H; exact H
            clear H
            have H := H1
            clear H1
            obtain rfl := Option.some.inj H
            go_wp2
            repeat (go_quiet (fail); try go_wp2)
            go_ret
            exact ⟨er_, bl_⟩
          replace c55 := Bool.eq_false_iff.mpr c55
          subst c55
          have H1 : (if a0_0 = 4 then (if x60_2 > 0 then (if 0 ≤ (wrap64 (x60_2 - 1)) then (if (wrap64 (x60_2 - 1)) < (l0_2.length : Int) then (value_State_Check.j7 kj47 x60_2 l0_2 (l0_2.length : Int) x60_2 (!(Op.bytesLess (((rd_T68 l0_2 (wrap64 (x60_2 - 1))).f0).toList) ((rd_T68 l0_2 x60_2).f0).toList)) a0_0 a0_1 l0_2 ((rd_T68 l0_2 x60_2).f0) ((rd_T68 l0_2 x60_2).f1)) else (none)) else (none)) else (value_State_Check.j7 kj47 x60_2 l0_2 (l0_2.length : Int) x60_2 false a0_0 a0_1 l0_2 ((rd_T68 l0_2 x60_2).f0) ((rd_T68 l0_2 x60_2).f1))) else (if a0_0 = 5 then (if x60_2 > 0 then (if 0 ≤ (wrap64 (x60_2 - 1)) then (if (wrap64 (x60_2 - 1)) < (l0_2.length : Int) then (value_State_Check.j7 kj47 x60_2 l0_2 (l0_2.length : Int) x60_2 (!(Op.bytesLess (((rd_T68 l0_2 (wrap64 (x60_2 - 1))).f0).toList) ((rd_T68 l0_2 x60_2).f0).toList)) a0_0 a0_1 l0_2 ((rd_T68 l0_2 x60_2).f0) ((rd_T68 l0_2 x60_2).f1)) else (none)) else (none)) else (value_State_Check.j7 kj47 x60_2 l0_2 (l0_2.length : Int) x60_2 false a0_0 a0_1 l0_2 ((rd_T68 l0_2 x60_2).f0) ((rd_T68 l0_2 x60_2).f1))) else (value_State_Check.j7 kj47 x60_2 l0_2 (l0_2.length : Int) x60_2 false a0_0 a0_1 l0_2 ((rd_T68 l0_2 x60_2).f0) ((rd_T68 l0_2 x60_2).f1)))) = some r := by rw [if_neg (show ¬ (false = true) by decide)] at H; exact H
          clear H
          have H := H1
          clear H1
          have HC56 := Aside0.mk H
          clear H
          go_upto_region 15 with (fail)
          repeat (go_quiet (fail); go_upto_region 15 with (fail))
          go_cut [76] (fun v76 wc => ∃ (kq : Nat) (x76_55 : Bool), v76 = .bool x76_55 ∧ Aside0 (value_State_Check.j7 kq x60_2 l0_2 (l0_2.length : Int) x60_2 x76_55 a0_0 a0_1 l0_2 ((rd_T68 l0_2 x60_2).f0) ((rd_T68 l0_2 x60_2).f1) = some r) ∧ Aside0 (kq ≤ kj47) ∧ Aside0 (wc.heap[gb359]? = some (.cells #[.int .i64 a0_0, .int .i64 a0_1, (.slice (some ad362) l0_2.length c0_2)] 24 (0, 0))) ∧ Aside0 (wc.heap[gb363]? = some (.cells #[.string ((rd_T68 l0_2 x60_2).f0), .string ((rd_T68 l0_2 x60_2).f1)] 68 (0, 0))) ∧ Aside0 (Below w.heap.size w wc))
          case first =>
            have H := HC56.out
            clear HC56
            by_cases c57 : a0_0 = 4
            · rw [if_pos c57] at H
              have c57b0 : (a0_0 == 4) = true := beq_iff_eq.mpr c57
              have c57b1 : (a0_0 != 4) = false := bne_eq_false_iff_eq.mpr c57
              clear c57
              (first | rw [c57b0] | (simp only [i64_w, i32_w]; rw [c57b0]) | skip)
              by_cases c58 : x60_2 > 0
              rotate_left
              · rw [if_neg c58] at H
                have c58b0 : decide (0 < x60_2) = false := decide_eq_false c58
                clear c58
                have H' := Aside0.mk H
                clear H
                have hnb65 := NB359_363.out
                have hnc65 := NB363_359.out
                have hcz66 := bc3 BK359.out
                go_wp2
                repeat (go_quiet (fail); try go_wp2)
                go_meet
                case rel => exact ⟨_, (false), eqv_, H', ⟨by have := HJ1.out; have := HK2.out; have := HJ37.out; have := HJ47.out; first | omega | exact Nat.le_refl _⟩, ⟨bk_⟩, ⟨bk_⟩, ⟨bl_⟩⟩
              rw [if_pos c58] at H
              have c58b0 : decide (0 < x60_2) = true := decide_eq_true c58
              clear c58
              obtain ⟨ji59, hji59⟩ : ∃ j_ : Int, (wrap64 (x60_2 - 1)) = j_ := ⟨_, rfl⟩
              replace H : (if 0 ≤ (ji59) then (if (ji59) < (l0_2.length : Int) then (value_State_Check.j7 kj47 x60_2 l0_2 (l0_2.length : Int) x60_2 (!(Op.bytesLess (((rd_T68 l0_2 (ji59)).f0).toList) ((rd_T68 l0_2 x60_2).f0).toList)) a0_0 a0_1 l0_2 ((rd_T68 l0_2 x60_2).f0) ((rd_T68 l0_2 x60_2).f1)) else (none)) else (none)) = some r := by first | (rw [hji59] at H; exact H) | (simp only [hji59] at H ⊢; exact H)
              have hji59w : (IntKind.i64.wrap (x60_2 - 1)) = ji59 := (i64_w _).trans hji59
              by_cases c60 : 0 ≤ (ji59)
              rotate_left
              · rw [if_neg c60] at H
                exact absurd H (by simp)
              rw [if_pos c60] at H
              have c60b0 : decide (0 ≤ (ji59)) = true := decide_eq_true c60
              clear c60
              by_cases c61 : (ji59) < (l0_2.length : Int)
              rotate_left
              · rw [if_neg c61] at H
                exact absurd H (by simp)
              rw [if_pos c61] at H
              have c61b0 : decide ((ji59) < (l0_2.length : Int)) = true := decide_eq_true c61
              clear c61
              have H' := Aside0.mk H
              clear H
              have hnb62 := NB359_363.out
              have hnc62 := NB363_359.out
              have hcz63 := bc3 BK359.out
              have p364 : 0 ≤ ((ji59) : Int) := of_decide_eq_true (by first | (with_reducible assumption) | assumption)
              have q364 : (ji59) < (l0_2.length : Int) := of_decide_eq_true (by first | (with_reducible assumption) | assumption)
              obtain ⟨ad364, e364, hx364_0, hx364_1⟩ := at_T68 HR0_2.out (ji59) p364 q364
              obtain rfl : ad362 = ad364 := (by injection e364)
              replace hx364_0 := (HB.out.cell (World.block_lt_of_cell? w _ hx364_0)).trans hx364_0
              replace hx364_1 := (HB.out.cell (World.block_lt_of_cell? w _ hx364_1)).trans hx364_1
              replace p364 := eq_true p364
              replace q364 := eq_true q364
              have hcz64 := bc2 BK363.out
              go_wp2
              repeat (go_quiet (fail); try go_wp2)
              go_meet
              case rel => exact ⟨_, (!(Op.bytesLess (((rd_T68 l0_2 (ji59)).f0).toList) ((rd_T68 l0_2 x60_2).f0).toList)), (by first | rfl | (simp; done) | (simp only [← hji59] <;> (first | rfl | simp)) | (simp [*]; done)), H', ⟨by have := HJ1.out; have := HK2.out; have := HJ37.out; have := HJ47.out; first | omega | exact Nat.le_refl _⟩, ⟨bk_⟩, ⟨bk_⟩, ⟨bl_⟩⟩
            rw [if_neg c57] at H
            have c57b0 : (a0_0 == 4) = false := beq_eq_false_iff_ne.mpr c57
            have c57b1 : (a0_0 != 4) = true := bne_iff_ne.mpr c57
            (first | rw [c57b0] | (simp only [i64_w, i32_w]; rw [c57b0]) | skip)
            by_cases c67 : a0_0 = 5
            rotate_left
            · rw [if_neg c67] at H
              have c67b0 : (a0_0 == 5) = false := beq_eq_false_iff_ne.mpr c67
              have c67b1 : (a0_0 != 5) = true := bne_iff_ne.mpr c67
              have H' := Aside0.mk H
              clear H
              have hnb77 := NB359_363.out
              have hnc77 := NB363_359.out
              have hcz78 := bc3 BK359.out
              go_wp2
              repeat (go_quiet (fail); try go_wp2)
              go_meet
              case rel => exact ⟨_, (false), eqv_, H', ⟨by have := HJ1.out; have := HK2.out; have := HJ37.out; have := HJ47.out; first | omega | exact Nat.le_refl _⟩, ⟨bk_⟩, ⟨bk_⟩, ⟨bl_⟩⟩
            rw [if_pos c67] at H
            have c67b0 : (a0_0 == 5) = true := beq_iff_eq.mpr c67
            have c67b1 : (a0_0 != 5) = false := bne_eq_false_iff_eq.mpr c67
            clear c67
            by_cases c68 : x60_2 > 0
            rotate_left
            · rw [if_neg c68] at H
              have c68b0 : decide (0 < x60_2) = false := decide_eq_false c68
              clear c68
              have H' := Aside0.mk H
              clear H
              have hnb75 := NB359_363.out
              have hnc75 := NB363_359.out
              have hcz76 := bc3 BK359.out
              go_wp2
              repeat (go_quiet (fail); try go_wp2)
              go_meet
              case rel => exact ⟨_, (false), eqv_, H', ⟨by have := HJ1.out; have := HK2.out; have := HJ37.out; have := HJ47.out; first | omega | exact Nat.le_refl _⟩, ⟨bk_⟩, ⟨bk_⟩, ⟨bl_⟩⟩
            rw [if_pos c68] at H
            have c68b0 : decide (0 < x60_2) = true := decide_eq_true c68
            clear c68
            obtain ⟨ji69, hji69⟩ : ∃ j_ : Int, (wrap64 (x60_2 - 1)) = j_ := ⟨_, rfl⟩
            replace H : (if 0 ≤ (ji69) then (if (ji69) < (l0_2.length : Int) then (value_State_Check.j7 kj47 x60_2 l0_2 (l0_2.length : Int) x60_2 (!(Op.bytesLess (((rd_T68 l0_2 (ji69)).f0).toList) ((rd_T68 l0_2 x60_2).f0).toList)) a0_0 a0_1 l0_2 ((rd_T68 l0_2 x60_2).f0) ((rd_T68 l0_2 x60_2).f1)) else (none)) else (none)) = some r := by first | (rw [hji69] at H; exact H) | (simp only [hji69] at H ⊢; exact H)
            have hji69w : (IntKind.i64.wrap (x60_2 - 1)) = ji69 := (i64_w _).trans hji69
            by_cases c70 : 0 ≤ (ji69)
            rotate_left
            · rw [if_neg c70] at H
              exact absurd H (by simp)
            rw [if_pos c70] at H
            have c70b0 : decide (0 ≤ (ji69)) = true := decide_eq_true c70
            clear c70
            by_cases c71 : (ji69) < (l0_2.length : Int)
            rotate_left
            · rw [if_neg c71] at H
              exact absurd H (by simp)
            rw [if_pos c71] at H
            have c71b0 : decide ((ji69) < (l0_2.length : Int)) = true := decide_eq_true c71
            clear c71
            have H' := Aside0.mk H
            clear H
            have hnb72 := NB359_363.out
            have hnc72 := NB363_359.out
            have hcz73 := bc3 BK359.out
            have p365 : 0 ≤ ((ji69) : Int) := of_decide_eq_true (by first | (with_reducible assumption) | assumption)
            have q365 : (ji69) < (l0_2.length : Int) := of_decide_eq_true (by first | (with_reducible assumption) | assumption)
            obtain ⟨ad365, e365, hx365_0, hx365_1⟩ := at_T68 HR0_2.out (ji69) p365 q365
            obtain rfl : ad362 = ad365 := (by injection e365)
            replace hx365_0 := (HB.out.cell (World.block_lt_of_cell? w _ hx365_0)).trans hx365_0
            replace hx365_1 := (HB.out.cell (World.block_lt_of_cell? w _ hx365_1)).trans hx365_1
            replace p365 := eq_true p365
            replace q365 := eq_true q365
            have hcz74 := bc2 BK363.out
            go_wp2
            repeat (go_quiet (fail); try go_wp2)
            go_meet
            case rel => exact ⟨_, (!(Op.bytesLess (((rd_T68 l0_2 (ji69)).f0).toList) ((rd_T68 l0_2 x60_2).f0).toList)), (by first | rfl | (simp; done) | (simp only [← hji69] <;> (first | rfl | simp)) | (simp [*]; done)), H', ⟨by have := HJ1.out; have := HK2.out; have := HJ37.out; have := HJ47.out; first | omega | exact Nat.le_refl _⟩, ⟨bk_⟩, ⟨bk_⟩, ⟨bl_⟩⟩
          clear HC56
          try clear c1
          try clear c2
          try clear p2
          try clear c3
          try clear p3
          try clear q3
          try clear hx3
          try clear c4
          try clear c5
          try clear c5b0
          try clear c6
          try clear p6
          try clear c7
          try clear c8
          try clear c11
          try clear c12
          try clear c15
          try clear c17
          try clear c18
          try clear c18b0
          try clear c18b1
          try clear c21
          try clear c21b0
          try clear c21b1
          try clear c22
          try clear c22b0
          try clear c22b1
          try clear c26
          try clear c27
          try clear c27b0
          try clear c27b1
          try clear c29
          try clear c29b0
          try clear c29b1
          try clear c30
          try clear c30b0
          try clear c30b1
          try clear c35
          try clear c35b0
          try clear c36
          try clear c36b0
          try clear p36
          try clear q36
          try clear hx36
          try clear c37
          try clear c37b0
          try clear c40
          try clear c42
          try clear c42b0
          try clear c42b1
          try clear c42b2
          try clear c43
          try clear c45
          try clear c47
          try clear c49
          try clear c49b0
          try clear c49b1
          try clear c50
          try clear c52
          try clear c55
          try clear c57
          try clear c57b0
          try clear c57b1
          try clear c58
          try clear c58b0
          try clear c60
          try clear c60b0
          try clear c61
          try clear c61b0
          try clear c62
          try clear p64
          try clear c65
          try clear c67
          try clear c67b0
          try clear c67b1
          try clear c68
          try clear c68b0
          try clear c70
          try clear c70b0
          try clear c71
          try clear c71b0
          try clear c72
          try clear c75
          try clear c77
          try clear hcz12
          try clear hcz13
          try clear hcz19
          try clear hcz20
          try clear hcz23
          try clear hcz24
          try clear hcz25
          try clear hcz28
          try clear hcz31
          try clear hcz32
          try clear hcz33
          try clear hcz34
          try clear hcz41
          try clear hcz44
          try clear hcz46
          try clear hcz51
          try clear hcz53
          try clear hcz54
          try clear hcz63
          try clear hcz64
          try clear hcz66
          try clear hcz6
          try clear hcz73
          try clear hcz74
          try clear hcz76
          try clear hcz78
          try clear hcz7
          try clear hcz12
          try clear hcz13
          try clear hcz19
          try clear hcz20
          try clear hcz23
          try clear hcz24
          try clear hcz25
          try clear hcz28
          try clear hcz31
          try clear hcz32
          try clear hcz33
          try clear hcz34
          try clear hcz41
          try clear hcz44
          try clear hcz46
          try clear hcz51
          try clear hcz53
          try clear hcz54
          try clear hcz63
          try clear hcz64
          try clear hcz66
          try clear hcz6
          try clear hcz73
          try clear hcz74
          try clear hcz76
          try clear hcz78
          try clear hcz7
          try clear hx362_0
          try clear hx362_1
          try clear hx364_0
          try clear hx364_1
          try clear hx365_0
          try clear hx365_1
          try clear p2
          try clear p3
          try clear p36
          try clear p362
          try clear p364
          try clear p365
          try clear q3
          try clear q36
          try clear q362
          try clear q364
          try clear q365
          obtain ⟨kq, x76_55, rfl, HA, HJ55, BK359, BK363, HB⟩ := hcut
          cases kq with
          | zero => exact absurd HA.out (by simp [value_State_Check.j7])
          | succ kj55 =>
            have H := HA.out
            clear HA
            simp only [value_State_Check.j7] at H
            by_cases c79 : x76_55 = true
            · subst c79
              have H1 : (some 2) = some r := by rw [if_pos rfl] at H; exact H
              clear H
              have H := H1
              clear H1
              obtain rfl := Option.some.inj H
              go_wp2
              repeat (go_quiet (fail); try go_wp2)
              go_ret
              exact ⟨er_, bl_⟩
            replace c79 := Bool.eq_false_iff.mpr c79
            subst c79
            have H1 : (if a0_0 = 7 then (if x60_2 > 0 then (if 0 ≤ (wrap64 (x60_2 - 1)) then (if (wrap64 (x60_2 - 1)) < (l0_2.length : Int) then (value_State_Check.j8 kj55 l0_2 (l0_2.length : Int) x60_2 (Op.bytesLess ((rd_T68 l0_2 x60_2).f0).toList (((rd_T68 l0_2 (wrap64 (x60_2 - 1))).f0).toList)) a0_0 a0_1 l0_2 ((rd_T68 l0_2 x60_2).f0) ((rd_T68 l0_2 x60_2).f1)) else (none)) else (none)) else (value_State_Check.j8 kj55 l0_2 (l0_2.length : Int) x60_2 false a0_0 a0_1 l0_2 ((rd_T68 l0_2 x60_2).f0) ((rd_T68 l0_2 x60_2).f1))) else (value_State_Check.j8 kj55 l0_2 (l0_2.length : Int) x60_2 false a0_0 a0_1 l0_2 ((rd_T68 l0_2 x60_2).f0) ((rd_T68 l0_2 x60_2).f1))) = some r := by rw [if_neg (show ¬ (false = true) by decide)] at H; exact H
            clear H
            have H := H1
            clear H1
            have HC80 := Aside0.mk H
            clear H
            go_upto_region 16 with (fail)
            repeat (go_quiet (fail); go_upto_region 16 with (fail))
            go_cut [76] (fun v76 wc => ∃ (kq : Nat) (x76_79 : Bool), v76 = .bool x76_79 ∧ Aside0 (value_State_Check.j8 kq l0_2 (l0_2.length : Int) x60_2 x76_79 a0_0 a0_1 l0_2 ((rd_T68 l0_2 x60_2).f0) ((rd_T68 l0_2 x60_2).f1) = some r) ∧ Aside0 (kq ≤ kj55) ∧ Aside0 (wc.heap[gb359]? = some (.cells #[.int .i64 a0_0, .int .i64 a0_1, (.slice (some ad362) l0_2.length c0_2)] 24 (0, 0))) ∧ Aside0 (wc.heap[gb363]? = some (.cells #[.string ((rd_T68 l0_2 x60_2).f0), .string ((rd_T68 l0_2 x60_2).f1)] 68 (0, 0))) ∧ Aside0 (Below w.heap.size w wc))
            case first =>
              have H := HC80.out
              clear HC80
              by_cases c81 : a0_0 = 7
              rotate_left
              · rw [if_neg c81] at H
                have c81b0 : (a0_0 == 7) = false := beq_eq_false_iff_ne.mpr c81
                have c81b1 : (a0_0 != 7) = true := bne_iff_ne.mpr c81
                (first | rw [c81b0] | (simp only [i64_w, i32_w]; rw [c81b0]) | skip)
                have H' := Aside0.mk H
                clear H
                have hnb91 := NB359_363.out
                have hnc91 := NB363_359.out
                have hcz92 := bc3 BK359.out
                go_wp2
                repeat (go_quiet (fail); try go_wp2)
                go_meet
                case rel => exact ⟨_, (false), eqv_, H', ⟨by have := HJ1.out; have := HK2.out; have := HJ37.out; have := HJ47.out; have := HJ55.out; first | omega | exact Nat.le_refl _⟩, ⟨bk_⟩, ⟨bk_⟩, ⟨bl_⟩⟩
              rw [if_pos c81] at H
              have c81b0 : (a0_0 == 7) = true := beq_iff_eq.mpr c81
              have c81b1 : (a0_0 != 7) = false := bne_eq_false_iff_eq.mpr c81
              clear c81
              (first | rw [c81b0] | (simp only [i64_w, i32_w]; rw [c81b0]) | skip)
              by_cases c82 : x60_2 > 0
              rotate_left
              · rw [if_neg c82] at H
                have c82b0 : decide (0 < x60_2) = false := decide_eq_false c82
                clear c82
                have H' := Aside0.mk H
                clear H
                have hnb89 := NB359_363.out
                have hnc89 := NB363_359.out
                have hcz90 := bc3 BK359.out
                go_wp2
                repeat (go_quiet (fail); try go_wp2)
                go_meet
                case rel => exact ⟨_, (false), eqv_, H', ⟨by have := HJ1.out; have := HK2.out; have := HJ37.out; have := HJ47.out; have := HJ55.out; first | omega | exact Nat.le_refl _⟩, ⟨bk_⟩, ⟨bk_⟩, ⟨bl_⟩⟩
              rw [if_pos c82] at H
              have c82b0 : decide (0 < x60_2) = true := decide_eq_true c82
              clear c82
              obtain ⟨ji83, hji83⟩ : ∃ j_ : Int, (wrap64 (x60_2 - 1)) = j_ := ⟨_, rfl⟩
              replace H : (if 0 ≤ (ji83) then (if (ji83) < (l0_2.length : Int) then (value_State_Check.j8 kj55 l0_2 (l0_2.length : Int) x60_2 (Op.bytesLess ((rd_T68 l0_2 x60_2).f0).toList (((rd_T68 l0_2 (ji83)).f0).toList)) a0_0 a0_1 l0_2 ((rd_T68 l0_2 x60_2).f0) ((rd_T68 l0_2 x60_2).f1)) else (none)) else (none)) = some r := by first | (rw [hji83] at H; exact H) | (simp only [hji83] at H ⊢; exact H)
              have hji83w : (IntKind.i64.wrap (x60_2 - 1)) = ji83 := (i64_w _).trans hji83
              by_cases c84 : 0 ≤ (ji83)
              rotate_left
              · rw [if_neg c84] at H
                exact absurd H (by simp)
              rw [if_pos c84] at H
              have c84b0 : decide (0 ≤ (ji83)) = true := decide_eq_true c84
              clear c84
              by_cases c85 : (ji83) < (l0_2.length : Int)
              rotate_left
              · rw [if_neg c85] at H
                exact absurd H (by simp)
              rw [if_pos c85] at H
              have c85b0 : decide ((ji83) < (l0_2.length : Int)) = true := decide_eq_true c85
              clear c85
              have H' := Aside0.mk H
              clear H
              have hnb86 := NB359_363.out
              have hnc86 := NB363_359.out
              have hcz87 := bc3 BK359.out
              have p366 : 0 ≤ ((ji83) : Int) := of_decide_eq_true (by first | (with_reducible assumption) | assumption)
              have q366 : (ji83) < (l0_2.length : Int) := of_decide_eq_true (by first | (with_reducible assumption) | assumption)
              obtain ⟨ad366, e366, hx366_0, hx366_1⟩ := at_T68 HR0_2.out (ji83) p366 q366
              obtain rfl : ad362 = ad366 := (by injection e366)
              replace hx366_0 := (HB.out.cell (World.block_lt_of_cell? w _ hx366_0)).trans hx366_0
              replace hx366_1 := (HB.out.cell (World.block_lt_of_cell? w _ hx366_1)).trans hx366_1
              replace p366 := eq_true p366
              replace q366 := eq_true q366
              have hcz88 := bc2 BK363.out
              go_wp2
              repeat (go_quiet (fail); try go_wp2)
              go_meet
              case rel => exact ⟨_, ((Op.bytesLess ((rd_T68 l0_2 x60_2).f0).toList (((rd_T68 l0_2 (ji83)).f0).toList))), (by first | rfl | (simp; done) | (simp only [← hji83] <;> (first | rfl | simp)) | (simp [*]; done)), H', ⟨by have := HJ1.out; have := HK2.out; have := HJ37.out; have := HJ47.out; have := HJ55.out; first | omega | exact Nat.le_refl _⟩, ⟨bk_⟩, ⟨bk_⟩, ⟨bl_⟩⟩
            clear HC80
            try clear c1
            try clear c2
            try clear p2
            try clear c3
            try clear p3
            try clear q3
            try clear hx3
            try clear c4
            try clear c5
            try clear c5b0
            try clear c6
            try clear p6
            try clear c7
            try clear c8
            try clear c9
            try clear c11
            try clear c12
            try clear c15
            try clear c17
            try clear c18
            try clear c18b0
            try clear c18b1
            try clear c21
            try clear c21b0
            try clear c21b1
            try clear c22
            try clear c22b0
            try clear c22b1
            try clear c26
            try clear c27
            try clear c27b0
            try clear c27b1
            try clear c29
            try clear c29b0
            try clear c29b1
            try clear c30
            try clear c30b0
            try clear c30b1
            try clear c35
            try clear c35b0
            try clear c36
            try clear c36b0
            try clear p36
            try clear q36
            try clear hx36
            try clear c37
            try clear c37b0
            try clear c40
            try clear c42
            try clear c42b0
            try clear c42b1
            try clear c42b2
            try clear c43
            try clear c45
            try clear c47
            try clear c49
            try clear c49b0
            try clear c49b1
            try clear c50
            try clear c52
            try clear c55
            try clear c57
            try clear c57b0
            try clear c57b1
            try clear c58
            try clear c58b0
            try clear c60
            try clear c60b0
            try clear c61
            try clear c61b0
            try clear c62
            try clear p64
            try clear c65
            try clear c67
            try clear c67b0
            try clear c67b1
            try clear c68
            try clear c68b0
            try clear c70
            try clear c70b0
            try clear c71
            try clear c71b0
            try clear c72
            try clear c75
            try clear c77
            try clear c79
            try clear c81
            try clear c81b0
            try clear c81b1
            try clear c82
            try clear c82b0
            try clear c84
            try clear c84b0
            try clear c85
            try clear c85b0
            try clear c86
            try clear c89
            try clear c91
            try clear hcz12
            try clear hcz13
            try clear hcz19
            try clear hcz20
            try clear hcz23
            try clear hcz24
            try clear hcz25
            try clear hcz28
            try clear hcz31
            try clear hcz32
            try clear hcz33
            try clear hcz34
            try clear hcz41
            try clear hcz44
            try clear hcz46
            try clear hcz51
            try clear hcz53
            try clear hcz54
            try clear hcz63
            try clear hcz64
            try clear hcz66
            try clear hcz6
            try clear hcz73
            try clear hcz74
            try clear hcz76
            try clear hcz78
            try clear hcz7
            try clear hcz87
            try clear hcz88
            try clear hcz90
            try clear hcz92
            try clear hcz12
            try clear hcz13
            try clear hcz19
            try clear hcz20
            try clear hcz23
            try clear hcz24
            try clear hcz25
            try clear hcz28
            try clear hcz31
            try clear hcz32
            try clear hcz33
            try clear hcz34
            try clear hcz41
            try clear hcz44
            try clear hcz46
            try clear hcz51
            try clear hcz53
            try clear hcz54
            try clear hcz63
            try clear hcz64
            try clear hcz66
            try clear hcz6
            try clear hcz73
            try clear hcz74
            try clear hcz76
            try clear hcz78
            try clear hcz7
            try clear hcz87
            try clear hcz88
            try clear hcz90
            try clear hcz92
            try clear hx362_0
            try clear hx362_1
            try clear hx364_0
            try clear hx364_1
            try clear hx365_0
            try clear hx365_1
            try clear hx366_0
            try clear hx366_1
            try clear p2
            try clear p3
            try clear p36
            try clear p362
            try clear p364
            try clear p365
            try clear p366
            try clear p6
            try clear p64
            try clear q3
            try clear q36
            try clear q362
            try clear q364
            try clear q365
            try clear q366
            obtain ⟨kq, x76_79, rfl, HA, HJ79, BK359, BK363, HB⟩ := hcut
            cases kq with
            | zero => exact absurd HA.out (by simp [value_State_Check.j8])
            | succ kj79 =>
              have H := HA.out
              clear HA
              simp only [value_State_Check.j8] at H
              by_cases c93 : x76_79 = true
              · subst c93
                have H1 : (some 2) = some r := by rw [if_pos rfl] at H; exact H
                clear H
                have H := H1
                clear H1
                obtain rfl := Option.some.inj H
                go_wp2
                repeat (go_quiet (fail); try go_wp2)
                go_ret
                exact ⟨er_, bl_⟩
              replace c93 := Bool.eq_false_iff.mpr c93
              subst c93
              have H1 : (if a0_0 = 1 then (if ((rd_T68 l0_2 x60_2).f0).toList = ([] : List UInt8) then (some 2) else (value_State_Check.l0 kj79 l0_2 (l0_2.length : Int) (wrap64 (x60_2 + 1)) a0_0 a0_1 l0_2)) else (value_State_Check.l0 kj79 l0_2 (l0_2.length : Int) (wrap64 (x60_2 + 1)) a0_0 a0_1 l0_2)) = some r := by rw [if_neg (show ¬ (false = true) by decide)] at H; exact H
              clear H
              have H := H1
              clear H1
              by_cases c94 : a0_0 = 1
              rotate_left
              · rw [if_neg c94] at H
                have c94b0 : (a0_0 == 1) = false := beq_eq_false_iff_ne.mpr c94
                have c94b1 : (a0_0 != 1) = true := bne_iff_ne.mpr c94
                have H' := Aside0.mk H
                clear H
                have hnb102 := NB359_363.out
                have hnc102 := NB363_359.out
                have hcz103 := bc3 BK359.out
                go_wp2
                repeat (go_quiet (fail); try go_wp2)
                go_roundg kj79
                case measure => have := HJ1.out; have := HK2.out; have := HJ37.out; have := HJ47.out; have := HJ55.out; have := HJ79.out; omega
                case rel => exact ⟨(wrap64 (x60_2 + 1)), eqv_, H', ⟨by have := HJ1.out; have := HK2.out; have := HJ37.out; have := HJ47.out; have := HJ55.out; have := HJ79.out; omega⟩, ⟨bk_⟩, ⟨bl_⟩⟩
              rw [if_pos c94] at H
              have c94b0 : (a0_0 == 1) = true := beq_iff_eq.mpr c94
              have c94b1 : (a0_0 != 1) = false := bne_eq_false_iff_eq.mpr c94
              clear c94
              by_cases c95 : ((rd_T68 l0_2 x60_2).f0).toList = ([] : List UInt8)
              · rw [if_pos c95] at H
                have c95b0 : (((rd_T68 l0_2 x60_2).f0).toList == ([] : List UInt8)) = true := beq_iff_eq.mpr c95
                have c95b1 : (((rd_T68 l0_2 x60_2).f0).toList != ([] : List UInt8)) = false := bne_eq_false_iff_eq.mpr c95
                (try (have c95b2 : ((rd_T68 l0_2 x60_2).f0).toList.isEmpty = true := by simpa using c95))
                clear c95
                obtain rfl := Option.some.inj H
                have hnb96 := NB359_363.out
                have hnc96 := NB363_359.out
                have hcz97 := bc3 BK359.out
                have hcz98 := bc2 BK363.out
                go_wp2
                repeat (go_quiet (fail); try go_wp2)
                go_ret
                exact ⟨er_, bl_⟩
              rw [if_neg c95] at H
              have c95b0 : (((rd_T68 l0_2 x60_2).f0).toList == ([] : List UInt8)) = false := beq_eq_false_iff_ne.mpr c95
              have c95b1 : (((rd_T68 l0_2 x60_2).f0).toList != ([] : List UInt8)) = true := bne_iff_ne.mpr c95
              (try (have c95b2 : ((rd_T68 l0_2 x60_2).f0).toList.isEmpty = false := by simpa using c95))
              have H' := Aside0.mk H
              clear H
              have hnb99 := NB359_363.out
              have hnc99 := NB363_359.out
              have hcz100 := bc3 BK359.out
              have hcz101 := bc2 BK363.out
              go_wp2
              repeat (go_quiet (fail); try go_wp2)
              go_roundg kj79
              case measure => have := HJ1.out; have := HK2.out; have := HJ37.out; have := HJ47.out; have := HJ55.out; have := HJ79.out; omega
              case rel => exact ⟨(wrap64 (x60_2 + 1)), eqv_, H', ⟨by have := HJ1.out; have := HK2.out; have := HJ37.out; have := HJ47.out; have := HJ55.out; have := HJ79.out; omega⟩, ⟨bk_⟩, ⟨bl_⟩⟩
end Go.Proofs.Ytjiblcncadekcaa.PA

