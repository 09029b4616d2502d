import Derived.Test.YtjiblcncadekcaaGreatQOxPAx0
import Derived.Test.YtjiblcncadekcaaGreatQOxPAx8
namespace Go.Proofs.YtjiblcncadekcaaGreat.PA
open Go.Proofs.YtjiblcncadekcaaGreat.PL
open Go.RowKit Go.Proofs.YtjiblcncadekcaaGreatW.PrintWords Go.Proofs.YtjiblcncadekcaaGreatW.PrintLast Go.Proofs.YtjiblcncadekcaaGreatW.PrintMore
attribute [local go_sem] max2_int min2_int bl_leq max_two min_two max_three min_three max_four min_four
set_option linter.unusedVariables false
set_option linter.unusedSimpArgs false
def method_Op_shape.f (a0 : Int) : Option (Int × ByteArray × Bool × Bool × Bool) := if a0 < 1 then (some (0, (⟨#[]⟩ : ByteArray), false, false, false)) else (if a0 > 17 then (some (0, (⟨#[]⟩ : ByteArray), false, false, false)) else ((method_shapes.f).bind fun t225 => (if 0 ≤ (wrap64 (a0 - 1)) then (if (wrap64 (a0 - 1)) < (t225.length : Int) then (some ((rd_T122 t225 (wrap64 (a0 - 1))).f0, (rd_T122 t225 (wrap64 (a0 - 1))).f1, (rd_T122 t225 (wrap64 (a0 - 1))).f2, (rd_T122 t225 (wrap64 (a0 - 1))).f3, (rd_T122 t225 (wrap64 (a0 - 1))).f4)) else (none)) else (none))))
set_option maxHeartbeats 8000000 in
set_option maxRecDepth 100000 in
theorem method_Op_shape.calls (a0 : Int) (r1 : Int) (r2 : ByteArray) (r3 : Bool) (r4 : Bool) (r5 : Bool) (w : World) (h : method_Op_shape.f a0 = some (r1, r2, r3, r4, r5)) :
    Calls Tryz.prog 51 #[.int .i64 a0] w fun e w' => e = .returned (.agg #[.int .i64 r1, .string r2, .bool r3, .bool r4, .bool r5]) ∧ Below w.heap.size w w' := by
  have hu122 := Tryz.underlying122
  have HB := Z0.mk (Below.refl w.heap.size w)
  have H : (if a0 < 1 then (some (0, (⟨#[]⟩ : ByteArray), false, false, false)) else (if a0 > 17 then (some (0, (⟨#[]⟩ : ByteArray), false, false, false)) else ((method_shapes.f).bind fun t225 => (if 0 ≤ (wrap64 (a0 - 1)) then (if (wrap64 (a0 - 1)) < (t225.length : Int) then (some ((rd_T122 t225 (wrap64 (a0 - 1))).f0, (rd_T122 t225 (wrap64 (a0 - 1))).f1, (rd_T122 t225 (wrap64 (a0 - 1))).f2, (rd_T122 t225 (wrap64 (a0 - 1))).f3, (rd_T122 t225 (wrap64 (a0 - 1))).f4)) else (none)) else (none))))) = some (r1, r2, r3, r4, r5) := h
  clear h
  by_cases c2 : a0 < 1
  · rw [if_pos c2] at H
    have c2b0 : decide (a0 < 1) = true := decide_eq_true c2
    clear c2
    simp only [Option.some.injEq, Prod.mk.injEq] at H
    obtain ⟨rfl, rfl, rfl, rfl, rfl⟩ := H
    go_enter Tryz.func51, Tryz.ntmps51
    go_wp2_with (first | ((with_reducible refine gds (N := 2) rfl ?_); refine bx_ (N := 2) (cs := #[.int .i64 0, .string (⟨#[]⟩ : ByteArray), .bool false, .bool false, .bool false]) (t := 122) ?_; intro gb224 hg w3 hbox hb; have n0_ := Z0.mk (bsp bl_ hb); have n1_ := Z0.mk (hbox); have n2_ := Z0.mk ((by rw [hg]; exact bsz bl_ : w.heap.size ≤ gb224)); have n3_ := Z0.mk ((by rw [hg]; exact bsz bl_ : w.heap.size ≤ gb224)); clear HB; have HB := n0_; have BK224 := n1_; have GW224 := n2_; have GE224 := n3_; clear n0_ n1_ n2_ n3_; clear hb hbox hg; have hcz4 := bc5 BK224.out))
    refine bodyPost_ret (results_cell_row rfl _ _ gb224 122 #[.int .i64 0, .string (⟨#[]⟩ : ByteArray), .bool false, .bool false, .bool false] (0, 0) _ rfl bk_ Tryz.underlying122 rfl (by kernel_rfl)) rfl ?_
    exact ⟨er_, bl_⟩
  rw [if_neg c2] at H
  have c2b0 : decide (a0 < 1) = false := decide_eq_false c2
  clear c2
  have HS5 := Z0.mk H
  clear H
  go_enter Tryz.func51, Tryz.ntmps51
  go_upto_if 8 with (first | ((with_reducible refine gds (N := 2) rfl ?_); refine bx_ (N := 2) (cs := #[.int .i64 0, .string (⟨#[]⟩ : ByteArray), .bool false, .bool false, .bool false]) (t := 122) ?_; intro gb224 hg w6 hbox hb; have n0_ := Z0.mk (bsp bl_ hb); have n1_ := Z0.mk (hbox); have n2_ := Z0.mk ((by rw [hg]; exact bsz bl_ : w.heap.size ≤ gb224)); have n3_ := Z0.mk ((by rw [hg]; exact bsz bl_ : w.heap.size ≤ gb224)); clear HB; have HB := n0_; have BK224 := n1_; have GW224 := n2_; have GE224 := n3_; clear n0_ n1_ n2_ n3_; clear hb hbox hg))
  (try simp only [Act.put, List.setIfInBounds_toArray, List.set_cons_zero, List.set_cons_succ])
  have H := HS5.out
  clear HS5
  by_cases c7 : a0 > 17
  · rw [if_pos c7] at H
    have c7b0 : decide (17 < a0) = true := decide_eq_true c7
    clear c7
    (first | rw [c7b0] | (simp only [i64_w, i32_w]; rw [c7b0]) | skip)
    simp only [Option.some.injEq, Prod.mk.injEq] at H
    obtain ⟨rfl, rfl, rfl, rfl, rfl⟩ := H
    have hcz8 := bc5 BK224.out
    go_wp2
    refine bodyPost_ret (results_cell_row rfl _ _ gb224 122 #[.int .i64 0, .string (⟨#[]⟩ : ByteArray), .bool false, .bool false, .bool false] (0, 0) _ rfl bk_ Tryz.underlying122 rfl (by kernel_rfl)) rfl ?_
    exact ⟨er_, bl_⟩
  rw [if_neg c7] at H
  have c7b0 : decide (17 < a0) = false := decide_eq_false c7
  clear c7
  (first | rw [c7b0] | (simp only [i64_w, i32_w]; rw [c7b0]) | skip)
  replace H := Option.bind_eq_some_iff.mp H
  obtain ⟨t225, A90, H⟩ := H
  replace H : (if 0 ≤ (wrap64 (a0 - 1)) then (if (wrap64 (a0 - 1)) < (t225.length : Int) then (some ((rd_T122 t225 (wrap64 (a0 - 1))).f0, (rd_T122 t225 (wrap64 (a0 - 1))).f1, (rd_T122 t225 (wrap64 (a0 - 1))).f2, (rd_T122 t225 (wrap64 (a0 - 1))).f3, (rd_T122 t225 (wrap64 (a0 - 1))).f4)) else (none)) else (none)) = some (r1, r2, r3, r4, r5) := H
  have A9 := Z0.mk A90
  clear A90
  obtain ⟨ji10, hji10⟩ : ∃ j_ : Int, (wrap64 (a0 - 1)) = j_ := ⟨_, rfl⟩
  replace H : (if 0 ≤ (ji10) then (if (ji10) < (t225.length : Int) then (some ((rd_T122 t225 (ji10)).f0, (rd_T122 t225 (ji10)).f1, (rd_T122 t225 (ji10)).f2, (rd_T122 t225 (ji10)).f3, (rd_T122 t225 (ji10)).f4)) else (none)) else (none)) = some (r1, r2, r3, r4, r5) := by first | (rw [hji10] at H; exact H) | (simp only [hji10] at H ⊢; exact H)
  (try rw [hji10] at A9)
  have hji10w : (IntKind.i64.wrap (a0 - 1)) = ji10 := (i64_w _).trans hji10
  by_cases c11 : 0 ≤ (ji10)
  rotate_left
  · rw [if_neg c11] at H
    exact absurd H (by simp)
  rw [if_pos c11] at H
  have c11b0 : decide (0 ≤ (ji10)) = true := decide_eq_true c11
  clear c11
  by_cases c12 : (ji10) < (t225.length : Int)
  rotate_left
  · rw [if_neg c12] at H
    exact absurd H (by simp)
  rw [if_pos c12] at H
  have c12b0 : decide ((ji10) < (t225.length : Int)) = true := decide_eq_true c12
  clear c12
  simp only [Option.some.injEq, Prod.mk.injEq] at H
  obtain ⟨rfl, rfl, rfl, rfl, rfl⟩ := H
  go_wp2_with (first | ((with_reducible refine gcl (f := 68) rfl ?_); refine gl_ (some 10) rfl rfl Tryz.func68 (by kernel_rfl) rfl #[] rfl ar_ ?_; (with_reducible refine (method_shapes.calls  t225 _ A9.out).mono ?_); rintro e w13 ⟨v226, rfl, ho0, hb⟩; refine ⟨_, rfl, ?_⟩; have n0_ := Z0.mk (Kd.R_lower (Kd.R_newB ho0 (g := gb224) bk_) (bsz bl_)); have n1_ := Z0.mk (kbl (g := gb224) bk_ hb); have n2_ := Z0.mk (bsp bl_ hb); clear BK224; clear HB; have HO227 := n0_; have BK224 := n1_; have HB := n2_; clear n0_ n1_ n2_; (try clear hb); (try clear hb2); (try clear hk); (try clear hi); (try clear ho0); obtain ⟨Ao14, co14, eo14⟩ := Kd.R_slice HO227.out; subst eo14; have p228 : 0 ≤ ((ji10) : Int) := of_decide_eq_true (by first | (with_reducible assumption) | assumption); have q228 : (ji10) < (t225.length : Int) := of_decide_eq_true (by first | (with_reducible assumption) | assumption); obtain ⟨ad228, e228, hx228_0, hx228_1, hx228_2, hx228_3, hx228_4⟩ := at_T122 (Kd.R_reads' HO227.out).2.2 (ji10) p228 q228; cases e228; replace p228 := eq_true p228; replace q228 := eq_true q228; have hcz15 := bc5 BK224.out))
  refine bodyPost_ret (results_cell_row rfl _ _ gb224 122 #[.int .i64 ((rd_T122 t225 (ji10)).f0), .string ((rd_T122 t225 (ji10)).f1), .bool ((rd_T122 t225 (ji10)).f2), .bool ((rd_T122 t225 (ji10)).f3), .bool ((rd_T122 t225 (ji10)).f4)] (0, 0) _ rfl bk_ Tryz.underlying122 rfl (by kernel_rfl)) rfl ?_
  exact ⟨by first | rfl | (simp [errW_none, errW_some] <;> rfl) | (simp only [← hji10]; first | rfl | (simp [errW_none, errW_some] <;> rfl)) | (simp [*, errW_none, errW_some] <;> rfl), bl_⟩
def method_Op_Kind.f (a0 : Int) : Option (Int) := (method_Op_shape.f a0).bind fun bt229 => (some bt229.1)
set_option maxHeartbeats 8000000 in
set_option maxRecDepth 100000 in
theorem method_Op_Kind.calls (a0 : Int) (r : Int) (w : World) (h : method_Op_Kind.f a0 = some r) :
    Calls Tryz.prog 24 #[.int .i64 a0] w fun e w' => e = .returned (.int .i64 r) ∧ Below w.heap.size w w' := by
  have hu122 := Tryz.underlying122
  have hfl122_0 : ∀ (v0_ v1_ v2_ v3_ v4_ : Value) (W_ : World), Sem.run Tryz.prog (Instr.field 122 (.agg #[v0_, v1_, v2_, v3_, v4_]) 0) W_ = .ok v0_ W_ := by intro v0_ v1_ v2_ v3_ v4_ W_; kernel_rfl
  have HB := Z0.mk (Below.refl w.heap.size w)
  have H : ((method_Op_shape.f a0).bind fun bt229 => (some bt229.1)) = some r := h
  clear h
  replace H := Option.bind_eq_some_iff.mp H
  obtain ⟨⟨t229, t230, t231, t232, t233⟩, A20, H⟩ := H
  replace H : (some t229) = some r := H
  have A2 := Z0.mk A20
  clear A20
  obtain rfl := Option.some.inj H
  go_enter Tryz.func24, Tryz.ntmps24
  go_wp2_with (first | ((with_reducible refine gcl (f := 51) rfl ?_); refine gl_ (some 4) rfl rfl Tryz.func51 (by kernel_rfl) rfl #[.int .i64 a0] rfl ar_ ?_; (with_reducible refine (method_Op_shape.calls a0 t229 t230 t231 t232 t233 _ A2.out).mono ?_); rintro e w3 ⟨rfl, hb⟩; refine ⟨_, rfl, ?_⟩; have n0_ := Z0.mk (bsp bl_ hb); clear HB; have HB := n0_; clear n0_; (try clear hb); (try clear hb2); (try clear hk); (try clear hi)))
  go_ret
  exact ⟨er_, bl_⟩
def value_State_Find.l0 : Nat → ByteArray → List (S73) → Int → Int → Option (Int × Bool)
  | 0, _, _, _, _ => none
  | k + 1, x1, x9, x10, x11 => if x11 < x10 then (if 0 ≤ x11 then (if x11 < (x9.length : Int) then (if ((rd_T73 x9 x11).f0).toList = x1.toList then (some (x11, true)) else (value_State_Find.l0 k x1 x9 x10 (wrap64 (x11 + 1)))) else (none)) else (none)) else (some (0, false))
def value_State_Find.f (k : Nat) (a0_0 : Int) (a0_1 : Int) (l0_2 : List (S73)) (a1 : ByteArray) : Option (Int × Bool) := value_State_Find.l0 k a1 l0_2 (l0_2.length : Int) 0
set_option maxHeartbeats 8000000 in
set_option maxRecDepth 100000 in
theorem value_State_Find.calls (k : Nat) (a0_0 : Int) (a0_1 : Int) (A0_2 : Option Addr) (c0_2 : Nat) (l0_2 : List (S73)) (a1 : ByteArray) (r1 : Int) (r2 : Bool) (w : World) (hr0_2 : Kd.C k73 w A0_2 l0_2.length l0_2) (hc0_2 : l0_2.length ≤ c0_2) (h : value_State_Find.f k a0_0 a0_1 l0_2 a1 = some (r1, r2)) :
    Calls Tryz.prog 25 #[.agg #[.int .i64 a0_0, .int .i64 a0_1, .slice A0_2 l0_2.length c0_2], .string a1] w fun e w' => e = .returned (.tuple #[.int .i64 r1, .bool r2]) ∧ Below w.heap.size w w' := by
  have hu24 := Tryz.underlying24
  have hu73 := Tryz.underlying73
  have HR0_2 := Z0.mk hr0_2
  have HC0_2 := Z0.mk hc0_2
  clear hr0_2 hc0_2
  have HB := Z0.mk (Below.refl w.heap.size w)
  have H : (value_State_Find.l0 k a1 l0_2 (l0_2.length : Int) 0) = some (r1, r2) := h
  clear h
  have H' := Z0.mk H
  clear H
  go_enter Tryz.func25, Tryz.ntmps25
  go_wp2_with (first | ((with_reducible refine gds (N := 2) rfl ?_); refine bx_ (N := 2) (cs := #[.int .i64 a0_0, .int .i64 a0_1, .slice A0_2 l0_2.length c0_2]) (t := 24) ?_; intro gb234 hg w3 hbox hb; have n0_ := Z0.mk (bsp bl_ hb); have n1_ := Z0.mk (hbox); have n2_ := Z0.mk ((by rw [hg]; exact bsz bl_ : w.heap.size ≤ gb234)); have n3_ := Z0.mk ((by rw [hg]; exact bsz bl_ : w.heap.size ≤ gb234)); clear HB; have HB := n0_; have BK234 := n1_; have GW234 := n2_; have GE234 := n3_; clear n0_ n1_ n2_ n3_; clear hb hbox hg; have hcz4 := bc3 BK234.out))
  go_loopg [11] k (fun kq v11 w' => ∃ (x11_1 : Int), v11 = .int .i64 x11_1 ∧ Z0 (value_State_Find.l0 kq a1 l0_2 (l0_2.length : Int) x11_1 = some (r1, r2)) ∧ Z0 (kq ≤ k) ∧ Z0 (w'.heap[gb234]? = some (.cells #[.int .i64 a0_0, .int .i64 a0_1, (.slice A0_2 l0_2.length c0_2)] 24 (0, 0))) ∧ Z0 (Below w.heap.size w w'))
  case atStart => exact ⟨(0), eqv_, H', ⟨Nat.le_refl _⟩, ⟨bk_⟩, ⟨bl_⟩⟩
  clear H'
  try clear c2
  try clear p2
  try clear hcz4
  obtain ⟨x11_1, rfl, HA, HK1, BK234, HB⟩ := hrel
  cases gk with
  | zero => exact absurd HA.out (by simp [value_State_Find.l0])
  | succ k1 =>
    have H := HA.out
    clear HA
    simp only [value_State_Find.l0] at H
    by_cases c5 : x11_1 < (l0_2.length : Int)
    rotate_left
    · rw [if_neg c5] at H
      have c5b0 : decide (x11_1 < (l0_2.length : Int)) = false := decide_eq_false c5
      clear c5
      simp only [Option.some.injEq, Prod.mk.injEq] at H
      obtain ⟨rfl, rfl⟩ := H
      go_wp2
      go_ret2
      exact ⟨er_, bl_⟩
    rw [if_pos c5] at H
    have c5b0 : decide (x11_1 < (l0_2.length : Int)) = true := decide_eq_true c5
    clear c5
    by_cases c6 : 0 ≤ x11_1
    rotate_left
    · rw [if_neg c6] at H
      exact absurd H (by simp)
    rw [if_pos c6] at H
    have c6b0 : decide (0 ≤ x11_1) = true := decide_eq_true c6
    clear c6
    by_cases c7 : x11_1 < (l0_2.length : Int)
    rotate_left
    · rw [if_neg c7] at H
      exact absurd H (by simp)
    rw [if_pos c7] at H
    have c7b0 : decide (x11_1 < (l0_2.length : Int)) = true := decide_eq_true c7
    clear c7
    have HS8 := Z0.mk H
    clear H
    have p235 : 0 ≤ (x11_1 : Int) := of_decide_eq_true (by first | (with_reducible assumption) | assumption)
    have q235 : x11_1 < (l0_2.length : Int) := of_decide_eq_true (by first | (with_reducible assumption) | assumption)
    obtain ⟨ad235, e235, hx235_0, hx235_1⟩ := at_T73 HR0_2.out x11_1 p235 q235
    cases e235
    replace hx235_0 := (HB.out.cell (World.block_lt_of_cell? w _ hx235_0)).trans hx235_0
    replace hx235_1 := (HB.out.cell (World.block_lt_of_cell? w _ hx235_1)).trans hx235_1
    replace p235 := eq_true p235
    replace q235 := eq_true q235
    go_upto_if 19 with (first | ((with_reducible refine gds (N := 7) rfl ?_); refine bx_ (N := 7) (cs := #[.string (⟨#[]⟩ : ByteArray), .string (⟨#[]⟩ : ByteArray)]) (t := 73) ?_; intro gb236 hg w9 hbox hb; have n0_ := Z0.mk (kbl (g := gb234) bk_ hb); have n1_ := Z0.mk (bsp bl_ hb); have n2_ := Z0.mk (hbox); have n3_ := Z0.mk ((by rw [hg]; exact bsz bl_ : w.heap.size ≤ gb236)); have n4_ := Z0.mk ((by rw [hg]; exact bsz bl_ : w.heap.size ≤ gb236)); have n5_ := Z0.mk ((by rw [hg]; exact Nat.ne_of_lt (klt_ (g := gb234) bk_) : gb234 ≠ gb236)); have n6_ := Z0.mk ((by rw [hg]; exact Nat.ne_of_gt (klt_ (g := gb234) bk_) : gb236 ≠ gb234)); clear BK234; clear HB; have BK234 := n0_; have HB := n1_; have BK236 := n2_; have GW236 := n3_; have GE236 := n4_; have NB234_236 := n5_; have NB236_234 := n6_; clear n0_ n1_ n2_ n3_ n4_ n5_ n6_; clear hb hbox hg; have hnb10 := NB236_234.out; have hnc10 := NB234_236.out; have hcz11 := bc2 BK236.out))
    (try simp only [Act.put, List.setIfInBounds_toArray, List.set_cons_zero, List.set_cons_succ])
    have H := HS8.out
    clear HS8
    by_cases c12 : ((rd_T73 l0_2 x11_1).f0).toList = a1.toList
    · rw [if_pos c12] at H
      have c12b0 : (((rd_T73 l0_2 x11_1).f0).toList == a1.toList) = true := beq_iff_eq.mpr c12
      have c12b1 : (((rd_T73 l0_2 x11_1).f0).toList != a1.toList) = false := bne_eq_false_iff_eq.mpr c12
      clear c12
      (first | rw [c12b0] | (simp only [i64_w, i32_w]; rw [c12b0]) | skip)
      simp only [Option.some.injEq, Prod.mk.injEq] at H
      obtain ⟨rfl, rfl⟩ := H
      go_wp2
      go_ret2
      exact ⟨er_, bl_⟩
    rw [if_neg c12] at H
    have c12b0 : (((rd_T73 l0_2 x11_1).f0).toList == a1.toList) = false := beq_eq_false_iff_ne.mpr c12
    have c12b1 : (((rd_T73 l0_2 x11_1).f0).toList != a1.toList) = true := bne_iff_ne.mpr c12
    (first | rw [c12b0] | (simp only [i64_w, i32_w]; rw [c12b0]) | skip)
    have H' := Z0.mk H
    clear H
    go_wp2
    go_roundg k1
    case measure => have := HK1.out; omega
    case rel => exact ⟨(wrap64 (x11_1 + 1)), eqv_, H', ⟨by have := HK1.out; omega⟩, ⟨bk_⟩, ⟨bl_⟩⟩
def adt_yes.f  : Option (Int × ByteArray × Int) := some (1, (⟨#[]⟩ : ByteArray), 0)
set_option maxHeartbeats 8000000 in
set_option maxRecDepth 100000 in
theorem adt_yes.calls  (r1 : Int) (r2 : ByteArray) (r3 : Int) (w : World) (h : adt_yes.f  = some (r1, r2, r3)) :
    Calls Tryz.prog 26 #[] w fun e w' => e = .returned (.agg #[.int .i64 r1, .string r2, .int .i64 r3]) ∧ Below w.heap.size w w' := by
  have hu40 := Tryz.underlying40
  have HB := Z0.mk (Below.refl w.heap.size w)
  have H : (some (1, (⟨#[]⟩ : ByteArray), 0)) = some (r1, r2, r3) := h
  clear h
  simp only [Option.some.injEq, Prod.mk.injEq] at H
  obtain ⟨rfl, rfl, rfl⟩ := H
  go_enter Tryz.func26, Tryz.ntmps26
  go_wp2_with (first | ((with_reducible refine gds (N := 0) rfl ?_); refine bx_ (N := 0) (cs := #[.int .i64 0, .string (⟨#[]⟩ : ByteArray), .int .i64 0]) (t := 40) ?_; intro gb237 hg w1 hbox hb; have n0_ := Z0.mk (bsp bl_ hb); have n1_ := Z0.mk (hbox); have n2_ := Z0.mk ((by rw [hg]; exact bsz bl_ : w.heap.size ≤ gb237)); have n3_ := Z0.mk ((by rw [hg]; exact bsz bl_ : w.heap.size ≤ gb237)); clear HB; have HB := n0_; have BK237 := n1_; have GW237 := n2_; have GE237 := n3_; clear n0_ n1_ n2_ n3_; clear hb hbox hg; have hcz2 := bc3 BK237.out))
  refine bodyPost_ret (results_cell_row rfl _ _ gb237 40 #[.int .i64 1, .string (⟨#[]⟩ : ByteArray), .int .i64 0] (0, 0) _ rfl bk_ Tryz.underlying40 rfl (by kernel_rfl)) rfl ?_
  exact ⟨er_, bl_⟩
def adt_no.f  : Option (Int × ByteArray × Int) := some (2, (⟨#[]⟩ : ByteArray), 0)
set_option maxHeartbeats 8000000 in
set_option maxRecDepth 100000 in
theorem adt_no.calls  (r1 : Int) (r2 : ByteArray) (r3 : Int) (w : World) (h : adt_no.f  = some (r1, r2, r3)) :
    Calls Tryz.prog 52 #[] w fun e w' => e = .returned (.agg #[.int .i64 r1, .string r2, .int .i64 r3]) ∧ Below w.heap.size w w' := by
  have hu40 := Tryz.underlying40
  have HB := Z0.mk (Below.refl w.heap.size w)
  have H : (some (2, (⟨#[]⟩ : ByteArray), 0)) = some (r1, r2, r3) := h
  clear h
  simp only [Option.some.injEq, Prod.mk.injEq] at H
  obtain ⟨rfl, rfl, rfl⟩ := H
  go_enter Tryz.func52, Tryz.ntmps52
  go_wp2_with (first | ((with_reducible refine gds (N := 0) rfl ?_); refine bx_ (N := 0) (cs := #[.int .i64 0, .string (⟨#[]⟩ : ByteArray), .int .i64 0]) (t := 40) ?_; intro gb238 hg w1 hbox hb; have n0_ := Z0.mk (bsp bl_ hb); have n1_ := Z0.mk (hbox); have n2_ := Z0.mk ((by rw [hg]; exact bsz bl_ : w.heap.size ≤ gb238)); have n3_ := Z0.mk ((by rw [hg]; exact bsz bl_ : w.heap.size ≤ gb238)); clear HB; have HB := n0_; have BK238 := n1_; have GW238 := n2_; have GE238 := n3_; clear n0_ n1_ n2_ n3_; clear hb hbox hg; have hcz2 := bc3 BK238.out))
  refine bodyPost_ret (results_cell_row rfl _ _ gb238 40 #[.int .i64 2, .string (⟨#[]⟩ : ByteArray), .int .i64 0] (0, 0) _ rfl bk_ Tryz.underlying40 rfl (by kernel_rfl)) rfl ?_
  exact ⟨er_, bl_⟩
def adt_code.f (a0 : Bool) : Option (Int × ByteArray × Int) := if a0 = true then ((adt_yes.f).bind fun bt240 => (some (bt240.1, bt240.2.1, bt240.2.2))) else ((adt_no.f).bind fun bt243 => (some (bt243.1, bt243.2.1, bt243.2.2)))
set_option maxHeartbeats 8000000 in
set_option maxRecDepth 100000 in
theorem adt_code.calls (a0 : Bool) (r1 : Int) (r2 : ByteArray) (r3 : Int) (w : World) (h : adt_code.f a0 = some (r1, r2, r3)) :
    Calls Tryz.prog 27 #[.bool a0] w fun e w' => e = .returned (.agg #[.int .i64 r1, .string r2, .int .i64 r3]) ∧ Below w.heap.size w w' := by
  have hu40 := Tryz.underlying40
  have HB := Z0.mk (Below.refl w.heap.size w)
  have H : (if a0 = true then ((adt_yes.f).bind fun bt240 => (some (bt240.1, bt240.2.1, bt240.2.2))) else ((adt_no.f).bind fun bt243 => (some (bt243.1, bt243.2.1, bt243.2.2)))) = some (r1, r2, r3) := h
  clear h
  have HS2 := Z0.mk H
  clear H
  go_enter Tryz.func27, Tryz.ntmps27
  go_upto_if 3 with (first | ((with_reducible refine gds (N := 2) rfl ?_); refine bx_ (N := 2) (cs := #[.int .i64 0, .string (⟨#[]⟩ : ByteArray), .int .i64 0]) (t := 40) ?_; intro gb239 hg w3 hbox hb; have n0_ := Z0.mk (bsp bl_ hb); have n1_ := Z0.mk (hbox); have n2_ := Z0.mk ((by rw [hg]; exact bsz bl_ : w.heap.size ≤ gb239)); have n3_ := Z0.mk ((by rw [hg]; exact bsz bl_ : w.heap.size ≤ gb239)); clear HB; have HB := n0_; have BK239 := n1_; have GW239 := n2_; have GE239 := n3_; clear n0_ n1_ n2_ n3_; clear hb hbox hg))
  (try simp only [Act.put, List.setIfInBounds_toArray, List.set_cons_zero, List.set_cons_succ])
  have H := HS2.out
  clear HS2
  by_cases c4 : a0 = true
  · subst c4
    have H1 : ((adt_yes.f).bind fun bt240 => (some (bt240.1, bt240.2.1, bt240.2.2))) = some (r1, r2, r3) := by rw [if_pos rfl] at H; exact H
    clear H
    have H := H1
    clear H1
    replace H := Option.bind_eq_some_iff.mp H
    obtain ⟨⟨t240, t241, t242⟩, A50, H⟩ := H
    replace H : (some (t240, t241, t242)) = some (r1, r2, r3) := H
    have A5 := Z0.mk A50
    clear A50
    simp only [Option.some.injEq, Prod.mk.injEq] at H
    obtain ⟨rfl, rfl, rfl⟩ := H
    go_wp2_with (first | ((with_reducible refine gcl (f := 26) rfl ?_); refine gl_ (some 4) rfl rfl Tryz.func26 (by kernel_rfl) rfl #[] rfl ar_ ?_; (with_reducible refine (adt_yes.calls  t240 t241 t242 _ A5.out).mono ?_); rintro e w6 ⟨rfl, hb⟩; refine ⟨_, rfl, ?_⟩; have n0_ := Z0.mk (kbl (g := gb239) bk_ hb); have n1_ := Z0.mk (bsp bl_ hb); clear BK239; clear HB; have BK239 := n0_; have HB := n1_; clear n0_ n1_; (try clear hb); (try clear hb2); (try clear hk); (try clear hi); have hcz7 := bc3 BK239.out))
    refine bodyPost_ret (results_cell_row rfl _ _ gb239 40 #[.int .i64 t240, .string t241, .int .i64 t242] (0, 0) _ rfl bk_ Tryz.underlying40 rfl (by kernel_rfl)) rfl ?_
    exact ⟨er_, bl_⟩
  replace c4 := Bool.eq_false_iff.mpr c4
  subst c4
  have H1 : ((adt_no.f).bind fun bt243 => (some (bt243.1, bt243.2.1, bt243.2.2))) = some (r1, r2, r3) := by rw [if_neg (show ¬ (false = true) by decide)] at H; exact H
  clear H
  have H := H1
  clear H1
  replace H := Option.bind_eq_some_iff.mp H
  obtain ⟨⟨t243, t244, t245⟩, A80, H⟩ := H
  replace H : (some (t243, t244, t245)) = some (r1, r2, r3) := H
  have A8 := Z0.mk A80
  clear A80
  simp only [Option.some.injEq, Prod.mk.injEq] at H
  obtain ⟨rfl, rfl, rfl⟩ := H
  go_wp2_with (first | ((with_reducible refine gcl (f := 52) rfl ?_); refine gl_ (some 5) rfl rfl Tryz.func52 (by kernel_rfl) rfl #[] rfl ar_ ?_; (with_reducible refine (adt_no.calls  t243 t244 t245 _ A8.out).mono ?_); rintro e w9 ⟨rfl, hb⟩; refine ⟨_, rfl, ?_⟩; have n0_ := Z0.mk (kbl (g := gb239) bk_ hb); have n1_ := Z0.mk (bsp bl_ hb); clear BK239; clear HB; have BK239 := n0_; have HB := n1_; clear n0_ n1_; (try clear hb); (try clear hb2); (try clear hk); (try clear hi); have hcz10 := bc3 BK239.out))
  refine bodyPost_ret (results_cell_row rfl _ _ gb239 40 #[.int .i64 t243, .string t244, .int .i64 t245] (0, 0) _ rfl bk_ Tryz.underlying40 rfl (by kernel_rfl)) rfl ?_
  exact ⟨er_, bl_⟩
def adt_out.l0 : Nat → List (S40) → List (S73) → Int → Int → Int → Int → List (S73) → Int → ByteArray → ByteArray → Int → Option ((List (S40)))
  | 0, _, _, _, _, _, _, _, _, _, _, _ => none
  | k + 1, x5, x15, x16, x17, x247000, x247001, x247002, x248000, x248001, x248002, x248003 => if x17 < x16 then (if 0 ≤ x17 then (if x17 < (x15.length : Int) then (if x17 = 0 then (if x5.length < 4398046511104 then (adt_out.l0 k (x5 ++ [(⟨1, (rd_T73 x15 x17).f0, 0⟩ : S40)]) x15 x16 (wrap64 (x17 + 1)) x247000 x247001 x247002 x248000 x248001 x248002 x248003) else (none)) else (if x248000 = 17 then (if 0 ≤ (wrap64 (x17 - 1)) then (if (wrap64 (x17 - 1)) < (x247002.length : Int) then (if ((rd_T73 x15 x17).f0).toList = ((rd_T73 x247002 (wrap64 (x17 - 1))).f0).toList then (adt_out.l0 k x5 x15 x16 (wrap64 (x17 + 1)) x247000 x247001 x247002 x248000 x248001 x248002 x248003) else (if x5.length < 4398046511104 then (adt_out.l0 k (x5 ++ [(⟨1, (rd_T73 x15 x17).f0, 0⟩ : S40)]) x15 x16 (wrap64 (x17 + 1)) x247000 x247001 x247002 x248000 x248001 x248002 x248003) else (none))) else (none)) else (none)) else (adt_out.l0 k x5 x15 x16 (wrap64 (x17 + 1)) x247000 x247001 x247002 x248000 x248001 x248002 x248003))) else (none)) else (none)) else (some x5)
def adt_out.f (k : Nat) (a0_0 : Int) (a0_1 : Int) (l0_2 : List (S73)) (a1_0 : Int) (a1_1 : ByteArray) (a1_2 : ByteArray) (a1_3 : Int) : Option ((List (S40))) := if (l0_2.length : Int) = 0 then ((adt_no.f).bind fun bt248 => (some (([(⟨bt248.1, bt248.2.1, bt248.2.2⟩ : S40)] : List (S40))))) else (adt_out.l0 k ([] : List (S40)) l0_2 (l0_2.length : Int) 0 a0_0 a0_1 l0_2 a1_0 a1_1 a1_2 a1_3)
set_option maxHeartbeats 8000000 in
set_option maxRecDepth 100000 in
theorem adt_out.calls (k : Nat) (a0_0 : Int) (a0_1 : Int) (A0_2 : Option Addr) (c0_2 : Nat) (l0_2 : List (S73)) (a1_0 : Int) (a1_1 : ByteArray) (a1_2 : ByteArray) (a1_3 : Int) (r : List (S40)) (w : World) (hr0_2 : Kd.C k73 w A0_2 l0_2.length l0_2) (hc0_2 : l0_2.length ≤ c0_2) (h : adt_out.f k a0_0 a0_1 l0_2 a1_0 a1_1 a1_2 a1_3 = some r) :
    Calls Tryz.prog 28 #[.agg #[.int .i64 a0_0, .int .i64 a0_1, .slice A0_2 l0_2.length c0_2], .agg #[.int .i64 a1_0, .string a1_1, .string a1_2, .int .i64 a1_3]] w fun e w' => ∃ v0_ : Value, e = .returned (v0_) ∧ Kd.R k40 40 w' w.heap.size (fun _ => True) v0_ r ∧ Below w.heap.size w w' := by
  have hu24 := Tryz.underlying24
  have hu38 := Tryz.underlying38
  have hu73 := Tryz.underlying73
  have hu40 := Tryz.underlying40
  have HR0_2 := Z0.mk hr0_2
  have HC0_2 := Z0.mk hc0_2
  clear hr0_2 hc0_2
  have HB := Z0.mk (Below.refl w.heap.size w)
  have H : (if (l0_2.length : Int) = 0 then ((adt_no.f).bind fun bt248 => (some (([(⟨bt248.1, bt248.2.1, bt248.2.2⟩ : S40)] : List (S40))))) else (adt_out.l0 k ([] : List (S40)) l0_2 (l0_2.length : Int) 0 a0_0 a0_1 l0_2 a1_0 a1_1 a1_2 a1_3)) = some r := h
  clear h
  have HS3 := Z0.mk H
  clear H
  go_enter Tryz.func28, Tryz.ntmps28
  go_upto_if 11 with (first | ((with_reducible refine gds (N := 2) rfl ?_); refine bx_ (N := 2) (cs := #[.int .i64 a0_0, .int .i64 a0_1, .slice A0_2 l0_2.length c0_2]) (t := 24) ?_; intro gb246 hg w4 hbox hb; have n0_ := Z0.mk (bsp bl_ hb); have n1_ := Z0.mk (hbox); have n2_ := Z0.mk ((by rw [hg]; exact bsz bl_ : w.heap.size ≤ gb246)); have n3_ := Z0.mk ((by rw [hg]; exact bsz bl_ : w.heap.size ≤ gb246)); clear HB; have HB := n0_; have BK246 := n1_; have GW246 := n2_; have GE246 := n3_; clear n0_ n1_ n2_ n3_; clear hb hbox hg) | ((with_reducible refine gds (N := 3) rfl ?_); refine bx_ (N := 3) (cs := #[.int .i64 a1_0, .string a1_1, .string a1_2, .int .i64 a1_3]) (t := 38) ?_; intro gb247 hg w5 hbox hb; have n0_ := Z0.mk (kbl (g := gb246) bk_ hb); have n1_ := Z0.mk (bsp bl_ hb); have n2_ := Z0.mk (hbox); have n3_ := Z0.mk ((by rw [hg]; exact bsz bl_ : w.heap.size ≤ gb247)); have n4_ := Z0.mk ((by rw [hg]; exact bsz bl_ : w.heap.size ≤ gb247)); have n5_ := Z0.mk ((by rw [hg]; exact Nat.ne_of_lt (klt_ (g := gb246) bk_) : gb246 ≠ gb247)); have n6_ := Z0.mk ((by rw [hg]; exact Nat.ne_of_gt (klt_ (g := gb246) bk_) : gb247 ≠ gb246)); clear BK246; clear HB; have BK246 := n0_; have HB := n1_; have BK247 := n2_; have GW247 := n3_; have GE247 := n4_; have NB246_247 := n5_; have NB247_246 := n6_; clear n0_ n1_ n2_ n3_ n4_ n5_ n6_; clear hb hbox hg; have hnb6 := NB246_247.out; have hnc6 := NB247_246.out; have hcz7 := bc3 BK246.out))
  repeat (go_quiet (first | ((with_reducible refine gds (N := 2) rfl ?_); refine bx_ (N := 2) (cs := #[.int .i64 a0_0, .int .i64 a0_1, .slice A0_2 l0_2.length c0_2]) (t := 24) ?_; intro gb246 hg w4 hbox hb; have n0_ := Z0.mk (bsp bl_ hb); have n1_ := Z0.mk (hbox); have n2_ := Z0.mk ((by rw [hg]; exact bsz bl_ : w.heap.size ≤ gb246)); have n3_ := Z0.mk ((by rw [hg]; exact bsz bl_ : w.heap.size ≤ gb246)); clear HB; have HB := n0_; have BK246 := n1_; have GW246 := n2_; have GE246 := n3_; clear n0_ n1_ n2_ n3_; clear hb hbox hg) | ((with_reducible refine gds (N := 3) rfl ?_); refine bx_ (N := 3) (cs := #[.int .i64 a1_0, .string a1_1, .string a1_2, .int .i64 a1_3]) (t := 38) ?_; intro gb247 hg w5 hbox hb; have n0_ := Z0.mk (kbl (g := gb246) bk_ hb); have n1_ := Z0.mk (bsp bl_ hb); have n2_ := Z0.mk (hbox); have n3_ := Z0.mk ((by rw [hg]; exact bsz bl_ : w.heap.size ≤ gb247)); have n4_ := Z0.mk ((by rw [hg]; exact bsz bl_ : w.heap.size ≤ gb247)); have n5_ := Z0.mk ((by rw [hg]; exact Nat.ne_of_lt (klt_ (g := gb246) bk_) : gb246 ≠ gb247)); have n6_ := Z0.mk ((by rw [hg]; exact Nat.ne_of_gt (klt_ (g := gb246) bk_) : gb247 ≠ gb246)); clear BK246; clear HB; have BK246 := n0_; have HB := n1_; have BK247 := n2_; have GW247 := n3_; have GE247 := n4_; have NB246_247 := n5_; have NB247_246 := n6_; clear n0_ n1_ n2_ n3_ n4_ n5_ n6_; clear hb hbox hg; have hnb6 := NB246_247.out; have hnc6 := NB247_246.out; have hcz7_0 : w5.cell? ⟨gb246, 0, none⟩ = some (.int .i64 a0_0) := (kcl BK246.out 0).trans rfl; have hcz7_1 : w5.cell? ⟨gb246, 1, none⟩ = some (.int .i64 a0_1) := (kcl BK246.out 1).trans rfl; have hcz7_2 : w5.cell? ⟨gb246, 2, none⟩ = some (.slice A0_2 l0_2.length c0_2) := (kcl BK246.out 2).trans rfl; have hfz7_0 := kfr BK246.out 0; have hfz7_1 := kfr BK246.out 1; have hfz7_2 := kfr BK246.out 2)); go_upto_if 11 with (first | ((with_reducible refine gds (N := 2) rfl ?_); refine bx_ (N := 2) (cs := #[.int .i64 a0_0, .int .i64 a0_1, .slice A0_2 l0_2.length c0_2]) (t := 24) ?_; intro gb246 hg w4 hbox hb; have n0_ := Z0.mk (bsp bl_ hb); have n1_ := Z0.mk (hbox); have n2_ := Z0.mk ((by rw [hg]; exact bsz bl_ : w.heap.size ≤ gb246)); have n3_ := Z0.mk ((by rw [hg]; exact bsz bl_ : w.heap.size ≤ gb246)); clear HB; have HB := n0_; have BK246 := n1_; have GW246 := n2_; have GE246 := n3_; clear n0_ n1_ n2_ n3_; clear hb hbox hg) | ((with_reducible refine gds (N := 3) rfl ?_); refine bx_ (N := 3) (cs := #[.int .i64 a1_0, .string a1_1, .string a1_2, .int .i64 a1_3]) (t := 38) ?_; intro gb247 hg w5 hbox hb; have n0_ := Z0.mk (kbl (g := gb246) bk_ hb); have n1_ := Z0.mk (bsp bl_ hb); have n2_ := Z0.mk (hbox); have n3_ := Z0.mk ((by rw [hg]; exact bsz bl_ : w.heap.size ≤ gb247)); have n4_ := Z0.mk ((by rw [hg]; exact bsz bl_ : w.heap.size ≤ gb247)); have n5_ := Z0.mk ((by rw [hg]; exact Nat.ne_of_lt (klt_ (g := gb246) bk_) : gb246 ≠ gb247)); have n6_ := Z0.mk ((by rw [hg]; exact Nat.ne_of_gt (klt_ (g := gb246) bk_) : gb247 ≠ gb246)); clear BK246; clear HB; have BK246 := n0_; have HB := n1_; have BK247 := n2_; have GW247 := n3_; have GE247 := n4_; have NB246_247 := n5_; have NB247_246 := n6_; clear n0_ n1_ n2_ n3_ n4_ n5_ n6_; clear hb hbox hg; have hnb6 := NB246_247.out; have hnc6 := NB247_246.out; have hcz7 := bc3 BK246.out)))
  (try simp only [Act.put, List.setIfInBounds_toArray, List.set_cons_zero, List.set_cons_succ])
  have H := HS3.out
  clear HS3
  by_cases c8 : (l0_2.length : Int) = 0
  · rw [if_pos c8] at H
    have c8b0 : ((l0_2.length : Int) == 0) = true := beq_iff_eq.mpr c8
    have c8b1 : ((l0_2.length : Int) != 0) = false := bne_eq_false_iff_eq.mpr c8
    clear c8
    (first | rw [c8b0] | (simp only [i64_w, i32_w]; rw [c8b0]) | skip)
    replace H := Option.bind_eq_some_iff.mp H
    obtain ⟨⟨t248, t249, t250⟩, A90, H⟩ := H
    replace H : (some (([(⟨t248, t249, t250⟩ : S40)] : List (S40)))) = some r := H
    have A9 := Z0.mk A90
    clear A90
    obtain ⟨y251, hy251⟩ : ∃ y_ : List (S40), y_ = (([(⟨t248, t249, t250⟩ : S40)] : List (S40))) := ⟨_, rfl⟩
    replace H : (some y251) = some r := by first | (rw [hy251]; with_reducible exact H) | (have H2_ := (Option.bind_some _ _).symm.trans H; rw [hy251]; with_reducible exact H2_) | (have H2_ := (Option.bind_some _ _).symm.trans H; with_reducible exact H2_) | with_reducible exact H | (rw [hy251]; exact H) | exact H
    have Ny251 := Z0.mk hy251
    clear hy251
    obtain rfl := Option.some.inj H
    go_wp2_with (first | (go_at_call 52; (with_reducible refine (adt_no.calls  t248 t249 t250 _ A9.out).mono ?_); rintro e w10 ⟨rfl, hb⟩; have n0_ := Z0.mk (kbl (g := gb246) bk_ hb); have n1_ := Z0.mk (kbl (g := gb247) bk_ hb); have n2_ := Z0.mk (bsp bl_ hb); clear BK246; clear BK247; clear HB; have BK246 := n0_; have BK247 := n1_; have HB := n2_; clear n0_ n1_ n2_; (try clear hb); (try clear hb2); (try clear hk); (try clear hi)) | ((with_reducible refine gds (N := 13) rfl ?_); refine Kd.R_lit k40 _ 40 ?hg (N := 13) ?hd (xs := ([(⟨t248, t249, t250⟩ : S40)] : List (S40))) (inner := [.int .i64 t248, .string t249, .int .i64 t250]) (ok := fun _ => True) (okp := fun _ => True) ?hr ?hp (fun _ hk => hk) trivial (Below.refl _ _) (Nat.le_refl _) (by simp) ?_; (case hd => rfl); (case hg => rfl); (case hr => first | (go_simp; done) | (go_simp; rfl)); (case hp => exact (Reps.c3 (show Kd.M k40 _ _ _ (⟨t248, t249, t250⟩ : S40) [.int .i64 t248, .string t249, .int .i64 t250] from (k40_mkM _ _ _ (⟨t248, t249, t250⟩ : S40) )) (Reps.none _ _))); intro v252 w11 ho12 hb hg_ hnew_; clear hg_ hnew_; (first | rw [← Ny251.out] at ho12 | (simp only [Int.reduceToNat] at ho12; rw [← Ny251.out] at ho12)); have n0_ := Z0.mk (Kd.R_lower ho12 (bsz bl_)); have n1_ := Z0.mk (kbl (g := gb246) bk_ hb); have n2_ := Z0.mk (kbl (g := gb247) bk_ hb); have n3_ := Z0.mk (bsp bl_ hb); clear BK246; clear BK247; clear HB; have HO253 := n0_; have BK246 := n1_; have BK247 := n2_; have HB := n3_; clear n0_ n1_ n2_ n3_; clear hb ho12))
    repeat (go_quiet (first | (go_at_call 52; (with_reducible refine (adt_no.calls  t248 t249 t250 _ A9.out).mono ?_); rintro e w10 ⟨rfl, hb⟩; have n0_ := Z0.mk (kbl (g := gb246) bk_ hb); have n1_ := Z0.mk (kbl (g := gb247) bk_ hb); have n2_ := Z0.mk (bsp bl_ hb); clear BK246; clear BK247; clear HB; have BK246 := n0_; have BK247 := n1_; have HB := n2_; clear n0_ n1_ n2_; (try clear hb); (try clear hb2); (try clear hk); (try clear hi)) | ((with_reducible refine gds (N := 13) rfl ?_); refine Kd.R_lit k40 _ 40 ?hg (N := 13) ?hd (xs := ([(⟨t248, t249, t250⟩ : S40)] : List (S40))) (inner := [.int .i64 t248, .string t249, .int .i64 t250]) (ok := fun _ => True) (okp := fun _ => True) ?hr ?hp (fun _ hk => hk) trivial (Below.refl _ _) (Nat.le_refl _) (by simp) ?_; (case hd => rfl); (case hg => rfl); (case hr => first | (go_simp; done) | (go_simp; rfl)); (case hp => exact (Reps.c3 (show Kd.M k40 _ _ _ (⟨t248, t249, t250⟩ : S40) [.int .i64 t248, .string t249, .int .i64 t250] from (k40_mkM _ _ _ (⟨t248, t249, t250⟩ : S40) )) (Reps.none _ _))); intro v252 w11 ho12 hb hg_ hnew_; clear hg_ hnew_; (first | rw [← Ny251.out] at ho12 | (simp only [Int.reduceToNat] at ho12; rw [← Ny251.out] at ho12)); have n0_ := Z0.mk (Kd.R_lower ho12 (bsz bl_)); have n1_ := Z0.mk (kbl (g := gb246) bk_ hb); have n2_ := Z0.mk (kbl (g := gb247) bk_ hb); have n3_ := Z0.mk (bsp bl_ hb); clear BK246; clear BK247; clear HB; have HO253 := n0_; have BK246 := n1_; have BK247 := n2_; have HB := n3_; clear n0_ n1_ n2_ n3_; clear hb ho12)); try go_wp2_with (first | (go_at_call 52; (with_reducible refine (adt_no.calls  t248 t249 t250 _ A9.out).mono ?_); rintro e w10 ⟨rfl, hb⟩; have n0_ := Z0.mk (kbl (g := gb246) bk_ hb); have n1_ := Z0.mk (kbl (g := gb247) bk_ hb); have n2_ := Z0.mk (bsp bl_ hb); clear BK246; clear BK247; clear HB; have BK246 := n0_; have BK247 := n1_; have HB := n2_; clear n0_ n1_ n2_; (try clear hb); (try clear hb2); (try clear hk); (try clear hi)) | ((with_reducible refine gds (N := 13) rfl ?_); refine Kd.R_lit k40 _ 40 ?hg (N := 13) ?hd (xs := ([(⟨t248, t249, t250⟩ : S40)] : List (S40))) (inner := [.int .i64 t248, .string t249, .int .i64 t250]) (ok := fun _ => True) (okp := fun _ => True) ?hr ?hp (fun _ hk => hk) trivial (Below.refl _ _) (Nat.le_refl _) (by simp) ?_; (case hd => rfl); (case hg => rfl); (case hr => first | (go_simp; done) | (go_simp; rfl)); (case hp => exact (Reps.c3 (show Kd.M k40 _ _ _ (⟨t248, t249, t250⟩ : S40) [.int .i64 t248, .string t249, .int .i64 t250] from (k40_mkM _ _ _ (⟨t248, t249, t250⟩ : S40) )) (Reps.none _ _))); intro v252 w11 ho12 hb hg_ hnew_; clear hg_ hnew_; (first | rw [← Ny251.out] at ho12 | (simp only [Int.reduceToNat] at ho12; rw [← Ny251.out] at ho12)); have n0_ := Z0.mk (Kd.R_lower ho12 (bsz bl_)); have n1_ := Z0.mk (kbl (g := gb246) bk_ hb); have n2_ := Z0.mk (kbl (g := gb247) bk_ hb); have n3_ := Z0.mk (bsp bl_ hb); clear BK246; clear BK247; clear HB; have HO253 := n0_; have BK246 := n1_; have BK247 := n2_; have HB := n3_; clear n0_ n1_ n2_ n3_; clear hb ho12)))
    go_ret
    exact ⟨_, er_, by (with_reducible repeat (first | apply Kd.R_alloc | apply Kd.R_drewN | apply Kd.R_drew)); exact HO253.out, bl_⟩
  rw [if_neg c8] at H
  have c8b0 : ((l0_2.length : Int) == 0) = false := beq_eq_false_iff_ne.mpr c8
  have c8b1 : ((l0_2.length : Int) != 0) = true := bne_iff_ne.mpr c8
  have c8b2 : ¬ (l0_2 = []) := fun h_ => c8 (by rw [h_]; rfl)
  (first | rw [c8b0] | (simp only [i64_w, i32_w]; rw [c8b0]) | skip)
  have H' := Z0.mk H
  clear H
  have hnb13 := NB246_247.out
  have hnc13 := NB247_246.out
  have hcz14 := bc3 BK246.out
  go_wp2
  repeat (go_quiet (fail); try go_wp2)
  go_loopg [5, 17] k (fun kq v5 v17 w' => ∃ (x5_1 : List (S40)) (x17_1 : Int), v17 = .int .i64 x17_1 ∧ Z0 (adt_out.l0 kq x5_1 l0_2 (l0_2.length : Int) x17_1 a0_0 a0_1 l0_2 a1_0 a1_1 a1_2 a1_3 = some r) ∧ Z0 (kq ≤ k) ∧ Z0 (Kd.R k40 40 w' w.heap.size (fun _ => True) v5 x5_1) ∧ Z0 (w'.heap[gb246]? = some (.cells #[.int .i64 a0_0, .int .i64 a0_1, (.slice A0_2 l0_2.length c0_2)] 24 (0, 0))) ∧ Z0 (w'.heap[gb247]? = some (.cells #[.int .i64 a1_0, .string a1_1, .string a1_2, .int .i64 a1_3] 38 (0, 0))) ∧ Z0 (Below w.heap.size w w'))
  case atStart => exact ⟨(([] : List (S40))), (0), eqv_, H', ⟨Nat.le_refl _⟩, ⟨by first | exact Kd.R_nil _ _ _ _ _ | exact Kd.N_nil _ _ _ _ _ | exact Kd.V_nil _ _ _ _ _ | exact Kd.Q_nil _ _ _ _ _ | exact Kd.S_nil _ _ _ _ _⟩, ⟨bk_⟩, ⟨bk_⟩, ⟨bl_⟩⟩
  clear H'
  try clear c1
  try clear c2
  try clear p2
  try clear c3
  try clear c6
  try clear c8
  try clear c8b0
  try clear c8b1
  try clear c8b2
  try clear c13
  try clear hcz14
  try clear hcz7
  try clear hcz14
  try clear hcz7
  obtain ⟨x5_1, x17_1, rfl, HA, HK1, HO_5, BK246, BK247, HB⟩ := hrel
  cases gk with
  | zero => exact absurd HA.out (by simp [adt_out.l0])
  | succ k1 =>
    have H := HA.out
    clear HA
    simp only [adt_out.l0] at H
    by_cases c15 : x17_1 < (l0_2.length : Int)
    rotate_left
    · rw [if_neg c15] at H
      have c15b0 : decide (x17_1 < (l0_2.length : Int)) = false := decide_eq_false c15
      clear c15
      obtain rfl := Option.some.inj H
      go_wp2
      repeat (go_quiet (fail); try go_wp2)
      go_ret
      exact ⟨_, er_, by (with_reducible repeat (first | apply Kd.R_alloc | apply Kd.R_drewN | apply Kd.R_drew)); exact HO_5.out, bl_⟩
    rw [if_pos c15] at H
    have c15b0 : decide (x17_1 < (l0_2.length : Int)) = true := decide_eq_true c15
    clear c15
    by_cases c16 : 0 ≤ x17_1
    rotate_left
    · rw [if_neg c16] at H
      exact absurd H (by simp)
    rw [if_pos c16] at H
    have c16b0 : decide (0 ≤ x17_1) = true := decide_eq_true c16
    clear c16
    by_cases c17 : x17_1 < (l0_2.length : Int)
    rotate_left
    · rw [if_neg c17] at H
      exact absurd H (by simp)
    rw [if_pos c17] at H
    have c17b0 : decide (x17_1 < (l0_2.length : Int)) = true := decide_eq_true c17
    clear c17
    by_cases c18 : x17_1 = 0
    · rw [if_pos c18] at H
      have c18b0 : (x17_1 == 0) = true := beq_iff_eq.mpr c18
      have c18b1 : (x17_1 != 0) = false := bne_eq_false_iff_eq.mpr c18
      clear c18
      by_cases c19 : x5_1.length < 4398046511104
      rotate_left
      · rw [if_neg c19] at H
        exact absurd H (by simp)
      rw [if_pos c19] at H
      have LMc19 := Z0.mk c19
      clear c19
      obtain ⟨y256, hy256⟩ : ∃ y_ : List (S40), y_ = (x5_1 ++ [(⟨1, (rd_T73 l0_2 x17_1).f0, 0⟩ : S40)]) := ⟨_, rfl⟩
      replace H : (adt_out.l0 k1 y256 l0_2 (l0_2.length : Int) (wrap64 (x17_1 + 1)) a0_0 a0_1 l0_2 a1_0 a1_1 a1_2 a1_3) = some r := by first | (rw [hy256]; with_reducible exact H) | (have H2_ := (Option.bind_some _ _).symm.trans H; rw [hy256]; with_reducible exact H2_) | (have H2_ := (Option.bind_some _ _).symm.trans H; with_reducible exact H2_) | with_reducible exact H | (rw [hy256]; exact H) | exact H
      have Ny256 := Z0.mk hy256
      clear hy256
      have H' := Z0.mk H
      clear H
      have p254 : 0 ≤ (x17_1 : Int) := of_decide_eq_true (by first | (with_reducible assumption) | assumption)
      have q254 : x17_1 < (l0_2.length : Int) := of_decide_eq_true (by first | (with_reducible assumption) | assumption)
      obtain ⟨ad254, e254, hx254_0, hx254_1⟩ := at_T73 HR0_2.out x17_1 p254 q254
      cases e254
      replace hx254_0 := (HB.out.cell (World.block_lt_of_cell? w _ hx254_0)).trans hx254_0
      replace hx254_1 := (HB.out.cell (World.block_lt_of_cell? w _ hx254_1)).trans hx254_1
      replace p254 := eq_true p254
      replace q254 := eq_true q254
      go_wp2_with (first | ((with_reducible refine gds (N := 7) rfl ?_); refine bx_ (N := 7) (cs := #[.string (⟨#[]⟩ : ByteArray), .string (⟨#[]⟩ : ByteArray)]) (t := 73) ?_; intro gb255 hg w20 hbox hb; have n0_ := Z0.mk (Kd.R_below (by (with_reducible repeat (first | apply Kd.R_alloc | apply Kd.R_drewN | apply Kd.R_drew)); exact HO_5.out) hb); have n1_ := Z0.mk (kbl (g := gb246) bk_ hb); have n2_ := Z0.mk (kbl (g := gb247) bk_ hb); have n3_ := Z0.mk (bsp bl_ hb); have n4_ := Z0.mk (hbox); have n5_ := Z0.mk ((by rw [hg]; exact bsz bl_ : w.heap.size ≤ gb255)); have n6_ := Z0.mk ((by rw [hg]; exact bsz bl_ : w.heap.size ≤ gb255)); have n7_ := Z0.mk ((by rw [hg]; exact Nat.ne_of_lt (klt_ (g := gb246) bk_) : gb246 ≠ gb255)); have n8_ := Z0.mk ((by rw [hg]; exact Nat.ne_of_gt (klt_ (g := gb246) bk_) : gb255 ≠ gb246)); have n9_ := Z0.mk ((by rw [hg]; exact Nat.ne_of_lt (klt_ (g := gb247) bk_) : gb247 ≠ gb255)); have n10_ := Z0.mk ((by rw [hg]; exact Nat.ne_of_gt (klt_ (g := gb247) bk_) : gb255 ≠ gb247)); clear HO_5; clear BK246; clear BK247; clear HB; have HO_5 := n0_; have BK246 := n1_; have BK247 := n2_; have HB := n3_; have BK255 := n4_; have GW255 := n5_; have GE255 := n6_; have NB246_255 := n7_; have NB255_246 := n8_; have NB247_255 := n9_; have NB255_247 := n10_; clear n0_ n1_ n2_ n3_ n4_ n5_ n6_ n7_ n8_ n9_ n10_; clear hb hbox hg; have hnb21 := NB255_246.out; have hnc21 := NB246_255.out; have hnb22 := NB255_247.out; have hnc22 := NB247_255.out; have hcz23 := bc2 BK255.out) | ((with_reducible refine gate_builtin (b := .append) (xs := #[.tmp 41, .tmp 45]) rfl ?_); at_builtin; refine Kd.R_append k40 (w0 := w) w.heap.size rfl (.tmp 41) (.tmp 45) 46 40 (.agg #[(.int .i64 0), (.string ⟨#[]⟩), (.int .i64 0)]) 32 rfl Tryz.underlying46 info40 rfl (by decide) (by omega) u5 x5_1 (⟨1, (rd_T73 l0_2 x17_1).f0, 0⟩ : S40) [.int .i64 1, .string ((rd_T73 l0_2 x17_1).f0), .int .i64 0] (fun _ => True) (fun _ => False) rfl (by first | (go_simp; done) | (go_simp; rfl)) ?aP (fun _ hk => hk.elim) ?aF ?aO ?aB ?aS ?aL ?_; (case aP => exact k40_mkM _ _ _ (⟨1, (rd_T73 l0_2 x17_1).f0, 0⟩ : S40)); (case aB => exact bl_); (case aF => exact (fun _ _ => trivial)); (case aO => exact (by (with_reducible repeat (first | apply Kd.R_alloc | apply Kd.R_drewN | apply Kd.R_drew)); exact Kd.R_mono (Kd.R_far (p := ⟨gb255, 1, none⟩) (Kd.R_far (p := ⟨gb255, 0, none⟩) (Kd.R_types HO_5.out BK255.out (by decide)) (fun _ hk => hk.2) (.string ((rd_T73 l0_2 x17_1).f0))) (fun _ hk => hk.2) (.string ((rd_T73 l0_2 x17_1).f1))) (fun _ hk => trivial))); (case aS => exact bsz bl_); (case aL => have := LMc19.out; omega); intro v257 w24 ho hb hg hat; rw [← Ny256.out] at ho; have n0_ := Z0.mk (kgr_ (g := gb246) bk_ hg (Kd.R_ne HO_5.out BK246.out (by decide))); have n1_ := Z0.mk (kgr_ (g := gb247) bk_ hg (Kd.R_ne HO_5.out BK247.out (by decide))); have n2_ := Z0.mk (kgr_ (g := gb255) bk_ hg (Kd.R_ne HO_5.out BK255.out (by decide))); have n3_ := Z0.mk (hb); have n4_ := Z0.mk (ho); clear BK246; clear BK247; clear BK255; clear HB; clear HO_5; have BK246 := n0_; have BK247 := n1_; have BK255 := n2_; have HB := n3_; have HO258 := n4_; clear n0_ n1_ n2_ n3_ n4_; clear ho hb hg hat))
      repeat (go_quiet (first | ((with_reducible refine gds (N := 7) rfl ?_); refine bx_ (N := 7) (cs := #[.string (⟨#[]⟩ : ByteArray), .string (⟨#[]⟩ : ByteArray)]) (t := 73) ?_; intro gb255 hg w20 hbox hb; have n0_ := Z0.mk (Kd.R_below (by (with_reducible repeat (first | apply Kd.R_alloc | apply Kd.R_drewN | apply Kd.R_drew)); exact HO_5.out) hb); have n1_ := Z0.mk (kbl (g := gb246) bk_ hb); have n2_ := Z0.mk (kbl (g := gb247) bk_ hb); have n3_ := Z0.mk (bsp bl_ hb); have n4_ := Z0.mk (hbox); have n5_ := Z0.mk ((by rw [hg]; exact bsz bl_ : w.heap.size ≤ gb255)); have n6_ := Z0.mk ((by rw [hg]; exact bsz bl_ : w.heap.size ≤ gb255)); have n7_ := Z0.mk ((by rw [hg]; exact Nat.ne_of_lt (klt_ (g := gb246) bk_) : gb246 ≠ gb255)); have n8_ := Z0.mk ((by rw [hg]; exact Nat.ne_of_gt (klt_ (g := gb246) bk_) : gb255 ≠ gb246)); have n9_ := Z0.mk ((by rw [hg]; exact Nat.ne_of_lt (klt_ (g := gb247) bk_) : gb247 ≠ gb255)); have n10_ := Z0.mk ((by rw [hg]; exact Nat.ne_of_gt (klt_ (g := gb247) bk_) : gb255 ≠ gb247)); clear HO_5; clear BK246; clear BK247; clear HB; have HO_5 := n0_; have BK246 := n1_; have BK247 := n2_; have HB := n3_; have BK255 := n4_; have GW255 := n5_; have GE255 := n6_; have NB246_255 := n7_; have NB255_246 := n8_; have NB247_255 := n9_; have NB255_247 := n10_; clear n0_ n1_ n2_ n3_ n4_ n5_ n6_ n7_ n8_ n9_ n10_; clear hb hbox hg; have hnb21 := NB255_246.out; have hnc21 := NB246_255.out; have hnb22 := NB255_247.out; have hnc22 := NB247_255.out; have hcz23 := bc2 BK255.out) | ((with_reducible refine gate_builtin (b := .append) (xs := #[.tmp 41, .tmp 45]) rfl ?_); at_builtin; refine Kd.R_append k40 (w0 := w) w.heap.size rfl (.tmp 41) (.tmp 45) 46 40 (.agg #[(.int .i64 0), (.string ⟨#[]⟩), (.int .i64 0)]) 32 rfl Tryz.underlying46 info40 rfl (by decide) (by omega) u5 x5_1 (⟨1, (rd_T73 l0_2 x17_1).f0, 0⟩ : S40) [.int .i64 1, .string ((rd_T73 l0_2 x17_1).f0), .int .i64 0] (fun _ => True) (fun _ => False) rfl (by first | (go_simp; done) | (go_simp; rfl)) ?aP (fun _ hk => hk.elim) ?aF ?aO ?aB ?aS ?aL ?_; (case aP => exact k40_mkM _ _ _ (⟨1, (rd_T73 l0_2 x17_1).f0, 0⟩ : S40)); (case aB => exact bl_); (case aF => exact (fun _ _ => trivial)); (case aO => exact (by (with_reducible repeat (first | apply Kd.R_alloc | apply Kd.R_drewN | apply Kd.R_drew)); exact Kd.R_mono (Kd.R_far (p := ⟨gb255, 1, none⟩) (Kd.R_far (p := ⟨gb255, 0, none⟩) (Kd.R_types HO_5.out BK255.out (by decide)) (fun _ hk => hk.2) (.string ((rd_T73 l0_2 x17_1).f0))) (fun _ hk => hk.2) (.string ((rd_T73 l0_2 x17_1).f1))) (fun _ hk => trivial))); (case aS => exact bsz bl_); (case aL => have := LMc19.out; omega); intro v257 w24 ho hb hg hat; rw [← Ny256.out] at ho; have n0_ := Z0.mk (kgr_ (g := gb246) bk_ hg (Kd.R_ne HO_5.out BK246.out (by decide))); have n1_ := Z0.mk (kgr_ (g := gb247) bk_ hg (Kd.R_ne HO_5.out BK247.out (by decide))); have n2_ := Z0.mk (kgr_ (g := gb255) bk_ hg (Kd.R_ne HO_5.out BK255.out (by decide))); have n3_ := Z0.mk (hb); have n4_ := Z0.mk (ho); clear BK246; clear BK247; clear BK255; clear HB; clear HO_5; have BK246 := n0_; have BK247 := n1_; have BK255 := n2_; have HB := n3_; have HO258 := n4_; clear n0_ n1_ n2_ n3_ n4_; clear ho hb hg hat)); try go_wp2_with (first | ((with_reducible refine gds (N := 7) rfl ?_); refine bx_ (N := 7) (cs := #[.string (⟨#[]⟩ : ByteArray), .string (⟨#[]⟩ : ByteArray)]) (t := 73) ?_; intro gb255 hg w20 hbox hb; have n0_ := Z0.mk (Kd.R_below (by (with_reducible repeat (first | apply Kd.R_alloc | apply Kd.R_drewN | apply Kd.R_drew)); exact HO_5.out) hb); have n1_ := Z0.mk (kbl (g := gb246) bk_ hb); have n2_ := Z0.mk (kbl (g := gb247) bk_ hb); have n3_ := Z0.mk (bsp bl_ hb); have n4_ := Z0.mk (hbox); have n5_ := Z0.mk ((by rw [hg]; exact bsz bl_ : w.heap.size ≤ gb255)); have n6_ := Z0.mk ((by rw [hg]; exact bsz bl_ : w.heap.size ≤ gb255)); have n7_ := Z0.mk ((by rw [hg]; exact Nat.ne_of_lt (klt_ (g := gb246) bk_) : gb246 ≠ gb255)); have n8_ := Z0.mk ((by rw [hg]; exact Nat.ne_of_gt (klt_ (g := gb246) bk_) : gb255 ≠ gb246)); have n9_ := Z0.mk ((by rw [hg]; exact Nat.ne_of_lt (klt_ (g := gb247) bk_) : gb247 ≠ gb255)); have n10_ := Z0.mk ((by rw [hg]; exact Nat.ne_of_gt (klt_ (g := gb247) bk_) : gb255 ≠ gb247)); clear HO_5; clear BK246; clear BK247; clear HB; have HO_5 := n0_; have BK246 := n1_; have BK247 := n2_; have HB := n3_; have BK255 := n4_; have GW255 := n5_; have GE255 := n6_; have NB246_255 := n7_; have NB255_246 := n8_; have NB247_255 := n9_; have NB255_247 := n10_; clear n0_ n1_ n2_ n3_ n4_ n5_ n6_ n7_ n8_ n9_ n10_; clear hb hbox hg; have hnb21 := NB255_246.out; have hnc21 := NB246_255.out; have hnb22 := NB255_247.out; have hnc22 := NB247_255.out; have hcz23 := bc2 BK255.out) | ((with_reducible refine gate_builtin (b := .append) (xs := #[.tmp 41, .tmp 45]) rfl ?_); at_builtin; refine Kd.R_append k40 (w0 := w) w.heap.size rfl (.tmp 41) (.tmp 45) 46 40 (.agg #[(.int .i64 0), (.string ⟨#[]⟩), (.int .i64 0)]) 32 rfl Tryz.underlying46 info40 rfl (by decide) (by omega) u5 x5_1 (⟨1, (rd_T73 l0_2 x17_1).f0, 0⟩ : S40) [.int .i64 1, .string ((rd_T73 l0_2 x17_1).f0), .int .i64 0] (fun _ => True) (fun _ => False) rfl (by first | (go_simp; done) | (go_simp; rfl)) ?aP (fun _ hk => hk.elim) ?aF ?aO ?aB ?aS ?aL ?_; (case aP => exact k40_mkM _ _ _ (⟨1, (rd_T73 l0_2 x17_1).f0, 0⟩ : S40)); (case aB => exact bl_); (case aF => exact (fun _ _ => trivial)); (case aO => exact (by (with_reducible repeat (first | apply Kd.R_alloc | apply Kd.R_drewN | apply Kd.R_drew)); exact Kd.R_mono (Kd.R_far (p := ⟨gb255, 1, none⟩) (Kd.R_far (p := ⟨gb255, 0, none⟩) (Kd.R_types HO_5.out BK255.out (by decide)) (fun _ hk => hk.2) (.string ((rd_T73 l0_2 x17_1).f0))) (fun _ hk => hk.2) (.string ((rd_T73 l0_2 x17_1).f1))) (fun _ hk => trivial))); (case aS => exact bsz bl_); (case aL => have := LMc19.out; omega); intro v257 w24 ho hb hg hat; rw [← Ny256.out] at ho; have n0_ := Z0.mk (kgr_ (g := gb246) bk_ hg (Kd.R_ne HO_5.out BK246.out (by decide))); have n1_ := Z0.mk (kgr_ (g := gb247) bk_ hg (Kd.R_ne HO_5.out BK247.out (by decide))); have n2_ := Z0.mk (kgr_ (g := gb255) bk_ hg (Kd.R_ne HO_5.out BK255.out (by decide))); have n3_ := Z0.mk (hb); have n4_ := Z0.mk (ho); clear BK246; clear BK247; clear BK255; clear HB; clear HO_5; have BK246 := n0_; have BK247 := n1_; have BK255 := n2_; have HB := n3_; have HO258 := n4_; clear n0_ n1_ n2_ n3_ n4_; clear ho hb hg hat)))
      go_roundg k1
      case measure => have := HK1.out; omega
      case rel => exact ⟨(y256), (wrap64 (x17_1 + 1)), eqv_, H', ⟨by have := HK1.out; omega⟩, ⟨by (with_reducible repeat (first | apply Kd.R_alloc | apply Kd.R_drewN | apply Kd.R_drew)); exact HO258.out⟩, ⟨bk_⟩, ⟨bk_⟩, ⟨bl_⟩⟩
    rw [if_neg c18] at H
    have c18b0 : (x17_1 == 0) = false := beq_eq_false_iff_ne.mpr c18
    have c18b1 : (x17_1 != 0) = true := bne_iff_ne.mpr c18
    by_cases c25 : a1_0 = 17
    rotate_left
    · rw [if_neg c25] at H
      have c25b0 : (a1_0 == 17) = false := beq_eq_false_iff_ne.mpr c25
      have c25b1 : (a1_0 != 17) = true := bne_iff_ne.mpr c25
      have H' := Z0.mk H
      clear H
      have p254 : 0 ≤ (x17_1 : Int) := of_decide_eq_true (by first | (with_reducible assumption) | assumption)
      have q254 : x17_1 < (l0_2.length : Int) := of_decide_eq_true (by first | (with_reducible assumption) | assumption)
      obtain ⟨ad254, e254, hx254_0, hx254_1⟩ := at_T73 HR0_2.out x17_1 p254 q254
      cases e254
      replace hx254_0 := (HB.out.cell (World.block_lt_of_cell? w _ hx254_0)).trans hx254_0
      replace hx254_1 := (HB.out.cell (World.block_lt_of_cell? w _ hx254_1)).trans hx254_1
      replace p254 := eq_true p254
      replace q254 := eq_true q254
      go_wp2_with (first | ((with_reducible refine gds (N := 7) rfl ?_); refine bx_ (N := 7) (cs := #[.string (⟨#[]⟩ : ByteArray), .string (⟨#[]⟩ : ByteArray)]) (t := 73) ?_; intro gb255 hg w43 hbox hb; have n0_ := Z0.mk (Kd.R_below (by (with_reducible repeat (first | apply Kd.R_alloc | apply Kd.R_drewN | apply Kd.R_drew)); exact HO_5.out) hb); have n1_ := Z0.mk (kbl (g := gb246) bk_ hb); have n2_ := Z0.mk (kbl (g := gb247) bk_ hb); have n3_ := Z0.mk (bsp bl_ hb); have n4_ := Z0.mk (hbox); have n5_ := Z0.mk ((by rw [hg]; exact bsz bl_ : w.heap.size ≤ gb255)); have n6_ := Z0.mk ((by rw [hg]; exact bsz bl_ : w.heap.size ≤ gb255)); have n7_ := Z0.mk ((by rw [hg]; exact Nat.ne_of_lt (klt_ (g := gb246) bk_) : gb246 ≠ gb255)); have n8_ := Z0.mk ((by rw [hg]; exact Nat.ne_of_gt (klt_ (g := gb246) bk_) : gb255 ≠ gb246)); have n9_ := Z0.mk ((by rw [hg]; exact Nat.ne_of_lt (klt_ (g := gb247) bk_) : gb247 ≠ gb255)); have n10_ := Z0.mk ((by rw [hg]; exact Nat.ne_of_gt (klt_ (g := gb247) bk_) : gb255 ≠ gb247)); clear HO_5; clear BK246; clear BK247; clear HB; have HO_5 := n0_; have BK246 := n1_; have BK247 := n2_; have HB := n3_; have BK255 := n4_; have GW255 := n5_; have GE255 := n6_; have NB246_255 := n7_; have NB255_246 := n8_; have NB247_255 := n9_; have NB255_247 := n10_; clear n0_ n1_ n2_ n3_ n4_ n5_ n6_ n7_ n8_ n9_ n10_; clear hb hbox hg; have hnb44 := NB255_246.out; have hnc44 := NB246_255.out; have hnb45 := NB255_247.out; have hnc45 := NB247_255.out; have hcz46 := bc2 BK255.out; have hnb47 := NB247_246.out; have hnc47 := NB246_247.out; have hcz48 := bc4 BK247.out))
      repeat (go_quiet (first | ((with_reducible refine gds (N := 7) rfl ?_); refine bx_ (N := 7) (cs := #[.string (⟨#[]⟩ : ByteArray), .string (⟨#[]⟩ : ByteArray)]) (t := 73) ?_; intro gb255 hg w43 hbox hb; have n0_ := Z0.mk (Kd.R_below (by (with_reducible repeat (first | apply Kd.R_alloc | apply Kd.R_drewN | apply Kd.R_drew)); exact HO_5.out) hb); have n1_ := Z0.mk (kbl (g := gb246) bk_ hb); have n2_ := Z0.mk (kbl (g := gb247) bk_ hb); have n3_ := Z0.mk (bsp bl_ hb); have n4_ := Z0.mk (hbox); have n5_ := Z0.mk ((by rw [hg]; exact bsz bl_ : w.heap.size ≤ gb255)); have n6_ := Z0.mk ((by rw [hg]; exact bsz bl_ : w.heap.size ≤ gb255)); have n7_ := Z0.mk ((by rw [hg]; exact Nat.ne_of_lt (klt_ (g := gb246) bk_) : gb246 ≠ gb255)); have n8_ := Z0.mk ((by rw [hg]; exact Nat.ne_of_gt (klt_ (g := gb246) bk_) : gb255 ≠ gb246)); have n9_ := Z0.mk ((by rw [hg]; exact Nat.ne_of_lt (klt_ (g := gb247) bk_) : gb247 ≠ gb255)); have n10_ := Z0.mk ((by rw [hg]; exact Nat.ne_of_gt (klt_ (g := gb247) bk_) : gb255 ≠ gb247)); clear HO_5; clear BK246; clear BK247; clear HB; have HO_5 := n0_; have BK246 := n1_; have BK247 := n2_; have HB := n3_; have BK255 := n4_; have GW255 := n5_; have GE255 := n6_; have NB246_255 := n7_; have NB255_246 := n8_; have NB247_255 := n9_; have NB255_247 := n10_; clear n0_ n1_ n2_ n3_ n4_ n5_ n6_ n7_ n8_ n9_ n10_; clear hb hbox hg; have hnb44 := NB255_246.out; have hnc44 := NB246_255.out; have hnb45 := NB255_247.out; have hnc45 := NB247_255.out; have hcz46 := bc2 BK255.out; have hnb47 := NB247_246.out; have hnc47 := NB246_247.out; have hcz48_0 : w43.cell? ⟨gb247, 0, none⟩ = some (.int .i64 a1_0) := (kcl BK247.out 0).trans rfl; have hcz48_1 : w43.cell? ⟨gb247, 1, none⟩ = some (.string a1_1) := (kcl BK247.out 1).trans rfl; have hcz48_2 : w43.cell? ⟨gb247, 2, none⟩ = some (.string a1_2) := (kcl BK247.out 2).trans rfl; have hcz48_3 : w43.cell? ⟨gb247, 3, none⟩ = some (.int .i64 a1_3) := (kcl BK247.out 3).trans rfl; have hfz48_0 := kfr BK247.out 0; have hfz48_1 := kfr BK247.out 1; have hfz48_2 := kfr BK247.out 2; have hfz48_3 := kfr BK247.out 3)); try go_wp2_with (first | ((with_reducible refine gds (N := 7) rfl ?_); refine bx_ (N := 7) (cs := #[.string (⟨#[]⟩ : ByteArray), .string (⟨#[]⟩ : ByteArray)]) (t := 73) ?_; intro gb255 hg w43 hbox hb; have n0_ := Z0.mk (Kd.R_below (by (with_reducible repeat (first | apply Kd.R_alloc | apply Kd.R_drewN | apply Kd.R_drew)); exact HO_5.out) hb); have n1_ := Z0.mk (kbl (g := gb246) bk_ hb); have n2_ := Z0.mk (kbl (g := gb247) bk_ hb); have n3_ := Z0.mk (bsp bl_ hb); have n4_ := Z0.mk (hbox); have n5_ := Z0.mk ((by rw [hg]; exact bsz bl_ : w.heap.size ≤ gb255)); have n6_ := Z0.mk ((by rw [hg]; exact bsz bl_ : w.heap.size ≤ gb255)); have n7_ := Z0.mk ((by rw [hg]; exact Nat.ne_of_lt (klt_ (g := gb246) bk_) : gb246 ≠ gb255)); have n8_ := Z0.mk ((by rw [hg]; exact Nat.ne_of_gt (klt_ (g := gb246) bk_) : gb255 ≠ gb246)); have n9_ := Z0.mk ((by rw [hg]; exact Nat.ne_of_lt (klt_ (g := gb247) bk_) : gb247 ≠ gb255)); have n10_ := Z0.mk ((by rw [hg]; exact Nat.ne_of_gt (klt_ (g := gb247) bk_) : gb255 ≠ gb247)); clear HO_5; clear BK246; clear BK247; clear HB; have HO_5 := n0_; have BK246 := n1_; have BK247 := n2_; have HB := n3_; have BK255 := n4_; have GW255 := n5_; have GE255 := n6_; have NB246_255 := n7_; have NB255_246 := n8_; have NB247_255 := n9_; have NB255_247 := n10_; clear n0_ n1_ n2_ n3_ n4_ n5_ n6_ n7_ n8_ n9_ n10_; clear hb hbox hg; have hnb44 := NB255_246.out; have hnc44 := NB246_255.out; have hnb45 := NB255_247.out; have hnc45 := NB247_255.out; have hcz46 := bc2 BK255.out; have hnb47 := NB247_246.out; have hnc47 := NB246_247.out; have hcz48 := bc4 BK247.out)))
      go_roundg k1
      case measure => have := HK1.out; omega
      case rel => exact ⟨(x5_1), (wrap64 (x17_1 + 1)), eqv_, H', ⟨by have := HK1.out; omega⟩, ⟨by (with_reducible repeat (first | apply Kd.R_alloc | apply Kd.R_drewN | apply Kd.R_drew)); exact Kd.R_mono (Kd.R_far (p := ⟨gb255, 1, none⟩) (Kd.R_far (p := ⟨gb255, 0, none⟩) (Kd.R_types HO_5.out BK255.out (by decide)) (fun _ hk => hk.2) (.string ((rd_T73 l0_2 x17_1).f0))) (fun _ hk => hk.2) (.string ((rd_T73 l0_2 x17_1).f1))) (fun _ hk => trivial)⟩, ⟨bk_⟩, ⟨bk_⟩, ⟨bl_⟩⟩
    rw [if_pos c25] at H
    have c25b0 : (a1_0 == 17) = true := beq_iff_eq.mpr c25
    have c25b1 : (a1_0 != 17) = false := bne_eq_false_iff_eq.mpr c25
    clear c25
    obtain ⟨ji26, hji26⟩ : ∃ j_ : Int, (wrap64 (x17_1 - 1)) = j_ := ⟨_, rfl⟩
    replace H : (if 0 ≤ (ji26) then (if (ji26) < (l0_2.length : Int) then (if ((rd_T73 l0_2 x17_1).f0).toList = ((rd_T73 l0_2 (ji26)).f0).toList then (adt_out.l0 k1 x5_1 l0_2 (l0_2.length : Int) (wrap64 (x17_1 + 1)) a0_0 a0_1 l0_2 a1_0 a1_1 a1_2 a1_3) else (if x5_1.length < 4398046511104 then (adt_out.l0 k1 (x5_1 ++ [(⟨1, (rd_T73 l0_2 x17_1).f0, 0⟩ : S40)]) l0_2 (l0_2.length : Int) (wrap64 (x17_1 + 1)) a0_0 a0_1 l0_2 a1_0 a1_1 a1_2 a1_3) else (none))) else (none)) else (none)) = some r := by first | (rw [hji26] at H; exact H) | (simp only [hji26] at H ⊢; exact H)
    have hji26w : (IntKind.i64.wrap (x17_1 - 1)) = ji26 := (i64_w _).trans hji26
    by_cases c27 : 0 ≤ (ji26)
    rotate_left
    · rw [if_neg c27] at H
      exact absurd H (by simp)
    rw [if_pos c27] at H
    have c27b0 : decide (0 ≤ (ji26)) = true := decide_eq_true c27
    clear c27
    by_cases c28 : (ji26) < (l0_2.length : Int)
    rotate_left
    · rw [if_neg c28] at H
      exact absurd H (by simp)
    rw [if_pos c28] at H
    have c28b0 : decide ((ji26) < (l0_2.length : Int)) = true := decide_eq_true c28
    clear c28
    have HS29 := Z0.mk H
    clear H
    have p254 : 0 ≤ (x17_1 : Int) := of_decide_eq_true (by first | (with_reducible assumption) | assumption)
    have q254 : x17_1 < (l0_2.length : Int) := of_decide_eq_true (by first | (with_reducible assumption) | assumption)
    obtain ⟨ad254, e254, hx254_0, hx254_1⟩ := at_T73 HR0_2.out x17_1 p254 q254
    cases e254
    replace hx254_0 := (HB.out.cell (World.block_lt_of_cell? w _ hx254_0)).trans hx254_0
    replace hx254_1 := (HB.out.cell (World.block_lt_of_cell? w _ hx254_1)).trans hx254_1
    replace p254 := eq_true p254
    replace q254 := eq_true q254
    go_upto_if 40 with (first | ((with_reducible refine gds (N := 7) rfl ?_); refine bx_ (N := 7) (cs := #[.string (⟨#[]⟩ : ByteArray), .string (⟨#[]⟩ : ByteArray)]) (t := 73) ?_; intro gb255 hg w30 hbox hb; have n0_ := Z0.mk (Kd.R_below (by (with_reducible repeat (first | apply Kd.R_alloc | apply Kd.R_drewN | apply Kd.R_drew)); exact HO_5.out) hb); have n1_ := Z0.mk (kbl (g := gb246) bk_ hb); have n2_ := Z0.mk (kbl (g := gb247) bk_ hb); have n3_ := Z0.mk (bsp bl_ hb); have n4_ := Z0.mk (hbox); have n5_ := Z0.mk ((by rw [hg]; exact bsz bl_ : w.heap.size ≤ gb255)); have n6_ := Z0.mk ((by rw [hg]; exact bsz bl_ : w.heap.size ≤ gb255)); have n7_ := Z0.mk ((by rw [hg]; exact Nat.ne_of_lt (klt_ (g := gb246) bk_) : gb246 ≠ gb255)); have n8_ := Z0.mk ((by rw [hg]; exact Nat.ne_of_gt (klt_ (g := gb246) bk_) : gb255 ≠ gb246)); have n9_ := Z0.mk ((by rw [hg]; exact Nat.ne_of_lt (klt_ (g := gb247) bk_) : gb247 ≠ gb255)); have n10_ := Z0.mk ((by rw [hg]; exact Nat.ne_of_gt (klt_ (g := gb247) bk_) : gb255 ≠ gb247)); clear HO_5; clear BK246; clear BK247; clear HB; have HO_5 := n0_; have BK246 := n1_; have BK247 := n2_; have HB := n3_; have BK255 := n4_; have GW255 := n5_; have GE255 := n6_; have NB246_255 := n7_; have NB255_246 := n8_; have NB247_255 := n9_; have NB255_247 := n10_; clear n0_ n1_ n2_ n3_ n4_ n5_ n6_ n7_ n8_ n9_ n10_; clear hb hbox hg; have hnb31 := NB255_246.out; have hnc31 := NB246_255.out; have hnb32 := NB255_247.out; have hnc32 := NB247_255.out; have hcz33 := bc2 BK255.out; have hnb34 := NB247_246.out; have hnc34 := NB246_247.out; have hcz35 := bc4 BK247.out; have hcz36 := bc3 BK246.out; have p259 : 0 ≤ ((ji26) : Int) := of_decide_eq_true (by first | (with_reducible assumption) | assumption); have q259 : (ji26) < (l0_2.length : Int) := of_decide_eq_true (by first | (with_reducible assumption) | assumption); obtain ⟨ad259, e259, hx259_0, hx259_1⟩ := at_T73 HR0_2.out (ji26) p259 q259; obtain rfl : ad254 = ad259 := (by injection e259); have hn259_0 : ad254.block ≠ gb255 := Nat.ne_of_lt (Nat.lt_of_lt_of_le (by have := World.block_lt_of_cell? _ _ hx259_0; first | rwa [adb_] at this | exact this) GW255.out); have hn259_1 : ad254.block ≠ gb255 := Nat.ne_of_lt (Nat.lt_of_lt_of_le (by have := World.block_lt_of_cell? _ _ hx259_0; first | rwa [adb_] at this | exact this) GW255.out); replace hx259_0 := (HB.out.cell (World.block_lt_of_cell? w _ hx259_0)).trans hx259_0; replace hx259_1 := (HB.out.cell (World.block_lt_of_cell? w _ hx259_1)).trans hx259_1; replace hx259_0 := (cell_far (p := ⟨gb255, 0, none⟩) (by first | (rw [adb_]; exact hn259_0) | (show (Addr.add _ _).block ≠ _; rw [adb_]; exact hn259_0) | exact hn259_0) (.string ((rd_T73 l0_2 x17_1).f0))).trans hx259_0; replace hx259_1 := (cell_far (p := ⟨gb255, 0, none⟩) (by first | (rw [adb_]; exact hn259_0) | (show (Addr.add _ _).block ≠ _; rw [adb_]; exact hn259_0) | exact hn259_0) (.string ((rd_T73 l0_2 x17_1).f0))).trans hx259_1; replace hx259_0 := (cell_far (p := ⟨gb255, 1, none⟩) (by first | (rw [adb_]; exact hn259_1) | (show (Addr.add _ _).block ≠ _; rw [adb_]; exact hn259_1) | exact hn259_1) (.string ((rd_T73 l0_2 x17_1).f1))).trans hx259_0; replace hx259_1 := (cell_far (p := ⟨gb255, 1, none⟩) (by first | (rw [adb_]; exact hn259_1) | (show (Addr.add _ _).block ≠ _; rw [adb_]; exact hn259_1) | exact hn259_1) (.string ((rd_T73 l0_2 x17_1).f1))).trans hx259_1; (try have hy259_0 := fun (n_ : Nat) => (show ((((w30.drewN n_).setCell ⟨gb255, 0, none⟩ (.string ((rd_T73 l0_2 x17_1).f0))).setCell ⟨gb255, 1, none⟩ (.string ((rd_T73 l0_2 x17_1).f1)))).cell? _ = some _ from hx259_0)); (try have hy259_1 := fun (n_ : Nat) => (show ((((w30.drewN n_).setCell ⟨gb255, 0, none⟩ (.string ((rd_T73 l0_2 x17_1).f0))).setCell ⟨gb255, 1, none⟩ (.string ((rd_T73 l0_2 x17_1).f1)))).cell? _ = some _ from hx259_1)); clear hn259_0; clear hn259_1; replace p259 := eq_true p259; replace q259 := eq_true q259))
    repeat (go_quiet (first | ((with_reducible refine gds (N := 7) rfl ?_); refine bx_ (N := 7) (cs := #[.string (⟨#[]⟩ : ByteArray), .string (⟨#[]⟩ : ByteArray)]) (t := 73) ?_; intro gb255 hg w30 hbox hb; have n0_ := Z0.mk (Kd.R_below (by (with_reducible repeat (first | apply Kd.R_alloc | apply Kd.R_drewN | apply Kd.R_drew)); exact HO_5.out) hb); have n1_ := Z0.mk (kbl (g := gb246) bk_ hb); have n2_ := Z0.mk (kbl (g := gb247) bk_ hb); have n3_ := Z0.mk (bsp bl_ hb); have n4_ := Z0.mk (hbox); have n5_ := Z0.mk ((by rw [hg]; exact bsz bl_ : w.heap.size ≤ gb255)); have n6_ := Z0.mk ((by rw [hg]; exact bsz bl_ : w.heap.size ≤ gb255)); have n7_ := Z0.mk ((by rw [hg]; exact Nat.ne_of_lt (klt_ (g := gb246) bk_) : gb246 ≠ gb255)); have n8_ := Z0.mk ((by rw [hg]; exact Nat.ne_of_gt (klt_ (g := gb246) bk_) : gb255 ≠ gb246)); have n9_ := Z0.mk ((by rw [hg]; exact Nat.ne_of_lt (klt_ (g := gb247) bk_) : gb247 ≠ gb255)); have n10_ := Z0.mk ((by rw [hg]; exact Nat.ne_of_gt (klt_ (g := gb247) bk_) : gb255 ≠ gb247)); clear HO_5; clear BK246; clear BK247; clear HB; have HO_5 := n0_; have BK246 := n1_; have BK247 := n2_; have HB := n3_; have BK255 := n4_; have GW255 := n5_; have GE255 := n6_; have NB246_255 := n7_; have NB255_246 := n8_; have NB247_255 := n9_; have NB255_247 := n10_; clear n0_ n1_ n2_ n3_ n4_ n5_ n6_ n7_ n8_ n9_ n10_; clear hb hbox hg; have hnb31 := NB255_246.out; have hnc31 := NB246_255.out; have hnb32 := NB255_247.out; have hnc32 := NB247_255.out; have hcz33 := bc2 BK255.out; have hnb34 := NB247_246.out; have hnc34 := NB246_247.out; have hcz35 := bc4 BK247.out; have hcz36 := bc3 BK246.out; have p259 : 0 ≤ ((ji26) : Int) := of_decide_eq_true (by first | (with_reducible assumption) | assumption); have q259 : (ji26) < (l0_2.length : Int) := of_decide_eq_true (by first | (with_reducible assumption) | assumption); obtain ⟨ad259, e259, hx259_0, hx259_1⟩ := at_T73 HR0_2.out (ji26) p259 q259; obtain rfl : ad254 = ad259 := (by injection e259); have hn259_0 : ad254.block ≠ gb255 := Nat.ne_of_lt (Nat.lt_of_lt_of_le (by have := World.block_lt_of_cell? _ _ hx259_0; first | rwa [adb_] at this | exact this) GW255.out); have hn259_1 : ad254.block ≠ gb255 := Nat.ne_of_lt (Nat.lt_of_lt_of_le (by have := World.block_lt_of_cell? _ _ hx259_0; first | rwa [adb_] at this | exact this) GW255.out); replace hx259_0 := (HB.out.cell (World.block_lt_of_cell? w _ hx259_0)).trans hx259_0; replace hx259_1 := (HB.out.cell (World.block_lt_of_cell? w _ hx259_1)).trans hx259_1; replace hx259_0 := (cell_far (p := ⟨gb255, 0, none⟩) (by first | (rw [adb_]; exact hn259_0) | (show (Addr.add _ _).block ≠ _; rw [adb_]; exact hn259_0) | exact hn259_0) (.string ((rd_T73 l0_2 x17_1).f0))).trans hx259_0; replace hx259_1 := (cell_far (p := ⟨gb255, 0, none⟩) (by first | (rw [adb_]; exact hn259_0) | (show (Addr.add _ _).block ≠ _; rw [adb_]; exact hn259_0) | exact hn259_0) (.string ((rd_T73 l0_2 x17_1).f0))).trans hx259_1; replace hx259_0 := (cell_far (p := ⟨gb255, 1, none⟩) (by first | (rw [adb_]; exact hn259_1) | (show (Addr.add _ _).block ≠ _; rw [adb_]; exact hn259_1) | exact hn259_1) (.string ((rd_T73 l0_2 x17_1).f1))).trans hx259_0; replace hx259_1 := (cell_far (p := ⟨gb255, 1, none⟩) (by first | (rw [adb_]; exact hn259_1) | (show (Addr.add _ _).block ≠ _; rw [adb_]; exact hn259_1) | exact hn259_1) (.string ((rd_T73 l0_2 x17_1).f1))).trans hx259_1; (try have hy259_0 := fun (n_ : Nat) => (show ((((w30.drewN n_).setCell ⟨gb255, 0, none⟩ (.string ((rd_T73 l0_2 x17_1).f0))).setCell ⟨gb255, 1, none⟩ (.string ((rd_T73 l0_2 x17_1).f1)))).cell? _ = some _ from hx259_0)); (try have hy259_1 := fun (n_ : Nat) => (show ((((w30.drewN n_).setCell ⟨gb255, 0, none⟩ (.string ((rd_T73 l0_2 x17_1).f0))).setCell ⟨gb255, 1, none⟩ (.string ((rd_T73 l0_2 x17_1).f1)))).cell? _ = some _ from hx259_1)); clear hn259_0; clear hn259_1; replace p259 := eq_true p259; replace q259 := eq_true q259)); go_upto_if 40 with (first | ((with_reducible refine gds (N := 7) rfl ?_); refine bx_ (N := 7) (cs := #[.string (⟨#[]⟩ : ByteArray), .string (⟨#[]⟩ : ByteArray)]) (t := 73) ?_; intro gb255 hg w30 hbox hb; have n0_ := Z0.mk (Kd.R_below (by (with_reducible repeat (first | apply Kd.R_alloc | apply Kd.R_drewN | apply Kd.R_drew)); exact HO_5.out) hb); have n1_ := Z0.mk (kbl (g := gb246) bk_ hb); have n2_ := Z0.mk (kbl (g := gb247) bk_ hb); have n3_ := Z0.mk (bsp bl_ hb); have n4_ := Z0.mk (hbox); have n5_ := Z0.mk ((by rw [hg]; exact bsz bl_ : w.heap.size ≤ gb255)); have n6_ := Z0.mk ((by rw [hg]; exact bsz bl_ : w.heap.size ≤ gb255)); have n7_ := Z0.mk ((by rw [hg]; exact Nat.ne_of_lt (klt_ (g := gb246) bk_) : gb246 ≠ gb255)); have n8_ := Z0.mk ((by rw [hg]; exact Nat.ne_of_gt (klt_ (g := gb246) bk_) : gb255 ≠ gb246)); have n9_ := Z0.mk ((by rw [hg]; exact Nat.ne_of_lt (klt_ (g := gb247) bk_) : gb247 ≠ gb255)); have n10_ := Z0.mk ((by rw [hg]; exact Nat.ne_of_gt (klt_ (g := gb247) bk_) : gb255 ≠ gb247)); clear HO_5; clear BK246; clear BK247; clear HB; have HO_5 := n0_; have BK246 := n1_; have BK247 := n2_; have HB := n3_; have BK255 := n4_; have GW255 := n5_; have GE255 := n6_; have NB246_255 := n7_; have NB255_246 := n8_; have NB247_255 := n9_; have NB255_247 := n10_; clear n0_ n1_ n2_ n3_ n4_ n5_ n6_ n7_ n8_ n9_ n10_; clear hb hbox hg; have hnb31 := NB255_246.out; have hnc31 := NB246_255.out; have hnb32 := NB255_247.out; have hnc32 := NB247_255.out; have hcz33 := bc2 BK255.out; have hnb34 := NB247_246.out; have hnc34 := NB246_247.out; have hcz35 := bc4 BK247.out; have hcz36 := bc3 BK246.out; have p259 : 0 ≤ ((ji26) : Int) := of_decide_eq_true (by first | (with_reducible assumption) | assumption); have q259 : (ji26) < (l0_2.length : Int) := of_decide_eq_true (by first | (with_reducible assumption) | assumption); obtain ⟨ad259, e259, hx259_0, hx259_1⟩ := at_T73 HR0_2.out (ji26) p259 q259; obtain rfl : ad254 = ad259 := (by injection e259); have hn259_0 : ad254.block ≠ gb255 := Nat.ne_of_lt (Nat.lt_of_lt_of_le (by have := World.block_lt_of_cell? _ _ hx259_0; first | rwa [adb_] at this | exact this) GW255.out); have hn259_1 : ad254.block ≠ gb255 := Nat.ne_of_lt (Nat.lt_of_lt_of_le (by have := World.block_lt_of_cell? _ _ hx259_0; first | rwa [adb_] at this | exact this) GW255.out); replace hx259_0 := (HB.out.cell (World.block_lt_of_cell? w _ hx259_0)).trans hx259_0; replace hx259_1 := (HB.out.cell (World.block_lt_of_cell? w _ hx259_1)).trans hx259_1; replace hx259_0 := (cell_far (p := ⟨gb255, 0, none⟩) (by first | (rw [adb_]; exact hn259_0) | (show (Addr.add _ _).block ≠ _; rw [adb_]; exact hn259_0) | exact hn259_0) (.string ((rd_T73 l0_2 x17_1).f0))).trans hx259_0; replace hx259_1 := (cell_far (p := ⟨gb255, 0, none⟩) (by first | (rw [adb_]; exact hn259_0) | (show (Addr.add _ _).block ≠ _; rw [adb_]; exact hn259_0) | exact hn259_0) (.string ((rd_T73 l0_2 x17_1).f0))).trans hx259_1; replace hx259_0 := (cell_far (p := ⟨gb255, 1, none⟩) (by first | (rw [adb_]; exact hn259_1) | (show (Addr.add _ _).block ≠ _; rw [adb_]; exact hn259_1) | exact hn259_1) (.string ((rd_T73 l0_2 x17_1).f1))).trans hx259_0; replace hx259_1 := (cell_far (p := ⟨gb255, 1, none⟩) (by first | (rw [adb_]; exact hn259_1) | (show (Addr.add _ _).block ≠ _; rw [adb_]; exact hn259_1) | exact hn259_1) (.string ((rd_T73 l0_2 x17_1).f1))).trans hx259_1; (try have hy259_0 := fun (n_ : Nat) => (show ((((w30.drewN n_).setCell ⟨gb255, 0, none⟩ (.string ((rd_T73 l0_2 x17_1).f0))).setCell ⟨gb255, 1, none⟩ (.string ((rd_T73 l0_2 x17_1).f1)))).cell? _ = some _ from hx259_0)); (try have hy259_1 := fun (n_ : Nat) => (show ((((w30.drewN n_).setCell ⟨gb255, 0, none⟩ (.string ((rd_T73 l0_2 x17_1).f0))).setCell ⟨gb255, 1, none⟩ (.string ((rd_T73 l0_2 x17_1).f1)))).cell? _ = some _ from hx259_1)); clear hn259_0; clear hn259_1; replace p259 := eq_true p259; replace q259 := eq_true q259)))
    (try simp only [Act.put, List.setIfInBounds_toArray, List.set_cons_zero, List.set_cons_succ])
    have H := HS29.out
    clear HS29
    by_cases c37 : ((rd_T73 l0_2 x17_1).f0).toList = ((rd_T73 l0_2 (ji26)).f0).toList
    · rw [if_pos c37] at H
      have c37b0 : (((rd_T73 l0_2 x17_1).f0).toList == ((rd_T73 l0_2 (ji26)).f0).toList) = true := beq_iff_eq.mpr c37
      have c37b1 : (((rd_T73 l0_2 x17_1).f0).toList != ((rd_T73 l0_2 (ji26)).f0).toList) = false := bne_eq_false_iff_eq.mpr c37
      clear c37
      (first | rw [c37b0] | (simp only [i64_w, i32_w]; rw [c37b0]) | skip)
      have H' := Z0.mk H
      clear H
      go_wp2
      repeat (go_quiet (fail); try go_wp2)
      go_roundg k1
      case measure => have := HK1.out; omega
      case rel => exact ⟨(x5_1), (wrap64 (x17_1 + 1)), eqv_, H', ⟨by have := HK1.out; omega⟩, ⟨by (with_reducible repeat (first | apply Kd.R_alloc | apply Kd.R_drewN | apply Kd.R_drew)); exact Kd.R_mono (Kd.R_far (p := ⟨gb255, 1, none⟩) (Kd.R_far (p := ⟨gb255, 0, none⟩) (Kd.R_types HO_5.out BK255.out (by decide)) (fun _ hk => hk.2) (.string ((rd_T73 l0_2 x17_1).f0))) (fun _ hk => hk.2) (.string ((rd_T73 l0_2 x17_1).f1))) (fun _ hk => trivial)⟩, ⟨bk_⟩, ⟨bk_⟩, ⟨bl_⟩⟩
    rw [if_neg c37] at H
    have c37b0 : (((rd_T73 l0_2 x17_1).f0).toList == ((rd_T73 l0_2 (ji26)).f0).toList) = false := beq_eq_false_iff_ne.mpr c37
    have c37b1 : (((rd_T73 l0_2 x17_1).f0).toList != ((rd_T73 l0_2 (ji26)).f0).toList) = true := bne_iff_ne.mpr c37
    (first | rw [c37b0] | (simp only [i64_w, i32_w]; rw [c37b0]) | skip)
    by_cases c38 : x5_1.length < 4398046511104
    rotate_left
    · rw [if_neg c38] at H
      exact absurd H (by simp)
    rw [if_pos c38] at H
    have LMc38 := Z0.mk c38
    clear c38
    obtain ⟨y260, hy260⟩ : ∃ y_ : List (S40), y_ = (x5_1 ++ [(⟨1, (rd_T73 l0_2 x17_1).f0, 0⟩ : S40)]) := ⟨_, rfl⟩
    replace H : (adt_out.l0 k1 y260 l0_2 (l0_2.length : Int) (wrap64 (x17_1 + 1)) a0_0 a0_1 l0_2 a1_0 a1_1 a1_2 a1_3) = some r := by first | (rw [hy260]; with_reducible exact H) | (have H2_ := (Option.bind_some _ _).symm.trans H; rw [hy260]; with_reducible exact H2_) | (have H2_ := (Option.bind_some _ _).symm.trans H; with_reducible exact H2_) | with_reducible exact H | (rw [hy260]; exact H) | exact H
    have Ny260 := Z0.mk hy260
    clear hy260
    have H' := Z0.mk H
    clear H
    have hnb39 := NB255_246.out
    have hnc39 := NB246_255.out
    have hnb40 := NB255_247.out
    have hnc40 := NB247_255.out
    have hcz41 := bc2 BK255.out
    go_wp2_with (first | ((with_reducible refine gate_builtin (b := .append) (xs := #[.tmp 41, .tmp 45]) rfl ?_); at_builtin; refine Kd.R_append k40 (w0 := w) w.heap.size rfl (.tmp 41) (.tmp 45) 46 40 (.agg #[(.int .i64 0), (.string ⟨#[]⟩), (.int .i64 0)]) 32 rfl Tryz.underlying46 info40 rfl (by decide) (by omega) u5 x5_1 (⟨1, (rd_T73 l0_2 x17_1).f0, 0⟩ : S40) [.int .i64 1, .string ((rd_T73 l0_2 x17_1).f0), .int .i64 0] (fun _ => True) (fun _ => False) rfl (by first | (go_simp; done) | (go_simp; rfl)) ?aP (fun _ hk => hk.elim) ?aF ?aO ?aB ?aS ?aL ?_; (case aP => exact k40_mkM _ _ _ (⟨1, (rd_T73 l0_2 x17_1).f0, 0⟩ : S40)); (case aB => exact bl_); (case aF => exact (fun _ _ => trivial)); (case aO => exact (by (with_reducible repeat (first | apply Kd.R_alloc | apply Kd.R_drewN | apply Kd.R_drew)); exact Kd.R_mono (Kd.R_far (p := ⟨gb255, 1, none⟩) (Kd.R_far (p := ⟨gb255, 0, none⟩) (Kd.R_types HO_5.out BK255.out (by decide)) (fun _ hk => hk.2) (.string ((rd_T73 l0_2 x17_1).f0))) (fun _ hk => hk.2) (.string ((rd_T73 l0_2 x17_1).f1))) (fun _ hk => trivial))); (case aS => exact bsz bl_); (case aL => have := LMc38.out; omega); intro v261 w42 ho hb hg hat; rw [← Ny260.out] at ho; have n0_ := Z0.mk (kgr_ (g := gb246) bk_ hg (Kd.R_ne HO_5.out BK246.out (by decide))); have n1_ := Z0.mk (kgr_ (g := gb247) bk_ hg (Kd.R_ne HO_5.out BK247.out (by decide))); have n2_ := Z0.mk (kgr_ (g := gb255) bk_ hg (Kd.R_ne HO_5.out BK255.out (by decide))); have n3_ := Z0.mk (hb); have n4_ := Z0.mk (ho); clear BK246; clear BK247; clear BK255; clear HB; clear HO_5; have BK246 := n0_; have BK247 := n1_; have BK255 := n2_; have HB := n3_; have HO262 := n4_; clear n0_ n1_ n2_ n3_ n4_; clear ho hb hg hat))
    repeat (go_quiet (first | ((with_reducible refine gate_builtin (b := .append) (xs := #[.tmp 41, .tmp 45]) rfl ?_); at_builtin; refine Kd.R_append k40 (w0 := w) w.heap.size rfl (.tmp 41) (.tmp 45) 46 40 (.agg #[(.int .i64 0), (.string ⟨#[]⟩), (.int .i64 0)]) 32 rfl Tryz.underlying46 info40 rfl (by decide) (by omega) u5 x5_1 (⟨1, (rd_T73 l0_2 x17_1).f0, 0⟩ : S40) [.int .i64 1, .string ((rd_T73 l0_2 x17_1).f0), .int .i64 0] (fun _ => True) (fun _ => False) rfl (by first | (go_simp; done) | (go_simp; rfl)) ?aP (fun _ hk => hk.elim) ?aF ?aO ?aB ?aS ?aL ?_; (case aP => exact k40_mkM _ _ _ (⟨1, (rd_T73 l0_2 x17_1).f0, 0⟩ : S40)); (case aB => exact bl_); (case aF => exact (fun _ _ => trivial)); (case aO => exact (by (with_reducible repeat (first | apply Kd.R_alloc | apply Kd.R_drewN | apply Kd.R_drew)); exact Kd.R_mono (Kd.R_far (p := ⟨gb255, 1, none⟩) (Kd.R_far (p := ⟨gb255, 0, none⟩) (Kd.R_types HO_5.out BK255.out (by decide)) (fun _ hk => hk.2) (.string ((rd_T73 l0_2 x17_1).f0))) (fun _ hk => hk.2) (.string ((rd_T73 l0_2 x17_1).f1))) (fun _ hk => trivial))); (case aS => exact bsz bl_); (case aL => have := LMc38.out; omega); intro v261 w42 ho hb hg hat; rw [← Ny260.out] at ho; have n0_ := Z0.mk (kgr_ (g := gb246) bk_ hg (Kd.R_ne HO_5.out BK246.out (by decide))); have n1_ := Z0.mk (kgr_ (g := gb247) bk_ hg (Kd.R_ne HO_5.out BK247.out (by decide))); have n2_ := Z0.mk (kgr_ (g := gb255) bk_ hg (Kd.R_ne HO_5.out BK255.out (by decide))); have n3_ := Z0.mk (hb); have n4_ := Z0.mk (ho); clear BK246; clear BK247; clear BK255; clear HB; clear HO_5; have BK246 := n0_; have BK247 := n1_; have BK255 := n2_; have HB := n3_; have HO262 := n4_; clear n0_ n1_ n2_ n3_ n4_; clear ho hb hg hat)); try go_wp2_with (first | ((with_reducible refine gate_builtin (b := .append) (xs := #[.tmp 41, .tmp 45]) rfl ?_); at_builtin; refine Kd.R_append k40 (w0 := w) w.heap.size rfl (.tmp 41) (.tmp 45) 46 40 (.agg #[(.int .i64 0), (.string ⟨#[]⟩), (.int .i64 0)]) 32 rfl Tryz.underlying46 info40 rfl (by decide) (by omega) u5 x5_1 (⟨1, (rd_T73 l0_2 x17_1).f0, 0⟩ : S40) [.int .i64 1, .string ((rd_T73 l0_2 x17_1).f0), .int .i64 0] (fun _ => True) (fun _ => False) rfl (by first | (go_simp; done) | (go_simp; rfl)) ?aP (fun _ hk => hk.elim) ?aF ?aO ?aB ?aS ?aL ?_; (case aP => exact k40_mkM _ _ _ (⟨1, (rd_T73 l0_2 x17_1).f0, 0⟩ : S40)); (case aB => exact bl_); (case aF => exact (fun _ _ => trivial)); (case aO => exact (by (with_reducible repeat (first | apply Kd.R_alloc | apply Kd.R_drewN | apply Kd.R_drew)); exact Kd.R_mono (Kd.R_far (p := ⟨gb255, 1, none⟩) (Kd.R_far (p := ⟨gb255, 0, none⟩) (Kd.R_types HO_5.out BK255.out (by decide)) (fun _ hk => hk.2) (.string ((rd_T73 l0_2 x17_1).f0))) (fun _ hk => hk.2) (.string ((rd_T73 l0_2 x17_1).f1))) (fun _ hk => trivial))); (case aS => exact bsz bl_); (case aL => have := LMc38.out; omega); intro v261 w42 ho hb hg hat; rw [← Ny260.out] at ho; have n0_ := Z0.mk (kgr_ (g := gb246) bk_ hg (Kd.R_ne HO_5.out BK246.out (by decide))); have n1_ := Z0.mk (kgr_ (g := gb247) bk_ hg (Kd.R_ne HO_5.out BK247.out (by decide))); have n2_ := Z0.mk (kgr_ (g := gb255) bk_ hg (Kd.R_ne HO_5.out BK255.out (by decide))); have n3_ := Z0.mk (hb); have n4_ := Z0.mk (ho); clear BK246; clear BK247; clear BK255; clear HB; clear HO_5; have BK246 := n0_; have BK247 := n1_; have BK255 := n2_; have HB := n3_; have HO262 := n4_; clear n0_ n1_ n2_ n3_ n4_; clear ho hb hg hat)))
    go_roundg k1
    case measure => have := HK1.out; omega
    case rel => exact ⟨(y260), (wrap64 (x17_1 + 1)), eqv_, H', ⟨by have := HK1.out; omega⟩, ⟨by (with_reducible repeat (first | apply Kd.R_alloc | apply Kd.R_drewN | apply Kd.R_drew)); exact HO262.out⟩, ⟨bk_⟩, ⟨bk_⟩, ⟨bl_⟩⟩
end Go.Proofs.YtjiblcncadekcaaGreat.PA

