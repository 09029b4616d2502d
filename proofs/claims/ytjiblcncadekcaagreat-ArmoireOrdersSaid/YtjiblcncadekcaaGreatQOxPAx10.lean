import Derived.Test.YtjiblcncadekcaaGreatQOxPAx0
import Derived.Test.YtjiblcncadekcaaGreatQOxPAx9
namespace Go.Proofs.YtjiblcncadekcaaGreat.PA
open Go.Proofs.YtjiblcncadekcaaGreat.PL
open Go.RowKit Go.Proofs.YtjiblcncadekcaaGreatW.PrintWords Go.Proofs.YtjiblcncadekcaaGreatW.PrintLast Go.Proofs.YtjiblcncadekcaaGreatW.PrintMore
attribute [local go_sem] max2_int min2_int bl_leq max_two min_two max_three min_three max_four min_four
set_option linter.unusedVariables false
set_option linter.unusedSimpArgs false
mutual
def adt_Answers.j0 : Nat → Int → Bool → Int → Bool → Int → Int → List (S73) → Int → ByteArray → ByteArray → Int → Option ((List (S40)))
  | 0, _, _, _, _, _, _, _, _, _, _, _ => none
  | k + 1, x5, x6, x23, x39, x264000, x264001, x264002, x265000, x265001, x265002, x265003 => if x39 = true then (some (([(⟨1, (⟨#[]⟩ : ByteArray), x264001⟩ : S40)] : List (S40)))) else (if x23 = 6 then ((adt_code.f (decide (x264001 ≥ x265003))).bind fun bt282 => (some (([(⟨bt282.1, bt282.2.1, bt282.2.2⟩ : S40)] : List (S40))))) else (if x23 = 8 then (adt_Answers.j1 k x5 x6 x23 (x23 == 8) x264000 x264001 x264002 x265000 x265001 x265002 x265003) else (adt_Answers.j1 k x5 x6 x23 (x23 == 11) x264000 x264001 x264002 x265000 x265001 x265002 x265003)))
def adt_Answers.j1 : Nat → Int → Bool → Int → Bool → Int → Int → List (S73) → Int → ByteArray → ByteArray → Int → Option ((List (S40)))
  | 0, _, _, _, _, _, _, _, _, _, _, _ => none
  | k + 1, x5, x6, x23, x55, x264000, x264001, x264002, x265000, x265001, x265002, x265003 => if x55 = true then ((adt_code.f (!x6)).bind fun bt288 => (some (([(⟨bt288.1, bt288.2.1, bt288.2.2⟩ : S40)] : List (S40))))) else (if x23 = 9 then (adt_Answers.j2 k x5 x6 x23 (x23 == 9) x264000 x264001 x264002 x265000 x265001 x265002 x265003) else (if x23 = 12 then (adt_Answers.j2 k x5 x6 x23 (x23 == 12) x264000 x264001 x264002 x265000 x265001 x265002 x265003) else (adt_Answers.j2 k x5 x6 x23 (x23 == 10) x264000 x264001 x264002 x265000 x265001 x265002 x265003)))
def adt_Answers.j2 : Nat → Int → Bool → Int → Bool → Int → Int → List (S73) → Int → ByteArray → ByteArray → Int → Option ((List (S40)))
  | 0, _, _, _, _, _, _, _, _, _, _, _ => none
  | k + 1, x5, x6, x23, x62, x264000, x264001, x264002, x265000, x265001, x265002, x265003 => if x62 = true then ((adt_code.f x6).bind fun bt294 => (some (([(⟨bt294.1, bt294.2.1, bt294.2.2⟩ : S40)] : List (S40))))) else (if x23 = 13 then ((adt_code.f x6).bind fun bt300 => (if x6 = true then (if 0 ≤ x5 then (if x5 < (x264002.length : Int) then (some (([(⟨bt300.1, (rd_T73 x264002 x5).f1, bt300.2.2⟩ : S40)] : List (S40)))) else (none)) else (none)) else (some (([(⟨bt300.1, bt300.2.1, bt300.2.2⟩ : S40)] : List (S40)))))) else (if x23 = 15 then (adt_Answers.j3 k (x23 == 15) x264000 x264001 x264002 x265000 x265001 x265002 x265003) else (adt_Answers.j3 k (x23 == 17) x264000 x264001 x264002 x265000 x265001 x265002 x265003)))
def adt_Answers.j3 : Nat → Bool → Int → Int → List (S73) → Int → ByteArray → ByteArray → Int → Option ((List (S40)))
  | 0, _, _, _, _, _, _, _, _ => none
  | k + 1, x83, x264000, x264001, x264002, x265000, x265001, x265002, x265003 => if x83 = true then ((adt_out.f k x264000 x264001 x264002 x265000 x265001 x265002 x265003).bind fun t311 => (some t311)) else ((adt_yes.f).bind fun bt314 => (some (([(⟨bt314.1, bt314.2.1, bt314.2.2⟩ : S40)] : List (S40)))))
end
def adt_Answers.f (k : Nat) (a0_0 : Int) (a0_1 : Int) (l0_2 : List (S73)) (a1_0 : Int) (a1_1 : ByteArray) (a1_2 : ByteArray) (a1_3 : Int) : Option ((List (S40))) := (method_Op_Kind.f a1_0).bind fun t265 => (if a0_0 = t265 then ((value_State_Find.f k a0_0 a0_1 l0_2 a1_1).bind fun bt266 => (if a1_0 = 1 then ((adt_yes.f).bind fun bt268 => (if (l0_2.length : Int) > 0 then (if 0 < (l0_2.length : Int) then (some (([(⟨bt268.1, (rd_T73 l0_2 0).f0, bt268.2.2⟩ : S40)] : List (S40)))) else (none)) else (some (([(⟨bt268.1, bt268.2.1, bt268.2.2⟩ : S40)] : List (S40)))))) else (if a1_0 = 4 then (adt_Answers.j0 k bt266.1 bt266.2 a1_0 (a1_0 == 4) a0_0 a0_1 l0_2 a1_0 a1_1 a1_2 a1_3) else (adt_Answers.j0 k bt266.1 bt266.2 a1_0 (a1_0 == 7) a0_0 a0_1 l0_2 a1_0 a1_1 a1_2 a1_3)))) else (some ([] : List (S40))))
set_option maxHeartbeats 8000000 in
set_option maxRecDepth 100000 in
theorem adt_Answers.calls (k : Nat) (a0_0 : Int) (a0_1 : Int) (A0_2 : Option Addr) (c0_2 : Nat) (l0_2 : List (S73)) (a1_0 : Int) (a1_1 : ByteArray) (a1_2 : ByteArray) (a1_3 : Int) (r : List (S40)) (w : World) (hr0_2 : Kd.C k73 w A0_2 l0_2.length l0_2) (hc0_2 : l0_2.length ≤ c0_2) (h : adt_Answers.f k a0_0 a0_1 l0_2 a1_0 a1_1 a1_2 a1_3 = some r) :
    Calls Tryz.prog 9 #[.agg #[.int .i64 a0_0, .int .i64 a0_1, .slice A0_2 l0_2.length c0_2], .agg #[.int .i64 a1_0, .string a1_1, .string a1_2, .int .i64 a1_3]] w fun e w' => ∃ v0_ : Value, e = .returned (v0_) ∧ Kd.R k40 40 w' w.heap.size (fun _ => True) v0_ r ∧ Below w.heap.size w w' := by
  have hu24 := Tryz.underlying24
  have hu38 := Tryz.underlying38
  have hu40 := Tryz.underlying40
  have HR0_2 := Z0.mk hr0_2
  have HC0_2 := Z0.mk hc0_2
  clear hr0_2 hc0_2
  have HB := Z0.mk (Below.refl w.heap.size w)
  have H : ((method_Op_Kind.f a1_0).bind fun t265 => (if a0_0 = t265 then ((value_State_Find.f k a0_0 a0_1 l0_2 a1_1).bind fun bt266 => (if a1_0 = 1 then ((adt_yes.f).bind fun bt268 => (if (l0_2.length : Int) > 0 then (if 0 < (l0_2.length : Int) then (some (([(⟨bt268.1, (rd_T73 l0_2 0).f0, bt268.2.2⟩ : S40)] : List (S40)))) else (none)) else (some (([(⟨bt268.1, bt268.2.1, bt268.2.2⟩ : S40)] : List (S40)))))) else (if a1_0 = 4 then (adt_Answers.j0 k bt266.1 bt266.2 a1_0 (a1_0 == 4) a0_0 a0_1 l0_2 a1_0 a1_1 a1_2 a1_3) else (adt_Answers.j0 k bt266.1 bt266.2 a1_0 (a1_0 == 7) a0_0 a0_1 l0_2 a1_0 a1_1 a1_2 a1_3)))) else (some ([] : List (S40))))) = some r := h
  clear h
  replace H := Option.bind_eq_some_iff.mp H
  obtain ⟨t265, A30, H⟩ := H
  replace H : (if a0_0 = t265 then ((value_State_Find.f k a0_0 a0_1 l0_2 a1_1).bind fun bt266 => (if a1_0 = 1 then ((adt_yes.f).bind fun bt268 => (if (l0_2.length : Int) > 0 then (if 0 < (l0_2.length : Int) then (some (([(⟨bt268.1, (rd_T73 l0_2 0).f0, bt268.2.2⟩ : S40)] : List (S40)))) else (none)) else (some (([(⟨bt268.1, bt268.2.1, bt268.2.2⟩ : S40)] : List (S40)))))) else (if a1_0 = 4 then (adt_Answers.j0 k bt266.1 bt266.2 a1_0 (a1_0 == 4) a0_0 a0_1 l0_2 a1_0 a1_1 a1_2 a1_3) else (adt_Answers.j0 k bt266.1 bt266.2 a1_0 (a1_0 == 7) a0_0 a0_1 l0_2 a1_0 a1_1 a1_2 a1_3)))) else (some ([] : List (S40)))) = some r := H
  have A3 := Z0.mk A30
  clear A30
  by_cases c4 : a0_0 = t265
  rotate_left
  · rw [if_neg c4] at H
    have c4b0 : (a0_0 == t265) = false := beq_eq_false_iff_ne.mpr c4
    have c4b1 : (a0_0 != t265) = true := bne_iff_ne.mpr c4
    obtain rfl := Option.some.inj H
    go_enter Tryz.func9, Tryz.ntmps9
    try go_wp2_with (first | ((with_reducible refine gds (N := 2) rfl ?_); refine bx_ (N := 2) (cs := #[.int .i64 a0_0, .int .i64 a0_1, .slice A0_2 l0_2.length c0_2]) (t := 24) ?_; intro gb263 hg w116 hbox hb; have n0_ := Z0.mk (bsp bl_ hb); have n1_ := Z0.mk (hbox); have n2_ := Z0.mk ((by rw [hg]; exact bsz bl_ : w.heap.size ≤ gb263)); have n3_ := Z0.mk ((by rw [hg]; exact bsz bl_ : w.heap.size ≤ gb263)); clear HB; have HB := n0_; have BK263 := n1_; have GW263 := n2_; have GE263 := n3_; clear n0_ n1_ n2_ n3_; clear hb hbox hg) | ((with_reducible refine gds (N := 3) rfl ?_); refine bx_ (N := 3) (cs := #[.int .i64 a1_0, .string a1_1, .string a1_2, .int .i64 a1_3]) (t := 38) ?_; intro gb264 hg w117 hbox hb; have n0_ := Z0.mk (kbl (g := gb263) (o := .cells #[.int .i64 a0_0, .int .i64 a0_1, .slice A0_2 l0_2.length c0_2] 24 (0, 0)) bk_ hb); have n1_ := Z0.mk (bsp bl_ hb); have n2_ := Z0.mk (hbox); have n3_ := Z0.mk ((by rw [hg]; exact bsz bl_ : w.heap.size ≤ gb264)); have n4_ := Z0.mk ((by rw [hg]; exact bsz bl_ : w.heap.size ≤ gb264)); have n5_ := Z0.mk ((by rw [hg]; exact Nat.ne_of_lt (klt_ (g := gb263) (o := .cells #[.int .i64 a0_0, .int .i64 a0_1, .slice A0_2 l0_2.length c0_2] 24 (0, 0)) bk_) : gb263 ≠ gb264)); have n6_ := Z0.mk ((by rw [hg]; exact Nat.ne_of_gt (klt_ (g := gb263) (o := .cells #[.int .i64 a0_0, .int .i64 a0_1, .slice A0_2 l0_2.length c0_2] 24 (0, 0)) bk_) : gb264 ≠ gb263)); clear BK263; clear HB; have BK263 := n0_; have HB := n1_; have BK264 := n2_; have GW264 := n3_; have GE264 := n4_; have NB263_264 := n5_; have NB264_263 := n6_; clear n0_ n1_ n2_ n3_ n4_ n5_ n6_; clear hb hbox hg))
    have n0_ := Z0.mk (kdw BK263.out)
    have n1_ := Z0.mk (kdw BK264.out)
    have n2_ := Z0.mk (bd1 HB.out)
    clear BK263
    clear BK264
    clear HB
    have BK263 := n0_
    have BK264 := n1_
    have HB := n2_
    clear n0_ n1_ n2_
    refine start_ (n := 6) (S := fun w' => w'.cell? ⟨gb263, 0, none⟩ = some (.int .i64 a0_0) ∧ w'.cell? ⟨gb263, 1, none⟩ = some (.int .i64 a0_1) ∧ w'.cell? ⟨gb263, 2, none⟩ = some (.slice A0_2 l0_2.length c0_2) ∧ w'.cell? ⟨gb264, 0, none⟩ = some (.int .i64 a1_0) ∧ w'.cell? ⟨gb264, 1, none⟩ = some (.string a1_1) ∧ w'.cell? ⟨gb264, 2, none⟩ = some (.string a1_2) ∧ w'.cell? ⟨gb264, 3, none⟩ = some (.int .i64 a1_3)) (ds := []) #[false,false,false,false,false,false] (by kernel_rfl) rfl rfl ⟨(kcl BK263.out 0).trans rfl, (kcl BK263.out 1).trans rfl, (kcl BK263.out 2).trans rfl, (kcl BK264.out 0).trans rfl, (kcl BK264.out 1).trans rfl, (kcl BK264.out 2).trans rfl, (kcl BK264.out 3).trans rfl⟩ (fun hHeld => ?_)
    generalize w117.drew = w118 at BK263 BK264 HB hHeld ⊢
    refine pure_ (i := 0) (N := some 9) (v := ?_) (a' := ?_) (bA 6 1) rfl rfl (by kernel_rfl) (fun _ _ _ h => h) (Or.inl ⟨by rfl, ?_⟩) ?_ ?_
    rotate_left; (intro w'; go_simp; with_reducible rfl); rotate_left; (simp only [Act.put, List.setIfInBounds_toArray, List.set_cons_zero, List.set_cons_succ, i64_w, i32_w]; rfl)
    refine pure_ (i := 2) (N := some 11) (v := ?_) (a' := ?_) (bA 6 5) rfl rfl (by kernel_rfl) (fun _ _ _ h => h) (Or.inl ⟨by rfl, ?_⟩) ?_ ?_
    rotate_left; (intro w'; go_simp; with_reducible rfl); rotate_left; (simp only [Act.put, List.setIfInBounds_toArray, List.set_cons_zero, List.set_cons_succ, i64_w, i32_w]; rfl)
    refine take_ (i := 1) (N := some 10) (v := ?_) (a' := ?_) (bA 6 7) rfl rfl (by kernel_rfl) (fun _ _ _ h => h) (Or.inl ⟨by rfl, ?_⟩) hHeld ?_ ?_
    rotate_left
    · rintro w' ⟨s0, s1, s2, s3, s4, s5, s6⟩
      go_simp
      with_reducible rfl
    rotate_left; (simp only [Act.put, List.setIfInBounds_toArray, List.set_cons_zero, List.set_cons_succ, i64_w, i32_w]; rfl)
    refine take_ (i := 3) (N := some 12) (v := ?_) (a' := ?_) (bA 6 15) rfl rfl (by kernel_rfl) (fun _ _ _ h => h) (Or.inl ⟨by rfl, ?_⟩) hHeld ?_ ?_
    rotate_left
    · rintro w' ⟨s0, s1, s2, s3, s4, s5, s6⟩
      go_simp
      with_reducible rfl
    rotate_left; (simp only [Act.put, List.setIfInBounds_toArray, List.set_cons_zero, List.set_cons_succ, i64_w, i32_w]; rfl)
    refine one_ (i := 4) (N := some 13) (bA 6 31) rfl rfl (by kernel_rfl) (by decide) (fun K hK => ?_)
    refine goes_ Tryz.func24 (by kernel_rfl) rfl #[.int .i64 a1_0] (by rfl) rfl rfl (by (try simp only [List.map_toArray, List.map_cons, List.map_nil]); first | done | rfl | (simp only [List.length_drop, List.length_take]; rfl) | (simp only [Act.eval, Array.getD_eq_getD_getElem?, Option.getD_some, *]; done) | (simp only [Array.mk.injEq, List.cons.injEq, Value.int.injEq, true_and, and_true]; first | omega | (simp [IntKind.wrap, IntKind.bits, IntKind.signed]; omega))) ?_
    with_reducible refine (method_Op_Kind.calls a1_0 t265 _ A3.out).mono ?_
    rintro e w119 ⟨rfl, hb⟩
    refine ⟨_, rfl, ?_⟩
    have n0_ := Z0.mk (kbl (g := gb263) (o := .cells #[.int .i64 a0_0, .int .i64 a0_1, .slice A0_2 l0_2.length c0_2] 24 (0, 0)) bk_ hb)
    have n1_ := Z0.mk (kbl (g := gb264) (o := .cells #[.int .i64 a1_0, .string a1_1, .string a1_2, .int .i64 a1_3] 38 (0, 0)) bk_ hb)
    have n2_ := Z0.mk (bsp bl_ hb)
    clear BK263
    clear BK264
    clear HB
    have BK263 := n0_
    have BK264 := n1_
    have HB := n2_
    clear n0_ n1_ n2_
    (try clear hb)
    (try clear hb2)
    (try clear hk)
    (try clear hi)
    refine hK.out _ _ ⟨(kcl BK263.out 0).trans rfl, (kcl BK263.out 1).trans rfl, (kcl BK263.out 2).trans rfl, (kcl BK264.out 0).trans rfl, (kcl BK264.out 1).trans rfl, (kcl BK264.out 2).trans rfl, (kcl BK264.out 3).trans rfl⟩ (fun hHeld => ?_)
    clear hK K
    refine norm_ (a' := ?_) ?_ ?_
    rotate_left
    · show Act.put _ (some 13) _ = _
      simp only [Act.put, List.setIfInBounds_toArray, List.set_cons_zero, List.set_cons_succ, i64_w, i32_w]
      rfl
    refine pure_ (i := 5) (N := some 14) (v := ?_) (a' := ?_) (bA 6 63) rfl rfl (by kernel_rfl) (fun _ _ _ h => h) (Or.inl ⟨by rfl, ?_⟩) ?_ ?_
    rotate_left; (intro w'; go_simp; with_reducible rfl); rotate_left; (simp only [Act.put, List.setIfInBounds_toArray, List.set_cons_zero, List.set_cons_succ, i64_w, i32_w]; rfl)
    refine done_ (by kernel_rfl) ?_
    try go_wp2
    go_ret
    exact ⟨_, er_, by first | exact Kd.R_nil _ _ _ _ _ | exact Kd.N_nil _ _ _ _ _ | exact Kd.V_nil _ _ _ _ _ | exact Kd.Q_nil _ _ _ _ _ | exact Kd.S_nil _ _ _ _ _, bl_⟩
  rw [if_pos c4] at H
  have c4b0 : (a0_0 == t265) = true := beq_iff_eq.mpr c4
  have c4b1 : (a0_0 != t265) = false := bne_eq_false_iff_eq.mpr c4
  clear c4
  replace H := Option.bind_eq_some_iff.mp H
  obtain ⟨⟨t266, t267⟩, A50, H⟩ := H
  replace H : (if a1_0 = 1 then ((adt_yes.f).bind fun bt268 => (if (l0_2.length : Int) > 0 then (if 0 < (l0_2.length : Int) then (some (([(⟨bt268.1, (rd_T73 l0_2 0).f0, bt268.2.2⟩ : S40)] : List (S40)))) else (none)) else (some (([(⟨bt268.1, bt268.2.1, bt268.2.2⟩ : S40)] : List (S40)))))) else (if a1_0 = 4 then (adt_Answers.j0 k t266 t267 a1_0 (a1_0 == 4) a0_0 a0_1 l0_2 a1_0 a1_1 a1_2 a1_3) else (adt_Answers.j0 k t266 t267 a1_0 (a1_0 == 7) a0_0 a0_1 l0_2 a1_0 a1_1 a1_2 a1_3))) = some r := H
  have A5 := Z0.mk A50
  clear A50
  by_cases c6 : a1_0 = 1
  · rw [if_pos c6] at H
    have c6b0 : (a1_0 == 1) = true := beq_iff_eq.mpr c6
    have c6b1 : (a1_0 != 1) = false := bne_eq_false_iff_eq.mpr c6
    clear c6
    replace H := Option.bind_eq_some_iff.mp H
    obtain ⟨⟨t268, t269, t270⟩, A70, H⟩ := H
    replace H : (if (l0_2.length : Int) > 0 then (if 0 < (l0_2.length : Int) then (some (([(⟨t268, (rd_T73 l0_2 0).f0, t270⟩ : S40)] : List (S40)))) else (none)) else (some (([(⟨t268, t269, t270⟩ : S40)] : List (S40))))) = some r := H
    have A7 := Z0.mk A70
    clear A70
    by_cases c8 : (l0_2.length : Int) > 0
    rotate_left
    · rw [if_neg c8] at H
      have c8b0 : decide (0 < (l0_2.length : Int)) = false := decide_eq_false c8
      have c8b1 : decide (0 < l0_2.length) = false := decide_eq_false (by omega)
      clear c8
      obtain ⟨y276, hy276⟩ : ∃ y_ : List (S40), y_ = (([(⟨t268, t269, t270⟩ : S40)] : List (S40))) := ⟨_, rfl⟩
      replace H : (some y276) = some r := by first | (rw [hy276]; with_reducible exact H) | (have H2_ := (Option.bind_some _ _).symm.trans H; rw [hy276]; with_reducible exact H2_) | (have H2_ := (Option.bind_some _ _).symm.trans H; with_reducible exact H2_) | with_reducible exact H | (rw [hy276]; exact H) | exact H
      have Ny276 := Z0.mk hy276
      clear hy276
      obtain rfl := Option.some.inj H
      go_enter Tryz.func9, Tryz.ntmps9
      try go_wp2_with (first | ((with_reducible refine gds (N := 2) rfl ?_); refine bx_ (N := 2) (cs := #[.int .i64 a0_0, .int .i64 a0_1, .slice A0_2 l0_2.length c0_2]) (t := 24) ?_; intro gb263 hg w27 hbox hb; have n0_ := Z0.mk (bsp bl_ hb); have n1_ := Z0.mk (hbox); have n2_ := Z0.mk ((by rw [hg]; exact bsz bl_ : w.heap.size ≤ gb263)); have n3_ := Z0.mk ((by rw [hg]; exact bsz bl_ : w.heap.size ≤ gb263)); clear HB; have HB := n0_; have BK263 := n1_; have GW263 := n2_; have GE263 := n3_; clear n0_ n1_ n2_ n3_; clear hb hbox hg) | ((with_reducible refine gds (N := 3) rfl ?_); refine bx_ (N := 3) (cs := #[.int .i64 a1_0, .string a1_1, .string a1_2, .int .i64 a1_3]) (t := 38) ?_; intro gb264 hg w28 hbox hb; have n0_ := Z0.mk (kbl (g := gb263) (o := .cells #[.int .i64 a0_0, .int .i64 a0_1, .slice A0_2 l0_2.length c0_2] 24 (0, 0)) bk_ hb); have n1_ := Z0.mk (bsp bl_ hb); have n2_ := Z0.mk (hbox); have n3_ := Z0.mk ((by rw [hg]; exact bsz bl_ : w.heap.size ≤ gb264)); have n4_ := Z0.mk ((by rw [hg]; exact bsz bl_ : w.heap.size ≤ gb264)); have n5_ := Z0.mk ((by rw [hg]; exact Nat.ne_of_lt (klt_ (g := gb263) (o := .cells #[.int .i64 a0_0, .int .i64 a0_1, .slice A0_2 l0_2.length c0_2] 24 (0, 0)) bk_) : gb263 ≠ gb264)); have n6_ := Z0.mk ((by rw [hg]; exact Nat.ne_of_gt (klt_ (g := gb263) (o := .cells #[.int .i64 a0_0, .int .i64 a0_1, .slice A0_2 l0_2.length c0_2] 24 (0, 0)) bk_) : gb264 ≠ gb263)); clear BK263; clear HB; have BK263 := n0_; have HB := n1_; have BK264 := n2_; have GW264 := n3_; have GE264 := n4_; have NB263_264 := n5_; have NB264_263 := n6_; clear n0_ n1_ n2_ n3_ n4_ n5_ n6_; clear hb hbox hg))
      have n0_ := Z0.mk (kdw BK263.out)
      have n1_ := Z0.mk (kdw BK264.out)
      have n2_ := Z0.mk (bd1 HB.out)
      clear BK263
      clear BK264
      clear HB
      have BK263 := n0_
      have BK264 := n1_
      have HB := n2_
      clear n0_ n1_ n2_
      refine start_ (n := 6) (S := fun w' => w'.cell? ⟨gb263, 0, none⟩ = some (.int .i64 a0_0) ∧ w'.cell? ⟨gb263, 1, none⟩ = some (.int .i64 a0_1) ∧ w'.cell? ⟨gb263, 2, none⟩ = some (.slice A0_2 l0_2.length c0_2) ∧ w'.cell? ⟨gb264, 0, none⟩ = some (.int .i64 a1_0) ∧ w'.cell? ⟨gb264, 1, none⟩ = some (.string a1_1) ∧ w'.cell? ⟨gb264, 2, none⟩ = some (.string a1_2) ∧ w'.cell? ⟨gb264, 3, none⟩ = some (.int .i64 a1_3)) (ds := []) #[false,false,false,false,false,false] (by kernel_rfl) rfl rfl ⟨(kcl BK263.out 0).trans rfl, (kcl BK263.out 1).trans rfl, (kcl BK263.out 2).trans rfl, (kcl BK264.out 0).trans rfl, (kcl BK264.out 1).trans rfl, (kcl BK264.out 2).trans rfl, (kcl BK264.out 3).trans rfl⟩ (fun hHeld => ?_)
      generalize w28.drew = w29 at BK263 BK264 HB hHeld ⊢
      refine pure_ (i := 0) (N := some 9) (v := ?_) (a' := ?_) (bA 6 1) rfl rfl (by kernel_rfl) (fun _ _ _ h => h) (Or.inl ⟨by rfl, ?_⟩) ?_ ?_
      rotate_left; (intro w'; go_simp; with_reducible rfl); rotate_left; (simp only [Act.put, List.setIfInBounds_toArray, List.set_cons_zero, List.set_cons_succ, i64_w, i32_w]; rfl)
      refine pure_ (i := 2) (N := some 11) (v := ?_) (a' := ?_) (bA 6 5) rfl rfl (by kernel_rfl) (fun _ _ _ h => h) (Or.inl ⟨by rfl, ?_⟩) ?_ ?_
      rotate_left; (intro w'; go_simp; with_reducible rfl); rotate_left; (simp only [Act.put, List.setIfInBounds_toArray, List.set_cons_zero, List.set_cons_succ, i64_w, i32_w]; rfl)
      refine take_ (i := 1) (N := some 10) (v := ?_) (a' := ?_) (bA 6 7) rfl rfl (by kernel_rfl) (fun _ _ _ h => h) (Or.inl ⟨by rfl, ?_⟩) hHeld ?_ ?_
      rotate_left
      · rintro w' ⟨s0, s1, s2, s3, s4, s5, s6⟩
        go_simp
        with_reducible rfl
      rotate_left; (simp only [Act.put, List.setIfInBounds_toArray, List.set_cons_zero, List.set_cons_succ, i64_w, i32_w]; rfl)
      refine take_ (i := 3) (N := some 12) (v := ?_) (a' := ?_) (bA 6 15) rfl rfl (by kernel_rfl) (fun _ _ _ h => h) (Or.inl ⟨by rfl, ?_⟩) hHeld ?_ ?_
      rotate_left
      · rintro w' ⟨s0, s1, s2, s3, s4, s5, s6⟩
        go_simp
        with_reducible rfl
      rotate_left; (simp only [Act.put, List.setIfInBounds_toArray, List.set_cons_zero, List.set_cons_succ, i64_w, i32_w]; rfl)
      refine one_ (i := 4) (N := some 13) (bA 6 31) rfl rfl (by kernel_rfl) (by decide) (fun K hK => ?_)
      refine goes_ Tryz.func24 (by kernel_rfl) rfl #[.int .i64 a1_0] (by rfl) rfl rfl (by (try simp only [List.map_toArray, List.map_cons, List.map_nil]); first | done | rfl | (simp only [List.length_drop, List.length_take]; rfl) | (simp only [Act.eval, Array.getD_eq_getD_getElem?, Option.getD_some, *]; done) | (simp only [Array.mk.injEq, List.cons.injEq, Value.int.injEq, true_and, and_true]; first | omega | (simp [IntKind.wrap, IntKind.bits, IntKind.signed]; omega))) ?_
      with_reducible refine (method_Op_Kind.calls a1_0 t265 _ A3.out).mono ?_
      rintro e w30 ⟨rfl, hb⟩
      refine ⟨_, rfl, ?_⟩
      have n0_ := Z0.mk (kbl (g := gb263) (o := .cells #[.int .i64 a0_0, .int .i64 a0_1, .slice A0_2 l0_2.length c0_2] 24 (0, 0)) bk_ hb)
      have n1_ := Z0.mk (kbl (g := gb264) (o := .cells #[.int .i64 a1_0, .string a1_1, .string a1_2, .int .i64 a1_3] 38 (0, 0)) bk_ hb)
      have n2_ := Z0.mk (bsp bl_ hb)
      clear BK263
      clear BK264
      clear HB
      have BK263 := n0_
      have BK264 := n1_
      have HB := n2_
      clear n0_ n1_ n2_
      (try clear hb)
      (try clear hb2)
      (try clear hk)
      (try clear hi)
      refine hK.out _ _ ⟨(kcl BK263.out 0).trans rfl, (kcl BK263.out 1).trans rfl, (kcl BK263.out 2).trans rfl, (kcl BK264.out 0).trans rfl, (kcl BK264.out 1).trans rfl, (kcl BK264.out 2).trans rfl, (kcl BK264.out 3).trans rfl⟩ (fun hHeld => ?_)
      clear hK K
      refine norm_ (a' := ?_) ?_ ?_
      rotate_left
      · show Act.put _ (some 13) _ = _
        simp only [Act.put, List.setIfInBounds_toArray, List.set_cons_zero, List.set_cons_succ, i64_w, i32_w]
        rfl
      refine pure_ (i := 5) (N := some 14) (v := ?_) (a' := ?_) (bA 6 63) rfl rfl (by kernel_rfl) (fun _ _ _ h => h) (Or.inl ⟨by rfl, ?_⟩) ?_ ?_
      rotate_left; (intro w'; go_simp; with_reducible rfl); rotate_left; (simp only [Act.put, List.setIfInBounds_toArray, List.set_cons_zero, List.set_cons_succ, i64_w, i32_w]; rfl)
      refine done_ (by kernel_rfl) ?_
      have hnb31 := NB263_264.out
      have hnc31 := NB264_263.out
      have hcz32 := bc3 BK263.out
      have hcz33 := bc4 BK264.out
      try go_wp2_with (first | ((with_reducible refine gcl (f := 25) rfl ?_); refine gl_ (some 19) rfl rfl Tryz.func25 (by kernel_rfl) rfl #[.agg #[.int .i64 a0_0, .int .i64 a0_1, .slice A0_2 l0_2.length c0_2], .string a1_1] rfl ar_ ?_; (with_reducible refine (value_State_Find.calls k a0_0 a0_1 _ _ l0_2 a1_1 t266 t267 _ ?side1 ?side2 A5.out).mono ?_); (case side1 => repeat (first | exact (Kd.C_below HR0_2.out HB.out) | (with_reducible refine Kd.C_alloc ?_ _) | (with_reducible refine Kd.C_drewN ?_ _) | (with_reducible refine Kd.C_drew ?_))); (case side2 => exact HC0_2.out); rintro e w34 ⟨rfl, hb⟩; refine ⟨_, rfl, ?_⟩; have n0_ := Z0.mk (kbl (g := gb263) (o := .cells #[.int .i64 a0_0, .int .i64 a0_1, .slice A0_2 l0_2.length c0_2] 24 (0, 0)) bk_ hb); have n1_ := Z0.mk (kbl (g := gb264) (o := .cells #[.int .i64 a1_0, .string a1_1, .string a1_2, .int .i64 a1_3] 38 (0, 0)) bk_ hb); have n2_ := Z0.mk (bsp bl_ hb); clear BK263; clear BK264; clear HB; have BK263 := n0_; have BK264 := n1_; have HB := n2_; clear n0_ n1_ n2_; (try clear hb); (try clear hb2); (try clear hk); (try clear hi); have hcz35 := bc4 BK264.out) | ((with_reducible refine gcl (f := 26) rfl ?_); refine gl_ (some 26) rfl rfl Tryz.func26 (by kernel_rfl) rfl #[] rfl ar_ ?_; (with_reducible refine (adt_yes.calls  t268 t269 t270 _ A7.out).mono ?_); rintro e w36 ⟨rfl, hb⟩; refine ⟨_, rfl, ?_⟩; have n0_ := Z0.mk (kbl (g := gb263) (o := .cells #[.int .i64 a0_0, .int .i64 a0_1, .slice A0_2 l0_2.length c0_2] 24 (0, 0)) bk_ hb); have n1_ := Z0.mk (kbl (g := gb264) (o := .cells #[.int .i64 a1_0, .string a1_1, .string a1_2, .int .i64 a1_3] 38 (0, 0)) bk_ hb); have n2_ := Z0.mk (bsp bl_ hb); clear BK263; clear BK264; clear HB; have BK263 := n0_; have BK264 := n1_; have HB := n2_; clear n0_ n1_ n2_; (try clear hb); (try clear hb2); (try clear hk); (try clear hi)) | ((with_reducible refine gds (N := 7) rfl ?_); refine bx_ (N := 7) (cs := #[.int .i64 0, .string (⟨#[]⟩ : ByteArray), .int .i64 0]) (t := 40) ?_; intro gb271 hg w37 hbox hb; have n0_ := Z0.mk (kbl (g := gb263) (o := .cells #[.int .i64 a0_0, .int .i64 a0_1, .slice A0_2 l0_2.length c0_2] 24 (0, 0)) bk_ hb); have n1_ := Z0.mk (kbl (g := gb264) (o := .cells #[.int .i64 a1_0, .string a1_1, .string a1_2, .int .i64 a1_3] 38 (0, 0)) bk_ hb); have n2_ := Z0.mk (bsp bl_ hb); have n3_ := Z0.mk (hbox); have n4_ := Z0.mk ((by rw [hg]; exact bsz bl_ : w.heap.size ≤ gb271)); have n5_ := Z0.mk ((by rw [hg]; exact bsz bl_ : w.heap.size ≤ gb271)); have n6_ := Z0.mk ((by rw [hg]; exact Nat.ne_of_lt (klt_ (g := gb263) (o := .cells #[.int .i64 a0_0, .int .i64 a0_1, .slice A0_2 l0_2.length c0_2] 24 (0, 0)) bk_) : gb263 ≠ gb271)); have n7_ := Z0.mk ((by rw [hg]; exact Nat.ne_of_gt (klt_ (g := gb263) (o := .cells #[.int .i64 a0_0, .int .i64 a0_1, .slice A0_2 l0_2.length c0_2] 24 (0, 0)) bk_) : gb271 ≠ gb263)); have n8_ := Z0.mk ((by rw [hg]; exact Nat.ne_of_lt (klt_ (g := gb264) (o := .cells #[.int .i64 a1_0, .string a1_1, .string a1_2, .int .i64 a1_3] 38 (0, 0)) bk_) : gb264 ≠ gb271)); have n9_ := Z0.mk ((by rw [hg]; exact Nat.ne_of_gt (klt_ (g := gb264) (o := .cells #[.int .i64 a1_0, .string a1_1, .string a1_2, .int .i64 a1_3] 38 (0, 0)) bk_) : gb271 ≠ gb264)); clear BK263; clear BK264; clear HB; have BK263 := n0_; have BK264 := n1_; have HB := n2_; have BK271 := n3_; have GW271 := n4_; have GE271 := n5_; have NB263_271 := n6_; have NB271_263 := n7_; have NB264_271 := n8_; have NB271_264 := n9_; clear n0_ n1_ n2_ n3_ n4_ n5_ n6_ n7_ n8_ n9_; clear hb hbox hg; have hnb38 := NB271_263.out; have hnc38 := NB263_271.out; have hnb39 := NB271_264.out; have hnc39 := NB264_271.out; have hcz40 := bc3 BK271.out; have hcz41 := bc3 BK263.out) | ((with_reducible refine gds (N := 38) rfl ?_); refine Kd.R_lit k40 _ 40 ?hg (N := 38) ?hd (xs := ([(⟨t268, t269, t270⟩ : S40)] : List (S40))) (inner := [.int .i64 t268, .string t269, .int .i64 t270]) (ok := fun _ => True) (okp := fun _ => True) ?hr ?hp (fun _ hk => hk) trivial (Below.refl _ _) (Nat.le_refl _) (by simp) ?_; (case hd => rfl); (case hg => rfl); (case hr => first | (go_simp; done) | (go_simp; rfl)); (case hp => exact (Reps.c3 (show Kd.M k40 _ _ _ (⟨t268, t269, t270⟩ : S40) [.int .i64 t268, .string t269, .int .i64 t270] from (k40_mkM _ _ _ (⟨t268, t269, t270⟩ : S40) )) (Reps.none _ _))); intro v277 w42 ho43 hb hg_ hnew_; clear hg_ hnew_; (first | rw [← Ny276.out] at ho43 | (simp only [Int.reduceToNat] at ho43; rw [← Ny276.out] at ho43)); have n0_ := Z0.mk (Kd.R_lower (Kd.R_newB ho43 (g := gb271) (o := .cells #[.int .i64 t268, .string t269, .int .i64 t270] 40 (0, 0)) bk_) (bsz bl_)); have n1_ := Z0.mk (kbl (g := gb263) (o := .cells #[.int .i64 a0_0, .int .i64 a0_1, .slice A0_2 l0_2.length c0_2] 24 (0, 0)) bk_ hb); have n2_ := Z0.mk (kbl (g := gb264) (o := .cells #[.int .i64 a1_0, .string a1_1, .string a1_2, .int .i64 a1_3] 38 (0, 0)) bk_ hb); have n3_ := Z0.mk (kbl (g := gb271) (o := .cells #[.int .i64 t268, .string t269, .int .i64 t270] 40 (0, 0)) bk_ hb); have n4_ := Z0.mk (bsp bl_ hb); clear BK263; clear BK264; clear BK271; clear HB; have HO278 := n0_; have BK263 := n1_; have BK264 := n2_; have BK271 := n3_; have HB := n4_; clear n0_ n1_ n2_ n3_ n4_; clear hb ho43))
      go_ret
      exact ⟨_, er_, by (with_reducible repeat (first | apply Kd.R_alloc | apply Kd.R_drewN | apply Kd.R_drew)); exact Kd.R_mono HO278.out (fun _ hk => trivial), bl_⟩
    rw [if_pos c8] at H
    have c8b0 : decide (0 < (l0_2.length : Int)) = true := decide_eq_true c8
    have c8b1 : decide (0 < l0_2.length) = true := decide_eq_true (by omega)
    clear c8
    by_cases c9 : 0 < (l0_2.length : Int)
    rotate_left
    · rw [if_neg c9] at H
      exact absurd H (by simp)
    rw [if_pos c9] at H
    have c9b0 : decide (0 < (l0_2.length : Int)) = true := decide_eq_true c9
    have c9b1 : decide (0 < l0_2.length) = true := decide_eq_true (by omega)
    clear c9
    obtain ⟨y273, hy273⟩ : ∃ y_ : List (S40), y_ = (([(⟨t268, (rd_T73 l0_2 0).f0, t270⟩ : S40)] : List (S40))) := ⟨_, rfl⟩
    replace H : (some y273) = some r := by first | (rw [hy273]; with_reducible exact H) | (have H2_ := (Option.bind_some _ _).symm.trans H; rw [hy273]; with_reducible exact H2_) | (have H2_ := (Option.bind_some _ _).symm.trans H; with_reducible exact H2_) | with_reducible exact H | (rw [hy273]; exact H) | exact H
    have Ny273 := Z0.mk hy273
    clear hy273
    obtain rfl := Option.some.inj H
    go_enter Tryz.func9, Tryz.ntmps9
    try go_wp2_with (first | ((with_reducible refine gds (N := 2) rfl ?_); refine bx_ (N := 2) (cs := #[.int .i64 a0_0, .int .i64 a0_1, .slice A0_2 l0_2.length c0_2]) (t := 24) ?_; intro gb263 hg w10 hbox hb; have n0_ := Z0.mk (bsp bl_ hb); have n1_ := Z0.mk (hbox); have n2_ := Z0.mk ((by rw [hg]; exact bsz bl_ : w.heap.size ≤ gb263)); have n3_ := Z0.mk ((by rw [hg]; exact bsz bl_ : w.heap.size ≤ gb263)); clear HB; have HB := n0_; have BK263 := n1_; have GW263 := n2_; have GE263 := n3_; clear n0_ n1_ n2_ n3_; clear hb hbox hg) | ((with_reducible refine gds (N := 3) rfl ?_); refine bx_ (N := 3) (cs := #[.int .i64 a1_0, .string a1_1, .string a1_2, .int .i64 a1_3]) (t := 38) ?_; intro gb264 hg w11 hbox hb; have n0_ := Z0.mk (kbl (g := gb263) (o := .cells #[.int .i64 a0_0, .int .i64 a0_1, .slice A0_2 l0_2.length c0_2] 24 (0, 0)) bk_ hb); have n1_ := Z0.mk (bsp bl_ hb); have n2_ := Z0.mk (hbox); have n3_ := Z0.mk ((by rw [hg]; exact bsz bl_ : w.heap.size ≤ gb264)); have n4_ := Z0.mk ((by rw [hg]; exact bsz bl_ : w.heap.size ≤ gb264)); have n5_ := Z0.mk ((by rw [hg]; exact Nat.ne_of_lt (klt_ (g := gb263) (o := .cells #[.int .i64 a0_0, .int .i64 a0_1, .slice A0_2 l0_2.length c0_2] 24 (0, 0)) bk_) : gb263 ≠ gb264)); have n6_ := Z0.mk ((by rw [hg]; exact Nat.ne_of_gt (klt_ (g := gb263) (o := .cells #[.int .i64 a0_0, .int .i64 a0_1, .slice A0_2 l0_2.length c0_2] 24 (0, 0)) bk_) : gb264 ≠ gb263)); clear BK263; clear HB; have BK263 := n0_; have HB := n1_; have BK264 := n2_; have GW264 := n3_; have GE264 := n4_; have NB263_264 := n5_; have NB264_263 := n6_; clear n0_ n1_ n2_ n3_ n4_ n5_ n6_; clear hb hbox hg))
    have n0_ := Z0.mk (kdw BK263.out)
    have n1_ := Z0.mk (kdw BK264.out)
    have n2_ := Z0.mk (bd1 HB.out)
    clear BK263
    clear BK264
    clear HB
    have BK263 := n0_
    have BK264 := n1_
    have HB := n2_
    clear n0_ n1_ n2_
    refine start_ (n := 6) (S := fun w' => w'.cell? ⟨gb263, 0, none⟩ = some (.int .i64 a0_0) ∧ w'.cell? ⟨gb263, 1, none⟩ = some (.int .i64 a0_1) ∧ w'.cell? ⟨gb263, 2, none⟩ = some (.slice A0_2 l0_2.length c0_2) ∧ w'.cell? ⟨gb264, 0, none⟩ = some (.int .i64 a1_0) ∧ w'.cell? ⟨gb264, 1, none⟩ = some (.string a1_1) ∧ w'.cell? ⟨gb264, 2, none⟩ = some (.string a1_2) ∧ w'.cell? ⟨gb264, 3, none⟩ = some (.int .i64 a1_3)) (ds := []) #[false,false,false,false,false,false] (by kernel_rfl) rfl rfl ⟨(kcl BK263.out 0).trans rfl, (kcl BK263.out 1).trans rfl, (kcl BK263.out 2).trans rfl, (kcl BK264.out 0).trans rfl, (kcl BK264.out 1).trans rfl, (kcl BK264.out 2).trans rfl, (kcl BK264.out 3).trans rfl⟩ (fun hHeld => ?_)
    generalize w11.drew = w12 at BK263 BK264 HB hHeld ⊢
    refine pure_ (i := 0) (N := some 9) (v := ?_) (a' := ?_) (bA 6 1) rfl rfl (by kernel_rfl) (fun _ _ _ h => h) (Or.inl ⟨by rfl, ?_⟩) ?_ ?_
    rotate_left; (intro w'; go_simp; with_reducible rfl); rotate_left; (simp only [Act.put, List.setIfInBounds_toArray, List.set_cons_zero, List.set_cons_succ, i64_w, i32_w]; rfl)
    refine pure_ (i := 2) (N := some 11) (v := ?_) (a' := ?_) (bA 6 5) rfl rfl (by kernel_rfl) (fun _ _ _ h => h) (Or.inl ⟨by rfl, ?_⟩) ?_ ?_
    rotate_left; (intro w'; go_simp; with_reducible rfl); rotate_left; (simp only [Act.put, List.setIfInBounds_toArray, List.set_cons_zero, List.set_cons_succ, i64_w, i32_w]; rfl)
    refine take_ (i := 1) (N := some 10) (v := ?_) (a' := ?_) (bA 6 7) rfl rfl (by kernel_rfl) (fun _ _ _ h => h) (Or.inl ⟨by rfl, ?_⟩) hHeld ?_ ?_
    rotate_left
    · rintro w' ⟨s0, s1, s2, s3, s4, s5, s6⟩
      go_simp
      with_reducible rfl
    rotate_left; (simp only [Act.put, List.setIfInBounds_toArray, List.set_cons_zero, List.set_cons_succ, i64_w, i32_w]; rfl)
    refine take_ (i := 3) (N := some 12) (v := ?_) (a' := ?_) (bA 6 15) rfl rfl (by kernel_rfl) (fun _ _ _ h => h) (Or.inl ⟨by rfl, ?_⟩) hHeld ?_ ?_
    rotate_left
    · rintro w' ⟨s0, s1, s2, s3, s4, s5, s6⟩
      go_simp
      with_reducible rfl
    rotate_left; (simp only [Act.put, List.setIfInBounds_toArray, List.set_cons_zero, List.set_cons_succ, i64_w, i32_w]; rfl)
    refine one_ (i := 4) (N := some 13) (bA 6 31) rfl rfl (by kernel_rfl) (by decide) (fun K hK => ?_)
    refine goes_ Tryz.func24 (by kernel_rfl) rfl #[.int .i64 a1_0] (by rfl) rfl rfl (by (try simp only [List.map_toArray, List.map_cons, List.map_nil]); first | done | rfl | (simp only [List.length_drop, List.length_take]; rfl) | (simp only [Act.eval, Array.getD_eq_getD_getElem?, Option.getD_some, *]; done) | (simp only [Array.mk.injEq, List.cons.injEq, Value.int.injEq, true_and, and_true]; first | omega | (simp [IntKind.wrap, IntKind.bits, IntKind.signed]; omega))) ?_
    with_reducible refine (method_Op_Kind.calls a1_0 t265 _ A3.out).mono ?_
    rintro e w13 ⟨rfl, hb⟩
    refine ⟨_, rfl, ?_⟩
    have n0_ := Z0.mk (kbl (g := gb263) (o := .cells #[.int .i64 a0_0, .int .i64 a0_1, .slice A0_2 l0_2.length c0_2] 24 (0, 0)) bk_ hb)
    have n1_ := Z0.mk (kbl (g := gb264) (o := .cells #[.int .i64 a1_0, .string a1_1, .string a1_2, .int .i64 a1_3] 38 (0, 0)) bk_ hb)
    have n2_ := Z0.mk (bsp bl_ hb)
    clear BK263
    clear BK264
    clear HB
    have BK263 := n0_
    have BK264 := n1_
    have HB := n2_
    clear n0_ n1_ n2_
    (try clear hb)
    (try clear hb2)
    (try clear hk)
    (try clear hi)
    refine hK.out _ _ ⟨(kcl BK263.out 0).trans rfl, (kcl BK263.out 1).trans rfl, (kcl BK263.out 2).trans rfl, (kcl BK264.out 0).trans rfl, (kcl BK264.out 1).trans rfl, (kcl BK264.out 2).trans rfl, (kcl BK264.out 3).trans rfl⟩ (fun hHeld => ?_)
    clear hK K
    refine norm_ (a' := ?_) ?_ ?_
    rotate_left
    · show Act.put _ (some 13) _ = _
      simp only [Act.put, List.setIfInBounds_toArray, List.set_cons_zero, List.set_cons_succ, i64_w, i32_w]
      rfl
    refine pure_ (i := 5) (N := some 14) (v := ?_) (a' := ?_) (bA 6 63) rfl rfl (by kernel_rfl) (fun _ _ _ h => h) (Or.inl ⟨by rfl, ?_⟩) ?_ ?_
    rotate_left; (intro w'; go_simp; with_reducible rfl); rotate_left; (simp only [Act.put, List.setIfInBounds_toArray, List.set_cons_zero, List.set_cons_succ, i64_w, i32_w]; rfl)
    refine done_ (by kernel_rfl) ?_
    have hnb14 := NB263_264.out
    have hnc14 := NB264_263.out
    have hcz15 := bc3 BK263.out
    have hcz16 := bc4 BK264.out
    try go_wp2_with (first | ((with_reducible refine gcl (f := 25) rfl ?_); refine gl_ (some 19) rfl rfl Tryz.func25 (by kernel_rfl) rfl #[.agg #[.int .i64 a0_0, .int .i64 a0_1, .slice A0_2 l0_2.length c0_2], .string a1_1] rfl ar_ ?_; (with_reducible refine (value_State_Find.calls k a0_0 a0_1 _ _ l0_2 a1_1 t266 t267 _ ?side1 ?side2 A5.out).mono ?_); (case side1 => repeat (first | exact (Kd.C_below HR0_2.out HB.out) | (with_reducible refine Kd.C_alloc ?_ _) | (with_reducible refine Kd.C_drewN ?_ _) | (with_reducible refine Kd.C_drew ?_))); (case side2 => exact HC0_2.out); rintro e w17 ⟨rfl, hb⟩; refine ⟨_, rfl, ?_⟩; have n0_ := Z0.mk (kbl (g := gb263) (o := .cells #[.int .i64 a0_0, .int .i64 a0_1, .slice A0_2 l0_2.length c0_2] 24 (0, 0)) bk_ hb); have n1_ := Z0.mk (kbl (g := gb264) (o := .cells #[.int .i64 a1_0, .string a1_1, .string a1_2, .int .i64 a1_3] 38 (0, 0)) bk_ hb); have n2_ := Z0.mk (bsp bl_ hb); clear BK263; clear BK264; clear HB; have BK263 := n0_; have BK264 := n1_; have HB := n2_; clear n0_ n1_ n2_; (try clear hb); (try clear hb2); (try clear hk); (try clear hi); have hcz18 := bc4 BK264.out) | ((with_reducible refine gcl (f := 26) rfl ?_); refine gl_ (some 26) rfl rfl Tryz.func26 (by kernel_rfl) rfl #[] rfl ar_ ?_; (with_reducible refine (adt_yes.calls  t268 t269 t270 _ A7.out).mono ?_); rintro e w19 ⟨rfl, hb⟩; refine ⟨_, rfl, ?_⟩; have n0_ := Z0.mk (kbl (g := gb263) (o := .cells #[.int .i64 a0_0, .int .i64 a0_1, .slice A0_2 l0_2.length c0_2] 24 (0, 0)) bk_ hb); have n1_ := Z0.mk (kbl (g := gb264) (o := .cells #[.int .i64 a1_0, .string a1_1, .string a1_2, .int .i64 a1_3] 38 (0, 0)) bk_ hb); have n2_ := Z0.mk (bsp bl_ hb); clear BK263; clear BK264; clear HB; have BK263 := n0_; have BK264 := n1_; have HB := n2_; clear n0_ n1_ n2_; (try clear hb); (try clear hb2); (try clear hk); (try clear hi)) | ((with_reducible refine gds (N := 7) rfl ?_); refine bx_ (N := 7) (cs := #[.int .i64 0, .string (⟨#[]⟩ : ByteArray), .int .i64 0]) (t := 40) ?_; intro gb271 hg w20 hbox hb; have n0_ := Z0.mk (kbl (g := gb263) (o := .cells #[.int .i64 a0_0, .int .i64 a0_1, .slice A0_2 l0_2.length c0_2] 24 (0, 0)) bk_ hb); have n1_ := Z0.mk (kbl (g := gb264) (o := .cells #[.int .i64 a1_0, .string a1_1, .string a1_2, .int .i64 a1_3] 38 (0, 0)) bk_ hb); have n2_ := Z0.mk (bsp bl_ hb); have n3_ := Z0.mk (hbox); have n4_ := Z0.mk ((by rw [hg]; exact bsz bl_ : w.heap.size ≤ gb271)); have n5_ := Z0.mk ((by rw [hg]; exact bsz bl_ : w.heap.size ≤ gb271)); have n6_ := Z0.mk ((by rw [hg]; exact Nat.ne_of_lt (klt_ (g := gb263) (o := .cells #[.int .i64 a0_0, .int .i64 a0_1, .slice A0_2 l0_2.length c0_2] 24 (0, 0)) bk_) : gb263 ≠ gb271)); have n7_ := Z0.mk ((by rw [hg]; exact Nat.ne_of_gt (klt_ (g := gb263) (o := .cells #[.int .i64 a0_0, .int .i64 a0_1, .slice A0_2 l0_2.length c0_2] 24 (0, 0)) bk_) : gb271 ≠ gb263)); have n8_ := Z0.mk ((by rw [hg]; exact Nat.ne_of_lt (klt_ (g := gb264) (o := .cells #[.int .i64 a1_0, .string a1_1, .string a1_2, .int .i64 a1_3] 38 (0, 0)) bk_) : gb264 ≠ gb271)); have n9_ := Z0.mk ((by rw [hg]; exact Nat.ne_of_gt (klt_ (g := gb264) (o := .cells #[.int .i64 a1_0, .string a1_1, .string a1_2, .int .i64 a1_3] 38 (0, 0)) bk_) : gb271 ≠ gb264)); clear BK263; clear BK264; clear HB; have BK263 := n0_; have BK264 := n1_; have HB := n2_; have BK271 := n3_; have GW271 := n4_; have GE271 := n5_; have NB263_271 := n6_; have NB271_263 := n7_; have NB264_271 := n8_; have NB271_264 := n9_; clear n0_ n1_ n2_ n3_ n4_ n5_ n6_ n7_ n8_ n9_; clear hb hbox hg; have hnb21 := NB271_263.out; have hnc21 := NB263_271.out; have hnb22 := NB271_264.out; have hnc22 := NB264_271.out; have hcz23 := bc3 BK271.out; have hcz24 := bc3 BK263.out; have p272 : 0 ≤ (0 : Int) := (by omega); have q272 : 0 < (l0_2.length : Int) := of_decide_eq_true (by first | (with_reducible assumption) | assumption); obtain ⟨ad272, e272, hx272_0, hx272_1⟩ := at_T73 HR0_2.out 0 p272 q272; cases e272; have qi272 : (0 < l0_2.length) = True := eq_true (by omega); (try rw [show ((0 : Int)).toNat = 0 from rfl] at hx272_0); (try rw [show 0 * 2 = 0 from rfl] at hx272_0); (try rw [Addr.add_zero'] at hx272_0); (try rw [show ((0 : Int)).toNat = 0 from rfl] at hx272_1); (try rw [show 0 * 2 = 0 from rfl] at hx272_1); (try rw [Addr.add_zero'] at hx272_1); have hn272_0 : ad272.block ≠ gb271 := Nat.ne_of_lt (Nat.lt_of_lt_of_le (by have := World.block_lt_of_cell? _ _ hx272_0; first | rwa [adb_] at this | exact this) GW271.out); have hn272_1 : ad272.block ≠ gb271 := Nat.ne_of_lt (Nat.lt_of_lt_of_le (by have := World.block_lt_of_cell? _ _ hx272_0; first | rwa [adb_] at this | exact this) GW271.out); have hn272_2 : ad272.block ≠ gb271 := Nat.ne_of_lt (Nat.lt_of_lt_of_le (by have := World.block_lt_of_cell? _ _ hx272_0; first | rwa [adb_] at this | exact this) GW271.out); replace hx272_0 := (HB.out.cell (World.block_lt_of_cell? w _ hx272_0)).trans hx272_0; replace hx272_1 := (HB.out.cell (World.block_lt_of_cell? w _ hx272_1)).trans hx272_1; replace hx272_0 := (cell_far (p := ⟨gb271, 0, none⟩) (by first | (rw [adb_]; exact hn272_0) | (show (Addr.add _ _).block ≠ _; rw [adb_]; exact hn272_0) | exact hn272_0) (.int .i64 t268)).trans hx272_0; replace hx272_1 := (cell_far (p := ⟨gb271, 0, none⟩) (by first | (rw [adb_]; exact hn272_0) | (show (Addr.add _ _).block ≠ _; rw [adb_]; exact hn272_0) | exact hn272_0) (.int .i64 t268)).trans hx272_1; replace hx272_0 := (cell_far (p := ⟨gb271, 1, none⟩) (by first | (rw [adb_]; exact hn272_1) | (show (Addr.add _ _).block ≠ _; rw [adb_]; exact hn272_1) | exact hn272_1) (.string t269)).trans hx272_0; replace hx272_1 := (cell_far (p := ⟨gb271, 1, none⟩) (by first | (rw [adb_]; exact hn272_1) | (show (Addr.add _ _).block ≠ _; rw [adb_]; exact hn272_1) | exact hn272_1) (.string t269)).trans hx272_1; replace hx272_0 := (cell_far (p := ⟨gb271, 2, none⟩) (by first | (rw [adb_]; exact hn272_2) | (show (Addr.add _ _).block ≠ _; rw [adb_]; exact hn272_2) | exact hn272_2) (.int .i64 t270)).trans hx272_0; replace hx272_1 := (cell_far (p := ⟨gb271, 2, none⟩) (by first | (rw [adb_]; exact hn272_2) | (show (Addr.add _ _).block ≠ _; rw [adb_]; exact hn272_2) | exact hn272_2) (.int .i64 t270)).trans hx272_1; clear hn272_0; clear hn272_1; clear hn272_2; replace p272 := eq_true p272; replace q272 := eq_true q272; have hq0_ := kpt BK271.out 0 (.int .i64 t268) (cs' := #[.int .i64 t268, .string (⟨#[]⟩ : ByteArray), .int .i64 0]) rfl; have hq1_ := kpt hq0_ 1 (.string t269) (cs' := #[.int .i64 t268, .string t269, .int .i64 0]) rfl; have hq2_ := kpt hq1_ 2 (.int .i64 t270) (cs' := #[.int .i64 t268, .string t269, .int .i64 t270]) rfl; have hq3_ := kpt hq2_ 1 (.string (rd_T73 l0_2 0).f0) (cs' := #[.int .i64 t268, .string (rd_T73 l0_2 0).f0, .int .i64 t270]) rfl; have hx_q0 := (kcl hq3_ 0).trans rfl; have hx_q1 := (kcl hq3_ 1).trans rfl; have hx_q2 := (kcl hq3_ 2).trans rfl; clear hq0_ hq1_ hq2_ hq3_) | ((with_reducible refine gds (N := 38) rfl ?_); refine Kd.R_lit k40 _ 40 ?hg (N := 38) ?hd (xs := ([(⟨t268, (rd_T73 l0_2 0).f0, t270⟩ : S40)] : List (S40))) (inner := [.int .i64 t268, .string ((rd_T73 l0_2 0).f0), .int .i64 t270]) (ok := fun _ => True) (okp := fun _ => True) ?hr ?hp (fun _ hk => hk) trivial (Below.refl _ _) (Nat.le_refl _) (by simp) ?_; (case hd => rfl); (case hg => rfl); (case hr => first | (go_simp; done) | (go_simp; rfl)); (case hp => exact (Reps.c3 (show Kd.M k40 _ _ _ (⟨t268, (rd_T73 l0_2 0).f0, t270⟩ : S40) [.int .i64 t268, .string ((rd_T73 l0_2 0).f0), .int .i64 t270] from (k40_mkM _ _ _ (⟨t268, (rd_T73 l0_2 0).f0, t270⟩ : S40) )) (Reps.none _ _))); intro v274 w25 ho26 hb hg_ hnew_; clear hg_ hnew_; (first | rw [← Ny273.out] at ho26 | (simp only [Int.reduceToNat] at ho26; rw [← Ny273.out] at ho26)); have n0_ := Z0.mk (Kd.R_lower (Kd.R_newB ho26 (g := gb271) (o := .cells #[.int .i64 t268, .string ((rd_T73 l0_2 0).f0), .int .i64 t270] 40 (0, 0)) bk_) (bsz bl_)); have n1_ := Z0.mk (kbl (g := gb263) (o := .cells #[.int .i64 a0_0, .int .i64 a0_1, .slice (some ad272) l0_2.length c0_2] 24 (0, 0)) bk_ hb); have n2_ := Z0.mk (kbl (g := gb264) (o := .cells #[.int .i64 a1_0, .string a1_1, .string a1_2, .int .i64 a1_3] 38 (0, 0)) bk_ hb); have n3_ := Z0.mk (kbl (g := gb271) (o := .cells #[.int .i64 t268, .string ((rd_T73 l0_2 0).f0), .int .i64 t270] 40 (0, 0)) bk_ hb); have n4_ := Z0.mk (bsp bl_ hb); clear BK263; clear BK264; clear BK271; clear HB; have HO275 := n0_; have BK263 := n1_; have BK264 := n2_; have BK271 := n3_; have HB := n4_; clear n0_ n1_ n2_ n3_ n4_; clear hb ho26))
    go_ret
    exact ⟨_, er_, by (with_reducible repeat (first | apply Kd.R_alloc | apply Kd.R_drewN | apply Kd.R_drew)); exact Kd.R_mono HO275.out (fun _ hk => trivial), bl_⟩
  rw [if_neg c6] at H
  have c6b0 : (a1_0 == 1) = false := beq_eq_false_iff_ne.mpr c6
  have c6b1 : (a1_0 != 1) = true := bne_iff_ne.mpr c6
  have HC44 := Z0.mk H
  clear H
  go_enter Tryz.func9, Tryz.ntmps9
  try go_wp2_with (first | ((with_reducible refine gds (N := 2) rfl ?_); refine bx_ (N := 2) (cs := #[.int .i64 a0_0, .int .i64 a0_1, .slice A0_2 l0_2.length c0_2]) (t := 24) ?_; intro gb263 hg w45 hbox hb; have n0_ := Z0.mk (bsp bl_ hb); have n1_ := Z0.mk (hbox); have n2_ := Z0.mk ((by rw [hg]; exact bsz bl_ : w.heap.size ≤ gb263)); have n3_ := Z0.mk ((by rw [hg]; exact bsz bl_ : w.heap.size ≤ gb263)); clear HB; have HB := n0_; have BK263 := n1_; have GW263 := n2_; have GE263 := n3_; clear n0_ n1_ n2_ n3_; clear hb hbox hg) | ((with_reducible refine gds (N := 3) rfl ?_); refine bx_ (N := 3) (cs := #[.int .i64 a1_0, .string a1_1, .string a1_2, .int .i64 a1_3]) (t := 38) ?_; intro gb264 hg w46 hbox hb; have n0_ := Z0.mk (kbl (g := gb263) (o := .cells #[.int .i64 a0_0, .int .i64 a0_1, .slice A0_2 l0_2.length c0_2] 24 (0, 0)) bk_ hb); have n1_ := Z0.mk (bsp bl_ hb); have n2_ := Z0.mk (hbox); have n3_ := Z0.mk ((by rw [hg]; exact bsz bl_ : w.heap.size ≤ gb264)); have n4_ := Z0.mk ((by rw [hg]; exact bsz bl_ : w.heap.size ≤ gb264)); have n5_ := Z0.mk ((by rw [hg]; exact Nat.ne_of_lt (klt_ (g := gb263) (o := .cells #[.int .i64 a0_0, .int .i64 a0_1, .slice A0_2 l0_2.length c0_2] 24 (0, 0)) bk_) : gb263 ≠ gb264)); have n6_ := Z0.mk ((by rw [hg]; exact Nat.ne_of_gt (klt_ (g := gb263) (o := .cells #[.int .i64 a0_0, .int .i64 a0_1, .slice A0_2 l0_2.length c0_2] 24 (0, 0)) bk_) : gb264 ≠ gb263)); clear BK263; clear HB; have BK263 := n0_; have HB := n1_; have BK264 := n2_; have GW264 := n3_; have GE264 := n4_; have NB263_264 := n5_; have NB264_263 := n6_; clear n0_ n1_ n2_ n3_ n4_ n5_ n6_; clear hb hbox hg))
  have n0_ := Z0.mk (kdw BK263.out)
  have n1_ := Z0.mk (kdw BK264.out)
  have n2_ := Z0.mk (bd1 HB.out)
  clear BK263
  clear BK264
  clear HB
  have BK263 := n0_
  have BK264 := n1_
  have HB := n2_
  clear n0_ n1_ n2_
  refine start_ (n := 6) (S := fun w' => w'.cell? ⟨gb263, 0, none⟩ = some (.int .i64 a0_0) ∧ w'.cell? ⟨gb263, 1, none⟩ = some (.int .i64 a0_1) ∧ w'.cell? ⟨gb263, 2, none⟩ = some (.slice A0_2 l0_2.length c0_2) ∧ w'.cell? ⟨gb264, 0, none⟩ = some (.int .i64 a1_0) ∧ w'.cell? ⟨gb264, 1, none⟩ = some (.string a1_1) ∧ w'.cell? ⟨gb264, 2, none⟩ = some (.string a1_2) ∧ w'.cell? ⟨gb264, 3, none⟩ = some (.int .i64 a1_3)) (ds := []) #[false,false,false,false,false,false] (by kernel_rfl) rfl rfl ⟨(kcl BK263.out 0).trans rfl, (kcl BK263.out 1).trans rfl, (kcl BK263.out 2).trans rfl, (kcl BK264.out 0).trans rfl, (kcl BK264.out 1).trans rfl, (kcl BK264.out 2).trans rfl, (kcl BK264.out 3).trans rfl⟩ (fun hHeld => ?_)
  generalize w46.drew = w47 at BK263 BK264 HB hHeld ⊢
  refine pure_ (i := 0) (N := some 9) (v := ?_) (a' := ?_) (bA 6 1) rfl rfl (by kernel_rfl) (fun _ _ _ h => h) (Or.inl ⟨by rfl, ?_⟩) ?_ ?_
  rotate_left; (intro w'; go_simp; with_reducible rfl); rotate_left; (simp only [Act.put, List.setIfInBounds_toArray, List.set_cons_zero, List.set_cons_succ, i64_w, i32_w]; rfl)
  refine pure_ (i := 2) (N := some 11) (v := ?_) (a' := ?_) (bA 6 5) rfl rfl (by kernel_rfl) (fun _ _ _ h => h) (Or.inl ⟨by rfl, ?_⟩) ?_ ?_
  rotate_left; (intro w'; go_simp; with_reducible rfl); rotate_left; (simp only [Act.put, List.setIfInBounds_toArray, List.set_cons_zero, List.set_cons_succ, i64_w, i32_w]; rfl)
  refine take_ (i := 1) (N := some 10) (v := ?_) (a' := ?_) (bA 6 7) rfl rfl (by kernel_rfl) (fun _ _ _ h => h) (Or.inl ⟨by rfl, ?_⟩) hHeld ?_ ?_
  rotate_left
  · rintro w' ⟨s0, s1, s2, s3, s4, s5, s6⟩
    go_simp
    with_reducible rfl
  rotate_left; (simp only [Act.put, List.setIfInBounds_toArray, List.set_cons_zero, List.set_cons_succ, i64_w, i32_w]; rfl)
  refine take_ (i := 3) (N := some 12) (v := ?_) (a' := ?_) (bA 6 15) rfl rfl (by kernel_rfl) (fun _ _ _ h => h) (Or.inl ⟨by rfl, ?_⟩) hHeld ?_ ?_
  rotate_left
  · rintro w' ⟨s0, s1, s2, s3, s4, s5, s6⟩
    go_simp
    with_reducible rfl
  rotate_left; (simp only [Act.put, List.setIfInBounds_toArray, List.set_cons_zero, List.set_cons_succ, i64_w, i32_w]; rfl)
  refine one_ (i := 4) (N := some 13) (bA 6 31) rfl rfl (by kernel_rfl) (by decide) (fun K hK => ?_)
  refine goes_ Tryz.func24 (by kernel_rfl) rfl #[.int .i64 a1_0] (by rfl) rfl rfl (by (try simp only [List.map_toArray, List.map_cons, List.map_nil]); first | done | rfl | (simp only [List.length_drop, List.length_take]; rfl) | (simp only [Act.eval, Array.getD_eq_getD_getElem?, Option.getD_some, *]; done) | (simp only [Array.mk.injEq, List.cons.injEq, Value.int.injEq, true_and, and_true]; first | omega | (simp [IntKind.wrap, IntKind.bits, IntKind.signed]; omega))) ?_
  with_reducible refine (method_Op_Kind.calls a1_0 t265 _ A3.out).mono ?_
  rintro e w48 ⟨rfl, hb⟩
  refine ⟨_, rfl, ?_⟩
  have n0_ := Z0.mk (kbl (g := gb263) (o := .cells #[.int .i64 a0_0, .int .i64 a0_1, .slice A0_2 l0_2.length c0_2] 24 (0, 0)) bk_ hb)
  have n1_ := Z0.mk (kbl (g := gb264) (o := .cells #[.int .i64 a1_0, .string a1_1, .string a1_2, .int .i64 a1_3] 38 (0, 0)) bk_ hb)
  have n2_ := Z0.mk (bsp bl_ hb)
  clear BK263
  clear BK264
  clear HB
  have BK263 := n0_
  have BK264 := n1_
  have HB := n2_
  clear n0_ n1_ n2_
  (try clear hb)
  (try clear hb2)
  (try clear hk)
  (try clear hi)
  refine hK.out _ _ ⟨(kcl BK263.out 0).trans rfl, (kcl BK263.out 1).trans rfl, (kcl BK263.out 2).trans rfl, (kcl BK264.out 0).trans rfl, (kcl BK264.out 1).trans rfl, (kcl BK264.out 2).trans rfl, (kcl BK264.out 3).trans rfl⟩ (fun hHeld => ?_)
  clear hK K
  refine norm_ (a' := ?_) ?_ ?_
  rotate_left
  · show Act.put _ (some 13) _ = _
    simp only [Act.put, List.setIfInBounds_toArray, List.set_cons_zero, List.set_cons_succ, i64_w, i32_w]
    rfl
  refine pure_ (i := 5) (N := some 14) (v := ?_) (a' := ?_) (bA 6 63) rfl rfl (by kernel_rfl) (fun _ _ _ h => h) (Or.inl ⟨by rfl, ?_⟩) ?_ ?_
  rotate_left; (intro w'; go_simp; with_reducible rfl); rotate_left; (simp only [Act.put, List.setIfInBounds_toArray, List.set_cons_zero, List.set_cons_succ, i64_w, i32_w]; rfl)
  refine done_ (by kernel_rfl) ?_
  have hnb49 := NB263_264.out
  have hnc49 := NB264_263.out
  have hcz50 := bc3 BK263.out
  have hcz51 := bc4 BK264.out
  go_upto_if 39 with (first | ((with_reducible refine gcl (f := 25) rfl ?_); refine gl_ (some 19) rfl rfl Tryz.func25 (by kernel_rfl) rfl #[.agg #[.int .i64 a0_0, .int .i64 a0_1, .slice A0_2 l0_2.length c0_2], .string a1_1] rfl ar_ ?_; (with_reducible refine (value_State_Find.calls k a0_0 a0_1 _ _ l0_2 a1_1 t266 t267 _ ?side1 ?side2 A5.out).mono ?_); (case side1 => repeat (first | exact (Kd.C_below HR0_2.out HB.out) | (with_reducible refine Kd.C_alloc ?_ _) | (with_reducible refine Kd.C_drewN ?_ _) | (with_reducible refine Kd.C_drew ?_))); (case side2 => exact HC0_2.out); rintro e w52 ⟨rfl, hb⟩; refine ⟨_, rfl, ?_⟩; have n0_ := Z0.mk (kbl (g := gb263) (o := .cells #[.int .i64 a0_0, .int .i64 a0_1, .slice A0_2 l0_2.length c0_2] 24 (0, 0)) bk_ hb); have n1_ := Z0.mk (kbl (g := gb264) (o := .cells #[.int .i64 a1_0, .string a1_1, .string a1_2, .int .i64 a1_3] 38 (0, 0)) bk_ hb); have n2_ := Z0.mk (bsp bl_ hb); clear BK263; clear BK264; clear HB; have BK263 := n0_; have BK264 := n1_; have HB := n2_; clear n0_ n1_ n2_; (try clear hb); (try clear hb2); (try clear hk); (try clear hi); have hcz53 := bc4 BK264.out))
  (try simp only [Act.put, List.setIfInBounds_toArray, List.set_cons_zero, List.set_cons_succ])
  go_cut [39] (fun v39 wc => ∃ (kq : Nat) (x39_43 : Bool), v39 = .bool x39_43 ∧ Z0 (adt_Answers.j0 kq t266 t267 a1_0 x39_43 a0_0 a0_1 l0_2 a1_0 a1_1 a1_2 a1_3 = some r) ∧ Z0 (kq ≤ k) ∧ Z0 (wc.heap[gb263]? = some (.cells #[.int .i64 a0_0, .int .i64 a0_1, (.slice A0_2 l0_2.length c0_2)] 24 (0, 0))) ∧ Z0 (wc.heap[gb264]? = some (.cells #[.int .i64 a1_0, .string a1_1, .string a1_2, .int .i64 a1_3] 38 (0, 0))) ∧ Z0 (Below w.heap.size w wc))
  case first =>
    have H := HC44.out
    clear HC44
    by_cases c54 : a1_0 = 4
    rotate_left
    · rw [if_neg c54] at H
      have c54b0 : (a1_0 == 4) = false := beq_eq_false_iff_ne.mpr c54
      have c54b1 : (a1_0 != 4) = true := bne_iff_ne.mpr c54
      (first | rw [c54b0] | (simp only [i64_w, i32_w]; rw [c54b0]) | skip)
      have H' := Z0.mk H
      clear H
      go_wp2
      go_meet
      case rel => exact ⟨_, ((a1_0 == 7)), eqv_, H', ⟨by first | omega | exact Nat.le_refl _⟩, ⟨bk_⟩, ⟨bk_⟩, ⟨bl_⟩⟩
    rw [if_pos c54] at H
    have c54b0 : (a1_0 == 4) = true := beq_iff_eq.mpr c54
    have c54b1 : (a1_0 != 4) = false := bne_eq_false_iff_eq.mpr c54
    clear c54
    (first | rw [c54b0] | (simp only [i64_w, i32_w]; rw [c54b0]) | skip)
    have H' := Z0.mk H
    clear H
    go_wp2
    go_meet
    case rel => exact ⟨_, ((a1_0 == 4)), eqv_, H', ⟨by first | omega | exact Nat.le_refl _⟩, ⟨bk_⟩, ⟨bk_⟩, ⟨bl_⟩⟩
  clear HC44
  try clear c1
  try clear c2
  try clear p2
  try clear q2
  try clear hx2
  try clear qi2
  try clear c3
  try clear c4
  try clear c4b0
  try clear c4b1
  try clear c5
  try clear c6
  try clear c6b0
  try clear c6b1
  try clear c8
  try clear c8b0
  try clear c8b1
  try clear c9
  try clear c9b0
  try clear c9b1
  try clear c14
  try clear c21
  try clear c22
  try clear c24
  try clear c25
  try clear c26
  try clear p27
  try clear q27
  try clear hx27
  try clear qi27
  try clear c31
  try clear c38
  try clear c39
  try clear c49
  try clear c54
  try clear c54b0
  try clear c54b1
  try clear hcz15
  try clear hcz16
  try clear hcz18
  try clear hcz23
  try clear hcz24
  try clear hcz32
  try clear hcz33
  try clear hcz35
  try clear hcz40
  try clear hcz41
  try clear hcz50
  try clear hcz51
  try clear hcz53
  try clear hcz15
  try clear hcz16
  try clear hcz18
  try clear hcz23
  try clear hcz24
  try clear hcz32
  try clear hcz33
  try clear hcz35
  try clear hcz40
  try clear hcz41
  try clear hcz50
  try clear hcz51
  try clear hcz53
  try clear hx272_0
  try clear hx272_1
  try clear p272
  try clear q272
  obtain ⟨kq, x39_43, rfl, HA, HJ43, BK263, BK264, HB⟩ := hcut
  cases kq with
  | zero => exact absurd HA.out (by simp [adt_Answers.j0])
  | succ kj43 =>
    have H := HA.out
    clear HA
    simp only [adt_Answers.j0] at H
    by_cases c55 : x39_43 = true
    · subst c55
      have H1 : (some (([(⟨1, (⟨#[]⟩ : ByteArray), a0_1⟩ : S40)] : List (S40)))) = some r := by rw [if_pos rfl] at H; exact H
      clear H
      have H := H1
      clear H1
      obtain ⟨y279, hy279⟩ : ∃ y_ : List (S40), y_ = (([(⟨1, (⟨#[]⟩ : ByteArray), a0_1⟩ : S40)] : List (S40))) := ⟨_, rfl⟩
      replace H : (some y279) = some r := by first | (rw [hy279]; with_reducible exact H) | (have H2_ := (Option.bind_some _ _).symm.trans H; rw [hy279]; with_reducible exact H2_) | (have H2_ := (Option.bind_some _ _).symm.trans H; with_reducible exact H2_) | with_reducible exact H | (rw [hy279]; exact H) | exact H
      have Ny279 := Z0.mk hy279
      clear hy279
      obtain rfl := Option.some.inj H
      have hnb56 := NB263_264.out
      have hnc56 := NB264_263.out
      have hcz57 := bc3 BK263.out
      go_wp2_with (first | ((with_reducible refine gds (N := 45) rfl ?_); refine Kd.R_lit k40 _ 40 ?hg (N := 45) ?hd (xs := ([(⟨1, (⟨#[]⟩ : ByteArray), a0_1⟩ : S40)] : List (S40))) (inner := [.int .i64 1, .string (⟨#[]⟩ : ByteArray), .int .i64 a0_1]) (ok := fun _ => True) (okp := fun _ => True) ?hr ?hp (fun _ hk => hk) trivial (Below.refl _ _) (Nat.le_refl _) (by simp) ?_; (case hd => rfl); (case hg => rfl); (case hr => first | (go_simp; done) | (go_simp; rfl)); (case hp => exact (Reps.c3 (show Kd.M k40 _ _ _ (⟨1, (⟨#[]⟩ : ByteArray), a0_1⟩ : S40) [.int .i64 1, .string (⟨#[]⟩ : ByteArray), .int .i64 a0_1] from (k40_mkM _ _ _ (⟨1, (⟨#[]⟩ : ByteArray), a0_1⟩ : S40) )) (Reps.none _ _))); intro v280 w58 ho59 hb hg_ hnew_; clear hg_ hnew_; (first | rw [← Ny279.out] at ho59 | (simp only [Int.reduceToNat] at ho59; rw [← Ny279.out] at ho59)); have n0_ := Z0.mk (Kd.R_lower ho59 (bsz bl_)); have n1_ := Z0.mk (kbl (g := gb263) (o := .cells #[.int .i64 a0_0, .int .i64 a0_1, .slice A0_2 l0_2.length c0_2] 24 (0, 0)) bk_ hb); have n2_ := Z0.mk (kbl (g := gb264) (o := .cells #[.int .i64 a1_0, .string a1_1, .string a1_2, .int .i64 a1_3] 38 (0, 0)) bk_ hb); have n3_ := Z0.mk (bsp bl_ hb); clear BK263; clear BK264; clear HB; have HO281 := n0_; have BK263 := n1_; have BK264 := n2_; have HB := n3_; clear n0_ n1_ n2_ n3_; clear hb ho59))
      go_ret
      exact ⟨_, er_, by (with_reducible repeat (first | apply Kd.R_alloc | apply Kd.R_drewN | apply Kd.R_drew)); exact HO281.out, bl_⟩
    replace c55 := Bool.eq_false_iff.mpr c55
    subst c55
    have H1 : (if a1_0 = 6 then ((adt_code.f (decide (a0_1 ≥ a1_3))).bind fun bt282 => (some (([(⟨bt282.1, bt282.2.1, bt282.2.2⟩ : S40)] : List (S40))))) else (if a1_0 = 8 then (adt_Answers.j1 kj43 t266 t267 a1_0 (a1_0 == 8) a0_0 a0_1 l0_2 a1_0 a1_1 a1_2 a1_3) else (adt_Answers.j1 kj43 t266 t267 a1_0 (a1_0 == 11) a0_0 a0_1 l0_2 a1_0 a1_1 a1_2 a1_3))) = some r := by rw [if_neg (show ¬ (false = true) by decide)] at H; exact H
    clear H
    have H := H1
    clear H1
    by_cases c60 : a1_0 = 6
    · rw [if_pos c60] at H
      have c60b0 : (a1_0 == 6) = true := beq_iff_eq.mpr c60
      have c60b1 : (a1_0 != 6) = false := bne_eq_false_iff_eq.mpr c60
      clear c60
      replace H := Option.bind_eq_some_iff.mp H
      obtain ⟨⟨t282, t283, t284⟩, A610, H⟩ := H
      replace H : (some (([(⟨t282, t283, t284⟩ : S40)] : List (S40)))) = some r := H
      have A61 := Z0.mk A610
      clear A610
      obtain ⟨y285, hy285⟩ : ∃ y_ : List (S40), y_ = (([(⟨t282, t283, t284⟩ : S40)] : List (S40))) := ⟨_, rfl⟩
      replace H : (some y285) = some r := by first | (rw [hy285]; with_reducible exact H) | (have H2_ := (Option.bind_some _ _).symm.trans H; rw [hy285]; with_reducible exact H2_) | (have H2_ := (Option.bind_some _ _).symm.trans H; with_reducible exact H2_) | with_reducible exact H | (rw [hy285]; exact H) | exact H
      have Ny285 := Z0.mk hy285
      clear hy285
      obtain rfl := Option.some.inj H
      have hnb62 := NB263_264.out
      have hnc62 := NB264_263.out
      have hcz63 := bc3 BK263.out
      have hcz64 := bc4 BK264.out
      go_wp2_with (first | ((with_reducible refine gcl (f := 27) rfl ?_); refine gl_ (some 53) rfl rfl Tryz.func27 (by kernel_rfl) rfl #[.bool (decide (a0_1 ≥ a1_3))] rfl ar_ ?_; (with_reducible refine (adt_code.calls (decide (a0_1 ≥ a1_3)) t282 t283 t284 _ A61.out).mono ?_); rintro e w65 ⟨rfl, hb⟩; refine ⟨_, rfl, ?_⟩; have n0_ := Z0.mk (kbl (g := gb263) (o := .cells #[.int .i64 a0_0, .int .i64 a0_1, .slice A0_2 l0_2.length c0_2] 24 (0, 0)) bk_ hb); have n1_ := Z0.mk (kbl (g := gb264) (o := .cells #[.int .i64 a1_0, .string a1_1, .string a1_2, .int .i64 a1_3] 38 (0, 0)) bk_ hb); have n2_ := Z0.mk (bsp bl_ hb); clear BK263; clear BK264; clear HB; have BK263 := n0_; have BK264 := n1_; have HB := n2_; clear n0_ n1_ n2_; (try clear hb); (try clear hb2); (try clear hk); (try clear hi)) | ((with_reducible refine gds (N := 54) rfl ?_); refine Kd.R_lit k40 _ 40 ?hg (N := 54) ?hd (xs := ([(⟨t282, t283, t284⟩ : S40)] : List (S40))) (inner := [.int .i64 t282, .string t283, .int .i64 t284]) (ok := fun _ => True) (okp := fun _ => True) ?hr ?hp (fun _ hk => hk) trivial (Below.refl _ _) (Nat.le_refl _) (by simp) ?_; (case hd => rfl); (case hg => rfl); (case hr => first | (go_simp; done) | (go_simp; rfl)); (case hp => exact (Reps.c3 (show Kd.M k40 _ _ _ (⟨t282, t283, t284⟩ : S40) [.int .i64 t282, .string t283, .int .i64 t284] from (k40_mkM _ _ _ (⟨t282, t283, t284⟩ : S40) )) (Reps.none _ _))); intro v286 w66 ho67 hb hg_ hnew_; clear hg_ hnew_; (first | rw [← Ny285.out] at ho67 | (simp only [Int.reduceToNat] at ho67; rw [← Ny285.out] at ho67)); have n0_ := Z0.mk (Kd.R_lower ho67 (bsz bl_)); have n1_ := Z0.mk (kbl (g := gb263) (o := .cells #[.int .i64 a0_0, .int .i64 a0_1, .slice A0_2 l0_2.length c0_2] 24 (0, 0)) bk_ hb); have n2_ := Z0.mk (kbl (g := gb264) (o := .cells #[.int .i64 a1_0, .string a1_1, .string a1_2, .int .i64 a1_3] 38 (0, 0)) bk_ hb); have n3_ := Z0.mk (bsp bl_ hb); clear BK263; clear BK264; clear HB; have HO287 := n0_; have BK263 := n1_; have BK264 := n2_; have HB := n3_; clear n0_ n1_ n2_ n3_; clear hb ho67))
      go_ret
      exact ⟨_, er_, by (with_reducible repeat (first | apply Kd.R_alloc | apply Kd.R_drewN | apply Kd.R_drew)); exact HO287.out, bl_⟩
    rw [if_neg c60] at H
    have c60b0 : (a1_0 == 6) = false := beq_eq_false_iff_ne.mpr c60
    have c60b1 : (a1_0 != 6) = true := bne_iff_ne.mpr c60
    have HC68 := Z0.mk H
    clear H
    go_upto_if 55 with (fail)
    go_cut [55] (fun v55 wc => ∃ (kq : Nat) (x55_67 : Bool), v55 = .bool x55_67 ∧ Z0 (adt_Answers.j1 kq t266 t267 a1_0 x55_67 a0_0 a0_1 l0_2 a1_0 a1_1 a1_2 a1_3 = some r) ∧ Z0 (kq ≤ kj43) ∧ Z0 (wc.heap[gb263]? = some (.cells #[.int .i64 a0_0, .int .i64 a0_1, (.slice A0_2 l0_2.length c0_2)] 24 (0, 0))) ∧ Z0 (wc.heap[gb264]? = some (.cells #[.int .i64 a1_0, .string a1_1, .string a1_2, .int .i64 a1_3] 38 (0, 0))) ∧ Z0 (Below w.heap.size w wc))
    case first =>
      have H := HC68.out
      clear HC68
      by_cases c69 : a1_0 = 8
      rotate_left
      · rw [if_neg c69] at H
        have c69b0 : (a1_0 == 8) = false := beq_eq_false_iff_ne.mpr c69
        have c69b1 : (a1_0 != 8) = true := bne_iff_ne.mpr c69
        (first | rw [c69b0] | (simp only [i64_w, i32_w]; rw [c69b0]) | skip)
        have H' := Z0.mk H
        clear H
        go_wp2
        go_meet
        case rel => exact ⟨_, ((a1_0 == 11)), eqv_, H', ⟨by have := HJ43.out; first | omega | exact Nat.le_refl _⟩, ⟨bk_⟩, ⟨bk_⟩, ⟨bl_⟩⟩
      rw [if_pos c69] at H
      have c69b0 : (a1_0 == 8) = true := beq_iff_eq.mpr c69
      have c69b1 : (a1_0 != 8) = false := bne_eq_false_iff_eq.mpr c69
      clear c69
      (first | rw [c69b0] | (simp only [i64_w, i32_w]; rw [c69b0]) | skip)
      have H' := Z0.mk H
      clear H
      go_wp2
      go_meet
      case rel => exact ⟨_, ((a1_0 == 8)), eqv_, H', ⟨by have := HJ43.out; first | omega | exact Nat.le_refl _⟩, ⟨bk_⟩, ⟨bk_⟩, ⟨bl_⟩⟩
    clear HC68
    try clear c1
    try clear c2
    try clear p2
    try clear q2
    try clear hx2
    try clear qi2
    try clear c3
    try clear c4
    try clear c4b0
    try clear c4b1
    try clear c5
    try clear c6
    try clear c6b0
    try clear c6b1
    try clear c8
    try clear c8b0
    try clear c8b1
    try clear c9
    try clear c9b0
    try clear c9b1
    try clear c14
    try clear c21
    try clear c22
    try clear c24
    try clear c25
    try clear c26
    try clear c27
    try clear p27
    try clear q27
    try clear hx27
    try clear qi27
    try clear c31
    try clear c38
    try clear c39
    try clear c49
    try clear c54
    try clear c54b0
    try clear c54b1
    try clear c55
    try clear c56
    try clear c60
    try clear c60b0
    try clear c60b1
    try clear c62
    try clear c69
    try clear c69b0
    try clear c69b1
    try clear hcz15
    try clear hcz16
    try clear hcz18
    try clear hcz23
    try clear hcz24
    try clear hcz32
    try clear hcz33
    try clear hcz35
    try clear hcz40
    try clear hcz41
    try clear hcz50
    try clear hcz51
    try clear hcz53
    try clear hcz57
    try clear hcz63
    try clear hcz64
    try clear hcz15
    try clear hcz16
    try clear hcz18
    try clear hcz23
    try clear hcz24
    try clear hcz32
    try clear hcz33
    try clear hcz35
    try clear hcz40
    try clear hcz41
    try clear hcz50
    try clear hcz51
    try clear hcz53
    try clear hcz57
    try clear hcz63
    try clear hcz64
    try clear hx272_0
    try clear hx272_1
    try clear p2
    try clear p27
    try clear p272
    try clear q2
    try clear q27
    try clear q272
    obtain ⟨kq, x55_67, rfl, HA, HJ67, BK263, BK264, HB⟩ := hcut
    cases kq with
    | zero => exact absurd HA.out (by simp [adt_Answers.j1])
    | succ kj67 =>
      have H := HA.out
      clear HA
      simp only [adt_Answers.j1] at H
      by_cases c70 : x55_67 = true
      · subst c70
        have H1 : ((adt_code.f (!t267)).bind fun bt288 => (some (([(⟨bt288.1, bt288.2.1, bt288.2.2⟩ : S40)] : List (S40))))) = some r := by rw [if_pos rfl] at H; exact H
        clear H
        have H := H1
        clear H1
        replace H := Option.bind_eq_some_iff.mp H
        obtain ⟨⟨t288, t289, t290⟩, A710, H⟩ := H
        replace H : (some (([(⟨t288, t289, t290⟩ : S40)] : List (S40)))) = some r := H
        have A71 := Z0.mk A710
        clear A710
        obtain ⟨y291, hy291⟩ : ∃ y_ : List (S40), y_ = (([(⟨t288, t289, t290⟩ : S40)] : List (S40))) := ⟨_, rfl⟩
        replace H : (some y291) = some r := by first | (rw [hy291]; with_reducible exact H) | (have H2_ := (Option.bind_some _ _).symm.trans H; rw [hy291]; with_reducible exact H2_) | (have H2_ := (Option.bind_some _ _).symm.trans H; with_reducible exact H2_) | with_reducible exact H | (rw [hy291]; exact H) | exact H
        have Ny291 := Z0.mk hy291
        clear hy291
        obtain rfl := Option.some.inj H
        go_wp2_with (first | ((with_reducible refine gcl (f := 27) rfl ?_); refine gl_ (some 60) rfl rfl Tryz.func27 (by kernel_rfl) rfl #[.bool (!t267)] rfl ar_ ?_; (with_reducible refine (adt_code.calls (!t267) t288 t289 t290 _ A71.out).mono ?_); rintro e w72 ⟨rfl, hb⟩; refine ⟨_, rfl, ?_⟩; have n0_ := Z0.mk (kbl (g := gb263) (o := .cells #[.int .i64 a0_0, .int .i64 a0_1, .slice A0_2 l0_2.length c0_2] 24 (0, 0)) bk_ hb); have n1_ := Z0.mk (kbl (g := gb264) (o := .cells #[.int .i64 a1_0, .string a1_1, .string a1_2, .int .i64 a1_3] 38 (0, 0)) bk_ hb); have n2_ := Z0.mk (bsp bl_ hb); clear BK263; clear BK264; clear HB; have BK263 := n0_; have BK264 := n1_; have HB := n2_; clear n0_ n1_ n2_; (try clear hb); (try clear hb2); (try clear hk); (try clear hi)) | ((with_reducible refine gds (N := 61) rfl ?_); refine Kd.R_lit k40 _ 40 ?hg (N := 61) ?hd (xs := ([(⟨t288, t289, t290⟩ : S40)] : List (S40))) (inner := [.int .i64 t288, .string t289, .int .i64 t290]) (ok := fun _ => True) (okp := fun _ => True) ?hr ?hp (fun _ hk => hk) trivial (Below.refl _ _) (Nat.le_refl _) (by simp) ?_; (case hd => rfl); (case hg => rfl); (case hr => first | (go_simp; done) | (go_simp; rfl)); (case hp => exact (Reps.c3 (show Kd.M k40 _ _ _ (⟨t288, t289, t290⟩ : S40) [.int .i64 t288, .string t289, .int .i64 t290] from (k40_mkM _ _ _ (⟨t288, t289, t290⟩ : S40) )) (Reps.none _ _))); intro v292 w73 ho74 hb hg_ hnew_; clear hg_ hnew_; (first | rw [← Ny291.out] at ho74 | (simp only [Int.reduceToNat] at ho74; rw [← Ny291.out] at ho74)); have n0_ := Z0.mk (Kd.R_lower ho74 (bsz bl_)); have n1_ := Z0.mk (kbl (g := gb263) (o := .cells #[.int .i64 a0_0, .int .i64 a0_1, .slice A0_2 l0_2.length c0_2] 24 (0, 0)) bk_ hb); have n2_ := Z0.mk (kbl (g := gb264) (o := .cells #[.int .i64 a1_0, .string a1_1, .string a1_2, .int .i64 a1_3] 38 (0, 0)) bk_ hb); have n3_ := Z0.mk (bsp bl_ hb); clear BK263; clear BK264; clear HB; have HO293 := n0_; have BK263 := n1_; have BK264 := n2_; have HB := n3_; clear n0_ n1_ n2_ n3_; clear hb ho74))
        go_ret
        exact ⟨_, er_, by (with_reducible repeat (first | apply Kd.R_alloc | apply Kd.R_drewN | apply Kd.R_drew)); exact HO293.out, bl_⟩
      replace c70 := Bool.eq_false_iff.mpr c70
      subst c70
      have H1 : (if a1_0 = 9 then (adt_Answers.j2 kj67 t266 t267 a1_0 (a1_0 == 9) a0_0 a0_1 l0_2 a1_0 a1_1 a1_2 a1_3) else (if a1_0 = 12 then (adt_Answers.j2 kj67 t266 t267 a1_0 (a1_0 == 12) a0_0 a0_1 l0_2 a1_0 a1_1 a1_2 a1_3) else (adt_Answers.j2 kj67 t266 t267 a1_0 (a1_0 == 10) a0_0 a0_1 l0_2 a1_0 a1_1 a1_2 a1_3))) = some r := by rw [if_neg (show ¬ (false = true) by decide)] at H; exact H
      clear H
      have H := H1
      clear H1
      have HC75 := Z0.mk H
      clear H
      go_upto_if 62 with (fail)
      go_cut [62] (fun v62 wc => ∃ (kq : Nat) (x62_74 : Bool), v62 = .bool x62_74 ∧ Z0 (adt_Answers.j2 kq t266 t267 a1_0 x62_74 a0_0 a0_1 l0_2 a1_0 a1_1 a1_2 a1_3 = some r) ∧ Z0 (kq ≤ kj67) ∧ Z0 (wc.heap[gb263]? = some (.cells #[.int .i64 a0_0, .int .i64 a0_1, (.slice A0_2 l0_2.length c0_2)] 24 (0, 0))) ∧ Z0 (wc.heap[gb264]? = some (.cells #[.int .i64 a1_0, .string a1_1, .string a1_2, .int .i64 a1_3] 38 (0, 0))) ∧ Z0 (Below w.heap.size w wc))
      case first =>
        have H := HC75.out
        clear HC75
        by_cases c76 : a1_0 = 9
        · rw [if_pos c76] at H
          have c76b0 : (a1_0 == 9) = true := beq_iff_eq.mpr c76
          have c76b1 : (a1_0 != 9) = false := bne_eq_false_iff_eq.mpr c76
          clear c76
          (first | rw [c76b0] | (simp only [i64_w, i32_w]; rw [c76b0]) | skip)
          have H' := Z0.mk H
          clear H
          go_wp2
          go_meet
          case rel => exact ⟨_, ((a1_0 == 9)), eqv_, H', ⟨by have := HJ43.out; have := HJ67.out; first | omega | exact Nat.le_refl _⟩, ⟨bk_⟩, ⟨bk_⟩, ⟨bl_⟩⟩
        rw [if_neg c76] at H
        have c76b0 : (a1_0 == 9) = false := beq_eq_false_iff_ne.mpr c76
        have c76b1 : (a1_0 != 9) = true := bne_iff_ne.mpr c76
        (first | rw [c76b0] | (simp only [i64_w, i32_w]; rw [c76b0]) | skip)
        by_cases c77 : a1_0 = 12
        rotate_left
        · rw [if_neg c77] at H
          have c77b0 : (a1_0 == 12) = false := beq_eq_false_iff_ne.mpr c77
          have c77b1 : (a1_0 != 12) = true := bne_iff_ne.mpr c77
          have H' := Z0.mk H
          clear H
          go_wp2
          go_meet
          case rel => exact ⟨_, ((a1_0 == 10)), eqv_, H', ⟨by have := HJ43.out; have := HJ67.out; first | omega | exact Nat.le_refl _⟩, ⟨bk_⟩, ⟨bk_⟩, ⟨bl_⟩⟩
        rw [if_pos c77] at H
        have c77b0 : (a1_0 == 12) = true := beq_iff_eq.mpr c77
        have c77b1 : (a1_0 != 12) = false := bne_eq_false_iff_eq.mpr c77
        clear c77
        have H' := Z0.mk H
        clear H
        go_wp2
        go_meet
        case rel => exact ⟨_, ((a1_0 == 12)), eqv_, H', ⟨by have := HJ43.out; have := HJ67.out; first | omega | exact Nat.le_refl _⟩, ⟨bk_⟩, ⟨bk_⟩, ⟨bl_⟩⟩
      clear HC75
      try clear c1
      try clear c2
      try clear p2
      try clear q2
      try clear hx2
      try clear qi2
      try clear c3
      try clear c4
      try clear c4b0
      try clear c4b1
      try clear c5
      try clear c6
      try clear c6b0
      try clear c6b1
      try clear c7
      try clear c8
      try clear c8b0
      try clear c8b1
      try clear c9
      try clear c9b0
      try clear c9b1
      try clear c14
      try clear c21
      try clear c22
      try clear c24
      try clear c25
      try clear c26
      try clear c27
      try clear p27
      try clear q27
      try clear hx27
      try clear qi27
      try clear c31
      try clear c38
      try clear c39
      try clear c49
      try clear c54
      try clear c54b0
      try clear c54b1
      try clear c55
      try clear c56
      try clear c60
      try clear c60b0
      try clear c60b1
      try clear c62
      try clear c69
      try clear c69b0
      try clear c69b1
      try clear c70
      try clear c76
      try clear c76b0
      try clear c76b1
      try clear c77
      try clear c77b0
      try clear c77b1
      try clear hcz15
      try clear hcz16
      try clear hcz18
      try clear hcz23
      try clear hcz24
      try clear hcz32
      try clear hcz33
      try clear hcz35
      try clear hcz40
      try clear hcz41
      try clear hcz50
      try clear hcz51
      try clear hcz53
      try clear hcz57
      try clear hcz63
      try clear hcz64
      try clear hcz15
      try clear hcz16
      try clear hcz18
      try clear hcz23
      try clear hcz24
      try clear hcz32
      try clear hcz33
      try clear hcz35
      try clear hcz40
      try clear hcz41
      try clear hcz50
      try clear hcz51
      try clear hcz53
      try clear hcz57
      try clear hcz63
      try clear hcz64
      try clear hx272_0
      try clear hx272_1
      try clear p2
      try clear p27
      try clear p272
      try clear q2
      try clear q27
      try clear q272
      obtain ⟨kq, x62_74, rfl, HA, HJ74, BK263, BK264, HB⟩ := hcut
      cases kq with
      | zero => exact absurd HA.out (by simp [adt_Answers.j2])
      | succ kj74 =>
        have H := HA.out
        clear HA
        simp only [adt_Answers.j2] at H
        by_cases c78 : x62_74 = true
        · subst c78
          have H1 : ((adt_code.f t267).bind fun bt294 => (some (([(⟨bt294.1, bt294.2.1, bt294.2.2⟩ : S40)] : List (S40))))) = some r := by rw [if_pos rfl] at H; exact H
          clear H
          have H := H1
          clear H1
          replace H := Option.bind_eq_some_iff.mp H
          obtain ⟨⟨t294, t295, t296⟩, A790, H⟩ := H
          replace H : (some (([(⟨t294, t295, t296⟩ : S40)] : List (S40)))) = some r := H
          have A79 := Z0.mk A790
          clear A790
          obtain ⟨y297, hy297⟩ : ∃ y_ : List (S40), y_ = (([(⟨t294, t295, t296⟩ : S40)] : List (S40))) := ⟨_, rfl⟩
          replace H : (some y297) = some r := by first | (rw [hy297]; with_reducible exact H) | (have H2_ := (Option.bind_some _ _).symm.trans H; rw [hy297]; with_reducible exact H2_) | (have H2_ := (Option.bind_some _ _).symm.trans H; with_reducible exact H2_) | with_reducible exact H | (rw [hy297]; exact H) | exact H
          have Ny297 := Z0.mk hy297
          clear hy297
          obtain rfl := Option.some.inj H
          go_wp2_with (first | ((with_reducible refine gcl (f := 27) rfl ?_); refine gl_ (some 67) rfl rfl Tryz.func27 (by kernel_rfl) rfl #[.bool t267] rfl ar_ ?_; (with_reducible refine (adt_code.calls t267 t294 t295 t296 _ A79.out).mono ?_); rintro e w80 ⟨rfl, hb⟩; refine ⟨_, rfl, ?_⟩; have n0_ := Z0.mk (kbl (g := gb263) (o := .cells #[.int .i64 a0_0, .int .i64 a0_1, .slice A0_2 l0_2.length c0_2] 24 (0, 0)) bk_ hb); have n1_ := Z0.mk (kbl (g := gb264) (o := .cells #[.int .i64 a1_0, .string a1_1, .string a1_2, .int .i64 a1_3] 38 (0, 0)) bk_ hb); have n2_ := Z0.mk (bsp bl_ hb); clear BK263; clear BK264; clear HB; have BK263 := n0_; have BK264 := n1_; have HB := n2_; clear n0_ n1_ n2_; (try clear hb); (try clear hb2); (try clear hk); (try clear hi)) | ((with_reducible refine gds (N := 68) rfl ?_); refine Kd.R_lit k40 _ 40 ?hg (N := 68) ?hd (xs := ([(⟨t294, t295, t296⟩ : S40)] : List (S40))) (inner := [.int .i64 t294, .string t295, .int .i64 t296]) (ok := fun _ => True) (okp := fun _ => True) ?hr ?hp (fun _ hk => hk) trivial (Below.refl _ _) (Nat.le_refl _) (by simp) ?_; (case hd => rfl); (case hg => rfl); (case hr => first | (go_simp; done) | (go_simp; rfl)); (case hp => exact (Reps.c3 (show Kd.M k40 _ _ _ (⟨t294, t295, t296⟩ : S40) [.int .i64 t294, .string t295, .int .i64 t296] from (k40_mkM _ _ _ (⟨t294, t295, t296⟩ : S40) )) (Reps.none _ _))); intro v298 w81 ho82 hb hg_ hnew_; clear hg_ hnew_; (first | rw [← Ny297.out] at ho82 | (simp only [Int.reduceToNat] at ho82; rw [← Ny297.out] at ho82)); have n0_ := Z0.mk (Kd.R_lower ho82 (bsz bl_)); have n1_ := Z0.mk (kbl (g := gb263) (o := .cells #[.int .i64 a0_0, .int .i64 a0_1, .slice A0_2 l0_2.length c0_2] 24 (0, 0)) bk_ hb); have n2_ := Z0.mk (kbl (g := gb264) (o := .cells #[.int .i64 a1_0, .string a1_1, .string a1_2, .int .i64 a1_3] 38 (0, 0)) bk_ hb); have n3_ := Z0.mk (bsp bl_ hb); clear BK263; clear BK264; clear HB; have HO299 := n0_; have BK263 := n1_; have BK264 := n2_; have HB := n3_; clear n0_ n1_ n2_ n3_; clear hb ho82))
          go_ret
          exact ⟨_, er_, by (with_reducible repeat (first | apply Kd.R_alloc | apply Kd.R_drewN | apply Kd.R_drew)); exact HO299.out, bl_⟩
        replace c78 := Bool.eq_false_iff.mpr c78
        subst c78
        have H1 : (if a1_0 = 13 then ((adt_code.f t267).bind fun bt300 => (if t267 = true then (if 0 ≤ t266 then (if t266 < (l0_2.length : Int) then (some (([(⟨bt300.1, (rd_T73 l0_2 t266).f1, bt300.2.2⟩ : S40)] : List (S40)))) else (none)) else (none)) else (some (([(⟨bt300.1, bt300.2.1, bt300.2.2⟩ : S40)] : List (S40)))))) else (if a1_0 = 15 then (adt_Answers.j3 kj74 (a1_0 == 15) a0_0 a0_1 l0_2 a1_0 a1_1 a1_2 a1_3) else (adt_Answers.j3 kj74 (a1_0 == 17) a0_0 a0_1 l0_2 a1_0 a1_1 a1_2 a1_3))) = some r := by rw [if_neg (show ¬ (false = true) by decide)] at H; exact H
        clear H
        have H := H1
        clear H1
        by_cases c83 : a1_0 = 13
        rotate_left
        · rw [if_neg c83] at H
          have c83b0 : (a1_0 == 13) = false := beq_eq_false_iff_ne.mpr c83
          have c83b1 : (a1_0 != 13) = true := bne_iff_ne.mpr c83
          have HC104 := Z0.mk H
          clear H
          go_upto_if 83 with (fail)
          go_cut [83] (fun v83 wc => ∃ (kq : Nat) (x83_103 : Bool), v83 = .bool x83_103 ∧ Z0 (adt_Answers.j3 kq x83_103 a0_0 a0_1 l0_2 a1_0 a1_1 a1_2 a1_3 = some r) ∧ Z0 (kq ≤ kj74) ∧ Z0 (wc.heap[gb263]? = some (.cells #[.int .i64 a0_0, .int .i64 a0_1, (.slice A0_2 l0_2.length c0_2)] 24 (0, 0))) ∧ Z0 (wc.heap[gb264]? = some (.cells #[.int .i64 a1_0, .string a1_1, .string a1_2, .int .i64 a1_3] 38 (0, 0))) ∧ Z0 (Below w.heap.size w wc))
          case first =>
            have H := HC104.out
            clear HC104
            by_cases c105 : a1_0 = 15
            rotate_left
            · rw [if_neg c105] at H
              have c105b0 : (a1_0 == 15) = false := beq_eq_false_iff_ne.mpr c105
              have c105b1 : (a1_0 != 15) = true := bne_iff_ne.mpr c105
              (first | rw [c105b0] | (simp only [i64_w, i32_w]; rw [c105b0]) | skip)
              have H' := Z0.mk H
              clear H
              go_wp2
              go_meet
              case rel => exact ⟨_, ((a1_0 == 17)), eqv_, H', ⟨by have := HJ43.out; have := HJ67.out; have := HJ74.out; first | omega | exact Nat.le_refl _⟩, ⟨bk_⟩, ⟨bk_⟩, ⟨bl_⟩⟩
            rw [if_pos c105] at H
            have c105b0 : (a1_0 == 15) = true := beq_iff_eq.mpr c105
            have c105b1 : (a1_0 != 15) = false := bne_eq_false_iff_eq.mpr c105
            clear c105
            (first | rw [c105b0] | (simp only [i64_w, i32_w]; rw [c105b0]) | skip)
            have H' := Z0.mk H
            clear H
            go_wp2
            go_meet
            case rel => exact ⟨_, ((a1_0 == 15)), eqv_, H', ⟨by have := HJ43.out; have := HJ67.out; have := HJ74.out; first | omega | exact Nat.le_refl _⟩, ⟨bk_⟩, ⟨bk_⟩, ⟨bl_⟩⟩
          clear HC104
          try clear c1
          try clear c2
          try clear p2
          try clear q2
          try clear hx2
          try clear qi2
          try clear c3
          try clear p3
          try clear q3
          try clear hx3
          try clear c4
          try clear c4b0
          try clear c4b1
          try clear c5
          try clear c6
          try clear c6b0
          try clear c6b1
          try clear c7
          try clear c8
          try clear c8b0
          try clear c8b1
          try clear c9
          try clear c9b0
          try clear c9b1
          try clear c10
          try clear c14
          try clear c21
          try clear c22
          try clear c24
          try clear c25
          try clear c26
          try clear c27
          try clear p27
          try clear q27
          try clear hx27
          try clear qi27
          try clear p30
          try clear q30
          try clear hx30
          try clear c31
          try clear c38
          try clear c39
          try clear c49
          try clear c54
          try clear c54b0
          try clear c54b1
          try clear c55
          try clear c56
          try clear c60
          try clear c60b0
          try clear c60b1
          try clear c62
          try clear c69
          try clear c69b0
          try clear c69b1
          try clear c70
          try clear c76
          try clear c76b0
          try clear c76b1
          try clear c77
          try clear c77b0
          try clear c77b1
          try clear c78
          try clear c83
          try clear c83b0
          try clear c83b1
          try clear c85
          try clear c86
          try clear c86b0
          try clear c87
          try clear c87b0
          try clear c90
          try clear c91
          try clear c93
          try clear c99
          try clear c100
          try clear c105
          try clear c105b0
          try clear c105b1
          try clear hcz101
          try clear hcz15
          try clear hcz16
          try clear hcz18
          try clear hcz23
          try clear hcz24
          try clear hcz32
          try clear hcz33
          try clear hcz35
          try clear hcz40
          try clear hcz41
          try clear hcz50
          try clear hcz51
          try clear hcz53
          try clear hcz57
          try clear hcz63
          try clear hcz64
          try clear hcz92
          try clear hcz94
          try clear hcz101
          try clear hcz15
          try clear hcz16
          try clear hcz18
          try clear hcz23
          try clear hcz24
          try clear hcz32
          try clear hcz33
          try clear hcz35
          try clear hcz40
          try clear hcz41
          try clear hcz50
          try clear hcz51
          try clear hcz53
          try clear hcz57
          try clear hcz63
          try clear hcz64
          try clear hcz92
          try clear hcz94
          try clear hx272_0
          try clear hx272_1
          try clear hx304_0
          try clear hx304_1
          try clear p2
          try clear p27
          try clear p272
          try clear p304
          try clear q2
          try clear q27
          try clear q272
          try clear q304
          obtain ⟨kq, x83_103, rfl, HA, HJ103, BK263, BK264, HB⟩ := hcut
          cases kq with
          | zero => exact absurd HA.out (by simp [adt_Answers.j3])
          | succ kj103 =>
            have H := HA.out
            clear HA
            simp only [adt_Answers.j3] at H
            by_cases c106 : x83_103 = true
            · subst c106
              have H1 : ((adt_out.f kj103 a0_0 a0_1 l0_2 a1_0 a1_1 a1_2 a1_3).bind fun t311 => (some t311)) = some r := by rw [if_pos rfl] at H; exact H
              clear H
              have H := H1
              clear H1
              replace H := Option.bind_eq_some_iff.mp H
              obtain ⟨t311, A1070, H⟩ := H
              replace H : (some t311) = some r := H
              have A107 := Z0.mk A1070
              clear A1070
              obtain rfl := Option.some.inj H
              have hnb108 := NB263_264.out
              have hnc108 := NB264_263.out
              have hcz109 := bc3 BK263.out
              have hcz110 := bc4 BK264.out
              go_wp2_with (first | ((with_reducible refine gcl (f := 28) rfl ?_); refine gl_ (some 88) rfl rfl Tryz.func28 (by kernel_rfl) rfl #[.agg #[.int .i64 a0_0, .int .i64 a0_1, .slice A0_2 l0_2.length c0_2], .agg #[.int .i64 a1_0, .string a1_1, .string a1_2, .int .i64 a1_3]] rfl ar_ ?_; (with_reducible refine (adt_out.calls kj103 a0_0 a0_1 _ _ l0_2 a1_0 a1_1 a1_2 a1_3 t311 _ ?side1 ?side2 A107.out).mono ?_); (case side1 => repeat (first | exact (Kd.C_below HR0_2.out HB.out) | (with_reducible refine Kd.C_alloc ?_ _) | (with_reducible refine Kd.C_drewN ?_ _) | (with_reducible refine Kd.C_drew ?_))); (case side2 => exact HC0_2.out); rintro e w111 ⟨v312, rfl, ho0, hb⟩; refine ⟨_, rfl, ?_⟩; have n0_ := Z0.mk (Kd.R_lower ho0 (bsz bl_)); have n1_ := Z0.mk (kbl (g := gb263) (o := .cells #[.int .i64 a0_0, .int .i64 a0_1, .slice A0_2 l0_2.length c0_2] 24 (0, 0)) bk_ hb); have n2_ := Z0.mk (kbl (g := gb264) (o := .cells #[.int .i64 a1_0, .string a1_1, .string a1_2, .int .i64 a1_3] 38 (0, 0)) bk_ hb); have n3_ := Z0.mk (bsp bl_ hb); clear BK263; clear BK264; clear HB; have HO313 := n0_; have BK263 := n1_; have BK264 := n2_; have HB := n3_; clear n0_ n1_ n2_ n3_; (try clear hb); (try clear hb2); (try clear hk); (try clear hi); (try clear ho0)))
              go_ret
              exact ⟨_, er_, by (with_reducible repeat (first | apply Kd.R_alloc | apply Kd.R_drewN | apply Kd.R_drew)); exact HO313.out, bl_⟩
            replace c106 := Bool.eq_false_iff.mpr c106
            subst c106
            have H1 : ((adt_yes.f).bind fun bt314 => (some (([(⟨bt314.1, bt314.2.1, bt314.2.2⟩ : S40)] : List (S40))))) = some r := by rw [if_neg (show ¬ (false = true) by decide)] at H; exact H
            clear H
            have H := H1
            clear H1
            replace H := Option.bind_eq_some_iff.mp H
            obtain ⟨⟨t314, t315, t316⟩, A1120, H⟩ := H
            replace H : (some (([(⟨t314, t315, t316⟩ : S40)] : List (S40)))) = some r := H
            have A112 := Z0.mk A1120
            clear A1120
            obtain ⟨y317, hy317⟩ : ∃ y_ : List (S40), y_ = (([(⟨t314, t315, t316⟩ : S40)] : List (S40))) := ⟨_, rfl⟩
            replace H : (some y317) = some r := by first | (rw [hy317]; with_reducible exact H) | (have H2_ := (Option.bind_some _ _).symm.trans H; rw [hy317]; with_reducible exact H2_) | (have H2_ := (Option.bind_some _ _).symm.trans H; with_reducible exact H2_) | with_reducible exact H | (rw [hy317]; exact H) | exact H
            have Ny317 := Z0.mk hy317
            clear hy317
            obtain rfl := Option.some.inj H
            go_wp2_with (first | ((with_reducible refine gcl (f := 26) rfl ?_); refine gl_ (some 89) rfl rfl Tryz.func26 (by kernel_rfl) rfl #[] rfl ar_ ?_; (with_reducible refine (adt_yes.calls  t314 t315 t316 _ A112.out).mono ?_); rintro e w113 ⟨rfl, hb⟩; refine ⟨_, rfl, ?_⟩; have n0_ := Z0.mk (kbl (g := gb263) (o := .cells #[.int .i64 a0_0, .int .i64 a0_1, .slice A0_2 l0_2.length c0_2] 24 (0, 0)) bk_ hb); have n1_ := Z0.mk (kbl (g := gb264) (o := .cells #[.int .i64 a1_0, .string a1_1, .string a1_2, .int .i64 a1_3] 38 (0, 0)) bk_ hb); have n2_ := Z0.mk (bsp bl_ hb); clear BK263; clear BK264; clear HB; have BK263 := n0_; have BK264 := n1_; have HB := n2_; clear n0_ n1_ n2_; (try clear hb); (try clear hb2); (try clear hk); (try clear hi)) | ((with_reducible refine gds (N := 90) rfl ?_); refine Kd.R_lit k40 _ 40 ?hg (N := 90) ?hd (xs := ([(⟨t314, t315, t316⟩ : S40)] : List (S40))) (inner := [.int .i64 t314, .string t315, .int .i64 t316]) (ok := fun _ => True) (okp := fun _ => True) ?hr ?hp (fun _ hk => hk) trivial (Below.refl _ _) (Nat.le_refl _) (by simp) ?_; (case hd => rfl); (case hg => rfl); (case hr => first | (go_simp; done) | (go_simp; rfl)); (case hp => exact (Reps.c3 (show Kd.M k40 _ _ _ (⟨t314, t315, t316⟩ : S40) [.int .i64 t314, .string t315, .int .i64 t316] from (k40_mkM _ _ _ (⟨t314, t315, t316⟩ : S40) )) (Reps.none _ _))); intro v318 w114 ho115 hb hg_ hnew_; clear hg_ hnew_; (first | rw [← Ny317.out] at ho115 | (simp only [Int.reduceToNat] at ho115; rw [← Ny317.out] at ho115)); have n0_ := Z0.mk (Kd.R_lower ho115 (bsz bl_)); have n1_ := Z0.mk (kbl (g := gb263) (o := .cells #[.int .i64 a0_0, .int .i64 a0_1, .slice A0_2 l0_2.length c0_2] 24 (0, 0)) bk_ hb); have n2_ := Z0.mk (kbl (g := gb264) (o := .cells #[.int .i64 a1_0, .string a1_1, .string a1_2, .int .i64 a1_3] 38 (0, 0)) bk_ hb); have n3_ := Z0.mk (bsp bl_ hb); clear BK263; clear BK264; clear HB; have HO319 := n0_; have BK263 := n1_; have BK264 := n2_; have HB := n3_; clear n0_ n1_ n2_ n3_; clear hb ho115))
            go_ret
            exact ⟨_, er_, by (with_reducible repeat (first | apply Kd.R_alloc | apply Kd.R_drewN | apply Kd.R_drew)); exact HO319.out, bl_⟩
        rw [if_pos c83] at H
        have c83b0 : (a1_0 == 13) = true := beq_iff_eq.mpr c83
        have c83b1 : (a1_0 != 13) = false := bne_eq_false_iff_eq.mpr c83
        clear c83
        replace H := Option.bind_eq_some_iff.mp H
        obtain ⟨⟨t300, t301, t302⟩, A840, H⟩ := H
        replace H : (if t267 = true then (if 0 ≤ t266 then (if t266 < (l0_2.length : Int) then (some (([(⟨t300, (rd_T73 l0_2 t266).f1, t302⟩ : S40)] : List (S40)))) else (none)) else (none)) else (some (([(⟨t300, t301, t302⟩ : S40)] : List (S40))))) = some r := H
        have A84 := Z0.mk A840
        clear A840
        by_cases c85 : t267 = true
        rotate_left
        · replace c85 := Bool.eq_false_iff.mpr c85
          subst c85
          have H1 : (some (([(⟨t300, t301, t302⟩ : S40)] : List (S40)))) = some r := by rw [if_neg (show ¬ (false = true) by decide)] at H; exact H
          clear H
          have H := H1
          clear H1
          obtain ⟨y308, hy308⟩ : ∃ y_ : List (S40), y_ = (([(⟨t300, t301, t302⟩ : S40)] : List (S40))) := ⟨_, rfl⟩
          replace H : (some y308) = some r := by first | (rw [hy308]; with_reducible exact H) | (have H2_ := (Option.bind_some _ _).symm.trans H; rw [hy308]; with_reducible exact H2_) | (have H2_ := (Option.bind_some _ _).symm.trans H; with_reducible exact H2_) | with_reducible exact H | (rw [hy308]; exact H) | exact H
          have Ny308 := Z0.mk hy308
          clear hy308
          obtain rfl := Option.some.inj H
          go_wp2_with (first | ((with_reducible refine gcl (f := 27) rfl ?_); refine gl_ (some 72) rfl rfl Tryz.func27 (by kernel_rfl) rfl #[.bool false] rfl ar_ ?_; (with_reducible refine (adt_code.calls false t300 t301 t302 _ A84.out).mono ?_); rintro e w97 ⟨rfl, hb⟩; refine ⟨_, rfl, ?_⟩; have n0_ := Z0.mk (kbl (g := gb263) (o := .cells #[.int .i64 a0_0, .int .i64 a0_1, .slice A0_2 l0_2.length c0_2] 24 (0, 0)) bk_ hb); have n1_ := Z0.mk (kbl (g := gb264) (o := .cells #[.int .i64 a1_0, .string a1_1, .string a1_2, .int .i64 a1_3] 38 (0, 0)) bk_ hb); have n2_ := Z0.mk (bsp bl_ hb); clear BK263; clear BK264; clear HB; have BK263 := n0_; have BK264 := n1_; have HB := n2_; clear n0_ n1_ n2_; (try clear hb); (try clear hb2); (try clear hk); (try clear hi)) | ((with_reducible refine gds (N := 8) rfl ?_); refine bx_ (N := 8) (cs := #[.int .i64 0, .string (⟨#[]⟩ : ByteArray), .int .i64 0]) (t := 40) ?_; intro gb303 hg w98 hbox hb; have n0_ := Z0.mk (kbl (g := gb263) (o := .cells #[.int .i64 a0_0, .int .i64 a0_1, .slice A0_2 l0_2.length c0_2] 24 (0, 0)) bk_ hb); have n1_ := Z0.mk (kbl (g := gb264) (o := .cells #[.int .i64 a1_0, .string a1_1, .string a1_2, .int .i64 a1_3] 38 (0, 0)) bk_ hb); have n2_ := Z0.mk (bsp bl_ hb); have n3_ := Z0.mk (hbox); have n4_ := Z0.mk ((by rw [hg]; exact bsz bl_ : w.heap.size ≤ gb303)); have n5_ := Z0.mk ((by rw [hg]; exact bsz bl_ : w.heap.size ≤ gb303)); have n6_ := Z0.mk ((by rw [hg]; exact Nat.ne_of_lt (klt_ (g := gb263) (o := .cells #[.int .i64 a0_0, .int .i64 a0_1, .slice A0_2 l0_2.length c0_2] 24 (0, 0)) bk_) : gb263 ≠ gb303)); have n7_ := Z0.mk ((by rw [hg]; exact Nat.ne_of_gt (klt_ (g := gb263) (o := .cells #[.int .i64 a0_0, .int .i64 a0_1, .slice A0_2 l0_2.length c0_2] 24 (0, 0)) bk_) : gb303 ≠ gb263)); have n8_ := Z0.mk ((by rw [hg]; exact Nat.ne_of_lt (klt_ (g := gb264) (o := .cells #[.int .i64 a1_0, .string a1_1, .string a1_2, .int .i64 a1_3] 38 (0, 0)) bk_) : gb264 ≠ gb303)); have n9_ := Z0.mk ((by rw [hg]; exact Nat.ne_of_gt (klt_ (g := gb264) (o := .cells #[.int .i64 a1_0, .string a1_1, .string a1_2, .int .i64 a1_3] 38 (0, 0)) bk_) : gb303 ≠ gb264)); clear BK263; clear BK264; clear HB; have BK263 := n0_; have BK264 := n1_; have HB := n2_; have BK303 := n3_; have GW303 := n4_; have GE303 := n5_; have NB263_303 := n6_; have NB303_263 := n7_; have NB264_303 := n8_; have NB303_264 := n9_; clear n0_ n1_ n2_ n3_ n4_ n5_ n6_ n7_ n8_ n9_; clear hb hbox hg; have hnb99 := NB303_263.out; have hnc99 := NB263_303.out; have hnb100 := NB303_264.out; have hnc100 := NB264_303.out; have hcz101 := bc3 BK303.out) | ((with_reducible refine gds (N := 82) rfl ?_); refine Kd.R_lit k40 _ 40 ?hg (N := 82) ?hd (xs := ([(⟨t300, t301, t302⟩ : S40)] : List (S40))) (inner := [.int .i64 t300, .string t301, .int .i64 t302]) (ok := fun _ => True) (okp := fun _ => True) ?hr ?hp (fun _ hk => hk) trivial (Below.refl _ _) (Nat.le_refl _) (by simp) ?_; (case hd => rfl); (case hg => rfl); (case hr => first | (go_simp; done) | (go_simp; rfl)); (case hp => exact (Reps.c3 (show Kd.M k40 _ _ _ (⟨t300, t301, t302⟩ : S40) [.int .i64 t300, .string t301, .int .i64 t302] from (k40_mkM _ _ _ (⟨t300, t301, t302⟩ : S40) )) (Reps.none _ _))); intro v309 w102 ho103 hb hg_ hnew_; clear hg_ hnew_; (first | rw [← Ny308.out] at ho103 | (simp only [Int.reduceToNat] at ho103; rw [← Ny308.out] at ho103)); have n0_ := Z0.mk (Kd.R_lower (Kd.R_newB ho103 (g := gb303) (o := .cells #[.int .i64 t300, .string t301, .int .i64 t302] 40 (0, 0)) bk_) (bsz bl_)); have n1_ := Z0.mk (kbl (g := gb263) (o := .cells #[.int .i64 a0_0, .int .i64 a0_1, .slice A0_2 l0_2.length c0_2] 24 (0, 0)) bk_ hb); have n2_ := Z0.mk (kbl (g := gb264) (o := .cells #[.int .i64 a1_0, .string a1_1, .string a1_2, .int .i64 a1_3] 38 (0, 0)) bk_ hb); have n3_ := Z0.mk (kbl (g := gb303) (o := .cells #[.int .i64 t300, .string t301, .int .i64 t302] 40 (0, 0)) bk_ hb); have n4_ := Z0.mk (bsp bl_ hb); clear BK263; clear BK264; clear BK303; clear HB; have HO310 := n0_; have BK263 := n1_; have BK264 := n2_; have BK303 := n3_; have HB := n4_; clear n0_ n1_ n2_ n3_ n4_; clear hb ho103))
          go_ret
          exact ⟨_, er_, by (with_reducible repeat (first | apply Kd.R_alloc | apply Kd.R_drewN | apply Kd.R_drew)); exact Kd.R_mono HO310.out (fun _ hk => trivial), bl_⟩
        subst c85
        have H1 : (if 0 ≤ t266 then (if t266 < (l0_2.length : Int) then (some (([(⟨t300, (rd_T73 l0_2 t266).f1, t302⟩ : S40)] : List (S40)))) else (none)) else (none)) = some r := by rw [if_pos rfl] at H; exact H
        clear H
        have H := H1
        clear H1
        by_cases c86 : 0 ≤ t266
        rotate_left
        · rw [if_neg c86] at H
          exact absurd H (by simp)
        rw [if_pos c86] at H
        have c86b0 : decide (0 ≤ t266) = true := decide_eq_true c86
        clear c86
        by_cases c87 : t266 < (l0_2.length : Int)
        rotate_left
        · rw [if_neg c87] at H
          exact absurd H (by simp)
        rw [if_pos c87] at H
        have c87b0 : decide (t266 < (l0_2.length : Int)) = true := decide_eq_true c87
        clear c87
        obtain ⟨y305, hy305⟩ : ∃ y_ : List (S40), y_ = (([(⟨t300, (rd_T73 l0_2 t266).f1, t302⟩ : S40)] : List (S40))) := ⟨_, rfl⟩
        replace H : (some y305) = some r := by first | (rw [hy305]; with_reducible exact H) | (have H2_ := (Option.bind_some _ _).symm.trans H; rw [hy305]; with_reducible exact H2_) | (have H2_ := (Option.bind_some _ _).symm.trans H; with_reducible exact H2_) | with_reducible exact H | (rw [hy305]; exact H) | exact H
        have Ny305 := Z0.mk hy305
        clear hy305
        obtain rfl := Option.some.inj H
        go_wp2_with (first | ((with_reducible refine gcl (f := 27) rfl ?_); refine gl_ (some 72) rfl rfl Tryz.func27 (by kernel_rfl) rfl #[.bool true] rfl ar_ ?_; (with_reducible refine (adt_code.calls true t300 t301 t302 _ A84.out).mono ?_); rintro e w88 ⟨rfl, hb⟩; refine ⟨_, rfl, ?_⟩; have n0_ := Z0.mk (kbl (g := gb263) (o := .cells #[.int .i64 a0_0, .int .i64 a0_1, .slice A0_2 l0_2.length c0_2] 24 (0, 0)) bk_ hb); have n1_ := Z0.mk (kbl (g := gb264) (o := .cells #[.int .i64 a1_0, .string a1_1, .string a1_2, .int .i64 a1_3] 38 (0, 0)) bk_ hb); have n2_ := Z0.mk (bsp bl_ hb); clear BK263; clear BK264; clear HB; have BK263 := n0_; have BK264 := n1_; have HB := n2_; clear n0_ n1_ n2_; (try clear hb); (try clear hb2); (try clear hk); (try clear hi)) | ((with_reducible refine gds (N := 8) rfl ?_); refine bx_ (N := 8) (cs := #[.int .i64 0, .string (⟨#[]⟩ : ByteArray), .int .i64 0]) (t := 40) ?_; intro gb303 hg w89 hbox hb; have n0_ := Z0.mk (kbl (g := gb263) (o := .cells #[.int .i64 a0_0, .int .i64 a0_1, .slice A0_2 l0_2.length c0_2] 24 (0, 0)) bk_ hb); have n1_ := Z0.mk (kbl (g := gb264) (o := .cells #[.int .i64 a1_0, .string a1_1, .string a1_2, .int .i64 a1_3] 38 (0, 0)) bk_ hb); have n2_ := Z0.mk (bsp bl_ hb); have n3_ := Z0.mk (hbox); have n4_ := Z0.mk ((by rw [hg]; exact bsz bl_ : w.heap.size ≤ gb303)); have n5_ := Z0.mk ((by rw [hg]; exact bsz bl_ : w.heap.size ≤ gb303)); have n6_ := Z0.mk ((by rw [hg]; exact Nat.ne_of_lt (klt_ (g := gb263) (o := .cells #[.int .i64 a0_0, .int .i64 a0_1, .slice A0_2 l0_2.length c0_2] 24 (0, 0)) bk_) : gb263 ≠ gb303)); have n7_ := Z0.mk ((by rw [hg]; exact Nat.ne_of_gt (klt_ (g := gb263) (o := .cells #[.int .i64 a0_0, .int .i64 a0_1, .slice A0_2 l0_2.length c0_2] 24 (0, 0)) bk_) : gb303 ≠ gb263)); have n8_ := Z0.mk ((by rw [hg]; exact Nat.ne_of_lt (klt_ (g := gb264) (o := .cells #[.int .i64 a1_0, .string a1_1, .string a1_2, .int .i64 a1_3] 38 (0, 0)) bk_) : gb264 ≠ gb303)); have n9_ := Z0.mk ((by rw [hg]; exact Nat.ne_of_gt (klt_ (g := gb264) (o := .cells #[.int .i64 a1_0, .string a1_1, .string a1_2, .int .i64 a1_3] 38 (0, 0)) bk_) : gb303 ≠ gb264)); clear BK263; clear BK264; clear HB; have BK263 := n0_; have BK264 := n1_; have HB := n2_; have BK303 := n3_; have GW303 := n4_; have GE303 := n5_; have NB263_303 := n6_; have NB303_263 := n7_; have NB264_303 := n8_; have NB303_264 := n9_; clear n0_ n1_ n2_ n3_ n4_ n5_ n6_ n7_ n8_ n9_; clear hb hbox hg; have hnb90 := NB303_263.out; have hnc90 := NB263_303.out; have hnb91 := NB303_264.out; have hnc91 := NB264_303.out; have hcz92 := bc3 BK303.out; have hnb93 := NB263_264.out; have hnc93 := NB264_263.out; have hcz94 := bc3 BK263.out; have p304 : 0 ≤ (t266 : Int) := of_decide_eq_true (by first | (with_reducible assumption) | assumption); have q304 : t266 < (l0_2.length : Int) := of_decide_eq_true (by first | (with_reducible assumption) | assumption); obtain ⟨ad304, e304, hx304_0, hx304_1⟩ := at_T73 HR0_2.out t266 p304 q304; cases e304; have hn304_0 : ad304.block ≠ gb303 := Nat.ne_of_lt (Nat.lt_of_lt_of_le (by have := World.block_lt_of_cell? _ _ hx304_0; first | rwa [adb_] at this | exact this) GW303.out); have hn304_1 : ad304.block ≠ gb303 := Nat.ne_of_lt (Nat.lt_of_lt_of_le (by have := World.block_lt_of_cell? _ _ hx304_0; first | rwa [adb_] at this | exact this) GW303.out); have hn304_2 : ad304.block ≠ gb303 := Nat.ne_of_lt (Nat.lt_of_lt_of_le (by have := World.block_lt_of_cell? _ _ hx304_0; first | rwa [adb_] at this | exact this) GW303.out); replace hx304_0 := (HB.out.cell (World.block_lt_of_cell? w _ hx304_0)).trans hx304_0; replace hx304_1 := (HB.out.cell (World.block_lt_of_cell? w _ hx304_1)).trans hx304_1; replace hx304_0 := (cell_far (p := ⟨gb303, 0, none⟩) (by first | (rw [adb_]; exact hn304_0) | (show (Addr.add _ _).block ≠ _; rw [adb_]; exact hn304_0) | exact hn304_0) (.int .i64 t300)).trans hx304_0; replace hx304_1 := (cell_far (p := ⟨gb303, 0, none⟩) (by first | (rw [adb_]; exact hn304_0) | (show (Addr.add _ _).block ≠ _; rw [adb_]; exact hn304_0) | exact hn304_0) (.int .i64 t300)).trans hx304_1; replace hx304_0 := (cell_far (p := ⟨gb303, 1, none⟩) (by first | (rw [adb_]; exact hn304_1) | (show (Addr.add _ _).block ≠ _; rw [adb_]; exact hn304_1) | exact hn304_1) (.string t301)).trans hx304_0; replace hx304_1 := (cell_far (p := ⟨gb303, 1, none⟩) (by first | (rw [adb_]; exact hn304_1) | (show (Addr.add _ _).block ≠ _; rw [adb_]; exact hn304_1) | exact hn304_1) (.string t301)).trans hx304_1; replace hx304_0 := (cell_far (p := ⟨gb303, 2, none⟩) (by first | (rw [adb_]; exact hn304_2) | (show (Addr.add _ _).block ≠ _; rw [adb_]; exact hn304_2) | exact hn304_2) (.int .i64 t302)).trans hx304_0; replace hx304_1 := (cell_far (p := ⟨gb303, 2, none⟩) (by first | (rw [adb_]; exact hn304_2) | (show (Addr.add _ _).block ≠ _; rw [adb_]; exact hn304_2) | exact hn304_2) (.int .i64 t302)).trans hx304_1; clear hn304_0; clear hn304_1; clear hn304_2; replace p304 := eq_true p304; replace q304 := eq_true q304; have hq0_ := kpt BK303.out 0 (.int .i64 t300) (cs' := #[.int .i64 t300, .string (⟨#[]⟩ : ByteArray), .int .i64 0]) rfl; have hq1_ := kpt hq0_ 1 (.string t301) (cs' := #[.int .i64 t300, .string t301, .int .i64 0]) rfl; have hq2_ := kpt hq1_ 2 (.int .i64 t302) (cs' := #[.int .i64 t300, .string t301, .int .i64 t302]) rfl; have hq3_ := kpt hq2_ 1 (.string (rd_T73 l0_2 t266).f1) (cs' := #[.int .i64 t300, .string (rd_T73 l0_2 t266).f1, .int .i64 t302]) rfl; have hx_q0 := (kcl hq3_ 0).trans rfl; have hx_q1 := (kcl hq3_ 1).trans rfl; have hx_q2 := (kcl hq3_ 2).trans rfl; clear hq0_ hq1_ hq2_ hq3_) | ((with_reducible refine gds (N := 82) rfl ?_); refine Kd.R_lit k40 _ 40 ?hg (N := 82) ?hd (xs := ([(⟨t300, (rd_T73 l0_2 t266).f1, t302⟩ : S40)] : List (S40))) (inner := [.int .i64 t300, .string ((rd_T73 l0_2 t266).f1), .int .i64 t302]) (ok := fun _ => True) (okp := fun _ => True) ?hr ?hp (fun _ hk => hk) trivial (Below.refl _ _) (Nat.le_refl _) (by simp) ?_; (case hd => rfl); (case hg => rfl); (case hr => first | (go_simp; done) | (go_simp; rfl)); (case hp => exact (Reps.c3 (show Kd.M k40 _ _ _ (⟨t300, (rd_T73 l0_2 t266).f1, t302⟩ : S40) [.int .i64 t300, .string ((rd_T73 l0_2 t266).f1), .int .i64 t302] from (k40_mkM _ _ _ (⟨t300, (rd_T73 l0_2 t266).f1, t302⟩ : S40) )) (Reps.none _ _))); intro v306 w95 ho96 hb hg_ hnew_; clear hg_ hnew_; (first | rw [← Ny305.out] at ho96 | (simp only [Int.reduceToNat] at ho96; rw [← Ny305.out] at ho96)); have n0_ := Z0.mk (Kd.R_lower (Kd.R_newB ho96 (g := gb303) (o := .cells #[.int .i64 t300, .string ((rd_T73 l0_2 t266).f1), .int .i64 t302] 40 (0, 0)) bk_) (bsz bl_)); have n1_ := Z0.mk (kbl (g := gb263) (o := .cells #[.int .i64 a0_0, .int .i64 a0_1, .slice (some ad304) l0_2.length c0_2] 24 (0, 0)) bk_ hb); have n2_ := Z0.mk (kbl (g := gb264) (o := .cells #[.int .i64 a1_0, .string a1_1, .string a1_2, .int .i64 a1_3] 38 (0, 0)) bk_ hb); have n3_ := Z0.mk (kbl (g := gb303) (o := .cells #[.int .i64 t300, .string ((rd_T73 l0_2 t266).f1), .int .i64 t302] 40 (0, 0)) bk_ hb); have n4_ := Z0.mk (bsp bl_ hb); clear BK263; clear BK264; clear BK303; clear HB; have HO307 := n0_; have BK263 := n1_; have BK264 := n2_; have BK303 := n3_; have HB := n4_; clear n0_ n1_ n2_ n3_ n4_; clear hb ho96))
        go_ret
        exact ⟨_, er_, by (with_reducible repeat (first | apply Kd.R_alloc | apply Kd.R_drewN | apply Kd.R_drew)); exact Kd.R_mono HO307.out (fun _ hk => trivial), bl_⟩
end Go.Proofs.YtjiblcncadekcaaGreat.PA

