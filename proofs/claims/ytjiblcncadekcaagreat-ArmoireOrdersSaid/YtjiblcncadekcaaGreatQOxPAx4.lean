import Derived.Test.YtjiblcncadekcaaGreatQOxPAx0
import Derived.Test.YtjiblcncadekcaaGreatQOxPAx3
namespace Go.Proofs.YtjiblcncadekcaaGreat.PA
open Go.Proofs.YtjiblcncadekcaaGreat.PL
open Go.RowKit Go.Proofs.YtjiblcncadekcaaGreatW.PrintWords Go.Proofs.YtjiblcncadekcaaGreatW.PrintLast Go.Proofs.YtjiblcncadekcaaGreatW.PrintMore
attribute [local go_sem] max2_int min2_int bl_leq max_two min_two max_three min_three max_four min_four
set_option linter.unusedVariables false
set_option linter.unusedSimpArgs false
def cursor_Above.l0 : Nat → ByteArray → Int → Option (ByteArray)
  | 0, _, _ => none
  | k + 1, x0, x3 => if x3 ≥ 0 then (if 0 ≤ x3 then (if x3 < (x0.size : Int) then (if (bt x0 x3) < 255 then (if x3 ≤ (x0.size : Int) then ((some (([((bt x0 x3) + 1) % 256] : List Int) : List Int)).bind fun y130 => (if (x0.extract 0 (x3 : Int).toNat).size + (strOfNums y130).size ≤ 9223372036854775807 then (some ((x0.extract 0 (x3 : Int).toNat) ++ (strOfNums y130))) else (none))) else (none)) else (cursor_Above.l0 k x0 (wrap64 (x3 - 1)))) else (none)) else (none)) else (some (⟨#[]⟩ : ByteArray))
def cursor_Above.f (k : Nat) (a0 : ByteArray) : Option (ByteArray) := cursor_Above.l0 k a0 (wrap64 ((a0.size : Int) - 1))
def cursor_Above.T5 : Bool × List (List Nat × List Nat) := (true, [([], []), ([], []), ([0, 1], [0, 1]), ([], []), ([], []), ([3, 4], [3, 4]), ([5], [5]), ([6], [6]), ([7], [7]), ([2, 8], [2, 8]), ([9, 0, 1, 2, 3, 4, 5, 6, 7, 8, 9], [9])])
def cursor_Above.B5 : List Nat := [0, 0, 3, 0, 0, 24, 56, 120, 248, 511, 1023]
theorem cursor_Above.tab5 : rtab .any (opsOf Tryz.f20 5) = cursor_Above.T5 := by kernel_rfl
theorem cursor_Above.bits5 : waitsOk cursor_Above.T5.2 cursor_Above.B5 = true := by kernel_rfl
set_option maxHeartbeats 8000000 in
set_option maxRecDepth 100000 in
theorem cursor_Above.calls (k : Nat) (a0 : ByteArray) (r : ByteArray) (w : World) (h : cursor_Above.f k a0 = some r) :
    Calls Tryz.prog 20 #[.string a0] w fun e w' => e = .returned (.string r) ∧ Below w.heap.size w w' := by
  have HB := Z0.mk (Below.refl w.heap.size w)
  have H : (cursor_Above.l0 k a0 (wrap64 ((a0.size : Int) - 1))) = some r := h
  clear h
  have H' := Z0.mk H
  clear H
  go_enter Tryz.func20, Tryz.ntmps20
  go_wp2
  go_loopg [3] k (fun kq v3 w' => ∃ (x3_1 : Int), v3 = .int .i64 x3_1 ∧ Z0 (cursor_Above.l0 kq a0 x3_1 = some r) ∧ Z0 (kq ≤ k) ∧ Z0 (Below w.heap.size w w'))
  case atStart => exact ⟨(wrap64 ((a0.size : Int) - 1)), eqv_, H', ⟨Nat.le_refl _⟩, ⟨bl_⟩⟩
  clear H'
  obtain ⟨x3_1, rfl, HA, HK1, HB⟩ := hrel
  cases gk with
  | zero => exact absurd HA.out (by simp [cursor_Above.l0])
  | succ k1 =>
    have H := HA.out
    clear HA
    simp only [cursor_Above.l0] at H
    by_cases c2 : x3_1 ≥ 0
    rotate_left
    · rw [if_neg c2] at H
      have c2b0 : decide (0 ≤ x3_1) = false := decide_eq_false c2
      clear c2
      obtain rfl := Option.some.inj H
      go_wp2
      go_ret
      exact ⟨er_, bl_⟩
    rw [if_pos c2] at H
    have c2b0 : decide (0 ≤ x3_1) = true := decide_eq_true c2
    clear c2
    by_cases c3 : 0 ≤ x3_1
    rotate_left
    · rw [if_neg c3] at H
      exact absurd H (by simp)
    rw [if_pos c3] at H
    have c3b0 : decide (0 ≤ x3_1) = true := decide_eq_true c3
    clear c3
    by_cases c4 : x3_1 < (a0.size : Int)
    rotate_left
    · rw [if_neg c4] at H
      exact absurd H (by simp)
    rw [if_pos c4] at H
    have c4b0 : decide (x3_1 < (a0.size : Int)) = true := decide_eq_true c4
    clear c4
    by_cases c6 : (bt a0 x3_1) < 255
    rotate_left
    · rw [if_neg c6] at H
      have c6b0 : decide ((bt a0 x3_1) < 255) = false := decide_eq_false c6
      clear c6
      have H' := Z0.mk H
      clear H
      have p5 : 0 ≤ (x3_1 : Int) := of_decide_eq_true (by first | (with_reducible assumption) | assumption)
      have q5 : x3_1 < (a0.size : Int) := of_decide_eq_true (by first | (with_reducible assumption) | assumption)
      have hx5 := bt_at a0 x3_1
      replace p5 := eq_true p5
      replace q5 := eq_true q5
      go_wp2
      go_roundg k1
      case measure => have := HK1.out; omega
      case rel => exact ⟨(wrap64 (x3_1 - 1)), eqv_, H', ⟨by have := HK1.out; omega⟩, ⟨bl_⟩⟩
    rw [if_pos c6] at H
    have c6b0 : decide ((bt a0 x3_1) < 255) = true := decide_eq_true c6
    clear c6
    have c7b0 := eq_true (of_decide_eq_true (by first | (with_reducible assumption) | assumption) : 0 ≤ x3_1)
    by_cases c8 : x3_1 ≤ (a0.size : Int)
    rotate_left
    · rw [if_neg c8] at H
      exact absurd H (by simp)
    rw [if_pos c8] at H
    have c8b0 := eq_true c8
    have c8b1 : decide (x3_1 ≤ (a0.size : Int)) = true := decide_eq_true c8
    clear c8
    obtain ⟨y130, hy130⟩ : ∃ y_ : List Int, y_ = (([((bt a0 x3_1) + 1) % 256] : List Int)) := ⟨_, rfl⟩
    replace H : (if (a0.extract 0 (x3_1 : Int).toNat).size + (strOfNums y130).size ≤ 9223372036854775807 then (some ((a0.extract 0 (x3_1 : Int).toNat) ++ (strOfNums y130))) else (none)) = some r := by first | (rw [hy130]; with_reducible exact H) | (have H2_ := (Option.bind_some _ _).symm.trans H; rw [hy130]; with_reducible exact H2_) | (have H2_ := (Option.bind_some _ _).symm.trans H; with_reducible exact H2_) | with_reducible exact H | (rw [hy130]; exact H) | exact H
    have Ny130 := Z0.mk hy130
    clear hy130
    by_cases c10 : (a0.extract 0 (x3_1 : Int).toNat).size + (strOfNums y130).size ≤ 9223372036854775807
    rotate_left
    · rw [if_neg c10] at H
      exact absurd H (by simp)
    rw [if_pos c10] at H
    have c10b0 := eq_true c10
    have c10b1 : decide ((a0.extract 0 (x3_1 : Int).toNat).size + (strOfNums y130).size ≤ 9223372036854775807) = true := decide_eq_true c10
    try have c10b2 : (9223372036854775807 < (a0.extract 0 (x3_1 : Int).toNat).size + (strOfNums y130).size) = False := eq_false (Nat.not_lt.2 c10)
    try have c10b3 := (show (9223372036854775807 < (a0.extract 0 (x3_1 : Int).toNat).size + (strOfNums y130).size) = False from eq_false (Nat.not_lt.2 c10)); try simp only [ByteArray.size_extract, Nat.min_self, Nat.sub_zero] at c10b3
    try (have c10b8 := c10b3; have h_ : x3_1 ≤ (a0.size : Int) := of_decide_eq_true (by assumption); rw [Nat.min_eq_left (by omega)] at c10b8; clear h_)
    obtain rfl := Option.some.inj H
    have p5 : 0 ≤ (x3_1 : Int) := of_decide_eq_true (by first | (with_reducible assumption) | assumption)
    have q5 : x3_1 < (a0.size : Int) := of_decide_eq_true (by first | (with_reducible assumption) | assumption)
    have hx5 := bt_at a0 x3_1
    replace p5 := eq_true p5
    replace q5 := eq_true q5
    try go_wp2
    have n0_ := Z0.mk (bd1 HB.out)
    clear HB
    have HB := n0_
    clear n0_
    have p9 : 0 ≤ (x3_1 : Int) := of_decide_eq_true (by first | (with_reducible assumption) | assumption)
    have q9 : x3_1 < (a0.size : Int) := of_decide_eq_true (by first | (with_reducible assumption) | assumption)
    have hx9 := bt_at a0 x3_1
    replace p9 := eq_true p9
    replace q9 := eq_true q9
    refine start_ (n := 11) (S := fun w' => True) (ds := []) #[false,false,false,false,false,false,false,false,false,false,false] (by kernel_rfl) rfl rfl trivial (fun hHeld => ?_); refine with_tabW cursor_Above.tab5 cursor_Above.bits5 (fun HT_ HW_ => ?_)
    generalize wr.drew = w11 at HB hHeld ⊢
    refine pw_ HT_.out 0 (some 15) (bA 11 1) ?_
    refine pw_ HT_.out 1 (some 16) (bA 11 3) ?_
    refine pw_ HT_.out 2 (some 17) (bA 11 7) ?_
    refine pw_ HT_.out 3 (some 18) (bA 11 15) ?_
    refine pw_ HT_.out 4 (some 19) (bA 11 31) ?_
    refine take_ (i := 5) (N := some 20) (v := ?_) (a' := ?_) (bA 11 63) rfl rfl (tkw HT_.out HW_.out (by kernel_rfl)) (fun _ _ _ h => h) (Or.inl ⟨by rfl, ?_⟩) hHeld ?_ ?_
    rotate_left
    · intro w' _
      go_simp
      with_reducible rfl
    rotate_left; (simp only [Act.put, List.setIfInBounds_toArray, List.set_cons_zero, List.set_cons_succ, i64_w, i32_w]; rfl)
    refine pw_ HT_.out 6 (some 21) (bA 11 127) ?_
    refine one_ (i := 7) (N := some 22) (bA 11 255) rfl rfl (one_of HT_.out (by kernel_rfl)) (by decide) (fun K hK => ?_)
    refine Kd.R_lit_step (Kd.int .u8) _ 5 ?hg (N := 22) ?hd (xs := ([((bt a0 x3_1) + 1) % 256] : List Int)) (inner := [.int .u8 (((bt a0 x3_1) + 1) % 256)]) (ok := fun _ => True) (okp := fun _ => True) ?hr ?hp (fun _ hk => hk) trivial (Below.refl _ _) (Nat.le_refl _) (by simp) ?_; (case hd => rfl); (case hg => rfl); (case hr => first | (go_simp; done) | (go_simp; rfl)); (case hp => exact (Reps.one (show Kd.M (Kd.int .u8) _ _ _ (((bt a0 x3_1) + 1) % 256) [.int .u8 (((bt a0 x3_1) + 1) % 256)] from rfl) (Reps.none _ _)))
    intro v131 w12 ho13 hb hg_ hnew_
    clear hg_ hnew_
    (first | rw [← Ny130.out] at ho13 | (simp only [Int.reduceToNat] at ho13; rw [← Ny130.out] at ho13))
    have n0_ := Z0.mk (Kd.R_lower ho13 (bsz bl_))
    have n1_ := Z0.mk (bsp bl_ hb)
    clear HB
    have HO132 := n0_
    have HB := n1_
    clear n0_ n1_
    clear hb ho13
    refine hK.out _ _ trivial (fun hHeld => ?_)
    clear hK K
    refine norm_ (a' := ?_) ?_ ?_
    rotate_left
    · show Act.put _ (some 22) _ = _
      simp only [Act.put, List.setIfInBounds_toArray, List.set_cons_zero, List.set_cons_succ, i64_w, i32_w]
      rfl
    refine one_ (i := 8) (N := some 23) (bA 11 511) rfl rfl (one_of HT_.out (by kernel_rfl)) (by decide) (fun K hK => ?_)
    have hcv14 := own_string (P := Tryz.prog) Tryz.underlying110 Tryz.underlying5 Tryz.underlying9 (Kd.own_of_R HO132.out)
    refine value_ (w1 := ?_) (v := ?_) (by rfl) rfl ?_ ?_
    rotate_left 2
    · go_simp
      constructor
      · rfl
      · rfl
    clear hcv14
    refine hK.out _ _ trivial (fun hHeld => ?_)
    clear hK K
    refine norm_ (a' := ?_) ?_ ?_
    rotate_left
    · show Act.put _ (some 23) _ = _
      simp only [Act.put, List.setIfInBounds_toArray, List.set_cons_zero, List.set_cons_succ, i64_w, i32_w]
      rfl
    refine pw_ HT_.out 9 (some 24) (bA 11 1023) ?_
    refine pw_ HT_.out 10 (some 2) (bA 11 2047) ?_
    refine done_ (done_of HT_.out (by kernel_rfl)) ?_
    try go_wp2
    go_ret
    exact ⟨er_, bl_⟩
def armoiretop_live.f (k : Nat)  : Option (Bool) := (crc_Of.f k (([(⟨#[49, 50, 51, 52, 53, 54, 55, 56, 57]⟩ : ByteArray)] : List ByteArray))).bind fun t137 => (if t137 = 3421780262 then ((stamp_Sector_Text.f k 1 0 (⟨#[]⟩ : ByteArray)).bind fun t138 => (if (t138.size : Int) = 64 then ((cursor_Above.f k (⟨#[97]⟩ : ByteArray)).bind fun t139 => (some (t139.toList == ([98] : List UInt8)))) else (some false))) else (some false))
set_option maxHeartbeats 8000000 in
set_option maxRecDepth 100000 in
theorem armoiretop_live.calls (k : Nat)  (r : Bool) (w : World) (h : armoiretop_live.f k  = some r) :
    Calls Tryz.prog 4 #[] w fun e w' => e = .returned (.bool r) ∧ Below w.heap.size w w' := by
  have hu66 := Tryz.underlying66
  have HB := Z0.mk (Below.refl w.heap.size w)
  have H : ((crc_Of.f k (([(⟨#[49, 50, 51, 52, 53, 54, 55, 56, 57]⟩ : ByteArray)] : List ByteArray))).bind fun t137 => (if t137 = 3421780262 then ((stamp_Sector_Text.f k 1 0 (⟨#[]⟩ : ByteArray)).bind fun t138 => (if (t138.size : Int) = 64 then ((cursor_Above.f k (⟨#[97]⟩ : ByteArray)).bind fun t139 => (some (t139.toList == ([98] : List UInt8)))) else (some false))) else (some false))) = some r := h
  clear h
  obtain ⟨y134, hy134⟩ : ∃ y_ : List ByteArray, y_ = (([(⟨#[49, 50, 51, 52, 53, 54, 55, 56, 57]⟩ : ByteArray)] : List ByteArray)) := ⟨_, rfl⟩
  replace H : ((crc_Of.f k y134).bind fun t137 => (if t137 = 3421780262 then ((stamp_Sector_Text.f k 1 0 (⟨#[]⟩ : ByteArray)).bind fun t138 => (if (t138.size : Int) = 64 then ((cursor_Above.f k (⟨#[97]⟩ : ByteArray)).bind fun t139 => (some (t139.toList == ([98] : List UInt8)))) else (some false))) else (some false))) = some r := by first | (rw [hy134]; with_reducible exact H) | (have H2_ := (Option.bind_some _ _).symm.trans H; rw [hy134]; with_reducible exact H2_) | (have H2_ := (Option.bind_some _ _).symm.trans H; with_reducible exact H2_) | with_reducible exact H | (rw [hy134]; exact H) | exact H
  have Ny134 := Z0.mk hy134
  clear hy134
  replace H := Option.bind_eq_some_iff.mp H
  obtain ⟨t137, A10, H⟩ := H
  replace H : (if t137 = 3421780262 then ((stamp_Sector_Text.f k 1 0 (⟨#[]⟩ : ByteArray)).bind fun t138 => (if (t138.size : Int) = 64 then ((cursor_Above.f k (⟨#[97]⟩ : ByteArray)).bind fun t139 => (some (t139.toList == ([98] : List UInt8)))) else (some false))) else (some false)) = some r := H
  have A1 := Z0.mk A10
  clear A10
  by_cases c2 : t137 = 3421780262
  rotate_left
  · rw [if_neg c2] at H
    have c2b0 : (t137 == 3421780262) = false := beq_eq_false_iff_ne.mpr c2
    have c2b1 : (t137 != 3421780262) = true := bne_iff_ne.mpr c2
    obtain rfl := Option.some.inj H
    go_enter Tryz.func4, Tryz.ntmps4
    go_wp2_with (first | ((with_reducible refine gds (N := 1) rfl ?_); (try (refine gate_guard (by rfl) ?_; dsimp only)); refine bx_ (N := 1) (cs := #[.int .i64 0, .int .u8 0, .string (⟨#[]⟩ : ByteArray)]) (t := 66) ?_; intro gb133 hg w23 hbox hb; have n0_ := Z0.mk (bsp bl_ hb); have n1_ := Z0.mk (hbox); have n2_ := Z0.mk ((by rw [hg]; exact bsz bl_ : w.heap.size ≤ gb133)); have n3_ := Z0.mk ((by rw [hg]; exact bsz bl_ : w.heap.size ≤ gb133)); clear HB; have HB := n0_; have BK133 := n1_; have GW133 := n2_; have GE133 := n3_; clear n0_ n1_ n2_ n3_; clear hb hbox hg; have hcz24 := bc3 BK133.out) | ((with_reducible refine gds (N := 3) rfl ?_); (try (refine gate_guard (by rfl) ?_; dsimp only)); refine Kd.R_lit Kd.string _ 9 ?hg (N := 3) ?hd (xs := ([(⟨#[49, 50, 51, 52, 53, 54, 55, 56, 57]⟩ : ByteArray)] : List ByteArray)) (inner := [.string (⟨#[49, 50, 51, 52, 53, 54, 55, 56, 57]⟩ : ByteArray)]) (ok := fun _ => True) (okp := fun _ => True) ?hr ?hp (fun _ hk => hk) trivial (Below.refl _ _) (Nat.le_refl _) (by simp) ?_; (case hd => rfl); (case hg => rfl); (case hr => first | (go_simp; done) | (go_simp; rfl)); (case hp => exact (Reps.one (show Kd.M Kd.string _ _ _ (⟨#[49, 50, 51, 52, 53, 54, 55, 56, 57]⟩ : ByteArray) [.string (⟨#[49, 50, 51, 52, 53, 54, 55, 56, 57]⟩ : ByteArray)] from rfl) (Reps.none _ _))); intro v135 w25 ho26 hb hg_ hnew_; clear hg_ hnew_; (first | rw [← Ny134.out] at ho26 | (simp only [Int.reduceToNat] at ho26; rw [← Ny134.out] at ho26)); have n0_ := Z0.mk (Kd.R_lower ho26 (bsz bl_)); have n1_ := Z0.mk (kbl (g := gb133) bk_ hb); have n2_ := Z0.mk (bsp bl_ hb); clear BK133; clear HB; have HO136 := n0_; have BK133 := n1_; have HB := n2_; clear n0_ n1_ n2_; clear hb ho26; obtain ⟨Ao27, co27, eo27⟩ := Kd.R_slice HO136.out; subst eo27) | ((with_reducible refine gcl (f := 18) rfl ?_); refine gl_ (some 4) rfl rfl Tryz.func18 (by kernel_rfl) rfl #[.slice Ao27 y134.length co27] rfl ar_ ?_; (with_reducible refine (crc_Of.calls k _ _ y134 t137 _ ?side1 ?side2 A1.out).mono ?_); (case side1 => repeat (first | exact (Kd.R_reads' HO136.out).2.2 | (with_reducible refine Kd.C_alloc ?_ _) | (with_reducible refine Kd.C_drewN ?_ _) | (with_reducible refine Kd.C_drew ?_))); (case side2 => exact (Kd.R_reads' HO136.out).2.1); rintro e w28 ⟨rfl, hb⟩; refine ⟨_, rfl, ?_⟩; have n0_ := Z0.mk (Kd.R_below (by (with_reducible repeat (first | apply Kd.R_alloc | apply Kd.R_drewN | apply Kd.R_drew)); exact HO136.out) hb); have n1_ := Z0.mk (kbl (g := gb133) bk_ hb); have n2_ := Z0.mk (bsp bl_ hb); clear HO136; clear BK133; clear HB; have HO136 := n0_; have BK133 := n1_; have HB := n2_; clear n0_ n1_ n2_; (try clear hb); (try clear hb2); (try clear hk); (try clear hi)))
    go_ret
    exact ⟨er_, bl_⟩
  rw [if_pos c2] at H
  have c2b0 : (t137 == 3421780262) = true := beq_iff_eq.mpr c2
  have c2b1 : (t137 != 3421780262) = false := bne_eq_false_iff_eq.mpr c2
  clear c2
  replace H := Option.bind_eq_some_iff.mp H
  obtain ⟨t138, A30, H⟩ := H
  replace H : (if (t138.size : Int) = 64 then ((cursor_Above.f k (⟨#[97]⟩ : ByteArray)).bind fun t139 => (some (t139.toList == ([98] : List UInt8)))) else (some false)) = some r := H
  have A3 := Z0.mk A30
  clear A30
  by_cases c4 : (t138.size : Int) = 64
  rotate_left
  · rw [if_neg c4] at H
    have c4b0 : ((t138.size : Int) == 64) = false := beq_eq_false_iff_ne.mpr c4
    have c4b1 : ((t138.size : Int) != 64) = true := bne_iff_ne.mpr c4
    obtain rfl := Option.some.inj H
    go_enter Tryz.func4, Tryz.ntmps4
    go_wp2_with (first | ((with_reducible refine gds (N := 1) rfl ?_); (try (refine gate_guard (by rfl) ?_; dsimp only)); refine bx_ (N := 1) (cs := #[.int .i64 0, .int .u8 0, .string (⟨#[]⟩ : ByteArray)]) (t := 66) ?_; intro gb133 hg w15 hbox hb; have n0_ := Z0.mk (bsp bl_ hb); have n1_ := Z0.mk (hbox); have n2_ := Z0.mk ((by rw [hg]; exact bsz bl_ : w.heap.size ≤ gb133)); have n3_ := Z0.mk ((by rw [hg]; exact bsz bl_ : w.heap.size ≤ gb133)); clear HB; have HB := n0_; have BK133 := n1_; have GW133 := n2_; have GE133 := n3_; clear n0_ n1_ n2_ n3_; clear hb hbox hg; have hcz16 := bc3 BK133.out) | ((with_reducible refine gds (N := 3) rfl ?_); (try (refine gate_guard (by rfl) ?_; dsimp only)); refine Kd.R_lit Kd.string _ 9 ?hg (N := 3) ?hd (xs := ([(⟨#[49, 50, 51, 52, 53, 54, 55, 56, 57]⟩ : ByteArray)] : List ByteArray)) (inner := [.string (⟨#[49, 50, 51, 52, 53, 54, 55, 56, 57]⟩ : ByteArray)]) (ok := fun _ => True) (okp := fun _ => True) ?hr ?hp (fun _ hk => hk) trivial (Below.refl _ _) (Nat.le_refl _) (by simp) ?_; (case hd => rfl); (case hg => rfl); (case hr => first | (go_simp; done) | (go_simp; rfl)); (case hp => exact (Reps.one (show Kd.M Kd.string _ _ _ (⟨#[49, 50, 51, 52, 53, 54, 55, 56, 57]⟩ : ByteArray) [.string (⟨#[49, 50, 51, 52, 53, 54, 55, 56, 57]⟩ : ByteArray)] from rfl) (Reps.none _ _))); intro v135 w17 ho18 hb hg_ hnew_; clear hg_ hnew_; (first | rw [← Ny134.out] at ho18 | (simp only [Int.reduceToNat] at ho18; rw [← Ny134.out] at ho18)); have n0_ := Z0.mk (Kd.R_lower ho18 (bsz bl_)); have n1_ := Z0.mk (kbl (g := gb133) bk_ hb); have n2_ := Z0.mk (bsp bl_ hb); clear BK133; clear HB; have HO136 := n0_; have BK133 := n1_; have HB := n2_; clear n0_ n1_ n2_; clear hb ho18; obtain ⟨Ao19, co19, eo19⟩ := Kd.R_slice HO136.out; subst eo19) | ((with_reducible refine gcl (f := 18) rfl ?_); refine gl_ (some 4) rfl rfl Tryz.func18 (by kernel_rfl) rfl #[.slice Ao19 y134.length co19] rfl ar_ ?_; (with_reducible refine (crc_Of.calls k _ _ y134 t137 _ ?side1 ?side2 A1.out).mono ?_); (case side1 => repeat (first | exact (Kd.R_reads' HO136.out).2.2 | (with_reducible refine Kd.C_alloc ?_ _) | (with_reducible refine Kd.C_drewN ?_ _) | (with_reducible refine Kd.C_drew ?_))); (case side2 => exact (Kd.R_reads' HO136.out).2.1); rintro e w20 ⟨rfl, hb⟩; refine ⟨_, rfl, ?_⟩; have n0_ := Z0.mk (Kd.R_below (by (with_reducible repeat (first | apply Kd.R_alloc | apply Kd.R_drewN | apply Kd.R_drew)); exact HO136.out) hb); have n1_ := Z0.mk (kbl (g := gb133) bk_ hb); have n2_ := Z0.mk (bsp bl_ hb); clear HO136; clear BK133; clear HB; have HO136 := n0_; have BK133 := n1_; have HB := n2_; clear n0_ n1_ n2_; (try clear hb); (try clear hb2); (try clear hk); (try clear hi); have hcz21 := bc3 BK133.out) | (go_at_call 19; (with_reducible refine (stamp_Sector_Text.calls k 1 0 (⟨#[]⟩ : ByteArray) t138 _ A3.out).mono ?_); rintro e w22 ⟨rfl, hb⟩; have n0_ := Z0.mk (Kd.R_below (by (with_reducible repeat (first | apply Kd.R_alloc | apply Kd.R_drewN | apply Kd.R_drew)); exact HO136.out) hb); have n1_ := Z0.mk (kbl (g := gb133) bk_ hb); have n2_ := Z0.mk (bsp bl_ hb); clear HO136; clear BK133; clear HB; have HO136 := n0_; have BK133 := n1_; have HB := n2_; clear n0_ n1_ n2_; (try clear hb); (try clear hb2); (try clear hk); (try clear hi)))
    go_ret
    exact ⟨er_, bl_⟩
  rw [if_pos c4] at H
  have c4b0 : ((t138.size : Int) == 64) = true := beq_iff_eq.mpr c4
  have c4b1 : ((t138.size : Int) != 64) = false := bne_eq_false_iff_eq.mpr c4
  clear c4
  replace H := Option.bind_eq_some_iff.mp H
  obtain ⟨t139, A50, H⟩ := H
  replace H : (some (t139.toList == ([98] : List UInt8))) = some r := H
  have A5 := Z0.mk A50
  clear A50
  obtain rfl := Option.some.inj H
  go_enter Tryz.func4, Tryz.ntmps4
  go_wp2_with (first | ((with_reducible refine gds (N := 1) rfl ?_); (try (refine gate_guard (by rfl) ?_; dsimp only)); refine bx_ (N := 1) (cs := #[.int .i64 0, .int .u8 0, .string (⟨#[]⟩ : ByteArray)]) (t := 66) ?_; intro gb133 hg w6 hbox hb; have n0_ := Z0.mk (bsp bl_ hb); have n1_ := Z0.mk (hbox); have n2_ := Z0.mk ((by rw [hg]; exact bsz bl_ : w.heap.size ≤ gb133)); have n3_ := Z0.mk ((by rw [hg]; exact bsz bl_ : w.heap.size ≤ gb133)); clear HB; have HB := n0_; have BK133 := n1_; have GW133 := n2_; have GE133 := n3_; clear n0_ n1_ n2_ n3_; clear hb hbox hg; have hcz7 := bc3 BK133.out) | ((with_reducible refine gds (N := 3) rfl ?_); (try (refine gate_guard (by rfl) ?_; dsimp only)); refine Kd.R_lit Kd.string _ 9 ?hg (N := 3) ?hd (xs := ([(⟨#[49, 50, 51, 52, 53, 54, 55, 56, 57]⟩ : ByteArray)] : List ByteArray)) (inner := [.string (⟨#[49, 50, 51, 52, 53, 54, 55, 56, 57]⟩ : ByteArray)]) (ok := fun _ => True) (okp := fun _ => True) ?hr ?hp (fun _ hk => hk) trivial (Below.refl _ _) (Nat.le_refl _) (by simp) ?_; (case hd => rfl); (case hg => rfl); (case hr => first | (go_simp; done) | (go_simp; rfl)); (case hp => exact (Reps.one (show Kd.M Kd.string _ _ _ (⟨#[49, 50, 51, 52, 53, 54, 55, 56, 57]⟩ : ByteArray) [.string (⟨#[49, 50, 51, 52, 53, 54, 55, 56, 57]⟩ : ByteArray)] from rfl) (Reps.none _ _))); intro v135 w8 ho9 hb hg_ hnew_; clear hg_ hnew_; (first | rw [← Ny134.out] at ho9 | (simp only [Int.reduceToNat] at ho9; rw [← Ny134.out] at ho9)); have n0_ := Z0.mk (Kd.R_lower ho9 (bsz bl_)); have n1_ := Z0.mk (kbl (g := gb133) bk_ hb); have n2_ := Z0.mk (bsp bl_ hb); clear BK133; clear HB; have HO136 := n0_; have BK133 := n1_; have HB := n2_; clear n0_ n1_ n2_; clear hb ho9; obtain ⟨Ao10, co10, eo10⟩ := Kd.R_slice HO136.out; subst eo10) | ((with_reducible refine gcl (f := 18) rfl ?_); refine gl_ (some 4) rfl rfl Tryz.func18 (by kernel_rfl) rfl #[.slice Ao10 y134.length co10] rfl ar_ ?_; (with_reducible refine (crc_Of.calls k _ _ y134 t137 _ ?side1 ?side2 A1.out).mono ?_); (case side1 => repeat (first | exact (Kd.R_reads' HO136.out).2.2 | (with_reducible refine Kd.C_alloc ?_ _) | (with_reducible refine Kd.C_drewN ?_ _) | (with_reducible refine Kd.C_drew ?_))); (case side2 => exact (Kd.R_reads' HO136.out).2.1); rintro e w11 ⟨rfl, hb⟩; refine ⟨_, rfl, ?_⟩; have n0_ := Z0.mk (Kd.R_below (by (with_reducible repeat (first | apply Kd.R_alloc | apply Kd.R_drewN | apply Kd.R_drew)); exact HO136.out) hb); have n1_ := Z0.mk (kbl (g := gb133) bk_ hb); have n2_ := Z0.mk (bsp bl_ hb); clear HO136; clear BK133; clear HB; have HO136 := n0_; have BK133 := n1_; have HB := n2_; clear n0_ n1_ n2_; (try clear hb); (try clear hb2); (try clear hk); (try clear hi); have hcz12 := bc3 BK133.out) | (go_at_call 19; (with_reducible refine (stamp_Sector_Text.calls k 1 0 (⟨#[]⟩ : ByteArray) t138 _ A3.out).mono ?_); rintro e w13 ⟨rfl, hb⟩; have n0_ := Z0.mk (Kd.R_below (by (with_reducible repeat (first | apply Kd.R_alloc | apply Kd.R_drewN | apply Kd.R_drew)); exact HO136.out) hb); have n1_ := Z0.mk (kbl (g := gb133) bk_ hb); have n2_ := Z0.mk (bsp bl_ hb); clear HO136; clear BK133; clear HB; have HO136 := n0_; have BK133 := n1_; have HB := n2_; clear n0_ n1_ n2_; (try clear hb); (try clear hb2); (try clear hk); (try clear hi)) | (go_at_call 20; (with_reducible refine (cursor_Above.calls k (⟨#[97]⟩ : ByteArray) t139 _ A5.out).mono ?_); rintro e w14 ⟨rfl, hb⟩; have n0_ := Z0.mk (Kd.R_below (by (with_reducible repeat (first | apply Kd.R_alloc | apply Kd.R_drewN | apply Kd.R_drew)); exact HO136.out) hb); have n1_ := Z0.mk (kbl (g := gb133) bk_ hb); have n2_ := Z0.mk (bsp bl_ hb); clear HO136; clear BK133; clear HB; have HO136 := n0_; have BK133 := n1_; have HB := n2_; clear n0_ n1_ n2_; (try clear hb); (try clear hb2); (try clear hk); (try clear hi)))
  go_ret
  exact ⟨er_, bl_⟩
def armoirelaw01_Cut.f (a0 : ByteArray) (a1 : Int) : Option (ByteArray) := if (a0.size : Int) > a1 then (if 0 ≤ a1 then (if a1 ≤ (a0.size : Int) then (some (a0.extract 0 (a1 : Int).toNat)) else (none)) else (none)) else (some a0)
set_option maxHeartbeats 8000000 in
set_option maxRecDepth 100000 in
theorem armoirelaw01_Cut.calls (a0 : ByteArray) (a1 : Int) (r : ByteArray) (w : World) (h : armoirelaw01_Cut.f a0 a1 = some r) :
    Calls Tryz.prog 46 #[.string a0, .int .i64 a1] w fun e w' => e = .returned (.string r) ∧ Drawn0 w w' := by
  have H : (if (a0.size : Int) > a1 then (if 0 ≤ a1 then (if a1 ≤ (a0.size : Int) then (some (a0.extract 0 (a1 : Int).toNat)) else (none)) else (none)) else (some a0)) = some r := h
  clear h
  by_cases c3 : (a0.size : Int) > a1
  rotate_left
  · rw [if_neg c3] at H
    have c3b0 : decide (a1 < (a0.size : Int)) = false := decide_eq_false c3
    clear c3
    obtain rfl := Option.some.inj H
    go_enter Tryz.func46, Tryz.ntmps46
    go_wp2
    go_ret
    exact ⟨by first | rfl | (simp; done) | (simp [*]; done), by repeat (first | exact Drawn0.refl _ | apply Drawn0.step)⟩
  rw [if_pos c3] at H
  have c3b0 : decide (a1 < (a0.size : Int)) = true := decide_eq_true c3
  clear c3
  by_cases c4 : 0 ≤ a1
  rotate_left
  · rw [if_neg c4] at H
    exact absurd H (by simp)
  rw [if_pos c4] at H
  have c4b0 := eq_true c4
  have c4b1 : decide (0 ≤ a1) = true := decide_eq_true c4
  clear c4
  by_cases c5 : a1 ≤ (a0.size : Int)
  rotate_left
  · rw [if_neg c5] at H
    exact absurd H (by simp)
  rw [if_pos c5] at H
  have c5b0 := eq_true c5
  have c5b1 : decide (a1 ≤ (a0.size : Int)) = true := decide_eq_true c5
  clear c5
  obtain rfl := Option.some.inj H
  go_enter Tryz.func46, Tryz.ntmps46
  go_wp2
  go_ret
  exact ⟨by first | rfl | (simp; done) | (simp [*]; done), by repeat (first | exact Drawn0.refl _ | apply Drawn0.step)⟩
def armoireref11_With.l0 : Nat → List (S72) → Bool → List (S72) → Int → Int → Int → Int → List (S72) → ByteArray → ByteArray → Option (Int × Int × (List (S72)))
  | 0, _, _, _, _, _, _, _, _, _, _ => none
  | k + 1, x5, x6, x11, x12, x13, x141000, x141001, x141002, x142000, x142001 => if x13 < x12 then (if 0 ≤ x13 then (if x13 < (x11.length : Int) then (if x6 = true then (if x5.length < 4398046511104 then (armoireref11_With.l0 k (x5 ++ [(⟨(rd_T72 x11 x13).f0, (rd_T72 x11 x13).f1⟩ : S72)]) x6 x11 x12 (wrap64 (x13 + 1)) x141000 x141001 x141002 x142000 x142001) else (none)) else (if x141000 = 6 then (if x5.length < 4398046511104 then (armoireref11_With.l0 k (x5 ++ [(⟨(rd_T72 x11 x13).f0, (rd_T72 x11 x13).f1⟩ : S72)]) x6 x11 x12 (wrap64 (x13 + 1)) x141000 x141001 x141002 x142000 x142001) else (none)) else (if (Op.bytesLess x142000.toList (((rd_T72 x11 x13).f0).toList)) = true then (if x5.length < 4398046511104 then ((some (x5 ++ [(⟨x142000, x142001⟩ : S72)] : List (S72))).bind fun y154 => (if y154.length < 4398046511104 then (armoireref11_With.l0 k (y154 ++ [(⟨(rd_T72 x11 x13).f0, (rd_T72 x11 x13).f1⟩ : S72)]) true x11 x12 (wrap64 (x13 + 1)) x141000 x141001 x141002 x142000 x142001) else (none))) else (none)) else (if x5.length < 4398046511104 then (armoireref11_With.l0 k (x5 ++ [(⟨(rd_T72 x11 x13).f0, (rd_T72 x11 x13).f1⟩ : S72)]) x6 x11 x12 (wrap64 (x13 + 1)) x141000 x141001 x141002 x142000 x142001) else (none))))) else (none)) else (none)) else (if x6 = true then (some (x141000, x141001, x5)) else (if x5.length < 4398046511104 then (some (x141000, x141001, (x5 ++ [(⟨x142000, x142001⟩ : S72)]))) else (none)))
def armoireref11_With.f (k : Nat) (a0_0 : Int) (a0_1 : Int) (l0_2 : List (S72)) (a1_0 : ByteArray) (a1_1 : ByteArray) : Option (Int × Int × (List (S72))) := armoireref11_With.l0 k (([] : List (S72))) false l0_2 (l0_2.length : Int) 0 a0_0 a0_1 l0_2 a1_0 a1_1
set_option maxHeartbeats 8000000 in
set_option maxRecDepth 100000 in
theorem armoireref11_With.calls (k : Nat) (a0_0 : Int) (a0_1 : Int) (A0_2 : Option Addr) (c0_2 : Nat) (l0_2 : List (S72)) (a1_0 : ByteArray) (a1_1 : ByteArray) (r1 : Int) (r2 : Int) (r3 : List (S72)) (w : World) (hr0_2 : Kd.C k72 w A0_2 l0_2.length l0_2) (hc0_2 : l0_2.length ≤ c0_2) (h : armoireref11_With.f k a0_0 a0_1 l0_2 a1_0 a1_1 = some (r1, r2, r3)) :
    Calls Tryz.prog 47 #[.agg #[.int .i64 a0_0, .int .i64 a0_1, .slice A0_2 l0_2.length c0_2], .agg #[.string a1_0, .string a1_1]] w fun e w' => ∃ v2_ : Value, e = .returned (.agg #[.int .i64 r1, .int .i64 r2, v2_]) ∧ Kd.R k72 72 w' w.heap.size (fun _ => True) v2_ r3 ∧ Below w.heap.size w w' := by
  have hu30 := Tryz.underlying30
  have hu72 := Tryz.underlying72
  have HR0_2 := Z0.mk hr0_2
  have HC0_2 := Z0.mk hc0_2
  clear hr0_2 hc0_2
  have HB := Z0.mk (Below.refl w.heap.size w)
  have H : (armoireref11_With.l0 k (([] : List (S72))) false l0_2 (l0_2.length : Int) 0 a0_0 a0_1 l0_2 a1_0 a1_1) = some (r1, r2, r3) := h
  clear h
  obtain ⟨y143, hy143⟩ : ∃ y_ : List (S72), y_ = (([] : List (S72))) := ⟨_, rfl⟩
  replace H : (armoireref11_With.l0 k y143 false l0_2 (l0_2.length : Int) 0 a0_0 a0_1 l0_2 a1_0 a1_1) = some (r1, r2, r3) := by first | (rw [hy143]; with_reducible exact H) | (have H2_ := (Option.bind_some _ _).symm.trans H; rw [hy143]; with_reducible exact H2_) | (have H2_ := (Option.bind_some _ _).symm.trans H; with_reducible exact H2_) | with_reducible exact H | (rw [hy143]; exact H) | exact H
  have Ny143 := Z0.mk hy143
  clear hy143
  have H' := Z0.mk H
  clear H
  go_enter Tryz.func47, Tryz.ntmps47
  go_wp2_with (first | ((with_reducible refine gds (N := 2) rfl ?_); refine bx_ (N := 2) (cs := #[.int .i64 a0_0, .int .i64 a0_1, .slice A0_2 l0_2.length c0_2]) (t := 30) ?_; intro gb140 hg w3 hbox hb; have n0_ := Z0.mk (bsp bl_ hb); have n1_ := Z0.mk (hbox); have n2_ := Z0.mk ((by rw [hg]; exact bsz bl_ : w.heap.size ≤ gb140)); have n3_ := Z0.mk ((by rw [hg]; exact bsz bl_ : w.heap.size ≤ gb140)); clear HB; have HB := n0_; have BK140 := n1_; have GW140 := n2_; have GE140 := n3_; clear n0_ n1_ n2_ n3_; clear hb hbox hg) | ((with_reducible refine gds (N := 3) rfl ?_); refine bx_ (N := 3) (cs := #[.string a1_0, .string a1_1]) (t := 72) ?_; intro gb141 hg w4 hbox hb; have n0_ := Z0.mk (kbl (g := gb140) bk_ hb); have n1_ := Z0.mk (bsp bl_ hb); have n2_ := Z0.mk (hbox); have n3_ := Z0.mk ((by rw [hg]; exact bsz bl_ : w.heap.size ≤ gb141)); have n4_ := Z0.mk ((by rw [hg]; exact bsz bl_ : w.heap.size ≤ gb141)); have n5_ := Z0.mk ((by rw [hg]; exact Nat.ne_of_lt (klt_ (g := gb140) bk_) : gb140 ≠ gb141)); have n6_ := Z0.mk ((by rw [hg]; exact Nat.ne_of_gt (klt_ (g := gb140) bk_) : gb141 ≠ gb140)); clear BK140; clear HB; have BK140 := n0_; have HB := n1_; have BK141 := n2_; have GW141 := n3_; have GE141 := n4_; have NB140_141 := n5_; have NB141_140 := n6_; clear n0_ n1_ n2_ n3_ n4_ n5_ n6_; clear hb hbox hg) | ((with_reducible refine gds (N := 4) rfl ?_); refine bx_ (N := 4) (cs := #[.int .i64 0, .int .i64 0, .slice none 0 0]) (t := 30) ?_; intro gb142 hg w5 hbox hb; have n0_ := Z0.mk (kbl (g := gb140) bk_ hb); have n1_ := Z0.mk (kbl (g := gb141) bk_ hb); have n2_ := Z0.mk (bsp bl_ hb); have n3_ := Z0.mk (hbox); have n4_ := Z0.mk ((by rw [hg]; exact bsz bl_ : w.heap.size ≤ gb142)); have n5_ := Z0.mk ((by rw [hg]; exact bsz bl_ : w.heap.size ≤ gb142)); have n6_ := Z0.mk ((by rw [hg]; exact Nat.ne_of_lt (klt_ (g := gb140) bk_) : gb140 ≠ gb142)); have n7_ := Z0.mk ((by rw [hg]; exact Nat.ne_of_gt (klt_ (g := gb140) bk_) : gb142 ≠ gb140)); have n8_ := Z0.mk ((by rw [hg]; exact Nat.ne_of_lt (klt_ (g := gb141) bk_) : gb141 ≠ gb142)); have n9_ := Z0.mk ((by rw [hg]; exact Nat.ne_of_gt (klt_ (g := gb141) bk_) : gb142 ≠ gb141)); clear BK140; clear BK141; clear HB; have BK140 := n0_; have BK141 := n1_; have HB := n2_; have BK142 := n3_; have GW142 := n4_; have GE142 := n5_; have NB140_142 := n6_; have NB142_140 := n7_; have NB141_142 := n8_; have NB142_141 := n9_; clear n0_ n1_ n2_ n3_ n4_ n5_ n6_ n7_ n8_ n9_; clear hb hbox hg) | ((with_reducible refine gds (N := 9) rfl ?_); refine Kd.R_lit k72 _ 72 ?hg (N := 9) ?hd (xs := ([] : List (S72))) (inner := []) (ok := fun _ => True) (okp := fun _ => True) ?hr ?hp (fun _ hk => hk) trivial (Below.refl _ _) (Nat.le_refl _) (by simp) ?_; (case hd => rfl); (case hg => rfl); (case hr => first | (go_simp; done) | (go_simp; rfl)); (case hp => exact (Reps.none _ _)); intro v144 w6 ho7 hb hg_ hnew_; clear hg_ hnew_; (first | rw [← Ny143.out] at ho7 | (simp only [Int.reduceToNat] at ho7; rw [← Ny143.out] at ho7)); have n0_ := Z0.mk (Kd.R_lower (Kd.R_newB ho7 (g := gb141) bk_) (bsz bl_)); have n1_ := Z0.mk (kbl (g := gb140) bk_ hb); have n2_ := Z0.mk (kbl (g := gb141) bk_ hb); have n3_ := Z0.mk (kbl (g := gb142) bk_ hb); have n4_ := Z0.mk (bsp bl_ hb); clear BK140; clear BK141; clear BK142; clear HB; have HO145 := n0_; have BK140 := n1_; have BK141 := n2_; have BK142 := n3_; have HB := n4_; clear n0_ n1_ n2_ n3_ n4_; clear hb ho7; have hnb8 := NB140_141.out; have hnc8 := NB141_140.out; have hnb9 := NB140_142.out; have hnc9 := NB142_140.out; have hcz10 := bc3 BK140.out))
  go_loopg [5, 6, 13] k (fun kq v5 v6 v13 w' => ∃ (x5_1 : List (S72)) (x6_1 : Bool) (x13_1 : Int), v6 = .bool x6_1 ∧ v13 = .int .i64 x13_1 ∧ Z0 (armoireref11_With.l0 kq x5_1 x6_1 l0_2 (l0_2.length : Int) x13_1 a0_0 a0_1 l0_2 a1_0 a1_1 = some (r1, r2, r3)) ∧ Z0 (kq ≤ k) ∧ Z0 (Kd.R k72 72 w' w.heap.size (fun k_ => k_ ≠ gb141) v5 x5_1) ∧ Z0 (w'.heap[gb140]? = some (.cells #[.int .i64 a0_0, .int .i64 a0_1, (.slice A0_2 l0_2.length c0_2)] 30 (0, 0))) ∧ Z0 (w'.heap[gb141]? = some (.cells #[.string a1_0, .string a1_1] 72 (0, 0))) ∧ Z0 (w'.heap[gb142]? = some (.cells #[.int .i64 0, .int .i64 0, (.slice none 0 0)] 30 (0, 0))) ∧ Z0 (Below w.heap.size w w'))
  case atStart => exact ⟨(y143), (false), (0), eqv_, eqv_, H', ⟨Nat.le_refl _⟩, ⟨by (with_reducible repeat (first | apply Kd.R_alloc | apply Kd.R_drewN | apply Kd.R_drew)); exact Kd.R_mono HO145.out (fun _ hk => hk.2)⟩, ⟨bk_⟩, ⟨bk_⟩, ⟨bk_⟩, ⟨bl_⟩⟩
  clear H'
  try clear p2
  try clear c4
  try clear c8
  try clear c9
  try clear hcz10
  obtain ⟨x5_1, x6_1, x13_1, rfl, rfl, HA, HK1, HO_5, BK140, BK141, BK142, HB⟩ := hrel
  cases gk with
  | zero => exact absurd HA.out (by simp [armoireref11_With.l0])
  | succ k1 =>
    have H := HA.out
    clear HA
    simp only [armoireref11_With.l0] at H
    by_cases c11 : x13_1 < (l0_2.length : Int)
    rotate_left
    · rw [if_neg c11] at H
      have c11b0 : decide (x13_1 < (l0_2.length : Int)) = false := decide_eq_false c11
      clear c11
      by_cases c61 : x6_1 = true
      · subst c61
        have H1 : (some (a0_0, a0_1, x5_1)) = some (r1, r2, r3) := by rw [if_pos rfl] at H; exact H
        clear H
        have H := H1
        clear H1
        simp only [Option.some.injEq, Prod.mk.injEq] at H
        obtain ⟨rfl, rfl, rfl⟩ := H
        have hnb62 := NB140_141.out
        have hnc62 := NB141_140.out
        have hnb63 := NB140_142.out
        have hnc63 := NB142_140.out
        have hcz64 := bc3 BK140.out
        obtain ⟨Ao65, co65, eo65⟩ := Kd.R_slice HO_5.out
        subst eo65
        have hnb66 := NB142_141.out
        have hnc66 := NB141_142.out
        have hcz67 := bc3 BK142.out
        go_wp2
        refine bodyPost_ret (results_cell_row rfl _ _ gb142 30 #[.int .i64 a0_0, .int .i64 a0_1, .slice Ao65 x5_1.length co65] (0, 0) _ rfl bk_ Tryz.underlying30 rfl (by kernel_rfl)) rfl ?_
        exact ⟨_, er_, by (with_reducible repeat (first | apply Kd.R_alloc | apply Kd.R_drewN | apply Kd.R_drew)); exact Kd.R_mono (Kd.R_far (p := ⟨gb142, 2, none⟩) (Kd.R_far (p := ⟨gb142, 1, none⟩) (Kd.R_far (p := ⟨gb142, 0, none⟩) (Kd.R_types HO_5.out BK142.out (by decide)) (fun _ hk => hk.2) (.int .i64 a0_0)) (fun _ hk => hk.2) (.int .i64 a0_1)) (fun _ hk => hk.2) (.slice Ao65 x5_1.length co65)) (fun _ hk => trivial), bl_⟩
      replace c61 := Bool.eq_false_iff.mpr c61
      subst c61
      have H1 : (if x5_1.length < 4398046511104 then (some (a0_0, a0_1, (x5_1 ++ [(⟨a1_0, a1_1⟩ : S72)]))) else (none)) = some (r1, r2, r3) := by rw [if_neg (show ¬ (false = true) by decide)] at H; exact H
      clear H
      have H := H1
      clear H1
      by_cases c68 : x5_1.length < 4398046511104
      rotate_left
      · rw [if_neg c68] at H
        exact absurd H (by simp)
      rw [if_pos c68] at H
      have LMc68 := Z0.mk c68
      clear c68
      obtain ⟨y163, hy163⟩ : ∃ y_ : List (S72), y_ = (x5_1 ++ [(⟨a1_0, a1_1⟩ : S72)]) := ⟨_, rfl⟩
      replace H : (some (a0_0, a0_1, y163)) = some (r1, r2, r3) := by first | (rw [hy163]; with_reducible exact H) | (have H2_ := (Option.bind_some _ _).symm.trans H; rw [hy163]; with_reducible exact H2_) | (have H2_ := (Option.bind_some _ _).symm.trans H; with_reducible exact H2_) | with_reducible exact H | (rw [hy163]; exact H) | exact H
      have Ny163 := Z0.mk hy163
      clear hy163
      simp only [Option.some.injEq, Prod.mk.injEq] at H
      obtain ⟨rfl, rfl, rfl⟩ := H
      have hnb69 := NB141_140.out
      have hnc69 := NB140_141.out
      have hnb70 := NB141_142.out
      have hnc70 := NB142_141.out
      have hcz71 := bc2 BK141.out
      go_wp2_with (first | ((with_reducible refine gate_builtin (b := .append) (xs := #[.tmp 42, .tmp 44]) rfl ?_); at_builtin; refine Kd.R_append k72 (w0 := w) w.heap.size rfl (.tmp 42) (.tmp 44) 28 72 (.agg #[(.string ⟨#[]⟩), (.string ⟨#[]⟩)]) 32 rfl Tryz.underlying28 info72 rfl (by decide) (by omega) u5 x5_1 (⟨a1_0, a1_1⟩ : S72) [.string a1_0, .string a1_1] (fun k_ => k_ ≠ gb141) (fun _ => False) rfl rfl ?aP (fun _ hk => hk.elim) ?aF ?aO ?aB ?aS ?aL ?_; (case aP => exact k72_mkM _ _ _ (⟨a1_0, a1_1⟩ : S72)); (case aB => exact bl_); (case aF => exact (fun k_ hk => Kd.freshB (g := gb141) bk_ k_ hk)); (case aO => exact (by (with_reducible repeat (first | apply Kd.R_alloc | apply Kd.R_drewN | apply Kd.R_drew)); exact HO_5.out)); (case aS => exact bsz bl_); (case aL => have := LMc68.out; omega); intro v164 w72 ho hb hg hat; rw [← Ny163.out] at ho; have n0_ := Z0.mk (kgr_ (g := gb140) bk_ hg (Kd.R_ne HO_5.out BK140.out (by decide))); have n1_ := Z0.mk (kgr_ (g := gb141) bk_ hg (Kd.R_away HO_5.out (fun _ hk => hk))); have n2_ := Z0.mk (kgr_ (g := gb142) bk_ hg (Kd.R_ne HO_5.out BK142.out (by decide))); have n3_ := Z0.mk (hb); have n4_ := Z0.mk (ho); clear BK140; clear BK141; clear BK142; clear HB; clear HO_5; have BK140 := n0_; have BK141 := n1_; have BK142 := n2_; have HB := n3_; have HO165 := n4_; clear n0_ n1_ n2_ n3_ n4_; clear ho hb hg hat; have hnb73 := NB140_142.out; have hnc73 := NB142_140.out; have hcz74 := bc3 BK140.out; obtain ⟨Ao75, co75, eo75⟩ := Kd.R_slice HO165.out; subst eo75; have hcz76 := bc3 BK142.out))
      refine bodyPost_ret (results_cell_row rfl _ _ gb142 30 #[.int .i64 a0_0, .int .i64 a0_1, .slice Ao75 y163.length co75] (0, 0) _ rfl bk_ Tryz.underlying30 rfl (by kernel_rfl)) rfl ?_
      exact ⟨_, er_, by (with_reducible repeat (first | apply Kd.R_alloc | apply Kd.R_drewN | apply Kd.R_drew)); exact Kd.R_mono (Kd.R_far (p := ⟨gb142, 2, none⟩) (Kd.R_far (p := ⟨gb142, 1, none⟩) (Kd.R_far (p := ⟨gb142, 0, none⟩) (Kd.R_types HO165.out BK142.out (by decide)) (fun _ hk => hk.2) (.int .i64 a0_0)) (fun _ hk => hk.2) (.int .i64 a0_1)) (fun _ hk => hk.2) (.slice Ao75 y163.length co75)) (fun _ hk => trivial), bl_⟩
    rw [if_pos c11] at H
    have c11b0 : decide (x13_1 < (l0_2.length : Int)) = true := decide_eq_true c11
    clear c11
    by_cases c12 : 0 ≤ x13_1
    rotate_left
    · rw [if_neg c12] at H
      exact absurd H (by simp)
    rw [if_pos c12] at H
    have c12b0 : decide (0 ≤ x13_1) = true := decide_eq_true c12
    clear c12
    by_cases c13 : x13_1 < (l0_2.length : Int)
    rotate_left
    · rw [if_neg c13] at H
      exact absurd H (by simp)
    rw [if_pos c13] at H
    have c13b0 : decide (x13_1 < (l0_2.length : Int)) = true := decide_eq_true c13
    clear c13
    by_cases c14 : x6_1 = true
    · subst c14
      have H1 : (if x5_1.length < 4398046511104 then (armoireref11_With.l0 k1 (x5_1 ++ [(⟨(rd_T72 l0_2 x13_1).f0, (rd_T72 l0_2 x13_1).f1⟩ : S72)]) true l0_2 (l0_2.length : Int) (wrap64 (x13_1 + 1)) a0_0 a0_1 l0_2 a1_0 a1_1) else (none)) = some (r1, r2, r3) := by rw [if_pos rfl] at H; exact H
      clear H
      have H := H1
      clear H1
      by_cases c15 : x5_1.length < 4398046511104
      rotate_left
      · rw [if_neg c15] at H
        exact absurd H (by simp)
      rw [if_pos c15] at H
      have LMc15 := Z0.mk c15
      clear c15
      obtain ⟨y148, hy148⟩ : ∃ y_ : List (S72), y_ = (x5_1 ++ [(⟨(rd_T72 l0_2 x13_1).f0, (rd_T72 l0_2 x13_1).f1⟩ : S72)]) := ⟨_, rfl⟩
      replace H : (armoireref11_With.l0 k1 y148 true l0_2 (l0_2.length : Int) (wrap64 (x13_1 + 1)) a0_0 a0_1 l0_2 a1_0 a1_1) = some (r1, r2, r3) := by first | (rw [hy148]; with_reducible exact H) | (have H2_ := (Option.bind_some _ _).symm.trans H; rw [hy148]; with_reducible exact H2_) | (have H2_ := (Option.bind_some _ _).symm.trans H; with_reducible exact H2_) | with_reducible exact H | (rw [hy148]; exact H) | exact H
      have Ny148 := Z0.mk hy148
      clear hy148
      have H' := Z0.mk H
      clear H
      have p146 : 0 ≤ (x13_1 : Int) := of_decide_eq_true (by first | (with_reducible assumption) | assumption)
      have q146 : x13_1 < (l0_2.length : Int) := of_decide_eq_true (by first | (with_reducible assumption) | assumption)
      obtain ⟨ad146, e146, hx146_0, hx146_1⟩ := at_T72 HR0_2.out x13_1 p146 q146
      cases e146
      replace hx146_0 := (HB.out.cell (World.block_lt_of_cell? w _ hx146_0)).trans hx146_0
      replace hx146_1 := (HB.out.cell (World.block_lt_of_cell? w _ hx146_1)).trans hx146_1
      replace p146 := eq_true p146
      replace q146 := eq_true q146
      go_wp2_with (first | ((with_reducible refine gds (N := 8) rfl ?_); refine bx_ (N := 8) (cs := #[.string (⟨#[]⟩ : ByteArray), .string (⟨#[]⟩ : ByteArray)]) (t := 72) ?_; intro gb147 hg w16 hbox hb; have n0_ := Z0.mk (Kd.R_below (Kd.R_elderB (by (with_reducible repeat (first | apply Kd.R_alloc | apply Kd.R_drewN | apply Kd.R_drew)); exact HO_5.out) gb147 (Nat.le_of_eq hg.symm)) hb); have n1_ := Z0.mk (kbl (g := gb140) bk_ hb); have n2_ := Z0.mk (kbl (g := gb141) bk_ hb); have n3_ := Z0.mk (kbl (g := gb142) bk_ hb); have n4_ := Z0.mk (bsp bl_ hb); have n5_ := Z0.mk (hbox); have n6_ := Z0.mk ((by rw [hg]; exact bsz bl_ : w.heap.size ≤ gb147)); have n7_ := Z0.mk ((by rw [hg]; exact bsz bl_ : w.heap.size ≤ gb147)); have n8_ := Z0.mk ((by rw [hg]; exact Nat.ne_of_lt (klt_ (g := gb140) bk_) : gb140 ≠ gb147)); have n9_ := Z0.mk ((by rw [hg]; exact Nat.ne_of_gt (klt_ (g := gb140) bk_) : gb147 ≠ gb140)); have n10_ := Z0.mk ((by rw [hg]; exact Nat.ne_of_lt (klt_ (g := gb141) bk_) : gb141 ≠ gb147)); have n11_ := Z0.mk ((by rw [hg]; exact Nat.ne_of_gt (klt_ (g := gb141) bk_) : gb147 ≠ gb141)); have n12_ := Z0.mk ((by rw [hg]; exact Nat.ne_of_lt (klt_ (g := gb142) bk_) : gb142 ≠ gb147)); have n13_ := Z0.mk ((by rw [hg]; exact Nat.ne_of_gt (klt_ (g := gb142) bk_) : gb147 ≠ gb142)); clear HO_5; clear BK140; clear BK141; clear BK142; clear HB; have HO_5 := n0_; have BK140 := n1_; have BK141 := n2_; have BK142 := n3_; have HB := n4_; have BK147 := n5_; have GW147 := n6_; have GE147 := n7_; have NB140_147 := n8_; have NB147_140 := n9_; have NB141_147 := n10_; have NB147_141 := n11_; have NB142_147 := n12_; have NB147_142 := n13_; clear n0_ n1_ n2_ n3_ n4_ n5_ n6_ n7_ n8_ n9_ n10_ n11_ n12_ n13_; clear hb hbox hg; have hnb17 := NB147_140.out; have hnc17 := NB140_147.out; have hnb18 := NB147_141.out; have hnc18 := NB141_147.out; have hnb19 := NB147_142.out; have hnc19 := NB142_147.out; have hcz20 := bc2 BK147.out) | ((with_reducible refine gate_builtin (b := .append) (xs := #[.tmp 35, .tmp 37]) rfl ?_); at_builtin; refine Kd.R_append k72 (w0 := w) w.heap.size rfl (.tmp 35) (.tmp 37) 28 72 (.agg #[(.string ⟨#[]⟩), (.string ⟨#[]⟩)]) 32 rfl Tryz.underlying28 info72 rfl (by decide) (by omega) u5 x5_1 (⟨(rd_T72 l0_2 x13_1).f0, (rd_T72 l0_2 x13_1).f1⟩ : S72) [.string ((rd_T72 l0_2 x13_1).f0), .string ((rd_T72 l0_2 x13_1).f1)] (fun k_ => k_ ≠ gb141 ∧ k_ ≠ gb147) (fun _ => False) rfl (by first | (go_simp; done) | (go_simp; rfl)) ?aP (fun _ hk => hk.elim) ?aF ?aO ?aB ?aS ?aL ?_; (case aP => exact k72_mkM _ _ _ (⟨(rd_T72 l0_2 x13_1).f0, (rd_T72 l0_2 x13_1).f1⟩ : S72)); (case aB => exact bl_); (case aF => exact (fun k_ hk => ⟨Kd.freshB (g := gb141) bk_ k_ hk, Kd.freshB (g := gb147) bk_ k_ hk⟩)); (case aO => exact (by (with_reducible repeat (first | apply Kd.R_alloc | apply Kd.R_drewN | apply Kd.R_drew)); exact Kd.R_mono (Kd.R_far (p := ⟨gb147, 1, none⟩) (Kd.R_far (p := ⟨gb147, 0, none⟩) (Kd.R_mono HO_5.out (fun k_ hk => (⟨hk, hk.2⟩ : _ ∧ k_ ≠ gb147))) (fun _ hk => hk.2) (.string ((rd_T72 l0_2 x13_1).f0))) (fun _ hk => hk.2) (.string ((rd_T72 l0_2 x13_1).f1))) (fun _ hk => ⟨hk.1.1, hk.1.2⟩))); (case aS => exact bsz bl_); (case aL => have := LMc15.out; omega); intro v149 w21 ho hb hg hat; rw [← Ny148.out] at ho; have n0_ := Z0.mk (kgr_ (g := gb140) bk_ hg (Kd.R_ne HO_5.out BK140.out (by decide))); have n1_ := Z0.mk (kgr_ (g := gb141) bk_ hg (Kd.R_away HO_5.out (fun _ hk => hk.1))); have n2_ := Z0.mk (kgr_ (g := gb142) bk_ hg (Kd.R_ne HO_5.out BK142.out (by decide))); have n3_ := Z0.mk (kgr_ (g := gb147) bk_ hg (Kd.R_away HO_5.out (fun _ hk => hk.2))); have n4_ := Z0.mk (hb); have n5_ := Z0.mk (ho); clear BK140; clear BK141; clear BK142; clear BK147; clear HB; clear HO_5; have BK140 := n0_; have BK141 := n1_; have BK142 := n2_; have BK147 := n3_; have HB := n4_; have HO150 := n5_; clear n0_ n1_ n2_ n3_ n4_ n5_; clear ho hb hg hat))
      go_roundg k1
      case measure => have := HK1.out; omega
      case rel => exact ⟨(y148), (true), (wrap64 (x13_1 + 1)), eqv_, eqv_, H', ⟨by have := HK1.out; omega⟩, ⟨by (with_reducible repeat (first | apply Kd.R_alloc | apply Kd.R_drewN | apply Kd.R_drew)); exact Kd.R_mono HO150.out (fun _ hk => hk.1)⟩, ⟨bk_⟩, ⟨bk_⟩, ⟨bk_⟩, ⟨bl_⟩⟩
    replace c14 := Bool.eq_false_iff.mpr c14
    subst c14
    have H1 : (if a0_0 = 6 then (if x5_1.length < 4398046511104 then (armoireref11_With.l0 k1 (x5_1 ++ [(⟨(rd_T72 l0_2 x13_1).f0, (rd_T72 l0_2 x13_1).f1⟩ : S72)]) false l0_2 (l0_2.length : Int) (wrap64 (x13_1 + 1)) a0_0 a0_1 l0_2 a1_0 a1_1) else (none)) else (if (Op.bytesLess a1_0.toList (((rd_T72 l0_2 x13_1).f0).toList)) = true then (if x5_1.length < 4398046511104 then ((some (x5_1 ++ [(⟨a1_0, a1_1⟩ : S72)] : List (S72))).bind fun y154 => (if y154.length < 4398046511104 then (armoireref11_With.l0 k1 (y154 ++ [(⟨(rd_T72 l0_2 x13_1).f0, (rd_T72 l0_2 x13_1).f1⟩ : S72)]) true l0_2 (l0_2.length : Int) (wrap64 (x13_1 + 1)) a0_0 a0_1 l0_2 a1_0 a1_1) else (none))) else (none)) else (if x5_1.length < 4398046511104 then (armoireref11_With.l0 k1 (x5_1 ++ [(⟨(rd_T72 l0_2 x13_1).f0, (rd_T72 l0_2 x13_1).f1⟩ : S72)]) false l0_2 (l0_2.length : Int) (wrap64 (x13_1 + 1)) a0_0 a0_1 l0_2 a1_0 a1_1) else (none)))) = some (r1, r2, r3) := by rw [if_neg (show ¬ (false = true) by decide)] at H; exact H
    clear H
    have H := H1
    clear H1
    by_cases c22 : a0_0 = 6
    · rw [if_pos c22] at H
      have c22b0 : (a0_0 == 6) = true := beq_iff_eq.mpr c22
      have c22b1 : (a0_0 != 6) = false := bne_eq_false_iff_eq.mpr c22
      clear c22
      by_cases c23 : x5_1.length < 4398046511104
      rotate_left
      · rw [if_neg c23] at H
        exact absurd H (by simp)
      rw [if_pos c23] at H
      have LMc23 := Z0.mk c23
      clear c23
      obtain ⟨y151, hy151⟩ : ∃ y_ : List (S72), y_ = (x5_1 ++ [(⟨(rd_T72 l0_2 x13_1).f0, (rd_T72 l0_2 x13_1).f1⟩ : S72)]) := ⟨_, rfl⟩
      replace H : (armoireref11_With.l0 k1 y151 false l0_2 (l0_2.length : Int) (wrap64 (x13_1 + 1)) a0_0 a0_1 l0_2 a1_0 a1_1) = some (r1, r2, r3) := by first | (rw [hy151]; with_reducible exact H) | (have H2_ := (Option.bind_some _ _).symm.trans H; rw [hy151]; with_reducible exact H2_) | (have H2_ := (Option.bind_some _ _).symm.trans H; with_reducible exact H2_) | with_reducible exact H | (rw [hy151]; exact H) | exact H
      have Ny151 := Z0.mk hy151
      clear hy151
      have H' := Z0.mk H
      clear H
      have p146 : 0 ≤ (x13_1 : Int) := of_decide_eq_true (by first | (with_reducible assumption) | assumption)
      have q146 : x13_1 < (l0_2.length : Int) := of_decide_eq_true (by first | (with_reducible assumption) | assumption)
      obtain ⟨ad146, e146, hx146_0, hx146_1⟩ := at_T72 HR0_2.out x13_1 p146 q146
      cases e146
      replace hx146_0 := (HB.out.cell (World.block_lt_of_cell? w _ hx146_0)).trans hx146_0
      replace hx146_1 := (HB.out.cell (World.block_lt_of_cell? w _ hx146_1)).trans hx146_1
      replace p146 := eq_true p146
      replace q146 := eq_true q146
      go_wp2_with (first | ((with_reducible refine gds (N := 8) rfl ?_); refine bx_ (N := 8) (cs := #[.string (⟨#[]⟩ : ByteArray), .string (⟨#[]⟩ : ByteArray)]) (t := 72) ?_; intro gb147 hg w24 hbox hb; have n0_ := Z0.mk (Kd.R_below (Kd.R_elderB (by (with_reducible repeat (first | apply Kd.R_alloc | apply Kd.R_drewN | apply Kd.R_drew)); exact HO_5.out) gb147 (Nat.le_of_eq hg.symm)) hb); have n1_ := Z0.mk (kbl (g := gb140) bk_ hb); have n2_ := Z0.mk (kbl (g := gb141) bk_ hb); have n3_ := Z0.mk (kbl (g := gb142) bk_ hb); have n4_ := Z0.mk (bsp bl_ hb); have n5_ := Z0.mk (hbox); have n6_ := Z0.mk ((by rw [hg]; exact bsz bl_ : w.heap.size ≤ gb147)); have n7_ := Z0.mk ((by rw [hg]; exact bsz bl_ : w.heap.size ≤ gb147)); have n8_ := Z0.mk ((by rw [hg]; exact Nat.ne_of_lt (klt_ (g := gb140) bk_) : gb140 ≠ gb147)); have n9_ := Z0.mk ((by rw [hg]; exact Nat.ne_of_gt (klt_ (g := gb140) bk_) : gb147 ≠ gb140)); have n10_ := Z0.mk ((by rw [hg]; exact Nat.ne_of_lt (klt_ (g := gb141) bk_) : gb141 ≠ gb147)); have n11_ := Z0.mk ((by rw [hg]; exact Nat.ne_of_gt (klt_ (g := gb141) bk_) : gb147 ≠ gb141)); have n12_ := Z0.mk ((by rw [hg]; exact Nat.ne_of_lt (klt_ (g := gb142) bk_) : gb142 ≠ gb147)); have n13_ := Z0.mk ((by rw [hg]; exact Nat.ne_of_gt (klt_ (g := gb142) bk_) : gb147 ≠ gb142)); clear HO_5; clear BK140; clear BK141; clear BK142; clear HB; have HO_5 := n0_; have BK140 := n1_; have BK141 := n2_; have BK142 := n3_; have HB := n4_; have BK147 := n5_; have GW147 := n6_; have GE147 := n7_; have NB140_147 := n8_; have NB147_140 := n9_; have NB141_147 := n10_; have NB147_141 := n11_; have NB142_147 := n12_; have NB147_142 := n13_; clear n0_ n1_ n2_ n3_ n4_ n5_ n6_ n7_ n8_ n9_ n10_ n11_ n12_ n13_; clear hb hbox hg; have hnb25 := NB147_140.out; have hnc25 := NB140_147.out; have hnb26 := NB147_141.out; have hnc26 := NB141_147.out; have hnb27 := NB147_142.out; have hnc27 := NB142_147.out; have hcz28 := bc2 BK147.out; have hnb29 := NB140_141.out; have hnc29 := NB141_140.out; have hnb30 := NB140_142.out; have hnc30 := NB142_140.out; have hcz31 := bc3 BK140.out) | ((with_reducible refine gate_builtin (b := .append) (xs := #[.tmp 35, .tmp 37]) rfl ?_); at_builtin; refine Kd.R_append k72 (w0 := w) w.heap.size rfl (.tmp 35) (.tmp 37) 28 72 (.agg #[(.string ⟨#[]⟩), (.string ⟨#[]⟩)]) 32 rfl Tryz.underlying28 info72 rfl (by decide) (by omega) u5 x5_1 (⟨(rd_T72 l0_2 x13_1).f0, (rd_T72 l0_2 x13_1).f1⟩ : S72) [.string ((rd_T72 l0_2 x13_1).f0), .string ((rd_T72 l0_2 x13_1).f1)] (fun k_ => k_ ≠ gb141 ∧ k_ ≠ gb147) (fun _ => False) rfl (by first | (go_simp; done) | (go_simp; rfl)) ?aP (fun _ hk => hk.elim) ?aF ?aO ?aB ?aS ?aL ?_; (case aP => exact k72_mkM _ _ _ (⟨(rd_T72 l0_2 x13_1).f0, (rd_T72 l0_2 x13_1).f1⟩ : S72)); (case aB => exact bl_); (case aF => exact (fun k_ hk => ⟨Kd.freshB (g := gb141) bk_ k_ hk, Kd.freshB (g := gb147) bk_ k_ hk⟩)); (case aO => exact (by (with_reducible repeat (first | apply Kd.R_alloc | apply Kd.R_drewN | apply Kd.R_drew)); exact Kd.R_mono (Kd.R_far (p := ⟨gb147, 1, none⟩) (Kd.R_far (p := ⟨gb147, 0, none⟩) (Kd.R_mono HO_5.out (fun k_ hk => (⟨hk, hk.2⟩ : _ ∧ k_ ≠ gb147))) (fun _ hk => hk.2) (.string ((rd_T72 l0_2 x13_1).f0))) (fun _ hk => hk.2) (.string ((rd_T72 l0_2 x13_1).f1))) (fun _ hk => ⟨hk.1.1, hk.1.2⟩))); (case aS => exact bsz bl_); (case aL => have := LMc23.out; omega); intro v152 w32 ho hb hg hat; rw [← Ny151.out] at ho; have n0_ := Z0.mk (kgr_ (g := gb140) bk_ hg (Kd.R_ne HO_5.out BK140.out (by decide))); have n1_ := Z0.mk (kgr_ (g := gb141) bk_ hg (Kd.R_away HO_5.out (fun _ hk => hk.1))); have n2_ := Z0.mk (kgr_ (g := gb142) bk_ hg (Kd.R_ne HO_5.out BK142.out (by decide))); have n3_ := Z0.mk (kgr_ (g := gb147) bk_ hg (Kd.R_away HO_5.out (fun _ hk => hk.2))); have n4_ := Z0.mk (hb); have n5_ := Z0.mk (ho); clear BK140; clear BK141; clear BK142; clear BK147; clear HB; clear HO_5; have BK140 := n0_; have BK141 := n1_; have BK142 := n2_; have BK147 := n3_; have HB := n4_; have HO153 := n5_; clear n0_ n1_ n2_ n3_ n4_ n5_; clear ho hb hg hat))
      go_roundg k1
      case measure => have := HK1.out; omega
      case rel => exact ⟨(y151), (false), (wrap64 (x13_1 + 1)), eqv_, eqv_, H', ⟨by have := HK1.out; omega⟩, ⟨by (with_reducible repeat (first | apply Kd.R_alloc | apply Kd.R_drewN | apply Kd.R_drew)); exact Kd.R_mono HO153.out (fun _ hk => hk.1)⟩, ⟨bk_⟩, ⟨bk_⟩, ⟨bk_⟩, ⟨bl_⟩⟩
    rw [if_neg c22] at H
    have c22b0 : (a0_0 == 6) = false := beq_eq_false_iff_ne.mpr c22
    have c22b1 : (a0_0 != 6) = true := bne_iff_ne.mpr c22
    by_cases c33 : (Op.bytesLess a1_0.toList (((rd_T72 l0_2 x13_1).f0).toList)) = true
    rotate_left
    · rw [if_neg c33] at H
      have c33b0 : (Op.bytesLess a1_0.toList (((rd_T72 l0_2 x13_1).f0).toList)) = false := by simpa using c33
      (try (have c33b1 : (Op.bytesLess (((rd_T72 l0_2 x13_1).f0).toList) a1_0.toList || (((rd_T72 l0_2 x13_1).f0).toList) == a1_0.toList) = true := bl_le c33))
      (try (have c33b2 : ((!Op.bytesLess (((rd_T72 l0_2 x13_1).f0).toList) a1_0.toList) = true ∧ (!(((rd_T72 l0_2 x13_1).f0).toList) == a1_0.toList) = true) = False := bl_and c33))
      (try (have c33b3 : (!Op.bytesLess (((rd_T72 l0_2 x13_1).f0).toList) a1_0.toList && !(((rd_T72 l0_2 x13_1).f0).toList) == a1_0.toList) = false := bl_bb c33))
      (try (have c33b4 : (!(Op.bytesLess (((rd_T72 l0_2 x13_1).f0).toList) a1_0.toList || (((rd_T72 l0_2 x13_1).f0).toList) == a1_0.toList)) = false := bl_nn c33))
      clear c33
      by_cases c49 : x5_1.length < 4398046511104
      rotate_left
      · rw [if_neg c49] at H
        exact absurd H (by simp)
      rw [if_pos c49] at H
      have LMc49 := Z0.mk c49
      clear c49
      obtain ⟨y160, hy160⟩ : ∃ y_ : List (S72), y_ = (x5_1 ++ [(⟨(rd_T72 l0_2 x13_1).f0, (rd_T72 l0_2 x13_1).f1⟩ : S72)]) := ⟨_, rfl⟩
      replace H : (armoireref11_With.l0 k1 y160 false l0_2 (l0_2.length : Int) (wrap64 (x13_1 + 1)) a0_0 a0_1 l0_2 a1_0 a1_1) = some (r1, r2, r3) := by first | (rw [hy160]; with_reducible exact H) | (have H2_ := (Option.bind_some _ _).symm.trans H; rw [hy160]; with_reducible exact H2_) | (have H2_ := (Option.bind_some _ _).symm.trans H; with_reducible exact H2_) | with_reducible exact H | (rw [hy160]; exact H) | exact H
      have Ny160 := Z0.mk hy160
      clear hy160
      have H' := Z0.mk H
      clear H
      have p146 : 0 ≤ (x13_1 : Int) := of_decide_eq_true (by first | (with_reducible assumption) | assumption)
      have q146 : x13_1 < (l0_2.length : Int) := of_decide_eq_true (by first | (with_reducible assumption) | assumption)
      obtain ⟨ad146, e146, hx146_0, hx146_1⟩ := at_T72 HR0_2.out x13_1 p146 q146
      cases e146
      replace hx146_0 := (HB.out.cell (World.block_lt_of_cell? w _ hx146_0)).trans hx146_0
      replace hx146_1 := (HB.out.cell (World.block_lt_of_cell? w _ hx146_1)).trans hx146_1
      replace p146 := eq_true p146
      replace q146 := eq_true q146
      go_wp2_with (first | ((with_reducible refine gds (N := 8) rfl ?_); refine bx_ (N := 8) (cs := #[.string (⟨#[]⟩ : ByteArray), .string (⟨#[]⟩ : ByteArray)]) (t := 72) ?_; intro gb147 hg w50 hbox hb; have n0_ := Z0.mk (Kd.R_below (Kd.R_elderB (by (with_reducible repeat (first | apply Kd.R_alloc | apply Kd.R_drewN | apply Kd.R_drew)); exact HO_5.out) gb147 (Nat.le_of_eq hg.symm)) hb); have n1_ := Z0.mk (kbl (g := gb140) bk_ hb); have n2_ := Z0.mk (kbl (g := gb141) bk_ hb); have n3_ := Z0.mk (kbl (g := gb142) bk_ hb); have n4_ := Z0.mk (bsp bl_ hb); have n5_ := Z0.mk (hbox); have n6_ := Z0.mk ((by rw [hg]; exact bsz bl_ : w.heap.size ≤ gb147)); have n7_ := Z0.mk ((by rw [hg]; exact bsz bl_ : w.heap.size ≤ gb147)); have n8_ := Z0.mk ((by rw [hg]; exact Nat.ne_of_lt (klt_ (g := gb140) bk_) : gb140 ≠ gb147)); have n9_ := Z0.mk ((by rw [hg]; exact Nat.ne_of_gt (klt_ (g := gb140) bk_) : gb147 ≠ gb140)); have n10_ := Z0.mk ((by rw [hg]; exact Nat.ne_of_lt (klt_ (g := gb141) bk_) : gb141 ≠ gb147)); have n11_ := Z0.mk ((by rw [hg]; exact Nat.ne_of_gt (klt_ (g := gb141) bk_) : gb147 ≠ gb141)); have n12_ := Z0.mk ((by rw [hg]; exact Nat.ne_of_lt (klt_ (g := gb142) bk_) : gb142 ≠ gb147)); have n13_ := Z0.mk ((by rw [hg]; exact Nat.ne_of_gt (klt_ (g := gb142) bk_) : gb147 ≠ gb142)); clear HO_5; clear BK140; clear BK141; clear BK142; clear HB; have HO_5 := n0_; have BK140 := n1_; have BK141 := n2_; have BK142 := n3_; have HB := n4_; have BK147 := n5_; have GW147 := n6_; have GE147 := n7_; have NB140_147 := n8_; have NB147_140 := n9_; have NB141_147 := n10_; have NB147_141 := n11_; have NB142_147 := n12_; have NB147_142 := n13_; clear n0_ n1_ n2_ n3_ n4_ n5_ n6_ n7_ n8_ n9_ n10_ n11_ n12_ n13_; clear hb hbox hg; have hnb51 := NB147_140.out; have hnc51 := NB140_147.out; have hnb52 := NB147_141.out; have hnc52 := NB141_147.out; have hnb53 := NB147_142.out; have hnc53 := NB142_147.out; have hcz54 := bc2 BK147.out; have hnb55 := NB140_141.out; have hnc55 := NB141_140.out; have hnb56 := NB140_142.out; have hnc56 := NB142_140.out; have hcz57 := bc3 BK140.out; have hnb58 := NB141_142.out; have hnc58 := NB142_141.out; have hcz59 := bc2 BK141.out) | ((with_reducible refine gate_builtin (b := .append) (xs := #[.tmp 35, .tmp 37]) rfl ?_); at_builtin; refine Kd.R_append k72 (w0 := w) w.heap.size rfl (.tmp 35) (.tmp 37) 28 72 (.agg #[(.string ⟨#[]⟩), (.string ⟨#[]⟩)]) 32 rfl Tryz.underlying28 info72 rfl (by decide) (by omega) u5 x5_1 (⟨(rd_T72 l0_2 x13_1).f0, (rd_T72 l0_2 x13_1).f1⟩ : S72) [.string ((rd_T72 l0_2 x13_1).f0), .string ((rd_T72 l0_2 x13_1).f1)] (fun k_ => k_ ≠ gb141 ∧ k_ ≠ gb147) (fun _ => False) rfl (by first | (go_simp; done) | (go_simp; rfl)) ?aP (fun _ hk => hk.elim) ?aF ?aO ?aB ?aS ?aL ?_; (case aP => exact k72_mkM _ _ _ (⟨(rd_T72 l0_2 x13_1).f0, (rd_T72 l0_2 x13_1).f1⟩ : S72)); (case aB => exact bl_); (case aF => exact (fun k_ hk => ⟨Kd.freshB (g := gb141) bk_ k_ hk, Kd.freshB (g := gb147) bk_ k_ hk⟩)); (case aO => exact (by (with_reducible repeat (first | apply Kd.R_alloc | apply Kd.R_drewN | apply Kd.R_drew)); exact Kd.R_mono (Kd.R_far (p := ⟨gb147, 1, none⟩) (Kd.R_far (p := ⟨gb147, 0, none⟩) (Kd.R_mono HO_5.out (fun k_ hk => (⟨hk, hk.2⟩ : _ ∧ k_ ≠ gb147))) (fun _ hk => hk.2) (.string ((rd_T72 l0_2 x13_1).f0))) (fun _ hk => hk.2) (.string ((rd_T72 l0_2 x13_1).f1))) (fun _ hk => ⟨hk.1.1, hk.1.2⟩))); (case aS => exact bsz bl_); (case aL => have := LMc49.out; omega); intro v161 w60 ho hb hg hat; rw [← Ny160.out] at ho; have n0_ := Z0.mk (kgr_ (g := gb140) bk_ hg (Kd.R_ne HO_5.out BK140.out (by decide))); have n1_ := Z0.mk (kgr_ (g := gb141) bk_ hg (Kd.R_away HO_5.out (fun _ hk => hk.1))); have n2_ := Z0.mk (kgr_ (g := gb142) bk_ hg (Kd.R_ne HO_5.out BK142.out (by decide))); have n3_ := Z0.mk (kgr_ (g := gb147) bk_ hg (Kd.R_away HO_5.out (fun _ hk => hk.2))); have n4_ := Z0.mk (hb); have n5_ := Z0.mk (ho); clear BK140; clear BK141; clear BK142; clear BK147; clear HB; clear HO_5; have BK140 := n0_; have BK141 := n1_; have BK142 := n2_; have BK147 := n3_; have HB := n4_; have HO162 := n5_; clear n0_ n1_ n2_ n3_ n4_ n5_; clear ho hb hg hat))
      go_roundg k1
      case measure => have := HK1.out; omega
      case rel => exact ⟨(y160), (false), (wrap64 (x13_1 + 1)), eqv_, eqv_, H', ⟨by have := HK1.out; omega⟩, ⟨by (with_reducible repeat (first | apply Kd.R_alloc | apply Kd.R_drewN | apply Kd.R_drew)); exact Kd.R_mono HO162.out (fun _ hk => hk.1)⟩, ⟨bk_⟩, ⟨bk_⟩, ⟨bk_⟩, ⟨bl_⟩⟩
    rw [if_pos c33] at H
    have c33b0 : (Op.bytesLess a1_0.toList (((rd_T72 l0_2 x13_1).f0).toList)) = true := c33
    (try (have c33b1 : (Op.bytesLess (((rd_T72 l0_2 x13_1).f0).toList) a1_0.toList) = false := bl_gt c33))
    (try (have c33b2 : ((((rd_T72 l0_2 x13_1).f0).toList) == a1_0.toList) = false := bl_ne c33))
    (try (have c33b3 : (!(Op.bytesLess (((rd_T72 l0_2 x13_1).f0).toList) a1_0.toList || (((rd_T72 l0_2 x13_1).f0).toList) == a1_0.toList)) = true := bl_yy c33))
    clear c33
    by_cases c34 : x5_1.length < 4398046511104
    rotate_left
    · rw [if_neg c34] at H
      exact absurd H (by simp)
    rw [if_pos c34] at H
    have LMc34 := Z0.mk c34
    clear c34
    obtain ⟨y154, hy154⟩ : ∃ y_ : List (S72), y_ = (x5_1 ++ [(⟨a1_0, a1_1⟩ : S72)]) := ⟨_, rfl⟩
    replace H : (if y154.length < 4398046511104 then (armoireref11_With.l0 k1 (y154 ++ [(⟨(rd_T72 l0_2 x13_1).f0, (rd_T72 l0_2 x13_1).f1⟩ : S72)]) true l0_2 (l0_2.length : Int) (wrap64 (x13_1 + 1)) a0_0 a0_1 l0_2 a1_0 a1_1) else (none)) = some (r1, r2, r3) := by first | (rw [hy154]; with_reducible exact H) | (have H2_ := (Option.bind_some _ _).symm.trans H; rw [hy154]; with_reducible exact H2_) | (have H2_ := (Option.bind_some _ _).symm.trans H; with_reducible exact H2_) | with_reducible exact H | (rw [hy154]; exact H) | exact H
    have Ny154 := Z0.mk hy154
    clear hy154
    by_cases c35 : y154.length < 4398046511104
    rotate_left
    · rw [if_neg c35] at H
      exact absurd H (by simp)
    rw [if_pos c35] at H
    have LMc35 := Z0.mk c35
    clear c35
    obtain ⟨y157, hy157⟩ : ∃ y_ : List (S72), y_ = (y154 ++ [(⟨(rd_T72 l0_2 x13_1).f0, (rd_T72 l0_2 x13_1).f1⟩ : S72)]) := ⟨_, rfl⟩
    replace H : (armoireref11_With.l0 k1 y157 true l0_2 (l0_2.length : Int) (wrap64 (x13_1 + 1)) a0_0 a0_1 l0_2 a1_0 a1_1) = some (r1, r2, r3) := by first | (rw [hy157]; with_reducible exact H) | (have H2_ := (Option.bind_some _ _).symm.trans H; rw [hy157]; with_reducible exact H2_) | (have H2_ := (Option.bind_some _ _).symm.trans H; with_reducible exact H2_) | with_reducible exact H | (rw [hy157]; exact H) | exact H
    have Ny157 := Z0.mk hy157
    clear hy157
    have H' := Z0.mk H
    clear H
    have p146 : 0 ≤ (x13_1 : Int) := of_decide_eq_true (by first | (with_reducible assumption) | assumption)
    have q146 : x13_1 < (l0_2.length : Int) := of_decide_eq_true (by first | (with_reducible assumption) | assumption)
    obtain ⟨ad146, e146, hx146_0, hx146_1⟩ := at_T72 HR0_2.out x13_1 p146 q146
    cases e146
    replace hx146_0 := (HB.out.cell (World.block_lt_of_cell? w _ hx146_0)).trans hx146_0
    replace hx146_1 := (HB.out.cell (World.block_lt_of_cell? w _ hx146_1)).trans hx146_1
    replace p146 := eq_true p146
    replace q146 := eq_true q146
    go_wp2_with (first | ((with_reducible refine gds (N := 8) rfl ?_); refine bx_ (N := 8) (cs := #[.string (⟨#[]⟩ : ByteArray), .string (⟨#[]⟩ : ByteArray)]) (t := 72) ?_; intro gb147 hg w36 hbox hb; have n0_ := Z0.mk (Kd.R_below (Kd.R_elderB (by (with_reducible repeat (first | apply Kd.R_alloc | apply Kd.R_drewN | apply Kd.R_drew)); exact HO_5.out) gb147 (Nat.le_of_eq hg.symm)) hb); have n1_ := Z0.mk (kbl (g := gb140) bk_ hb); have n2_ := Z0.mk (kbl (g := gb141) bk_ hb); have n3_ := Z0.mk (kbl (g := gb142) bk_ hb); have n4_ := Z0.mk (bsp bl_ hb); have n5_ := Z0.mk (hbox); have n6_ := Z0.mk ((by rw [hg]; exact bsz bl_ : w.heap.size ≤ gb147)); have n7_ := Z0.mk ((by rw [hg]; exact bsz bl_ : w.heap.size ≤ gb147)); have n8_ := Z0.mk ((by rw [hg]; exact Nat.ne_of_lt (klt_ (g := gb140) bk_) : gb140 ≠ gb147)); have n9_ := Z0.mk ((by rw [hg]; exact Nat.ne_of_gt (klt_ (g := gb140) bk_) : gb147 ≠ gb140)); have n10_ := Z0.mk ((by rw [hg]; exact Nat.ne_of_lt (klt_ (g := gb141) bk_) : gb141 ≠ gb147)); have n11_ := Z0.mk ((by rw [hg]; exact Nat.ne_of_gt (klt_ (g := gb141) bk_) : gb147 ≠ gb141)); have n12_ := Z0.mk ((by rw [hg]; exact Nat.ne_of_lt (klt_ (g := gb142) bk_) : gb142 ≠ gb147)); have n13_ := Z0.mk ((by rw [hg]; exact Nat.ne_of_gt (klt_ (g := gb142) bk_) : gb147 ≠ gb142)); clear HO_5; clear BK140; clear BK141; clear BK142; clear HB; have HO_5 := n0_; have BK140 := n1_; have BK141 := n2_; have BK142 := n3_; have HB := n4_; have BK147 := n5_; have GW147 := n6_; have GE147 := n7_; have NB140_147 := n8_; have NB147_140 := n9_; have NB141_147 := n10_; have NB147_141 := n11_; have NB142_147 := n12_; have NB147_142 := n13_; clear n0_ n1_ n2_ n3_ n4_ n5_ n6_ n7_ n8_ n9_ n10_ n11_ n12_ n13_; clear hb hbox hg; have hnb37 := NB147_140.out; have hnc37 := NB140_147.out; have hnb38 := NB147_141.out; have hnc38 := NB141_147.out; have hnb39 := NB147_142.out; have hnc39 := NB142_147.out; have hcz40 := bc2 BK147.out; have hnb41 := NB140_141.out; have hnc41 := NB141_140.out; have hnb42 := NB140_142.out; have hnc42 := NB142_140.out; have hcz43 := bc3 BK140.out; have hnb44 := NB141_142.out; have hnc44 := NB142_141.out; have hcz45 := bc2 BK141.out) | ((with_reducible refine gate_builtin (b := .append) (xs := #[.tmp 31, .tmp 33]) rfl ?_); at_builtin; refine Kd.R_append k72 (w0 := w) w.heap.size rfl (.tmp 31) (.tmp 33) 28 72 (.agg #[(.string ⟨#[]⟩), (.string ⟨#[]⟩)]) 32 rfl Tryz.underlying28 info72 rfl (by decide) (by omega) u5 x5_1 (⟨a1_0, a1_1⟩ : S72) [.string a1_0, .string a1_1] (fun k_ => k_ ≠ gb141 ∧ k_ ≠ gb147) (fun _ => False) rfl (by first | (go_simp; done) | (go_simp; rfl)) ?aP (fun _ hk => hk.elim) ?aF ?aO ?aB ?aS ?aL ?_; (case aP => exact k72_mkM _ _ _ (⟨a1_0, a1_1⟩ : S72)); (case aB => exact bl_); (case aF => exact (fun k_ hk => ⟨Kd.freshB (g := gb141) bk_ k_ hk, Kd.freshB (g := gb147) bk_ k_ hk⟩)); (case aO => exact (by (with_reducible repeat (first | apply Kd.R_alloc | apply Kd.R_drewN | apply Kd.R_drew)); exact Kd.R_mono (Kd.R_far (p := ⟨gb147, 1, none⟩) (Kd.R_far (p := ⟨gb147, 0, none⟩) (Kd.R_mono HO_5.out (fun k_ hk => (⟨hk, hk.2⟩ : _ ∧ k_ ≠ gb147))) (fun _ hk => hk.2) (.string ((rd_T72 l0_2 x13_1).f0))) (fun _ hk => hk.2) (.string ((rd_T72 l0_2 x13_1).f1))) (fun _ hk => ⟨hk.1.1, hk.1.2⟩))); (case aS => exact bsz bl_); (case aL => have := LMc34.out; omega); intro v155 w46 ho hb hg hat; rw [← Ny154.out] at ho; have n0_ := Z0.mk (kgr_ (g := gb140) bk_ hg (Kd.R_ne HO_5.out BK140.out (by decide))); have n1_ := Z0.mk (kgr_ (g := gb141) bk_ hg (Kd.R_away HO_5.out (fun _ hk => hk.1))); have n2_ := Z0.mk (kgr_ (g := gb142) bk_ hg (Kd.R_ne HO_5.out BK142.out (by decide))); have n3_ := Z0.mk (kgr_ (g := gb147) bk_ hg (Kd.R_away HO_5.out (fun _ hk => hk.2))); have n4_ := Z0.mk (hb); have n5_ := Z0.mk (ho); clear BK140; clear BK141; clear BK142; clear BK147; clear HB; clear HO_5; have BK140 := n0_; have BK141 := n1_; have BK142 := n2_; have BK147 := n3_; have HB := n4_; have HO156 := n5_; clear n0_ n1_ n2_ n3_ n4_ n5_; clear ho hb hg hat; have hcz47 := bc2 BK147.out) | ((with_reducible refine gate_builtin (b := .append) (xs := #[.tmp 35, .tmp 37]) rfl ?_); at_builtin; refine Kd.R_append k72 (w0 := w) w.heap.size rfl (.tmp 35) (.tmp 37) 28 72 (.agg #[(.string ⟨#[]⟩), (.string ⟨#[]⟩)]) 32 rfl Tryz.underlying28 info72 rfl (by decide) (by omega) v155 y154 (⟨(rd_T72 l0_2 x13_1).f0, (rd_T72 l0_2 x13_1).f1⟩ : S72) [.string ((rd_T72 l0_2 x13_1).f0), .string ((rd_T72 l0_2 x13_1).f1)] (fun k_ => k_ ≠ gb141 ∧ k_ ≠ gb147) (fun _ => False) rfl rfl ?aP (fun _ hk => hk.elim) ?aF ?aO ?aB ?aS ?aL ?_; (case aP => exact k72_mkM _ _ _ (⟨(rd_T72 l0_2 x13_1).f0, (rd_T72 l0_2 x13_1).f1⟩ : S72)); (case aB => exact bl_); (case aF => exact (fun k_ hk => ⟨Kd.freshB (g := gb141) bk_ k_ hk, Kd.freshB (g := gb147) bk_ k_ hk⟩)); (case aO => exact (by (with_reducible repeat (first | apply Kd.R_alloc | apply Kd.R_drewN | apply Kd.R_drew)); exact HO156.out)); (case aS => exact bsz bl_); (case aL => have := LMc35.out; omega); intro v158 w48 ho hb hg hat; rw [← Ny157.out] at ho; have n0_ := Z0.mk (kgr_ (g := gb140) bk_ hg (Kd.R_ne HO156.out BK140.out (by decide))); have n1_ := Z0.mk (kgr_ (g := gb141) bk_ hg (Kd.R_away HO156.out (fun _ hk => hk.1))); have n2_ := Z0.mk (kgr_ (g := gb142) bk_ hg (Kd.R_ne HO156.out BK142.out (by decide))); have n3_ := Z0.mk (kgr_ (g := gb147) bk_ hg (Kd.R_away HO156.out (fun _ hk => hk.2))); have n4_ := Z0.mk (hb); have n5_ := Z0.mk (ho); clear BK140; clear BK141; clear BK142; clear BK147; clear HB; clear HO156; have BK140 := n0_; have BK141 := n1_; have BK142 := n2_; have BK147 := n3_; have HB := n4_; have HO159 := n5_; clear n0_ n1_ n2_ n3_ n4_ n5_; clear ho hb hg hat))
    go_roundg k1
    case measure => have := HK1.out; omega
    case rel => exact ⟨(y157), (true), (wrap64 (x13_1 + 1)), eqv_, eqv_, H', ⟨by have := HK1.out; omega⟩, ⟨by (with_reducible repeat (first | apply Kd.R_alloc | apply Kd.R_drewN | apply Kd.R_drew)); exact Kd.R_mono HO159.out (fun _ hk => hk.1)⟩, ⟨bk_⟩, ⟨bk_⟩, ⟨bk_⟩, ⟨bl_⟩⟩
end Go.Proofs.YtjiblcncadekcaaGreat.PA

