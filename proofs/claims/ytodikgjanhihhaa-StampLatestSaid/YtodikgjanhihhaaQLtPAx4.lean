import Derived.Test.YtodikgjanhihhaaQLtPAx3
namespace Go.Proofs.Ytodikgjanhihhaa.PA
open Go.Proofs.Ytodikgjanhihhaa.PL
open Go.RowKit Go.Proofs.YtodikgjanhihhaaW.PrintWords Go.Proofs.YtodikgjanhihhaaW.PrintLast Go.Proofs.YtodikgjanhihhaaW.PrintMore
attribute [local go_sem] max2_int min2_int max_two min_two max_three min_three max_four min_four
set_option linter.unusedVariables false
set_option linter.unusedSimpArgs false
def stamp_Sector_Text.f (k : Nat) (a0_0 : Int) (a0_1 : Int) (a0_2 : ByteArray) : Option (ByteArray) := (codec_Out_N.f (⟨#[]⟩ : ByteArray) (([a0_0, wrap64 (a0_1)] : List Int))).bind fun t116 => ((codec_Out_S.f t116 (([a0_2] : List ByteArray))).bind fun t120 => ((codec_Out_Text.f t120).bind fun bt121 => (if 0 ≤ (wrap64 (60 - (bt121.1.size : Int))) then (if (wrap64 (60 - (bt121.1.size : Int)) : Int).toNat ≤ 281474976710656 then ((some (List.replicate (wrap64 (60 - (bt121.1.size : Int)) : Int).toNat 0 : List Int)).bind fun y123 => (if bt121.1.size + (strOfNums y123).size ≤ 9223372036854775807 then ((crc_Of.f k (([bt121.1 ++ (strOfNums y123)] : List ByteArray))).bind fun t129 => ((crc_Bytes.f t129).bind fun t130 => (if t130.size + (bt121.1 ++ (strOfNums y123)).size ≤ 9223372036854775807 then (some (t130 ++ (bt121.1 ++ (strOfNums y123)))) else (none)))) else (none))) else (none)) else (none))))
def stamp_Sector_Text.T2 : Bool × List (List Nat × List Nat) := (true, [([], []), ([0], [0]), ([], []), ([2], [2]), ([3], [3]), ([1, 4], [1, 4]), ([5], [5]), ([], []), ([7], [7]), ([8], [8]), ([6, 9, 6], [6, 9])])
def stamp_Sector_Text.B2 : List Nat := [0, 1, 0, 4, 12, 31, 63, 0, 128, 384, 1023]
theorem stamp_Sector_Text.tab2 : rtab .any (opsOf Try.f13 2) = stamp_Sector_Text.T2 := by kernel_rfl
theorem stamp_Sector_Text.bits2 : waitsOk stamp_Sector_Text.T2.2 stamp_Sector_Text.B2 = true := by kernel_rfl
set_option maxHeartbeats 2000000 in
set_option maxRecDepth 100000 in
theorem stamp_Sector_Text.calls (k : Nat) (a0_0 : Int) (a0_1 : Int) (a0_2 : ByteArray) (r : ByteArray) (w : World) (h : stamp_Sector_Text.f k a0_0 a0_1 a0_2 = some r) :
    Calls Try.prog 13 #[.agg #[.int .i64 a0_0, .int .u8 a0_1, .string a0_2]] w fun e w' => e = .returned (.string r) ∧ Below w.heap.size w w' := by
  have hu23 := Try.underlying23
  have hu62 := Try.underlying62
  have HB := Aside0.mk (Below.refl w.heap.size w)
  have H : ((codec_Out_N.f (⟨#[]⟩ : ByteArray) (([a0_0, wrap64 (a0_1)] : List Int))).bind fun t116 => ((codec_Out_S.f t116 (([a0_2] : List ByteArray))).bind fun t120 => ((codec_Out_Text.f t120).bind fun bt121 => (if 0 ≤ (wrap64 (60 - (bt121.1.size : Int))) then (if (wrap64 (60 - (bt121.1.size : Int)) : Int).toNat ≤ 281474976710656 then ((some (List.replicate (wrap64 (60 - (bt121.1.size : Int)) : Int).toNat 0 : List Int)).bind fun y123 => (if bt121.1.size + (strOfNums y123).size ≤ 9223372036854775807 then ((crc_Of.f k (([bt121.1 ++ (strOfNums y123)] : List ByteArray))).bind fun t129 => ((crc_Bytes.f t129).bind fun t130 => (if t130.size + (bt121.1 ++ (strOfNums y123)).size ≤ 9223372036854775807 then (some (t130 ++ (bt121.1 ++ (strOfNums y123)))) else (none)))) else (none))) else (none)) else (none))))) = some r := h
  clear h
  obtain ⟨y113, hy113⟩ : ∃ y_ : List Int, y_ = (([a0_0, wrap64 (a0_1)] : List Int)) := ⟨_, rfl⟩
  replace H : ((codec_Out_N.f (⟨#[]⟩ : ByteArray) y113).bind fun t116 => ((codec_Out_S.f t116 (([a0_2] : List ByteArray))).bind fun t120 => ((codec_Out_Text.f t120).bind fun bt121 => (if 0 ≤ (wrap64 (60 - (bt121.1.size : Int))) then (if (wrap64 (60 - (bt121.1.size : Int)) : Int).toNat ≤ 281474976710656 then ((some (List.replicate (wrap64 (60 - (bt121.1.size : Int)) : Int).toNat 0 : List Int)).bind fun y123 => (if bt121.1.size + (strOfNums y123).size ≤ 9223372036854775807 then ((crc_Of.f k (([bt121.1 ++ (strOfNums y123)] : List ByteArray))).bind fun t129 => ((crc_Bytes.f t129).bind fun t130 => (if t130.size + (bt121.1 ++ (strOfNums y123)).size ≤ 9223372036854775807 then (some (t130 ++ (bt121.1 ++ (strOfNums y123)))) else (none)))) else (none))) else (none)) else (none))))) = some r := by first | (rw [hy113]; with_reducible exact H) | (have H2_ := (Option.bind_some _ _).symm.trans H; rw [hy113]; with_reducible exact H2_) | (have H2_ := (Option.bind_some _ _).symm.trans H; with_reducible exact H2_) | with_reducible exact H | (rw [hy113]; exact H) | exact H
  have Ny113 := Aside0.mk hy113
  clear hy113
  replace H := Option.bind_eq_some_iff.mp H
  obtain ⟨t116, A20, H⟩ := H
  replace H : ((codec_Out_S.f t116 (([a0_2] : List ByteArray))).bind fun t120 => ((codec_Out_Text.f t120).bind fun bt121 => (if 0 ≤ (wrap64 (60 - (bt121.1.size : Int))) then (if (wrap64 (60 - (bt121.1.size : Int)) : Int).toNat ≤ 281474976710656 then ((some (List.replicate (wrap64 (60 - (bt121.1.size : Int)) : Int).toNat 0 : List Int)).bind fun y123 => (if bt121.1.size + (strOfNums y123).size ≤ 9223372036854775807 then ((crc_Of.f k (([bt121.1 ++ (strOfNums y123)] : List ByteArray))).bind fun t129 => ((crc_Bytes.f t129).bind fun t130 => (if t130.size + (bt121.1 ++ (strOfNums y123)).size ≤ 9223372036854775807 then (some (t130 ++ (bt121.1 ++ (strOfNums y123)))) else (none)))) else (none))) else (none)) else (none)))) = some r := H
  have A2 := Aside0.mk A20
  clear A20
  obtain ⟨y117, hy117⟩ : ∃ y_ : List ByteArray, y_ = (([a0_2] : List ByteArray)) := ⟨_, rfl⟩
  replace H : ((codec_Out_S.f t116 y117).bind fun t120 => ((codec_Out_Text.f t120).bind fun bt121 => (if 0 ≤ (wrap64 (60 - (bt121.1.size : Int))) then (if (wrap64 (60 - (bt121.1.size : Int)) : Int).toNat ≤ 281474976710656 then ((some (List.replicate (wrap64 (60 - (bt121.1.size : Int)) : Int).toNat 0 : List Int)).bind fun y123 => (if bt121.1.size + (strOfNums y123).size ≤ 9223372036854775807 then ((crc_Of.f k (([bt121.1 ++ (strOfNums y123)] : List ByteArray))).bind fun t129 => ((crc_Bytes.f t129).bind fun t130 => (if t130.size + (bt121.1 ++ (strOfNums y123)).size ≤ 9223372036854775807 then (some (t130 ++ (bt121.1 ++ (strOfNums y123)))) else (none)))) else (none))) else (none)) else (none)))) = some r := by first | (rw [hy117]; with_reducible exact H) | (have H2_ := (Option.bind_some _ _).symm.trans H; rw [hy117]; with_reducible exact H2_) | (have H2_ := (Option.bind_some _ _).symm.trans H; with_reducible exact H2_) | with_reducible exact H | (rw [hy117]; exact H) | exact H
  have Ny117 := Aside0.mk hy117
  clear hy117
  replace H := Option.bind_eq_some_iff.mp H
  obtain ⟨t120, A30, H⟩ := H
  replace H : ((codec_Out_Text.f t120).bind fun bt121 => (if 0 ≤ (wrap64 (60 - (bt121.1.size : Int))) then (if (wrap64 (60 - (bt121.1.size : Int)) : Int).toNat ≤ 281474976710656 then ((some (List.replicate (wrap64 (60 - (bt121.1.size : Int)) : Int).toNat 0 : List Int)).bind fun y123 => (if bt121.1.size + (strOfNums y123).size ≤ 9223372036854775807 then ((crc_Of.f k (([bt121.1 ++ (strOfNums y123)] : List ByteArray))).bind fun t129 => ((crc_Bytes.f t129).bind fun t130 => (if t130.size + (bt121.1 ++ (strOfNums y123)).size ≤ 9223372036854775807 then (some (t130 ++ (bt121.1 ++ (strOfNums y123)))) else (none)))) else (none))) else (none)) else (none))) = some r := H
  have A3 := Aside0.mk A30
  clear A30
  replace H := Option.bind_eq_some_iff.mp H
  obtain ⟨⟨t121, t122⟩, A40, H⟩ := H
  replace H : (if 0 ≤ (wrap64 (60 - (t121.size : Int))) then (if (wrap64 (60 - (t121.size : Int)) : Int).toNat ≤ 281474976710656 then ((some (List.replicate (wrap64 (60 - (t121.size : Int)) : Int).toNat 0 : List Int)).bind fun y123 => (if t121.size + (strOfNums y123).size ≤ 9223372036854775807 then ((crc_Of.f k (([t121 ++ (strOfNums y123)] : List ByteArray))).bind fun t129 => ((crc_Bytes.f t129).bind fun t130 => (if t130.size + (t121 ++ (strOfNums y123)).size ≤ 9223372036854775807 then (some (t130 ++ (t121 ++ (strOfNums y123)))) else (none)))) else (none))) else (none)) else (none)) = some r := H
  have A4 := Aside0.mk A40
  clear A40
  obtain ⟨ji5, hji5⟩ : ∃ j_ : Int, (wrap64 (60 - (t121.size : Int))) = j_ := ⟨_, rfl⟩
  replace H : (if 0 ≤ (ji5) then (if (ji5 : Int).toNat ≤ 281474976710656 then ((some (List.replicate (ji5 : Int).toNat 0 : List Int)).bind fun y123 => (if t121.size + (strOfNums y123).size ≤ 9223372036854775807 then ((crc_Of.f k (([t121 ++ (strOfNums y123)] : List ByteArray))).bind fun t129 => ((crc_Bytes.f t129).bind fun t130 => (if t130.size + (t121 ++ (strOfNums y123)).size ≤ 9223372036854775807 then (some (t130 ++ (t121 ++ (strOfNums y123)))) else (none)))) else (none))) else (none)) else (none)) = some r := by first | (rw [hji5] at H; exact H) | (simp only [hji5] at H ⊢; exact H)
  (try rw [hji5] at A2)
  (try rw [hji5] at A3)
  (try rw [hji5] at A4)
  have hji5w : (IntKind.i64.wrap (60 - (t121.size : Int))) = ji5 := (i64_w _).trans hji5
  by_cases c6 : 0 ≤ (ji5)
  rotate_left
  · rw [if_neg c6] at H
    exact absurd H (by simp)
  rw [if_pos c6] at H
  have c6b0 := eq_true c6
  have c6b1 : decide (0 ≤ (ji5)) = true := decide_eq_true c6
  clear c6
  by_cases c7 : (ji5 : Int).toNat ≤ 281474976710656
  rotate_left
  · rw [if_neg c7] at H
    exact absurd H (by simp)
  rw [if_pos c7] at H
  have c7b0 := eq_true c7
  have c7b1 : decide ((ji5 : Int).toNat ≤ 281474976710656) = true := decide_eq_true c7
  clear c7
  obtain ⟨y123, hy123⟩ : ∃ y_ : List Int, y_ = (List.replicate (ji5 : Int).toNat 0) := ⟨_, rfl⟩
  replace H : (if t121.size + (strOfNums y123).size ≤ 9223372036854775807 then ((crc_Of.f k (([t121 ++ (strOfNums y123)] : List ByteArray))).bind fun t129 => ((crc_Bytes.f t129).bind fun t130 => (if t130.size + (t121 ++ (strOfNums y123)).size ≤ 9223372036854775807 then (some (t130 ++ (t121 ++ (strOfNums y123)))) else (none)))) else (none)) = some r := by first | (rw [hy123]; with_reducible exact H) | (have H2_ := (Option.bind_some _ _).symm.trans H; rw [hy123]; with_reducible exact H2_) | (have H2_ := (Option.bind_some _ _).symm.trans H; with_reducible exact H2_) | with_reducible exact H | (rw [hy123]; exact H) | exact H
  have Ny123 := Aside0.mk hy123
  clear hy123
  by_cases c8 : t121.size + (strOfNums y123).size ≤ 9223372036854775807
  rotate_left
  · rw [if_neg c8] at H
    exact absurd H (by simp)
  rw [if_pos c8] at H
  have c8b0 := eq_true c8
  have c8b1 : decide (t121.size + (strOfNums y123).size ≤ 9223372036854775807) = true := decide_eq_true c8
  try have c8b2 : (9223372036854775807 < t121.size + (strOfNums y123).size) = False := eq_false (Nat.not_lt.2 c8)
  obtain ⟨y126, hy126⟩ : ∃ y_ : List ByteArray, y_ = (([t121 ++ (strOfNums y123)] : List ByteArray)) := ⟨_, rfl⟩
  replace H : ((crc_Of.f k y126).bind fun t129 => ((crc_Bytes.f t129).bind fun t130 => (if t130.size + (t121 ++ (strOfNums y123)).size ≤ 9223372036854775807 then (some (t130 ++ (t121 ++ (strOfNums y123)))) else (none)))) = some r := by first | (rw [hy126]; with_reducible exact H) | (have H2_ := (Option.bind_some _ _).symm.trans H; rw [hy126]; with_reducible exact H2_) | (have H2_ := (Option.bind_some _ _).symm.trans H; with_reducible exact H2_) | with_reducible exact H | (rw [hy126]; exact H) | exact H
  have Ny126 := Aside0.mk hy126
  clear hy126
  replace H := Option.bind_eq_some_iff.mp H
  obtain ⟨t129, A90, H⟩ := H
  replace H : ((crc_Bytes.f t129).bind fun t130 => (if t130.size + (t121 ++ (strOfNums y123)).size ≤ 9223372036854775807 then (some (t130 ++ (t121 ++ (strOfNums y123)))) else (none))) = some r := H
  have A9 := Aside0.mk A90
  clear A90
  replace H := Option.bind_eq_some_iff.mp H
  obtain ⟨t130, A100, H⟩ := H
  replace H : (if t130.size + (t121 ++ (strOfNums y123)).size ≤ 9223372036854775807 then (some (t130 ++ (t121 ++ (strOfNums y123)))) else (none)) = some r := H
  have A10 := Aside0.mk A100
  clear A100
  by_cases c11 : t130.size + (t121 ++ (strOfNums y123)).size ≤ 9223372036854775807
  rotate_left
  · rw [if_neg c11] at H
    exact absurd H (by simp)
  rw [if_pos c11] at H
  have c11b0 := eq_true c11
  have c11b1 : decide (t130.size + (t121 ++ (strOfNums y123)).size ≤ 9223372036854775807) = true := decide_eq_true c11
  try have c11b2 : (9223372036854775807 < t130.size + (t121 ++ (strOfNums y123)).size) = False := eq_false (Nat.not_lt.2 c11)
  try (have c11b3 := c11b2; simp only [ByteArray.size_append] at c11b3)
  try (have c11b4 := c11; simp only [ByteArray.size_append] at c11b4; have c11b5 := eq_true c11b4)
  obtain rfl := Option.some.inj H
  go_enter Try.func13, Try.ntmps13
  try go_wp2_with (first | ((with_reducible refine gds (N := 1) rfl ?_); refine bev ?hg (N := 1) ?hd (cs := #[.int .i64 a0_0, .int .u8 a0_1, .string a0_2]) (t := 23) ?hr ?_; (case hd => rfl); (case hg => rfl); (case hr => first | (go_simp; done) | (go_simp; rfl)); intro gb111 hg w12 hbox hb; have n0_ := Aside0.mk (bsp bl_ hb); have n1_ := Aside0.mk (hbox); have n2_ := Aside0.mk ((by rw [hg]; exact bsz bl_ : w.heap.size ≤ gb111)); have n3_ := Aside0.mk ((by rw [hg]; exact bsz bl_ : w.heap.size ≤ gb111)); clear HB; have HB := n0_; have BK111 := n1_; have GW111 := n2_; have GE111 := n3_; clear n0_ n1_ n2_ n3_; clear hb hbox hg) | ((with_reducible refine gds (N := 3) rfl ?_); refine bev ?hg (N := 3) ?hd (cs := #[.slice none 0 0]) (t := 62) ?hr ?_; (case hd => rfl); (case hg => rfl); (case hr => first | (go_simp; done) | (go_simp; rfl)); intro gb112 hg w13 hbox hb; have n0_ := Aside0.mk (kbl (g := gb111) (o := .cells #[.int .i64 a0_0, .int .u8 a0_1, .string a0_2] 23 (0, 0)) bk_ hb); have n1_ := Aside0.mk (bsp bl_ hb); have n2_ := Aside0.mk (hbox); have n3_ := Aside0.mk ((by rw [hg]; exact bsz bl_ : w.heap.size ≤ gb112)); have n4_ := Aside0.mk ((by rw [hg]; exact bsz bl_ : w.heap.size ≤ gb112)); have n5_ := Aside0.mk ((by rw [hg]; exact Nat.ne_of_lt (blk_lt (g := gb111) (o := .cells #[.int .i64 a0_0, .int .u8 a0_1, .string a0_2] 23 (0, 0)) bk_) : gb111 ≠ gb112)); have n6_ := Aside0.mk ((by rw [hg]; exact Nat.ne_of_gt (blk_lt (g := gb111) (o := .cells #[.int .i64 a0_0, .int .u8 a0_1, .string a0_2] 23 (0, 0)) bk_) : gb112 ≠ gb111)); have n7_ := Aside0.mk ((IsS62.box hbox (by rw [hg]; exact bsz bl_ : w.heap.size ≤ gb112) : IsS62 w w13 gb112 (⟨#[]⟩ : ByteArray))); clear BK111; clear HB; have BK111 := n0_; have HB := n1_; have BK112 := n2_; have GW112 := n3_; have GE112 := n4_; have NB111_112 := n5_; have NB112_111 := n6_; have HI112 := n7_; clear n0_ n1_ n2_ n3_ n4_ n5_ n6_ n7_; clear hb hbox hg))
  have n0_ := Aside0.mk (kdw BK111.out)
  have n1_ := Aside0.mk (IsS62.drew HI112.out)
  have n2_ := Aside0.mk (bd1 HB.out)
  clear BK111
  clear HI112
  clear HB
  have BK111 := n0_
  have HI112 := n1_
  have HB := n2_
  clear n0_ n1_ n2_
  refine start_ (n := 11) (S := fun w' => True) (ds := []) #[false,false,false,false,false,false,false,false,false,false,false] (by kernel_rfl) rfl rfl trivial (fun hHeld => ?_); refine with_tabW stamp_Sector_Text.tab2 stamp_Sector_Text.bits2 (fun HT_ HW_ => ?_)
  generalize w13.drew = w14 at BK111 HI112 HB hHeld ⊢
  refine pure_ (i := 0) (N := some 5) (v := ?_) (a' := ?_) (bA 11 1) rfl rfl (any_of HT_.out (by kernel_rfl)) (fun _ _ _ h => h) (Or.inl ⟨by rfl, ?_⟩) ?_ ?_
  rotate_left; (intro w'; go_simp; with_reducible rfl); rotate_left; (simp only [Act.put, List.setIfInBounds_toArray, List.set_cons_zero, List.set_cons_succ, i64_w, i32_w]; rfl)
  refine pure_ (i := 2) (N := some 7) (v := ?_) (a' := ?_) (bA 11 5) rfl rfl (any_of HT_.out (by kernel_rfl)) (fun _ _ _ h => h) (Or.inl ⟨by rfl, ?_⟩) ?_ ?_
  rotate_left; (intro w'; go_simp; with_reducible rfl); rotate_left; (simp only [Act.put, List.setIfInBounds_toArray, List.set_cons_zero, List.set_cons_succ, i64_w, i32_w]; rfl)
  refine pure_ (i := 7) (N := some 12) (v := ?_) (a' := ?_) (bA 11 133) rfl rfl (any_of HT_.out (by kernel_rfl)) (fun _ _ _ h => h) (Or.inl ⟨by rfl, ?_⟩) ?_ ?_
  rotate_left; (intro w'; go_simp; with_reducible rfl); rotate_left; (simp only [Act.put, List.setIfInBounds_toArray, List.set_cons_zero, List.set_cons_succ, i64_w, i32_w]; rfl)
  refine inv_at [1, 3, 4, 5, 6, 8, 9, 10] (fun a0_ b a w' => ∃ (v114 : Value) (v118 : Value), a = putSel a0_ b [(1, 6, .int .i64 a0_0), (3, 8, .int .u8 a0_1), (4, 9, .int .i64 (wrap64 (a0_1))), (5, 10, v114), (6, 11, .pointer (some ⟨gb112, 0, none⟩)), (8, 13, .string a0_2), (9, 14, v118), (10, 15, .pointer (some ⟨gb112, 0, none⟩))] ∧ (w'.heap[gb111]? = some (.cells #[.int .i64 a0_0, .int .u8 a0_1, .string a0_2] 23 (0, 0))) ∧ (b 6 = false → IsS62 w w' gb112 (⟨#[]⟩ : ByteArray)) ∧ (Below w.heap.size w w') ∧ (b 5 = true → Kd.R (Kd.int .i64) 3 w' w.heap.size (fun _ => True) v114 y113) ∧ (b 6 = true → b 10 = false → IsS62 w w' gb112 t116) ∧ (b 9 = true → Kd.R Kd.string 9 w' w.heap.size (fun _ => True) v118 y117) ∧ (b 10 = true → IsS62 w w' gb112 t120)) HT_.out HW_.out (by kernel_rfl) (by kernel_rfl) ?_ ?_ ?_
  · exact ⟨.bool false, .bool false, by simp only [putSel, Bool.false_eq_true, if_false], BK111.out, fun _ => HI112.out, HB.out, fun h_ => absurd h_ (by decide), fun h_ => absurd h_ (by decide), fun h_ => absurd h_ (by decide), fun h_ => absurd h_ (by decide)⟩
  · skip
    clear BK111 HB HI112
    refine steps_cons ?_ ?_
    · rintro b a w' ⟨v114, v118, ha, Q_BK111, Q_HI112, Q_HB, Q_HO115, Q_HI112_e6, Q_HO119, Q_HI112_e10⟩ hb_ hon hoff
      refine ⟨_, rfl, fun K hK => ?_⟩
      have e5 : a.tmps[5]? = some (.pointer (some ⟨gb111, 0, none⟩)) := by rw [ha]; exact (putSel_off rfl).trans rfl
      replace ha := Aside0.mk ha
      have BK111 := Aside0.mk Q_BK111
      have HI112 := Aside0.mk (Q_HI112 (hoff 6 (by kernel_rfl)))
      have HB := Aside0.mk Q_HB
      have hc0_ : w'.cell? ⟨gb111, 0, none⟩ = some (.int .i64 a0_0) := (kcl BK111.out 0).trans rfl
      have hc1_ : w'.cell? ⟨gb111, 1, none⟩ = some (.int .u8 a0_1) := (kcl BK111.out 1).trans rfl
      have hc2_ : w'.cell? ⟨gb111, 2, none⟩ = some (.string a0_2) := (kcl BK111.out 2).trans rfl
      refine value_ (w1 := w') (v := .int .i64 a0_0) (by rfl) rfl ?_ ?_
      · go_simp
        (try simp only [i64_w])
        try rfl
      refine hK.out _ _ ⟨v114, v118, (by rw [ha.out]; exact putSel_upk 0 hb_ rfl rfl rfl), Q_BK111, Q_HI112, Q_HB, fun h0_ => absurd ((hoff 5 (by kernel_rfl)).symm.trans h0_) (by decide), fun h0_ _ => absurd ((hoff 6 (by kernel_rfl)).symm.trans h0_) (by decide), Q_HO119, fun h0_ => absurd ((hoff 10 (by kernel_rfl)).symm.trans h0_) (by decide)⟩
    refine steps_cons ?_ ?_
    · rintro b a w' ⟨v114, v118, ha, Q_BK111, Q_HI112, Q_HB, Q_HO115, Q_HI112_e6, Q_HO119, Q_HI112_e10⟩ hb_ hon hoff
      refine ⟨_, rfl, fun K hK => ?_⟩
      have e7 : a.tmps[7]? = some (.pointer (some ⟨gb111, 1, none⟩)) := by rw [ha]; exact (putSel_off rfl).trans rfl
      replace ha := Aside0.mk ha
      have BK111 := Aside0.mk Q_BK111
      have HI112 := Aside0.mk (Q_HI112 (hoff 6 (by kernel_rfl)))
      have HB := Aside0.mk Q_HB
      have hc0_ : w'.cell? ⟨gb111, 0, none⟩ = some (.int .i64 a0_0) := (kcl BK111.out 0).trans rfl
      have hc1_ : w'.cell? ⟨gb111, 1, none⟩ = some (.int .u8 a0_1) := (kcl BK111.out 1).trans rfl
      have hc2_ : w'.cell? ⟨gb111, 2, none⟩ = some (.string a0_2) := (kcl BK111.out 2).trans rfl
      refine value_ (w1 := w') (v := .int .u8 a0_1) (by rfl) rfl ?_ ?_
      · go_simp
        (try simp only [i64_w])
        try rfl
      refine hK.out _ _ ⟨v114, v118, (by rw [ha.out]; exact putSel_upk 1 hb_ rfl rfl rfl), Q_BK111, Q_HI112, Q_HB, fun h0_ => absurd ((hoff 5 (by kernel_rfl)).symm.trans h0_) (by decide), fun h0_ _ => absurd ((hoff 6 (by kernel_rfl)).symm.trans h0_) (by decide), Q_HO119, fun h0_ => absurd ((hoff 10 (by kernel_rfl)).symm.trans h0_) (by decide)⟩
    refine steps_cons ?_ ?_
    · rintro b a w' ⟨v114, v118, ha, Q_BK111, Q_HI112, Q_HB, Q_HO115, Q_HI112_e6, Q_HO119, Q_HI112_e10⟩ hb_ hon hoff
      refine ⟨_, rfl, fun K hK => ?_⟩
      have e8 : a.tmps[8]? = some (.int .u8 a0_1) := by rw [ha]; exact putSel_on (e := (3, 8, .int .u8 a0_1)) 1 rfl rfl (hon 3 (by kernel_rfl)) rfl
      replace ha := Aside0.mk ha
      have BK111 := Aside0.mk Q_BK111
      have HI112 := Aside0.mk (Q_HI112 (hoff 6 (by kernel_rfl)))
      have HB := Aside0.mk Q_HB
      refine value_ (w1 := w') (v := .int .i64 (wrap64 (a0_1))) (by rfl) rfl ?_ ?_
      · go_simp
        (try simp only [i64_w])
        try rfl
      refine hK.out _ _ ⟨v114, v118, (by rw [ha.out]; exact putSel_upk 2 hb_ rfl rfl rfl), Q_BK111, Q_HI112, Q_HB, fun h0_ => absurd ((hoff 5 (by kernel_rfl)).symm.trans h0_) (by decide), fun h0_ _ => absurd ((hoff 6 (by kernel_rfl)).symm.trans h0_) (by decide), Q_HO119, fun h0_ => absurd ((hoff 10 (by kernel_rfl)).symm.trans h0_) (by decide)⟩
    refine steps_cons ?_ ?_
    · rintro b a w' ⟨v114, v118, ha, Q_BK111, Q_HI112, Q_HB, Q_HO115, Q_HI112_e6, Q_HO119, Q_HI112_e10⟩ hb_ hon hoff
      refine ⟨_, rfl, fun K hK => ?_⟩
      have e6 : a.tmps[6]? = some (.int .i64 a0_0) := by rw [ha]; exact putSel_on (e := (1, 6, .int .i64 a0_0)) 0 rfl rfl (hon 1 (by kernel_rfl)) rfl
      have e9 : a.tmps[9]? = some (.int .i64 (wrap64 (a0_1))) := by rw [ha]; exact putSel_on (e := (4, 9, .int .i64 (wrap64 (a0_1)))) 2 rfl rfl (hon 4 (by kernel_rfl)) rfl
      replace ha := Aside0.mk ha
      have BK111 := Aside0.mk Q_BK111
      have HI112 := Aside0.mk (Q_HI112 (hoff 6 (by kernel_rfl)))
      have HB := Aside0.mk Q_HB
      refine Kd.R_lit_step (Kd.int .i64) _ 3 ?hg (N := 10) ?hd (xs := ([a0_0, wrap64 (a0_1)] : List Int)) (inner := [.int .i64 a0_0, .int .i64 (wrap64 (a0_1))]) (ok := fun _ => True) (okp := fun _ => True) ?hr ?hp (fun _ hk => hk) trivial (Below.refl _ _) (Nat.le_refl _) (by simp) ?_; (case hd => rfl); (case hg => rfl); (case hr => first | (go_simp; done) | (go_simp; rfl)); (case hp => exact (Reps.one (show Kd.M (Kd.int .i64) _ _ _ a0_0 [.int .i64 a0_0] from rfl) (Reps.one (show Kd.M (Kd.int .i64) _ _ _ (wrap64 (a0_1)) [.int .i64 (wrap64 (a0_1))] from rfl) (Reps.none _ _))))
      intro v114 w15 ho16 hb hg_ hnew_
      clear hg_ hnew_
      (first | rw [← Ny113.out] at ho16 | (simp only [Int.reduceToNat] at ho16; rw [← Ny113.out] at ho16))
      have n0_ := Aside0.mk (Kd.R_lower ho16 (bsz (by repeat (first | (with_reducible first | exact HB.out | apply bal | apply bdn | apply bd1 | refine bst ?_ (IsS62.ge HI112.out) | refine bst ?_ GE111.out) | exact HB.out))))
      have n1_ := Aside0.mk (kbl (g := gb111) (o := .cells #[.int .i64 a0_0, .int .u8 a0_1, .string a0_2] 23 (0, 0)) bk_ hb)
      have n2_ := Aside0.mk (IsS62.below (by repeat (first | (with_reducible first | exact HI112.out | apply IsS62.alloc | apply IsS62.drewN | apply IsS62.drew | apply IsS62.set_0 | refine IsS62.farT (p := ⟨gb111, _, none⟩) (t2 := 23) ?_ ?_ (by decide) (by decide) _ | exact OutT.mk BK111.out | refine OutT.set ?_ _ _ _) | exact HI112.out)) hb)
      have n3_ := Aside0.mk (bsp (by repeat (first | (with_reducible first | exact HB.out | apply bal | apply bdn | apply bd1 | refine bst ?_ (IsS62.ge HI112.out) | refine bst ?_ GE111.out) | exact HB.out)) hb)
      have z_HO119 := fun (h0_ : b 9 = true) => (show Kd.R Kd.string 9 w15 w.heap.size (fun _ => True) v118 y117 from by first | exact (Kd.R_below (by (with_reducible repeat (first | apply Kd.R_alloc | apply Kd.R_drewN | apply Kd.R_drew)); exact (Q_HO119 h0_)) hb) | exact Kd.R_mono (Kd.R_below (by (with_reducible repeat (first | apply Kd.R_alloc | apply Kd.R_drewN | apply Kd.R_drew)); exact (Q_HO119 h0_)) hb) (fun _ h_ => by first | trivial | exact h_ | exact h_.1))
      clear BK111
      clear HI112
      clear HB
      have HO115 := n0_
      have BK111 := n1_
      have HI112 := n2_
      have HB := n3_
      clear n0_ n1_ n2_ n3_
      clear hb ho16
      refine hK.out _ _ ⟨v114, v118, (by rw [ha.out]; exact putSel_upk 3 hb_ rfl rfl rfl), bk_, fun _ => (by repeat (first | (with_reducible first | exact HI112.out | apply IsS62.alloc | apply IsS62.drewN | apply IsS62.drew | apply IsS62.set_0 | refine IsS62.farT (p := ⟨gb111, _, none⟩) (t2 := 23) ?_ ?_ (by decide) (by decide) _ | exact OutT.mk BK111.out | refine OutT.set ?_ _ _ _) | exact HI112.out)), (by repeat (first | (with_reducible first | exact HB.out | apply bal | apply bdn | apply bd1 | refine bst ?_ (IsS62.ge HI112.out) | refine bst ?_ GE111.out) | exact HB.out)), fun _ => (by (with_reducible repeat (first | apply Kd.R_alloc | apply Kd.R_drewN | apply Kd.R_drew)); exact HO115.out), fun h0_ _ => absurd ((hoff 6 (by kernel_rfl)).symm.trans h0_) (by decide), z_HO119, fun h0_ => absurd ((hoff 10 (by kernel_rfl)).symm.trans h0_) (by decide)⟩
    refine steps_cons ?_ ?_
    · rintro b a w' ⟨v114, v118, ha, Q_BK111, Q_HI112, Q_HB, Q_HO115, Q_HI112_e6, Q_HO119, Q_HI112_e10⟩ hb_ hon hoff
      refine ⟨_, rfl, fun K hK => ?_⟩
      have e3 : a.tmps[3]? = some (.pointer (some ⟨gb112, 0, none⟩)) := by rw [ha]; exact (putSel_off rfl).trans rfl
      have e10 : a.tmps[10]? = some (v114) := by rw [ha]; exact putSel_on (e := (5, 10, v114)) 3 rfl rfl (hon 5 (by kernel_rfl)) rfl
      replace ha := Aside0.mk ha
      have BK111 := Aside0.mk Q_BK111
      have HI112 := Aside0.mk (Q_HI112 hb_)
      have HB := Aside0.mk Q_HB
      have HO115 := Aside0.mk (Q_HO115 (hon 5 (by kernel_rfl)))
      obtain ⟨Ao18, co18, eo18⟩ := Kd.R_slice HO115.out
      (first | subst eo18 | (injection eo18 with f1_ f2_ f3_; have f4_ := f1_.symm; have f5_ := f3_.symm; clear f1_ f2_ f3_; subst f4_; subst f5_))
      refine goes_ Try.func31 (by kernel_rfl) rfl #[.pointer (some ⟨gb112, 0, none⟩), .slice Ao18 y113.length co18] (by rfl) rfl rfl (by (try simp only [List.map_toArray, List.map_cons, List.map_nil]); first | done | rfl | (simp only [List.length_drop, List.length_take]; rfl) | (simp only [Act.eval, Array.getD_eq_getD_getElem?, Option.getD_some, *]; done) | (simp only [Array.mk.injEq, List.cons.injEq, Value.int.injEq, true_and, and_true]; first | omega | (simp [IntKind.wrap, IntKind.bits, IntKind.signed]; omega))) ?_
      with_reducible refine (codec_Out_N.calls gb112 (⟨#[]⟩ : ByteArray) _ _ y113 t116 w _ ?side1 ?side2 ?side3 ?side4 ?side5 A2.out).mono ?_
      (case side1 => repeat (first | (with_reducible first | exact HI112.out | apply IsS62.alloc | apply IsS62.drewN | apply IsS62.drew | apply IsS62.set_0 | refine IsS62.farT (p := ⟨gb111, _, none⟩) (t2 := 23) ?_ ?_ (by decide) (by decide) _ | exact OutT.mk BK111.out | refine OutT.set ?_ _ _ _) | exact HI112.out))
      (case side2 => repeat (first | (with_reducible first | exact HB.out | apply bal | apply bdn | apply bd1 | refine bst ?_ (IsS62.ge HI112.out) | refine bst ?_ GE111.out) | exact HB.out))
      (case side3 => repeat (first | exact (Kd.R_reads' HO115.out).2.2 | (with_reducible refine Kd.C_alloc ?_ _) | (with_reducible refine Kd.C_drewN ?_ _) | (with_reducible refine Kd.C_drew ?_)))
      (case side4 => exact (Kd.R_reads' HO115.out).2.1)
      (case side5 => exact fun W_ hk_ => (Kd.R_reads' (KeepT.R (by (with_reducible repeat (first | apply Kd.R_alloc | apply Kd.R_drewN | apply Kd.R_drew)); exact HO115.out) hk_ (by decide))).2.2)
      rintro e w19 ⟨rfl, hi, hb, hk⟩
      refine ⟨_, rfl, ?_⟩
      have n0_ := Aside0.mk (KeepT.oblk (g := gb111) (o := .cells #[.int .i64 a0_0, .int .u8 a0_1, .string a0_2] 23 (0, 0)) bk_ hk (by intro _ _ _ h_; cases h_; decide))
      have n1_ := Aside0.mk (KeepT.R (by (with_reducible repeat (first | apply Kd.R_alloc | apply Kd.R_drewN | apply Kd.R_drew)); exact HO115.out) hk (by decide))
      have n2_ := Aside0.mk (hb)
      have n3_ := Aside0.mk (hi)
      have z_HO119 := fun (h0_ : b 9 = true) => (show Kd.R Kd.string 9 w19 w.heap.size (fun _ => True) v118 y117 from by first | exact (KeepT.R (by (with_reducible repeat (first | apply Kd.R_alloc | apply Kd.R_drewN | apply Kd.R_drew)); exact (Q_HO119 h0_)) hk (by decide)) | exact Kd.R_mono (KeepT.R (by (with_reducible repeat (first | apply Kd.R_alloc | apply Kd.R_drewN | apply Kd.R_drew)); exact (Q_HO119 h0_)) hk (by decide)) (fun _ h_ => by first | trivial | exact h_ | exact h_.1))
      clear BK111
      clear HO115
      clear HB
      clear HI112
      have BK111 := n0_
      have HO115 := n1_
      have HB := n2_
      have HI112 := n3_
      clear n0_ n1_ n2_ n3_
      (try clear hb)
      (try clear hb2)
      (try clear hk)
      (try clear hi)
      refine hK.out _ _ ⟨.slice Ao18 y113.length co18, v118, (by rw [ha.out]; exact putSel_upk 4 hb_ rfl rfl rfl), bk_, fun h0_ => absurd ((up_self b 6).symm.trans h0_) (by decide), (by repeat (first | (with_reducible first | exact HB.out | apply bal | apply bdn | apply bd1 | refine bst ?_ (IsS62.ge HI112.out) | refine bst ?_ GE111.out) | exact HB.out)), fun _ => (by (with_reducible repeat (first | apply Kd.R_alloc | apply Kd.R_drewN | apply Kd.R_drew)); exact HO115.out), fun _ _ => (by repeat (first | (with_reducible first | exact HI112.out | apply IsS62.alloc | apply IsS62.drewN | apply IsS62.drew | apply IsS62.set_0 | refine IsS62.farT (p := ⟨gb111, _, none⟩) (t2 := 23) ?_ ?_ (by decide) (by decide) _ | exact OutT.mk BK111.out | refine OutT.set ?_ _ _ _) | exact HI112.out)), z_HO119, fun h0_ => absurd ((hoff 10 (by kernel_rfl)).symm.trans h0_) (by decide)⟩
    refine steps_cons ?_ ?_
    · rintro b a w' ⟨v114, v118, ha, Q_BK111, Q_HI112, Q_HB, Q_HO115, Q_HI112_e6, Q_HO119, Q_HI112_e10⟩ hb_ hon hoff
      refine ⟨_, rfl, fun K hK => ?_⟩
      have e12 : a.tmps[12]? = some (.pointer (some ⟨gb111, 2, none⟩)) := by rw [ha]; exact (putSel_off rfl).trans rfl
      replace ha := Aside0.mk ha
      have BK111 := Aside0.mk Q_BK111
      have HB := Aside0.mk Q_HB
      have hc0_ : w'.cell? ⟨gb111, 0, none⟩ = some (.int .i64 a0_0) := (kcl BK111.out 0).trans rfl
      have hc1_ : w'.cell? ⟨gb111, 1, none⟩ = some (.int .u8 a0_1) := (kcl BK111.out 1).trans rfl
      have hc2_ : w'.cell? ⟨gb111, 2, none⟩ = some (.string a0_2) := (kcl BK111.out 2).trans rfl
      refine value_ (w1 := w') (v := .string a0_2) (by rfl) rfl ?_ ?_
      · go_simp
        (try simp only [i64_w])
        try rfl
      refine hK.out _ _ ⟨v114, v118, (by rw [ha.out]; exact putSel_upk 5 hb_ rfl rfl rfl), Q_BK111, Q_HI112, Q_HB, Q_HO115, Q_HI112_e6, fun h0_ => absurd ((hoff 9 (by kernel_rfl)).symm.trans h0_) (by decide), fun h0_ => absurd ((hoff 10 (by kernel_rfl)).symm.trans h0_) (by decide)⟩
    refine steps_cons ?_ ?_
    · rintro b a w' ⟨v114, v118, ha, Q_BK111, Q_HI112, Q_HB, Q_HO115, Q_HI112_e6, Q_HO119, Q_HI112_e10⟩ hb_ hon hoff
      refine ⟨_, rfl, fun K hK => ?_⟩
      have e13 : a.tmps[13]? = some (.string a0_2) := by rw [ha]; exact putSel_on (e := (8, 13, .string a0_2)) 5 rfl rfl (hon 8 (by kernel_rfl)) rfl
      replace ha := Aside0.mk ha
      have BK111 := Aside0.mk Q_BK111
      have HB := Aside0.mk Q_HB
      refine Kd.R_lit_step Kd.string _ 9 ?hg (N := 14) ?hd (xs := ([a0_2] : List ByteArray)) (inner := [.string a0_2]) (ok := fun _ => True) (okp := fun _ => True) ?hr ?hp (fun _ hk => hk) trivial (Below.refl _ _) (Nat.le_refl _) (by simp) ?_; (case hd => rfl); (case hg => rfl); (case hr => first | (go_simp; done) | (go_simp; rfl)); (case hp => exact (Reps.one (show Kd.M Kd.string _ _ _ a0_2 [.string a0_2] from rfl) (Reps.none _ _)))
      intro v118 w15 ho16 hb hg_ hnew_
      clear hg_ hnew_
      (first | rw [← Ny117.out] at ho16 | (simp only [Int.reduceToNat] at ho16; rw [← Ny117.out] at ho16))
      have n0_ := Aside0.mk (Kd.R_lower ho16 (bsz bl_))
      have n1_ := Aside0.mk (kbl (g := gb111) (o := .cells #[.int .i64 a0_0, .int .u8 a0_1, .string a0_2] 23 (0, 0)) bk_ hb)
      have n3_ := Aside0.mk (bsp bl_ hb)
      have z_HI112 := fun (h0_ : b 6 = false) => (show IsS62 w w15 gb112 (⟨#[]⟩ : ByteArray) from by first | exact (IsS62.below (by repeat (first | (with_reducible first | exact (Q_HI112 h0_) | apply IsS62.alloc | apply IsS62.drewN | apply IsS62.drew | apply IsS62.set_0 | refine IsS62.farT (p := ⟨gb111, _, none⟩) (t2 := 23) ?_ ?_ (by decide) (by decide) _ | exact OutT.mk BK111.out | refine OutT.set ?_ _ _ _) | exact (Q_HI112 h0_))) hb))
      have z_HO115 := fun (h0_ : b 5 = true) => (show Kd.R (Kd.int .i64) 3 w15 w.heap.size (fun _ => True) v114 y113 from by first | exact (Kd.R_below (by (with_reducible repeat (first | apply Kd.R_alloc | apply Kd.R_drewN | apply Kd.R_drew)); exact (Q_HO115 h0_)) hb) | exact Kd.R_mono (Kd.R_below (by (with_reducible repeat (first | apply Kd.R_alloc | apply Kd.R_drewN | apply Kd.R_drew)); exact (Q_HO115 h0_)) hb) (fun _ h_ => by first | trivial | exact h_ | exact h_.1))
      have z_HI112_e6 := fun (h0_ : b 6 = true) (h1_ : b 10 = false) => (show IsS62 w w15 gb112 t116 from by first | exact (IsS62.below (by repeat (first | (with_reducible first | exact (Q_HI112_e6 h0_ h1_) | apply IsS62.alloc | apply IsS62.drewN | apply IsS62.drew | apply IsS62.set_0 | refine IsS62.farT (p := ⟨gb111, _, none⟩) (t2 := 23) ?_ ?_ (by decide) (by decide) _ | exact OutT.mk BK111.out | refine OutT.set ?_ _ _ _) | exact (Q_HI112_e6 h0_ h1_))) hb))
      clear BK111
      clear HB
      have HO119 := n0_
      have BK111 := n1_
      have HB := n3_
      clear n0_ n1_ n3_
      clear hb ho16
      refine hK.out _ _ ⟨v114, v118, (by rw [ha.out]; exact putSel_upk 6 hb_ rfl rfl rfl), bk_, z_HI112, bl_, z_HO115, z_HI112_e6, fun _ => (by (with_reducible repeat (first | apply Kd.R_alloc | apply Kd.R_drewN | apply Kd.R_drew)); exact HO119.out), fun h0_ => absurd ((hoff 10 (by kernel_rfl)).symm.trans h0_) (by decide)⟩
    refine steps_cons ?_ ?_
    · rintro b a w' ⟨v114, v118, ha, Q_BK111, Q_HI112, Q_HB, Q_HO115, Q_HI112_e6, Q_HO119, Q_HI112_e10⟩ hb_ hon hoff
      refine ⟨_, rfl, fun K hK => ?_⟩
      have e11 : a.tmps[11]? = some (.pointer (some ⟨gb112, 0, none⟩)) := by rw [ha]; exact putSel_on (e := (6, 11, .pointer (some ⟨gb112, 0, none⟩))) 4 rfl rfl (hon 6 (by kernel_rfl)) rfl
      have e14 : a.tmps[14]? = some (v118) := by rw [ha]; exact putSel_on (e := (9, 14, v118)) 6 rfl rfl (hon 9 (by kernel_rfl)) rfl
      replace ha := Aside0.mk ha
      have BK111 := Aside0.mk Q_BK111
      have HB := Aside0.mk Q_HB
      have HO115 := Aside0.mk (Q_HO115 (hon 5 (by kernel_rfl)))
      have HI112 := Aside0.mk (Q_HI112_e6 (hon 6 (by kernel_rfl)) hb_)
      have HO119 := Aside0.mk (Q_HO119 (hon 9 (by kernel_rfl)))
      obtain ⟨Ao22, co22, eo22⟩ := Kd.R_slice HO119.out
      (first | subst eo22 | (injection eo22 with f1_ f2_ f3_; have f4_ := f1_.symm; have f5_ := f3_.symm; clear f1_ f2_ f3_; subst f4_; subst f5_))
      refine goes_ Try.func32 (by kernel_rfl) rfl #[.pointer (some ⟨gb112, 0, none⟩), .slice Ao22 y117.length co22] (by rfl) rfl rfl (by (try simp only [List.map_toArray, List.map_cons, List.map_nil]); first | done | rfl | (simp only [List.length_drop, List.length_take]; rfl) | (simp only [Act.eval, Array.getD_eq_getD_getElem?, Option.getD_some, *]; done) | (simp only [Array.mk.injEq, List.cons.injEq, Value.int.injEq, true_and, and_true]; first | omega | (simp [IntKind.wrap, IntKind.bits, IntKind.signed]; omega))) ?_
      with_reducible refine (codec_Out_S.calls gb112 t116 _ _ y117 t120 w _ ?side1 ?side2 ?side3 ?side4 ?side5 A3.out).mono ?_
      (case side1 => repeat (first | (with_reducible first | exact HI112.out | apply IsS62.alloc | apply IsS62.drewN | apply IsS62.drew | apply IsS62.set_0 | refine IsS62.farT (p := ⟨gb111, _, none⟩) (t2 := 23) ?_ ?_ (by decide) (by decide) _ | exact OutT.mk BK111.out | refine OutT.set ?_ _ _ _) | exact HI112.out))
      (case side2 => repeat (first | (with_reducible first | exact HB.out | apply bal | apply bdn | apply bd1 | refine bst ?_ (IsS62.ge HI112.out) | refine bst ?_ GE111.out) | exact HB.out))
      (case side3 => repeat (first | exact (Kd.R_reads' HO119.out).2.2 | (with_reducible refine Kd.C_alloc ?_ _) | (with_reducible refine Kd.C_drewN ?_ _) | (with_reducible refine Kd.C_drew ?_)))
      (case side4 => exact (Kd.R_reads' HO119.out).2.1)
      (case side5 => exact fun W_ hk_ => (Kd.R_reads' (KeepT.R (by (with_reducible repeat (first | apply Kd.R_alloc | apply Kd.R_drewN | apply Kd.R_drew)); exact HO119.out) hk_ (by decide))).2.2)
      rintro e w23 ⟨rfl, hi, hb, hk⟩
      refine ⟨_, rfl, ?_⟩
      have n0_ := Aside0.mk (KeepT.oblk (g := gb111) (o := .cells #[.int .i64 a0_0, .int .u8 a0_1, .string a0_2] 23 (0, 0)) bk_ hk (by intro _ _ _ h_; cases h_; decide))
      have n1_ := Aside0.mk (KeepT.R (by (with_reducible repeat (first | apply Kd.R_alloc | apply Kd.R_drewN | apply Kd.R_drew)); exact HO115.out) hk (by decide))
      have n2_ := Aside0.mk (KeepT.R (by (with_reducible repeat (first | apply Kd.R_alloc | apply Kd.R_drewN | apply Kd.R_drew)); exact HO119.out) hk (by decide))
      have n3_ := Aside0.mk (hb)
      have n4_ := Aside0.mk (hi)
      clear BK111
      clear HO115
      clear HO119
      clear HB
      clear HI112
      have BK111 := n0_
      have HO115 := n1_
      have HO119 := n2_
      have HB := n3_
      have HI112 := n4_
      clear n0_ n1_ n2_ n3_ n4_
      (try clear hb)
      (try clear hb2)
      (try clear hk)
      (try clear hi)
      refine hK.out _ _ ⟨v114, .slice Ao22 y117.length co22, (by rw [ha.out]; exact putSel_upk 7 hb_ rfl rfl rfl), bk_, fun h0_ => absurd ((hon 6 (by kernel_rfl)).symm.trans h0_) (by decide), (by repeat (first | (with_reducible first | exact HB.out | apply bal | apply bdn | apply bd1 | refine bst ?_ (IsS62.ge HI112.out) | refine bst ?_ GE111.out) | exact HB.out)), fun _ => (by (with_reducible repeat (first | apply Kd.R_alloc | apply Kd.R_drewN | apply Kd.R_drew)); exact HO115.out), fun _ h1_ => absurd ((up_self b 10).symm.trans h1_) (by decide), fun _ => (by (with_reducible repeat (first | apply Kd.R_alloc | apply Kd.R_drewN | apply Kd.R_drew)); exact HO119.out), fun _ => (by repeat (first | (with_reducible first | exact HI112.out | apply IsS62.alloc | apply IsS62.drewN | apply IsS62.drew | apply IsS62.set_0 | refine IsS62.farT (p := ⟨gb111, _, none⟩) (t2 := 23) ?_ ?_ (by decide) (by decide) _ | exact OutT.mk BK111.out | refine OutT.set ?_ _ _ _) | exact HI112.out))⟩
    exact steps_nil
  rintro b a w23 hall ⟨v114, v118, ha, Q_BK111, Q_HI112, Q_HB, Q_HO115, Q_HI112_e6, Q_HO119, Q_HI112_e10⟩
  clear BK111 HB HI112
  have hb1_ := hall 1 (by kernel_rfl)
  have hb3_ := hall 3 (by kernel_rfl)
  have hb4_ := hall 4 (by kernel_rfl)
  have hb5_ := hall 5 (by kernel_rfl)
  have hb6_ := hall 6 (by kernel_rfl)
  have hb8_ := hall 8 (by kernel_rfl)
  have hb9_ := hall 9 (by kernel_rfl)
  have hb10_ := hall 10 (by kernel_rfl)
  subst ha
  simp only [putSel, hb1_, hb3_, hb4_, hb5_, hb6_, hb8_, hb9_, hb10_, if_true, Act.put, List.setIfInBounds_toArray, List.set_cons_zero, List.set_cons_succ]
  have BK111 := Aside0.mk Q_BK111
  clear Q_BK111
  clear Q_HI112
  have HB := Aside0.mk Q_HB
  clear Q_HB
  have HO115 := Aside0.mk (Q_HO115 hb5_)
  clear Q_HO115
  clear Q_HI112_e6
  have HO119 := Aside0.mk (Q_HO119 hb9_)
  clear Q_HO119
  have HI112 := Aside0.mk (Q_HI112_e10 hb10_)
  clear Q_HI112_e10
  clear hall hb1_ hb3_ hb4_ hb5_ hb6_ hb8_ hb9_ hb10_
  try go_wp2_with (first | ((with_reducible refine gcl (f := 33) rfl ?_); refine gl_ (some 16) rfl rfl Try.func33 (by kernel_rfl) rfl #[.pointer (some ⟨gb112, 0, none⟩)] rfl ar_ ?_; (with_reducible refine (codec_Out_Text.calls gb112 t120 t121 t122 w _ ?side1 ?side2 A4.out).mono ?_); (case side1 => repeat (first | (with_reducible first | exact HI112.out | apply IsS62.alloc | apply IsS62.drewN | apply IsS62.drew | apply IsS62.set_0 | refine IsS62.farT (p := ⟨gb111, _, none⟩) (t2 := 23) ?_ ?_ (by decide) (by decide) _ | exact OutT.mk BK111.out | refine OutT.set ?_ _ _ _) | exact HI112.out)); (case side2 => repeat (first | (with_reducible first | exact HB.out | apply bal | apply bdn | apply bd1 | refine bst ?_ (IsS62.ge HI112.out) | refine bst ?_ GE111.out) | exact HB.out)); rintro e w24 ⟨rfl, hi, hb, hk⟩; refine ⟨_, rfl, ?_⟩; have n0_ := Aside0.mk (KeepT.oblk (g := gb111) (o := .cells #[.int .i64 a0_0, .int .u8 a0_1, .string a0_2] 23 (0, 0)) bk_ hk (by intro _ _ _ h_; cases h_; decide)); have n1_ := Aside0.mk (KeepT.R (by (with_reducible repeat (first | apply Kd.R_alloc | apply Kd.R_drewN | apply Kd.R_drew)); exact HO115.out) hk (by decide)); have n2_ := Aside0.mk (KeepT.R (by (with_reducible repeat (first | apply Kd.R_alloc | apply Kd.R_drewN | apply Kd.R_drew)); exact HO119.out) hk (by decide)); have n3_ := Aside0.mk (hb); have n4_ := Aside0.mk (hi); clear BK111; clear HO115; clear HO119; clear HB; clear HI112; have BK111 := n0_; have HO115 := n1_; have HO119 := n2_; have HB := n3_; have HI112 := n4_; clear n0_ n1_ n2_ n3_ n4_; (try clear hb); (try clear hb2); (try clear hk); (try clear hi)) | ((with_reducible refine gds (N := 21) rfl ?_); refine Kd.R_make (Kd.int .u8) _ 5 rfl (N := 21) rfl 60 _ _ rfl ji5 rfl rfl Try.underlying60 (.int .u8 0) 1 info5 rfl (by decide) (by omega) 0 (ok := fun _ => True) (okp := fun _ => True) rfl (fun _ hk => hk) trivial (of_decide_eq_true (by first | (with_reducible assumption) | assumption)) (Nat.le_trans (Nat.mul_le_mul_right _ (of_decide_eq_true (by first | (with_reducible assumption) | assumption) : ji5.toNat ≤ 281474976710656)) (by omega)) (Below.refl _ _) (Nat.le_refl _) ?_; intro v124 w25 ho26 hb hg_ hnew_; clear hg_ hnew_; (first | rw [← Ny123.out] at ho26 | (simp only [Int.reduceToNat] at ho26; rw [← Ny123.out] at ho26)); have n0_ := Aside0.mk (Kd.R_below (by (with_reducible repeat (first | apply Kd.R_alloc | apply Kd.R_drewN | apply Kd.R_drew)); exact HO115.out) hb); have n1_ := Aside0.mk (Kd.R_below (by (with_reducible repeat (first | apply Kd.R_alloc | apply Kd.R_drewN | apply Kd.R_drew)); exact HO119.out) hb); have n2_ := Aside0.mk (Kd.R_lower ho26 (bsz (by repeat (first | (with_reducible first | exact HB.out | apply bal | apply bdn | apply bd1 | refine bst ?_ (IsS62.ge HI112.out) | refine bst ?_ GE111.out) | exact HB.out)))); have n3_ := Aside0.mk (kbl (g := gb111) (o := .cells #[.int .i64 a0_0, .int .u8 a0_1, .string a0_2] 23 (0, 0)) bk_ hb); have n4_ := Aside0.mk (IsS62.below (by repeat (first | (with_reducible first | exact HI112.out | apply IsS62.alloc | apply IsS62.drewN | apply IsS62.drew | apply IsS62.set_0 | refine IsS62.farT (p := ⟨gb111, _, none⟩) (t2 := 23) ?_ ?_ (by decide) (by decide) _ | exact OutT.mk BK111.out | refine OutT.set ?_ _ _ _) | exact HI112.out)) hb); have n5_ := Aside0.mk (bsp (by repeat (first | (with_reducible first | exact HB.out | apply bal | apply bdn | apply bd1 | refine bst ?_ (IsS62.ge HI112.out) | refine bst ?_ GE111.out) | exact HB.out)) hb); clear HO115; clear HO119; clear BK111; clear HI112; clear HB; have HO115 := n0_; have HO119 := n1_; have HO125 := n2_; have BK111 := n3_; have HI112 := n4_; have HB := n5_; clear n0_ n1_ n2_ n3_ n4_ n5_; clear hb ho26; have hcv27 := own_string (P := Try.prog) Try.underlying60 Try.underlying5 Try.underlying9 (Kd.own_of_R HO125.out)) | ((with_reducible refine gds (N := 25) rfl ?_); refine Kd.R_lit Kd.string _ 9 ?hg (N := 25) ?hd (xs := ([t121 ++ (strOfNums y123)] : List ByteArray)) (inner := [.string (t121 ++ (strOfNums y123))]) (ok := fun _ => True) (okp := fun _ => True) ?hr ?hp (fun _ hk => hk) trivial (Below.refl _ _) (Nat.le_refl _) (by simp) ?_; (case hd => rfl); (case hg => rfl); (case hr => first | (go_simp; done) | (go_simp; rfl)); (case hp => exact (Reps.one (show Kd.M Kd.string _ _ _ (t121 ++ (strOfNums y123)) [.string (t121 ++ (strOfNums y123))] from rfl) (Reps.none _ _))); intro v127 w28 ho29 hb hg_ hnew_; clear hg_ hnew_; (first | rw [← Ny126.out] at ho29 | (simp only [Int.reduceToNat] at ho29; rw [← Ny126.out] at ho29)); have n0_ := Aside0.mk (Kd.R_below (by (with_reducible repeat (first | apply Kd.R_alloc | apply Kd.R_drewN | apply Kd.R_drew)); exact HO115.out) hb); have n1_ := Aside0.mk (Kd.R_elder' (by (with_reducible repeat (first | apply Kd.R_alloc | apply Kd.R_drewN | apply Kd.R_drew)); exact HO119.out) (Kd.R_base ho29) hb); have n2_ := Aside0.mk (Kd.R_below (by (with_reducible repeat (first | apply Kd.R_alloc | apply Kd.R_drewN | apply Kd.R_drew)); exact HO125.out) hb); have n3_ := Aside0.mk (Kd.R_lower (Kd.R_new' ho29 (Kd.R_lt (by (with_reducible repeat (first | apply Kd.R_alloc | apply Kd.R_drewN | apply Kd.R_drew)); exact HO119.out))) (bsz (by repeat (first | (with_reducible first | exact HB.out | apply bal | apply bdn | apply bd1 | refine bst ?_ (IsS62.ge HI112.out) | refine bst ?_ GE111.out) | exact HB.out)))); have n4_ := Aside0.mk (kbl (g := gb111) (o := .cells #[.int .i64 a0_0, .int .u8 a0_1, .string a0_2] 23 (0, 0)) bk_ hb); have n5_ := Aside0.mk (IsS62.below (by repeat (first | (with_reducible first | exact HI112.out | apply IsS62.alloc | apply IsS62.drewN | apply IsS62.drew | apply IsS62.set_0 | refine IsS62.farT (p := ⟨gb111, _, none⟩) (t2 := 23) ?_ ?_ (by decide) (by decide) _ | exact OutT.mk BK111.out | refine OutT.set ?_ _ _ _) | exact HI112.out)) hb); have n6_ := Aside0.mk (bsp (by repeat (first | (with_reducible first | exact HB.out | apply bal | apply bdn | apply bd1 | refine bst ?_ (IsS62.ge HI112.out) | refine bst ?_ GE111.out) | exact HB.out)) hb); clear HO115; clear HO119; clear HO125; clear BK111; clear HI112; clear HB; have HO115 := n0_; have HO119 := n1_; have HO125 := n2_; have HO128 := n3_; have BK111 := n4_; have HI112 := n5_; have HB := n6_; clear n0_ n1_ n2_ n3_ n4_ n5_ n6_; clear hb ho29; obtain ⟨Ao30, co30, eo30⟩ := Kd.R_slice HO128.out; subst eo30) | ((with_reducible refine gcl (f := 26) rfl ?_); refine gl_ (some 26) rfl rfl Try.func26 (by kernel_rfl) rfl #[.slice Ao30 y126.length co30] rfl ar_ ?_; (with_reducible refine (crc_Of.calls k _ _ y126 t129 _ ?side1 ?side2 A9.out).mono ?_); (case side1 => repeat (first | exact (Kd.R_reads' HO128.out).2.2 | (with_reducible refine Kd.C_alloc ?_ _) | (with_reducible refine Kd.C_drewN ?_ _) | (with_reducible refine Kd.C_drew ?_))); (case side2 => exact (Kd.R_reads' HO128.out).2.1); rintro e w31 ⟨rfl, hb⟩; refine ⟨_, rfl, ?_⟩; have n0_ := Aside0.mk (Kd.R_below (by (with_reducible repeat (first | apply Kd.R_alloc | apply Kd.R_drewN | apply Kd.R_drew)); exact HO115.out) hb); have n1_ := Aside0.mk (Kd.R_below (by (with_reducible repeat (first | apply Kd.R_alloc | apply Kd.R_drewN | apply Kd.R_drew)); exact HO119.out) hb); have n2_ := Aside0.mk (Kd.R_below (by (with_reducible repeat (first | apply Kd.R_alloc | apply Kd.R_drewN | apply Kd.R_drew)); exact HO125.out) hb); have n3_ := Aside0.mk (Kd.R_below (by (with_reducible repeat (first | apply Kd.R_alloc | apply Kd.R_drewN | apply Kd.R_drew)); exact HO128.out) hb); have n4_ := Aside0.mk (kbl (g := gb111) (o := .cells #[.int .i64 a0_0, .int .u8 a0_1, .string a0_2] 23 (0, 0)) bk_ hb); have n5_ := Aside0.mk (IsS62.below (by repeat (first | (with_reducible first | exact HI112.out | apply IsS62.alloc | apply IsS62.drewN | apply IsS62.drew | apply IsS62.set_0 | refine IsS62.farT (p := ⟨gb111, _, none⟩) (t2 := 23) ?_ ?_ (by decide) (by decide) _ | exact OutT.mk BK111.out | refine OutT.set ?_ _ _ _) | exact HI112.out)) hb); have n6_ := Aside0.mk (bsp (by repeat (first | (with_reducible first | exact HB.out | apply bal | apply bdn | apply bd1 | refine bst ?_ (IsS62.ge HI112.out) | refine bst ?_ GE111.out) | exact HB.out)) hb); clear HO115; clear HO119; clear HO125; clear HO128; clear BK111; clear HI112; clear HB; have HO115 := n0_; have HO119 := n1_; have HO125 := n2_; have HO128 := n3_; have BK111 := n4_; have HI112 := n5_; have HB := n6_; clear n0_ n1_ n2_ n3_ n4_ n5_ n6_; (try clear hb); (try clear hb2); (try clear hk); (try clear hi)) | ((with_reducible refine gcl (f := 25) rfl ?_); refine gl_ (some 27) rfl rfl Try.func25 (by kernel_rfl) rfl #[.int .u32 t129] rfl ar_ ?_; (with_reducible refine (crc_Bytes.calls t129 t130 _ A10.out).mono ?_); rintro e w32 ⟨rfl, hb⟩; refine ⟨_, rfl, ?_⟩; have n0_ := Aside0.mk (Kd.R_below (by (with_reducible repeat (first | apply Kd.R_alloc | apply Kd.R_drewN | apply Kd.R_drew)); exact HO115.out) hb); have n1_ := Aside0.mk (Kd.R_below (by (with_reducible repeat (first | apply Kd.R_alloc | apply Kd.R_drewN | apply Kd.R_drew)); exact HO119.out) hb); have n2_ := Aside0.mk (Kd.R_below (by (with_reducible repeat (first | apply Kd.R_alloc | apply Kd.R_drewN | apply Kd.R_drew)); exact HO125.out) hb); have n3_ := Aside0.mk (Kd.R_below (by (with_reducible repeat (first | apply Kd.R_alloc | apply Kd.R_drewN | apply Kd.R_drew)); exact HO128.out) hb); have n4_ := Aside0.mk (kbl (g := gb111) (o := .cells #[.int .i64 a0_0, .int .u8 a0_1, .string a0_2] 23 (0, 0)) bk_ hb); have n5_ := Aside0.mk (IsS62.below (by repeat (first | (with_reducible first | exact HI112.out | apply IsS62.alloc | apply IsS62.drewN | apply IsS62.drew | apply IsS62.set_0 | refine IsS62.farT (p := ⟨gb111, _, none⟩) (t2 := 23) ?_ ?_ (by decide) (by decide) _ | exact OutT.mk BK111.out | refine OutT.set ?_ _ _ _) | exact HI112.out)) hb); have n6_ := Aside0.mk (bsp (by repeat (first | (with_reducible first | exact HB.out | apply bal | apply bdn | apply bd1 | refine bst ?_ (IsS62.ge HI112.out) | refine bst ?_ GE111.out) | exact HB.out)) hb); clear HO115; clear HO119; clear HO125; clear HO128; clear BK111; clear HI112; clear HB; have HO115 := n0_; have HO119 := n1_; have HO125 := n2_; have HO128 := n3_; have BK111 := n4_; have HI112 := n5_; have HB := n6_; clear n0_ n1_ n2_ n3_ n4_ n5_ n6_; (try clear hb); (try clear hb2); (try clear hk); (try clear hi)))
  go_ret
  exact ⟨by first | rfl | (simp [errW_none, errW_some] <;> rfl) | (simp only [← hji5]; first | rfl | (simp [errW_none, errW_some] <;> rfl)) | (simp [*, errW_none, errW_some] <;> rfl), by repeat (first | (with_reducible first | exact HB.out | apply bal | apply bdn | apply bd1 | refine bst ?_ (IsS62.ge HI112.out) | refine bst ?_ GE111.out) | exact HB.out)⟩
def codec_Read.f (a0 : ByteArray) : Option (ByteArray × Int) := some (a0, 0)
set_option maxHeartbeats 2000000 in
set_option maxRecDepth 100000 in
theorem codec_Read.calls (a0 : ByteArray) (r1 : ByteArray) (r2 : Int) (w0 w : World) (hB : Below w0.heap.size w0 w) (h : codec_Read.f a0 = some (r1, r2)) :
    Calls Try.prog 27 #[.string a0] w fun e w' => ∃ g_ : Nat, e = .returned (.pointer (some ⟨g_, 0, none⟩)) ∧ IsS88 w0 w' g_ r1 r2 ∧ Below w0.heap.size w0 w' ∧ Below w.heap.size w w' := by
  have hu88 := Try.underlying88
  have HBW := Aside0.mk (Below.refl w.heap.size w)
  have HW0 := Aside0.mk hB.size
  have HB := Aside0.mk hB
  clear hB
  have H : (some (a0, 0)) = some (r1, r2) := h
  clear h
  simp only [Option.some.injEq, Prod.mk.injEq] at H
  obtain ⟨rfl, rfl⟩ := H
  go_enter Try.func27, Try.ntmps27
  go_wp2_with (first | ((with_reducible refine gds (N := 5) rfl ?_); refine bev ?hg (N := 5) ?hd (cs := #[.string a0, .int .i64 0]) (t := 88) ?hr ?_; (case hd => rfl); (case hg => rfl); (case hr => first | (go_simp; done) | (go_simp; rfl)); intro gb131 hg w2 hbox hb; have n0_ := Aside0.mk (bsp HBW.out hb); have n1_ := Aside0.mk (bsp bl_ hb); have n2_ := Aside0.mk (hbox); have n3_ := Aside0.mk ((by rw [hg]; exact (bsz (by repeat (first | (with_reducible first | exact HBW.out | apply bal | apply bdn | apply bd1) | exact HBW.out))) : w.heap.size ≤ gb131)); have n4_ := Aside0.mk ((Nat.le_trans HW0.out (by rw [hg]; exact (bsz (by repeat (first | (with_reducible first | exact HBW.out | apply bal | apply bdn | apply bd1) | exact HBW.out))) : w.heap.size ≤ gb131) : w0.heap.size ≤ gb131)); clear HBW; clear HB; have HBW := n0_; have HB := n1_; have BK131 := n2_; have GW131 := n3_; have GE131 := n4_; clear n0_ n1_ n2_ n3_ n4_; clear hb hbox hg))
  go_ret
  exact ⟨_, rfl, (show IsS88 w0 _ gb131 a0 0 from ⟨bk_, GE131.out⟩), bl_, by repeat (first | (with_reducible first | exact HBW.out | apply bal | apply bdn | apply bd1 | refine bst ?_ GW131.out) | exact HBW.out)⟩
def codec_In_N.f (s0_0 : ByteArray) (s0_1 : Int) (a1 : Int) : Option (Int × ByteArray × Int) := (codec_In_U.f s0_0 s0_1).bind fun bt132 => (if bt132.1 > (IntKind.u64.wrap (mx a1 0)) then ((PL.codec_In_Fail.f bt132.2.1 bt132.2.2 3).bind fun bt135 => (some (0, bt135.1, bt135.2))) else (some (wrap64 (bt132.1), bt132.2.1, bt132.2.2)))
set_option maxHeartbeats 2000000 in
set_option maxRecDepth 100000 in
theorem codec_In_N.calls (g : Nat) (s0_0 : ByteArray) (s0_1 : Int) (a1 : Int) (r1 : Int) (r2 : ByteArray) (r3 : Int) (w0 w : World) (hI : IsS88 w0 w g s0_0 s0_1) (hB : Below w0.heap.size w0 w) (h : codec_In_N.f s0_0 s0_1 a1 = some (r1, r2, r3)) :
    Calls Try.prog 28 #[.pointer (some ⟨g, 0, none⟩), .int .i64 a1] w fun e w' => e = .returned (.int .i64 r1) ∧ IsS88 w0 w' g r2 r3 ∧ Below w0.heap.size w0 w' ∧ KeepBut w w' g none := by
  have HI0 := Aside0.mk hI
  have HK := Aside0.mk (KeepBut.refl w g none)
  have HL := Aside0.mk hB.size
  clear hI
  have HW0 := Aside0.mk hB.size
  have HB := Aside0.mk hB
  clear hB
  have H : ((codec_In_U.f s0_0 s0_1).bind fun bt132 => (if bt132.1 > (IntKind.u64.wrap (mx a1 0)) then ((PL.codec_In_Fail.f bt132.2.1 bt132.2.2 3).bind fun bt135 => (some (0, bt135.1, bt135.2))) else (some (wrap64 (bt132.1), bt132.2.1, bt132.2.2)))) = some (r1, r2, r3) := h
  clear h
  replace H := Option.bind_eq_some_iff.mp H
  obtain ⟨⟨t132, t133, t134⟩, A30, H⟩ := H
  replace H : (if t132 > (IntKind.u64.wrap (mx a1 0)) then ((PL.codec_In_Fail.f t133 t134 3).bind fun bt135 => (some (0, bt135.1, bt135.2))) else (some (wrap64 (t132), t133, t134))) = some (r1, r2, r3) := H
  have A3 := Aside0.mk A30
  clear A30
  obtain ⟨ji4, hji4⟩ : ∃ j_ : Int, (mx a1 0) = j_ := ⟨_, rfl⟩
  replace H : (if t132 > (IntKind.u64.wrap (ji4)) then ((PL.codec_In_Fail.f t133 t134 3).bind fun bt135 => (some (0, bt135.1, bt135.2))) else (some (wrap64 (t132), t133, t134))) = some (r1, r2, r3) := by first | (rw [hji4] at H; exact H) | (simp only [hji4] at H ⊢; exact H)
  (try rw [hji4] at A3)
  (try (have hji4l : 0 ≤ ji4 := by (rw [← hji4]; unfold mx; (repeat' split) <;> omega)))
  (try (have hji4m : 0 ≤ ji4 := by omega))
  have hji4_ : (if a1 < 0 then 0 else a1) = ji4 := hji4
  have HS5 := Aside0.mk H
  clear H
  go_enter Try.func28, Try.ntmps28
  go_upto_if 12 with (first | ((with_reducible refine gcl (f := 44) rfl ?_); refine gl_ (some 7) rfl rfl Try.func44 (by kernel_rfl) rfl #[.pointer (some ⟨g, 0, none⟩)] rfl ar_ ?_; (with_reducible refine (codec_In_U.calls g s0_0 s0_1 t132 t133 t134 w0 _ ?side1 ?side2 A3.out).mono ?_); (case side1 => repeat (first | (with_reducible first | exact HI0.out | apply IsS88.alloc | apply IsS88.drewN | apply IsS88.drew | apply IsS88.set_0 | apply IsS88.set_1) | exact HI0.out)); (case side2 => repeat (first | (with_reducible first | exact HB.out | apply bal | apply bdn | apply bd1 | refine bst ?_ (IsS88.ge HI0.out)) | exact HB.out)); rintro e w6 ⟨rfl, hi, hb, hk⟩; refine ⟨_, rfl, ?_⟩; have n0_ := Aside0.mk (KeepBut.trans (by repeat (first | (with_reducible first | exact HK.out | apply KeepBut.set_ | apply edn | apply edw | apply eal) | exact HK.out)) hk (.inl rfl)); have n1_ := Aside0.mk (hb); have n2_ := Aside0.mk (hi); clear HK; clear HB; clear HI0; have HK := n0_; have HB := n1_; have HI0 := n2_; clear n0_ n1_ n2_; (try clear hb); (try clear hb2); (try clear hk); (try clear hi)))
  (try simp only [Act.put, List.setIfInBounds_toArray, List.set_cons_zero, List.set_cons_succ])
  have H := HS5.out
  clear HS5
  by_cases c7 : t132 > (IntKind.u64.wrap (ji4))
  rotate_left
  · rw [if_neg c7] at H
    have c7b0 : decide ((IntKind.u64.wrap (ji4)) < t132) = false := decide_eq_false c7
    clear c7
    (first | rw [c7b0] | (simp only [i64_w, i32_w]; rw [c7b0]) | skip)
    simp only [Option.some.injEq, Prod.mk.injEq] at H
    obtain ⟨rfl, rfl, rfl⟩ := H
    go_wp2
    go_ret
    exact ⟨by first | rfl | (simp [errW_none, errW_some] <;> rfl) | (simp only [← hji4]; first | rfl | (simp [errW_none, errW_some] <;> rfl)) | (simp [*, errW_none, errW_some] <;> rfl), by repeat (first | (with_reducible first | exact HI0.out | apply IsS88.alloc | apply IsS88.drewN | apply IsS88.drew | apply IsS88.set_0 | apply IsS88.set_1) | exact HI0.out), by repeat (first | (with_reducible first | exact HB.out | apply bal | apply bdn | apply bd1 | refine bst ?_ (IsS88.ge HI0.out)) | exact HB.out), by repeat (first | (with_reducible first | exact HK.out | apply KeepBut.set_ | apply edn | apply edw | apply eal) | exact HK.out)⟩
  rw [if_pos c7] at H
  have c7b0 : decide ((IntKind.u64.wrap (ji4)) < t132) = true := decide_eq_true c7
  clear c7
  (first | rw [c7b0] | (simp only [i64_w, i32_w]; rw [c7b0]) | skip)
  replace H := Option.bind_eq_some_iff.mp H
  obtain ⟨⟨t135, t136⟩, A80, H⟩ := H
  replace H : (some (0, t135, t136)) = some (r1, r2, r3) := H
  have A8 := Aside0.mk A80
  clear A80
  simp only [Option.some.injEq, Prod.mk.injEq] at H
  obtain ⟨rfl, rfl, rfl⟩ := H
  go_wp2_with (first | ((with_reducible refine gcl (f := 45) rfl ?_); refine gl_ (some 14) rfl rfl Try.func45 (by kernel_rfl) rfl #[.pointer (some ⟨g, 0, none⟩), .int .i64 3] rfl ar_ ?_; (with_reducible refine (PL.codec_In_Fail.calls g t133 t134 3 t135 t136 w0 _ ?side1 ?side2 A8.out).mono ?_); (case side1 => repeat (first | (with_reducible first | exact HI0.out | apply IsS88.alloc | apply IsS88.drewN | apply IsS88.drew | apply IsS88.set_0 | apply IsS88.set_1) | exact HI0.out)); (case side2 => repeat (first | (with_reducible first | exact HB.out | apply bal | apply bdn | apply bd1 | refine bst ?_ (IsS88.ge HI0.out)) | exact HB.out)); rintro e w9 ⟨rfl, hi, hb, hk⟩; refine ⟨_, rfl, ?_⟩; have n0_ := Aside0.mk (KeepBut.trans (by repeat (first | (with_reducible first | exact HK.out | apply KeepBut.set_ | apply edn | apply edw | apply eal) | exact HK.out)) hk (.inl rfl)); have n1_ := Aside0.mk (hb); have n2_ := Aside0.mk (hi); clear HK; clear HB; clear HI0; have HK := n0_; have HB := n1_; have HI0 := n2_; clear n0_ n1_ n2_; (try clear hb); (try clear hb2); (try clear hk); (try clear hi)))
  go_ret
  exact ⟨by first | rfl | (simp [errW_none, errW_some] <;> rfl) | (simp only [← hji4]; first | rfl | (simp [errW_none, errW_some] <;> rfl)) | (simp [*, errW_none, errW_some] <;> rfl), by repeat (first | (with_reducible first | exact HI0.out | apply IsS88.alloc | apply IsS88.drewN | apply IsS88.drew | apply IsS88.set_0 | apply IsS88.set_1) | exact HI0.out), by repeat (first | (with_reducible first | exact HB.out | apply bal | apply bdn | apply bd1 | refine bst ?_ (IsS88.ge HI0.out)) | exact HB.out), by repeat (first | (with_reducible first | exact HK.out | apply KeepBut.set_ | apply edn | apply edw | apply eal) | exact HK.out)⟩
def codec_In_S.f (s0_0 : ByteArray) (s0_1 : Int) (a1 : Int) : Option (ByteArray × ByteArray × Int) := (codec_In_N.f s0_0 s0_1 a1).bind fun bt137 => ((PL.codec_In_take.f bt137.2.1 bt137.2.2 bt137.1).bind fun bt140 => (some (bt140.1, bt140.2.1, bt140.2.2)))
set_option maxHeartbeats 2000000 in
set_option maxRecDepth 100000 in
theorem codec_In_S.calls (g : Nat) (s0_0 : ByteArray) (s0_1 : Int) (a1 : Int) (r1 : ByteArray) (r2 : ByteArray) (r3 : Int) (w0 w : World) (hI : IsS88 w0 w g s0_0 s0_1) (hB : Below w0.heap.size w0 w) (h : codec_In_S.f s0_0 s0_1 a1 = some (r1, r2, r3)) :
    Calls Try.prog 29 #[.pointer (some ⟨g, 0, none⟩), .int .i64 a1] w fun e w' => e = .returned (.string r1) ∧ IsS88 w0 w' g r2 r3 ∧ Below w0.heap.size w0 w' ∧ KeepBut w w' g none := by
  have HI0 := Aside0.mk hI
  have HK := Aside0.mk (KeepBut.refl w g none)
  have HL := Aside0.mk hB.size
  clear hI
  have HW0 := Aside0.mk hB.size
  have HB := Aside0.mk hB
  clear hB
  have H : ((codec_In_N.f s0_0 s0_1 a1).bind fun bt137 => ((PL.codec_In_take.f bt137.2.1 bt137.2.2 bt137.1).bind fun bt140 => (some (bt140.1, bt140.2.1, bt140.2.2)))) = some (r1, r2, r3) := h
  clear h
  replace H := Option.bind_eq_some_iff.mp H
  obtain ⟨⟨t137, t138, t139⟩, A30, H⟩ := H
  replace H : ((PL.codec_In_take.f t138 t139 t137).bind fun bt140 => (some (bt140.1, bt140.2.1, bt140.2.2))) = some (r1, r2, r3) := H
  have A3 := Aside0.mk A30
  clear A30
  replace H := Option.bind_eq_some_iff.mp H
  obtain ⟨⟨t140, t141, t142⟩, A40, H⟩ := H
  replace H : (some (t140, t141, t142)) = some (r1, r2, r3) := H
  have A4 := Aside0.mk A40
  clear A40
  simp only [Option.some.injEq, Prod.mk.injEq] at H
  obtain ⟨rfl, rfl, rfl⟩ := H
  go_enter Try.func29, Try.ntmps29
  go_wp2_with (first | ((with_reducible refine gcl (f := 28) rfl ?_); refine gl_ (some 8) rfl rfl Try.func28 (by kernel_rfl) rfl #[.pointer (some ⟨g, 0, none⟩), .int .i64 a1] rfl ar_ ?_; (with_reducible refine (codec_In_N.calls g s0_0 s0_1 a1 t137 t138 t139 w0 _ ?side1 ?side2 A3.out).mono ?_); (case side1 => repeat (first | (with_reducible first | exact HI0.out | apply IsS88.alloc | apply IsS88.drewN | apply IsS88.drew | apply IsS88.set_0 | apply IsS88.set_1) | exact HI0.out)); (case side2 => repeat (first | (with_reducible first | exact HB.out | apply bal | apply bdn | apply bd1 | refine bst ?_ (IsS88.ge HI0.out)) | exact HB.out)); rintro e w5 ⟨rfl, hi, hb, hk⟩; refine ⟨_, rfl, ?_⟩; have n0_ := Aside0.mk (KeepBut.trans (by repeat (first | (with_reducible first | exact HK.out | apply KeepBut.set_ | apply edn | apply edw | apply eal) | exact HK.out)) hk (.inl rfl)); have n1_ := Aside0.mk (hb); have n2_ := Aside0.mk (hi); clear HK; clear HB; clear HI0; have HK := n0_; have HB := n1_; have HI0 := n2_; clear n0_ n1_ n2_; (try clear hb); (try clear hb2); (try clear hk); (try clear hi)) | ((with_reducible refine gcl (f := 46) rfl ?_); refine gl_ (some 9) rfl rfl Try.func46 (by kernel_rfl) rfl #[.pointer (some ⟨g, 0, none⟩), .int .i64 t137] rfl ar_ ?_; (with_reducible refine (PL.codec_In_take.calls g t138 t139 t137 t140 t141 t142 w0 _ ?side1 ?side2 A4.out).mono ?_); (case side1 => repeat (first | (with_reducible first | exact HI0.out | apply IsS88.alloc | apply IsS88.drewN | apply IsS88.drew | apply IsS88.set_0 | apply IsS88.set_1) | exact HI0.out)); (case side2 => repeat (first | (with_reducible first | exact HB.out | apply bal | apply bdn | apply bd1 | refine bst ?_ (IsS88.ge HI0.out)) | exact HB.out)); rintro e w6 ⟨rfl, hi, hb, hk⟩; refine ⟨_, rfl, ?_⟩; have n0_ := Aside0.mk (KeepBut.trans (by repeat (first | (with_reducible first | exact HK.out | apply KeepBut.set_ | apply edn | apply edw | apply eal) | exact HK.out)) hk (.inl rfl)); have n1_ := Aside0.mk (hb); have n2_ := Aside0.mk (hi); clear HK; clear HB; clear HI0; have HK := n0_; have HB := n1_; have HI0 := n2_; clear n0_ n1_ n2_; (try clear hb); (try clear hb2); (try clear hk); (try clear hi)))
  go_ret
  exact ⟨er_, by repeat (first | (with_reducible first | exact HI0.out | apply IsS88.alloc | apply IsS88.drewN | apply IsS88.drew | apply IsS88.set_0 | apply IsS88.set_1) | exact HI0.out), by repeat (first | (with_reducible first | exact HB.out | apply bal | apply bdn | apply bd1 | refine bst ?_ (IsS88.ge HI0.out)) | exact HB.out), by repeat (first | (with_reducible first | exact HK.out | apply KeepBut.set_ | apply edn | apply edw | apply eal) | exact HK.out)⟩
def codec_In_Err.f (s0_0 : ByteArray) (s0_1 : Int) : Option (Int × ByteArray × Int) := some (s0_1, s0_0, s0_1)
set_option maxHeartbeats 2000000 in
set_option maxRecDepth 100000 in
theorem codec_In_Err.calls (g : Nat) (s0_0 : ByteArray) (s0_1 : Int) (r1 : Int) (r2 : ByteArray) (r3 : Int) (w0 w : World) (hI : IsS88 w0 w g s0_0 s0_1) (hB : Below w0.heap.size w0 w) (h : codec_In_Err.f s0_0 s0_1 = some (r1, r2, r3)) :
    Calls Try.prog 30 #[.pointer (some ⟨g, 0, none⟩)] w fun e w' => e = .returned (.int .i64 r1) ∧ IsS88 w0 w' g r2 r3 ∧ Below w0.heap.size w0 w' ∧ KeepBut w w' g none := by
  have HI0 := Aside0.mk hI
  have HK := Aside0.mk (KeepBut.refl w g none)
  have HL := Aside0.mk hB.size
  clear hI
  have HW0 := Aside0.mk hB.size
  have HB := Aside0.mk hB
  clear hB
  have H : (some (s0_1, s0_0, s0_1)) = some (r1, r2, r3) := h
  clear h
  simp only [Option.some.injEq, Prod.mk.injEq] at H
  obtain ⟨rfl, rfl, rfl⟩ := H
  obtain ⟨HGz2, hgz2⟩ := HI0.out
  have hcz2_0 := cellS88_0 HGz2
  have hcz2_1 := cellS88_1 HGz2
  have hfz2_0 := kfr HGz2 0
  have hfz2_1 := kfr HGz2 1
  clear HGz2 hgz2
  go_enter Try.func30, Try.ntmps30
  go_wp2
  go_ret
  exact ⟨er_, by repeat (first | (with_reducible first | exact HI0.out | apply IsS88.alloc | apply IsS88.drewN | apply IsS88.drew | apply IsS88.set_0 | apply IsS88.set_1) | exact HI0.out), by repeat (first | (with_reducible first | exact HB.out | apply bal | apply bdn | apply bd1 | refine bst ?_ (IsS88.ge HI0.out)) | exact HB.out), by repeat (first | (with_reducible first | exact HK.out | apply KeepBut.set_ | apply edn | apply edw | apply eal) | exact HK.out)⟩
def stamp_Parse.f (k : Nat) (a0 : ByteArray) : Option (Int × Int × ByteArray × Int) := if (a0.size : Int) = 64 then (if 0 ≤ 4 then (if 4 ≤ (a0.size : Int) then ((crc_Of.f k (([a0.extract 4 a0.size] : List ByteArray))).bind fun t147 => ((crc_Bytes.f t147).bind fun t148 => (if (a0.extract 0 4).toList = t148.toList then ((codec_Read.f (a0.extract 4 a0.size)).bind fun bt149 => ((codec_In_N.f bt149.1 bt149.2 1099511627776).bind fun bt152 => ((codec_In_N.f bt152.2.1 bt152.2.2 255).bind fun bt155 => ((codec_In_S.f bt155.2.1 bt155.2.2 44).bind fun bt158 => ((codec_In_Err.f bt158.2.1 bt158.2.2).bind fun bt162 => (if bt162.1 = 0 then (if bt152.1 < 1 then (some (0, 0, (⟨#[]⟩ : ByteArray), 2)) else ((stamp_Sector_Text.f k bt152.1 ((bt155.1) % 256) bt158.1).bind fun t165 => (if t165.toList = a0.toList then (some (bt152.1, (bt155.1) % 256, bt158.1, 0)) else (some (0, 0, (⟨#[]⟩ : ByteArray), 2))))) else ((codec_In_Err.f bt162.2.1 bt162.2.2).bind fun bt166 => (some (0, 0, (⟨#[]⟩ : ByteArray), bt166.1))))))))) else (some (0, 0, (⟨#[]⟩ : ByteArray), 5))))) else (none)) else (none)) else (some (0, 0, (⟨#[]⟩ : ByteArray), 1))
def stamp_Parse.T3 : Bool × List (List Nat × List Nat) := (true, [([], []), ([0], [0]), ([], []), ([2], [2]), ([3], [3]), ([4], [4]), ([5, 5], [5]), ([1, 6], [1, 6])])
def stamp_Parse.B3 : List Nat := [0, 1, 0, 4, 12, 28, 60, 127]
theorem stamp_Parse.tab3 : rtab .any (opsOf Try.f12 3) = stamp_Parse.T3 := by kernel_rfl
theorem stamp_Parse.bits3 : waitsOk stamp_Parse.T3.2 stamp_Parse.B3 = true := by kernel_rfl
set_option maxHeartbeats 2000000 in
set_option maxRecDepth 100000 in
theorem stamp_Parse.calls (k : Nat) (a0 : ByteArray) (r1 : Int) (r2 : Int) (r3 : ByteArray) (r4 : Int) (w : World) (h : stamp_Parse.f k a0 = some (r1, r2, r3, r4)) :
    Calls Try.prog 12 #[.string a0] w fun e w' => e = .returned (.tuple #[.agg #[.int .i64 r1, .int .u8 r2, .string r3], .int .i64 r4]) ∧ Below w.heap.size w w' := by
  have hu23 := Try.underlying23
  have HB := Aside0.mk (Below.refl w.heap.size w)
  have H : (if (a0.size : Int) = 64 then (if 0 ≤ 4 then (if 4 ≤ (a0.size : Int) then ((crc_Of.f k (([a0.extract 4 a0.size] : List ByteArray))).bind fun t147 => ((crc_Bytes.f t147).bind fun t148 => (if (a0.extract 0 4).toList = t148.toList then ((codec_Read.f (a0.extract 4 a0.size)).bind fun bt149 => ((codec_In_N.f bt149.1 bt149.2 1099511627776).bind fun bt152 => ((codec_In_N.f bt152.2.1 bt152.2.2 255).bind fun bt155 => ((codec_In_S.f bt155.2.1 bt155.2.2 44).bind fun bt158 => ((codec_In_Err.f bt158.2.1 bt158.2.2).bind fun bt162 => (if bt162.1 = 0 then (if bt152.1 < 1 then (some (0, 0, (⟨#[]⟩ : ByteArray), 2)) else ((stamp_Sector_Text.f k bt152.1 ((bt155.1) % 256) bt158.1).bind fun t165 => (if t165.toList = a0.toList then (some (bt152.1, (bt155.1) % 256, bt158.1, 0)) else (some (0, 0, (⟨#[]⟩ : ByteArray), 2))))) else ((codec_In_Err.f bt162.2.1 bt162.2.2).bind fun bt166 => (some (0, 0, (⟨#[]⟩ : ByteArray), bt166.1))))))))) else (some (0, 0, (⟨#[]⟩ : ByteArray), 5))))) else (none)) else (none)) else (some (0, 0, (⟨#[]⟩ : ByteArray), 1))) = some (r1, r2, r3, r4) := h
  clear h
  have HS2 := Aside0.mk H
  clear H
  go_enter Try.func12, Try.ntmps12
  go_upto_if 8 with (first | ((with_reducible refine gds (N := 2) rfl ?_); refine bev ?hg (N := 2) ?hd (cs := #[.int .i64 0, .int .u8 0, .string (⟨#[]⟩ : ByteArray)]) (t := 23) ?hr ?_; (case hd => rfl); (case hg => rfl); (case hr => first | (go_simp; done) | (go_simp; rfl)); intro gb143 hg w3 hbox hb; have n0_ := Aside0.mk (bsp bl_ hb); have n1_ := Aside0.mk (hbox); have n2_ := Aside0.mk ((by rw [hg]; exact bsz bl_ : w.heap.size ≤ gb143)); have n3_ := Aside0.mk ((by rw [hg]; exact bsz bl_ : w.heap.size ≤ gb143)); clear HB; have HB := n0_; have BK143 := n1_; have GW143 := n2_; have GE143 := n3_; clear n0_ n1_ n2_ n3_; clear hb hbox hg))
  (try simp only [Act.put, List.setIfInBounds_toArray, List.set_cons_zero, List.set_cons_succ])
  have H := HS2.out
  clear HS2
  by_cases c4 : (a0.size : Int) = 64
  rotate_left
  · rw [if_neg c4] at H
    have c4b0 : ((a0.size : Int) == 64) = false := beq_eq_false_iff_ne.mpr c4
    have c4b1 : ((a0.size : Int) != 64) = true := bne_iff_ne.mpr c4
    (first | rw [c4b0] | rw [c4b1] | (simp only [i64_w, i32_w]; rw [c4b0]) | (simp only [i64_w, i32_w]; rw [c4b1]) | rw [c4b2] | skip)
    simp only [Option.some.injEq, Prod.mk.injEq] at H
    obtain ⟨rfl, rfl, rfl, rfl⟩ := H
    have hcz62 := bc3 BK143.out
    go_wp2
    refine bodyPost_ret (results_ct rfl _ _ gb143 23 #[.int .i64 0, .int .u8 0, .string (⟨#[]⟩ : ByteArray)] (0, 0) _ rfl bk_ Try.underlying23 rfl (by kernel_rfl)) rfl ?_
    exact ⟨er_, bl_⟩
  rw [if_pos c4] at H
  have c4b0 : ((a0.size : Int) == 64) = true := beq_iff_eq.mpr c4
  have c4b1 : ((a0.size : Int) != 64) = false := bne_eq_false_iff_eq.mpr c4
  clear c4
  (first | rw [c4b0] | rw [c4b1] | (simp only [i64_w, i32_w]; rw [c4b0]) | (simp only [i64_w, i32_w]; rw [c4b1]) | rw [c4b2] | skip)
  by_cases c5 : 0 ≤ 4
  rotate_left
  · rw [if_neg c5] at H
    exact absurd H (by simp)
  rw [if_pos c5] at H
  have c5b0 := eq_true c5
  have c5b1 : decide (0 ≤ 4) = true := decide_eq_true c5
  clear c5
  by_cases c6 : 4 ≤ (a0.size : Int)
  rotate_left
  · rw [if_neg c6] at H
    exact absurd H (by simp)
  rw [if_pos c6] at H
  have c6b0 := eq_true c6
  have c6b1 : decide (4 ≤ (a0.size : Int)) = true := decide_eq_true c6
  clear c6
  have c7b0 := eq_true (of_decide_eq_true (by first | (with_reducible assumption) | assumption) : 4 ≤ (a0.size : Int))
  obtain ⟨y144, hy144⟩ : ∃ y_ : List ByteArray, y_ = (([a0.extract 4 a0.size] : List ByteArray)) := ⟨_, rfl⟩
  replace H : ((crc_Of.f k y144).bind fun t147 => ((crc_Bytes.f t147).bind fun t148 => (if (a0.extract 0 4).toList = t148.toList then ((codec_Read.f (a0.extract 4 a0.size)).bind fun bt149 => ((codec_In_N.f bt149.1 bt149.2 1099511627776).bind fun bt152 => ((codec_In_N.f bt152.2.1 bt152.2.2 255).bind fun bt155 => ((codec_In_S.f bt155.2.1 bt155.2.2 44).bind fun bt158 => ((codec_In_Err.f bt158.2.1 bt158.2.2).bind fun bt162 => (if bt162.1 = 0 then (if bt152.1 < 1 then (some (0, 0, (⟨#[]⟩ : ByteArray), 2)) else ((stamp_Sector_Text.f k bt152.1 ((bt155.1) % 256) bt158.1).bind fun t165 => (if t165.toList = a0.toList then (some (bt152.1, (bt155.1) % 256, bt158.1, 0)) else (some (0, 0, (⟨#[]⟩ : ByteArray), 2))))) else ((codec_In_Err.f bt162.2.1 bt162.2.2).bind fun bt166 => (some (0, 0, (⟨#[]⟩ : ByteArray), bt166.1))))))))) else (some (0, 0, (⟨#[]⟩ : ByteArray), 5))))) = some (r1, r2, r3, r4) := by first | (rw [hy144]; with_reducible exact H) | (have H2_ := (Option.bind_some _ _).symm.trans H; rw [hy144]; with_reducible exact H2_) | (have H2_ := (Option.bind_some _ _).symm.trans H; with_reducible exact H2_) | with_reducible exact H | (rw [hy144]; exact H) | exact H
  have Ny144 := Aside0.mk hy144
  clear hy144
  replace H := Option.bind_eq_some_iff.mp H
  obtain ⟨t147, A80, H⟩ := H
  replace H : ((crc_Bytes.f t147).bind fun t148 => (if (a0.extract 0 4).toList = t148.toList then ((codec_Read.f (a0.extract 4 a0.size)).bind fun bt149 => ((codec_In_N.f bt149.1 bt149.2 1099511627776).bind fun bt152 => ((codec_In_N.f bt152.2.1 bt152.2.2 255).bind fun bt155 => ((codec_In_S.f bt155.2.1 bt155.2.2 44).bind fun bt158 => ((codec_In_Err.f bt158.2.1 bt158.2.2).bind fun bt162 => (if bt162.1 = 0 then (if bt152.1 < 1 then (some (0, 0, (⟨#[]⟩ : ByteArray), 2)) else ((stamp_Sector_Text.f k bt152.1 ((bt155.1) % 256) bt158.1).bind fun t165 => (if t165.toList = a0.toList then (some (bt152.1, (bt155.1) % 256, bt158.1, 0)) else (some (0, 0, (⟨#[]⟩ : ByteArray), 2))))) else ((codec_In_Err.f bt162.2.1 bt162.2.2).bind fun bt166 => (some (0, 0, (⟨#[]⟩ : ByteArray), bt166.1))))))))) else (some (0, 0, (⟨#[]⟩ : ByteArray), 5)))) = some (r1, r2, r3, r4) := H
  have A8 := Aside0.mk A80
  clear A80
  replace H := Option.bind_eq_some_iff.mp H
  obtain ⟨t148, A90, H⟩ := H
  replace H : (if (a0.extract 0 4).toList = t148.toList then ((codec_Read.f (a0.extract 4 a0.size)).bind fun bt149 => ((codec_In_N.f bt149.1 bt149.2 1099511627776).bind fun bt152 => ((codec_In_N.f bt152.2.1 bt152.2.2 255).bind fun bt155 => ((codec_In_S.f bt155.2.1 bt155.2.2 44).bind fun bt158 => ((codec_In_Err.f bt158.2.1 bt158.2.2).bind fun bt162 => (if bt162.1 = 0 then (if bt152.1 < 1 then (some (0, 0, (⟨#[]⟩ : ByteArray), 2)) else ((stamp_Sector_Text.f k bt152.1 ((bt155.1) % 256) bt158.1).bind fun t165 => (if t165.toList = a0.toList then (some (bt152.1, (bt155.1) % 256, bt158.1, 0)) else (some (0, 0, (⟨#[]⟩ : ByteArray), 2))))) else ((codec_In_Err.f bt162.2.1 bt162.2.2).bind fun bt166 => (some (0, 0, (⟨#[]⟩ : ByteArray), bt166.1))))))))) else (some (0, 0, (⟨#[]⟩ : ByteArray), 5))) = some (r1, r2, r3, r4) := H
  have A9 := Aside0.mk A90
  clear A90
  have HS10 := Aside0.mk H
  clear H
  try go_wp2
  have n0_ := Aside0.mk (kdw BK143.out)
  have n1_ := Aside0.mk (bd1 HB.out)
  clear BK143
  clear HB
  have BK143 := n0_
  have HB := n1_
  clear n0_ n1_
  refine start_ (n := 8) (S := fun w' => True) (ds := []) #[false,false,false,false,false,false,false,false] (by kernel_rfl) rfl rfl trivial (fun hHeld => ?_); refine with_tabW stamp_Parse.tab3 stamp_Parse.bits3 (fun HT_ HW_ => ?_)
  generalize w3.drew = w11 at BK143 HB hHeld ⊢
  refine pure_ (i := 0) (N := some 10) (v := ?_) (a' := ?_) (bA 8 1) rfl rfl (any_of HT_.out (by kernel_rfl)) (fun _ _ _ h => h) (Or.inl ⟨by rfl, ?_⟩) ?_ ?_
  rotate_left; (intro w'; go_simp; with_reducible rfl); rotate_left; (simp only [Act.put, List.setIfInBounds_toArray, List.set_cons_zero, List.set_cons_succ, i64_w, i32_w]; rfl)
  refine pure_ (i := 1) (N := some 11) (v := ?_) (a' := ?_) (bA 8 3) rfl rfl (any_of HT_.out (by kernel_rfl)) (fun _ _ _ h => h) (Or.inl ⟨by rfl, ?_⟩) ?_ ?_
  rotate_left; (intro w'; go_simp; with_reducible rfl); rotate_left; (simp only [Act.put, List.setIfInBounds_toArray, List.set_cons_zero, List.set_cons_succ, i64_w, i32_w]; rfl)
  refine pure_ (i := 2) (N := some 12) (v := ?_) (a' := ?_) (bA 8 7) rfl rfl (any_of HT_.out (by kernel_rfl)) (fun _ _ _ h => h) (Or.inl ⟨by rfl, ?_⟩) ?_ ?_
  rotate_left; (intro w'; go_simp; with_reducible rfl); rotate_left; (simp only [Act.put, List.setIfInBounds_toArray, List.set_cons_zero, List.set_cons_succ, i64_w, i32_w]; rfl)
  refine pure_ (i := 3) (N := some 13) (v := ?_) (a' := ?_) (bA 8 15) rfl rfl (any_of HT_.out (by kernel_rfl)) (fun _ _ _ h => h) (Or.inl ⟨by rfl, ?_⟩) ?_ ?_
  rotate_left; (intro w'; go_simp; with_reducible rfl); rotate_left; (simp only [Act.put, List.setIfInBounds_toArray, List.set_cons_zero, List.set_cons_succ, i64_w, i32_w]; rfl)
  refine one_ (i := 4) (N := some 14) #[true,true,true,true,true,false,false,false] rfl rfl (one_of HT_.out (by kernel_rfl)) (by decide) (fun K hK => ?_)
  refine Kd.R_lit_step Kd.string _ 9 ?hg (N := 14) ?hd (xs := ([a0.extract 4 a0.size] : List ByteArray)) (inner := [.string (a0.extract 4 a0.size)]) (ok := fun _ => True) (okp := fun _ => True) ?hr ?hp (fun _ hk => hk) trivial (Below.refl _ _) (Nat.le_refl _) (by simp) ?_; (case hd => rfl); (case hg => rfl); (case hr => first | (go_simp; done) | (go_simp; rfl)); (case hp => exact (Reps.one (show Kd.M Kd.string _ _ _ (a0.extract 4 a0.size) [.string (a0.extract 4 a0.size)] from rfl) (Reps.none _ _)))
  intro v145 w12 ho13 hb hg_ hnew_
  clear hg_ hnew_
  (first | rw [← Ny144.out] at ho13 | (simp only [Int.reduceToNat] at ho13; rw [← Ny144.out] at ho13))
  have n0_ := Aside0.mk (Kd.R_lower ho13 (bsz bl_))
  have n1_ := Aside0.mk (kbl (g := gb143) (o := .cells #[.int .i64 0, .int .u8 0, .string (⟨#[]⟩ : ByteArray)] 23 (0, 0)) bk_ hb)
  have n2_ := Aside0.mk (bsp bl_ hb)
  clear BK143
  clear HB
  have HO146 := n0_
  have BK143 := n1_
  have HB := n2_
  clear n0_ n1_ n2_
  clear hb ho13
  obtain ⟨Ao14, co14, eo14⟩ := Kd.R_slice HO146.out
  (first | subst eo14 | (injection eo14 with f1_ f2_ f3_; have f4_ := f1_.symm; have f5_ := f3_.symm; clear f1_ f2_ f3_; subst f4_; subst f5_))
  refine hK.out _ _ trivial (fun hHeld => ?_)
  clear hK K
  refine norm_ (a' := ?_) ?_ ?_
  rotate_left
  · show Act.put _ (some 14) _ = _
    simp only [Act.put, List.setIfInBounds_toArray, List.set_cons_zero, List.set_cons_succ, i64_w, i32_w]
    rfl
  refine one_ (i := 5) (N := some 15) #[true,true,true,true,true,true,false,false] rfl rfl (one_of HT_.out (by kernel_rfl)) (by decide) (fun K hK => ?_)
  refine goes_ Try.func26 (by kernel_rfl) rfl #[.slice Ao14 y144.length co14] (by rfl) rfl rfl (by (try simp only [List.map_toArray, List.map_cons, List.map_nil]); first | done | rfl | (simp only [List.length_drop, List.length_take]; rfl) | (simp only [Act.eval, Array.getD_eq_getD_getElem?, Option.getD_some, *]; done) | (simp only [Array.mk.injEq, List.cons.injEq, Value.int.injEq, true_and, and_true]; first | omega | (simp [IntKind.wrap, IntKind.bits, IntKind.signed]; omega))) ?_
  with_reducible refine (crc_Of.calls k _ _ y144 t147 _ ?side1 ?side2 A8.out).mono ?_
  (case side1 => repeat (first | exact (Kd.R_reads' HO146.out).2.2 | (with_reducible refine Kd.C_alloc ?_ _) | (with_reducible refine Kd.C_drewN ?_ _) | (with_reducible refine Kd.C_drew ?_)))
  (case side2 => exact (Kd.R_reads' HO146.out).2.1)
  rintro e w15 ⟨rfl, hb⟩
  refine ⟨_, rfl, ?_⟩
  have n0_ := Aside0.mk (Kd.R_below (by (with_reducible repeat (first | apply Kd.R_alloc | apply Kd.R_drewN | apply Kd.R_drew)); exact HO146.out) hb)
  have n1_ := Aside0.mk (kbl (g := gb143) (o := .cells #[.int .i64 0, .int .u8 0, .string (⟨#[]⟩ : ByteArray)] 23 (0, 0)) bk_ hb)
  have n2_ := Aside0.mk (bsp bl_ hb)
  clear HO146
  clear BK143
  clear HB
  have HO146 := n0_
  have BK143 := n1_
  have HB := n2_
  clear n0_ n1_ n2_
  (try clear hb)
  (try clear hb2)
  (try clear hk)
  (try clear hi)
  refine hK.out _ _ trivial (fun hHeld => ?_)
  clear hK K
  refine norm_ (a' := ?_) ?_ ?_
  rotate_left
  · show Act.put _ (some 15) _ = _
    simp only [Act.put, List.setIfInBounds_toArray, List.set_cons_zero, List.set_cons_succ, i64_w, i32_w]
    rfl
  refine one_ (i := 6) (N := some 16) #[true,true,true,true,true,true,true,false] rfl rfl (one_of HT_.out (by kernel_rfl)) (by decide) (fun K hK => ?_)
  refine goes_ Try.func25 (by kernel_rfl) rfl #[.int .u32 t147] (by rfl) rfl rfl (by (try simp only [List.map_toArray, List.map_cons, List.map_nil]); first | done | rfl | (simp only [List.length_drop, List.length_take]; rfl) | (simp only [Act.eval, Array.getD_eq_getD_getElem?, Option.getD_some, *]; done) | (simp only [Array.mk.injEq, List.cons.injEq, Value.int.injEq, true_and, and_true]; first | omega | (simp [IntKind.wrap, IntKind.bits, IntKind.signed]; omega))) ?_
  with_reducible refine (crc_Bytes.calls t147 t148 _ A9.out).mono ?_
  rintro e w16 ⟨rfl, hb⟩
  refine ⟨_, rfl, ?_⟩
  have n0_ := Aside0.mk (Kd.R_below (by (with_reducible repeat (first | apply Kd.R_alloc | apply Kd.R_drewN | apply Kd.R_drew)); exact HO146.out) hb)
  have n1_ := Aside0.mk (kbl (g := gb143) (o := .cells #[.int .i64 0, .int .u8 0, .string (⟨#[]⟩ : ByteArray)] 23 (0, 0)) bk_ hb)
  have n2_ := Aside0.mk (bsp bl_ hb)
  clear HO146
  clear BK143
  clear HB
  have HO146 := n0_
  have BK143 := n1_
  have HB := n2_
  clear n0_ n1_ n2_
  (try clear hb)
  (try clear hb2)
  (try clear hk)
  (try clear hi)
  refine hK.out _ _ trivial (fun hHeld => ?_)
  clear hK K
  refine norm_ (a' := ?_) ?_ ?_
  rotate_left
  · show Act.put _ (some 16) _ = _
    simp only [Act.put, List.setIfInBounds_toArray, List.set_cons_zero, List.set_cons_succ, i64_w, i32_w]
    rfl
  refine pure_ (i := 7) (N := some 17) (v := ?_) (a' := ?_) (bA 8 255) rfl rfl (any_of HT_.out (by kernel_rfl)) (fun _ _ _ h => h) (Or.inl ⟨by rfl, ?_⟩) ?_ ?_
  rotate_left; (intro w'; go_simp; with_reducible rfl); rotate_left; (simp only [Act.put, List.setIfInBounds_toArray, List.set_cons_zero, List.set_cons_succ, i64_w, i32_w]; rfl)
  refine done_ (done_of HT_.out (by kernel_rfl)) ?_
  go_upto_if 17 with (fail)
  have H := HS10.out
  clear HS10
  by_cases c17 : (a0.extract 0 4).toList = t148.toList
  rotate_left
  · rw [if_neg c17] at H
    have c17b0 : ((a0.extract 0 4).toList == t148.toList) = false := beq_eq_false_iff_ne.mpr c17
    have c17b1 : ((a0.extract 0 4).toList != t148.toList) = true := bne_iff_ne.mpr c17
    (first | rw [c17b0] | (simp only [i64_w, i32_w]; rw [c17b0]) | skip)
    simp only [Option.some.injEq, Prod.mk.injEq] at H
    obtain ⟨rfl, rfl, rfl, rfl⟩ := H
    have hcz61 := bc3 BK143.out
    go_wp2
    refine bodyPost_ret (results_ct rfl _ _ gb143 23 #[.int .i64 0, .int .u8 0, .string (⟨#[]⟩ : ByteArray)] (0, 0) _ rfl bk_ Try.underlying23 rfl (by kernel_rfl)) rfl ?_
    exact ⟨er_, bl_⟩
  rw [if_pos c17] at H
  have c17b0 : ((a0.extract 0 4).toList == t148.toList) = true := beq_iff_eq.mpr c17
  have c17b1 : ((a0.extract 0 4).toList != t148.toList) = false := bne_eq_false_iff_eq.mpr c17
  clear c17
  (first | rw [c17b0] | (simp only [i64_w, i32_w]; rw [c17b0]) | skip)
  have c18b0 := eq_true (of_decide_eq_true (by first | (with_reducible assumption) | assumption) : 4 ≤ (a0.size : Int))
  replace H := Option.bind_eq_some_iff.mp H
  obtain ⟨⟨t149, t150⟩, A190, H⟩ := H
  replace H : ((codec_In_N.f t149 t150 1099511627776).bind fun bt152 => ((codec_In_N.f bt152.2.1 bt152.2.2 255).bind fun bt155 => ((codec_In_S.f bt155.2.1 bt155.2.2 44).bind fun bt158 => ((codec_In_Err.f bt158.2.1 bt158.2.2).bind fun bt162 => (if bt162.1 = 0 then (if bt152.1 < 1 then (some (0, 0, (⟨#[]⟩ : ByteArray), 2)) else ((stamp_Sector_Text.f k bt152.1 ((bt155.1) % 256) bt158.1).bind fun t165 => (if t165.toList = a0.toList then (some (bt152.1, (bt155.1) % 256, bt158.1, 0)) else (some (0, 0, (⟨#[]⟩ : ByteArray), 2))))) else ((codec_In_Err.f bt162.2.1 bt162.2.2).bind fun bt166 => (some (0, 0, (⟨#[]⟩ : ByteArray), bt166.1)))))))) = some (r1, r2, r3, r4) := H
  have A19 := Aside0.mk A190
  clear A190
  replace H := Option.bind_eq_some_iff.mp H
  obtain ⟨⟨t152, t153, t154⟩, A200, H⟩ := H
  replace H : ((codec_In_N.f t153 t154 255).bind fun bt155 => ((codec_In_S.f bt155.2.1 bt155.2.2 44).bind fun bt158 => ((codec_In_Err.f bt158.2.1 bt158.2.2).bind fun bt162 => (if bt162.1 = 0 then (if t152 < 1 then (some (0, 0, (⟨#[]⟩ : ByteArray), 2)) else ((stamp_Sector_Text.f k t152 ((bt155.1) % 256) bt158.1).bind fun t165 => (if t165.toList = a0.toList then (some (t152, (bt155.1) % 256, bt158.1, 0)) else (some (0, 0, (⟨#[]⟩ : ByteArray), 2))))) else ((codec_In_Err.f bt162.2.1 bt162.2.2).bind fun bt166 => (some (0, 0, (⟨#[]⟩ : ByteArray), bt166.1))))))) = some (r1, r2, r3, r4) := H
  have A20 := Aside0.mk A200
  clear A200
  replace H := Option.bind_eq_some_iff.mp H
  obtain ⟨⟨t155, t156, t157⟩, A210, H⟩ := H
  replace H : ((codec_In_S.f t156 t157 44).bind fun bt158 => ((codec_In_Err.f bt158.2.1 bt158.2.2).bind fun bt162 => (if bt162.1 = 0 then (if t152 < 1 then (some (0, 0, (⟨#[]⟩ : ByteArray), 2)) else ((stamp_Sector_Text.f k t152 ((t155) % 256) bt158.1).bind fun t165 => (if t165.toList = a0.toList then (some (t152, (t155) % 256, bt158.1, 0)) else (some (0, 0, (⟨#[]⟩ : ByteArray), 2))))) else ((codec_In_Err.f bt162.2.1 bt162.2.2).bind fun bt166 => (some (0, 0, (⟨#[]⟩ : ByteArray), bt166.1)))))) = some (r1, r2, r3, r4) := H
  have A21 := Aside0.mk A210
  clear A210
  replace H := Option.bind_eq_some_iff.mp H
  obtain ⟨⟨t158, t159, t160⟩, A220, H⟩ := H
  replace H : ((codec_In_Err.f t159 t160).bind fun bt162 => (if bt162.1 = 0 then (if t152 < 1 then (some (0, 0, (⟨#[]⟩ : ByteArray), 2)) else ((stamp_Sector_Text.f k t152 ((t155) % 256) t158).bind fun t165 => (if t165.toList = a0.toList then (some (t152, (t155) % 256, t158, 0)) else (some (0, 0, (⟨#[]⟩ : ByteArray), 2))))) else ((codec_In_Err.f bt162.2.1 bt162.2.2).bind fun bt166 => (some (0, 0, (⟨#[]⟩ : ByteArray), bt166.1))))) = some (r1, r2, r3, r4) := H
  have A22 := Aside0.mk A220
  clear A220
  replace H := Option.bind_eq_some_iff.mp H
  obtain ⟨⟨t162, t163, t164⟩, A230, H⟩ := H
  replace H : (if t162 = 0 then (if t152 < 1 then (some (0, 0, (⟨#[]⟩ : ByteArray), 2)) else ((stamp_Sector_Text.f k t152 ((t155) % 256) t158).bind fun t165 => (if t165.toList = a0.toList then (some (t152, (t155) % 256, t158, 0)) else (some (0, 0, (⟨#[]⟩ : ByteArray), 2))))) else ((codec_In_Err.f t163 t164).bind fun bt166 => (some (0, 0, (⟨#[]⟩ : ByteArray), bt166.1)))) = some (r1, r2, r3, r4) := H
  have A23 := Aside0.mk A230
  clear A230
  have HS24 := Aside0.mk H
  clear H
  go_upto_if 32 with (first | ((with_reducible refine gcl (f := 27) rfl ?_); refine gl_ (some 21) rfl rfl Try.func27 (by kernel_rfl) rfl #[.string (a0.extract 4 a0.size)] rfl ar_ ?_; (with_reducible refine (codec_Read.calls (a0.extract 4 a0.size) t149 t150 w _ ?side1 A19.out).mono ?_); (case side1 => repeat (first | (with_reducible first | exact HB.out | apply bal | apply bdn | apply bd1 | refine bst ?_ GE143.out) | exact HB.out)); rintro e w25 ⟨g151, rfl, hi, hb, hb2⟩; refine ⟨_, rfl, ?_⟩; have n0_ := Aside0.mk (Kd.R_below (by (with_reducible repeat (first | apply Kd.R_alloc | apply Kd.R_drewN | apply Kd.R_drew)); exact HO146.out) hb2); have n1_ := Aside0.mk (kbl (g := gb143) (o := .cells #[.int .i64 0, .int .u8 0, .string (⟨#[]⟩ : ByteArray)] 23 (0, 0)) bk_ hb2); have n2_ := Aside0.mk (hb); have n3_ := Aside0.mk (hi); have n4_ := Aside0.mk (IsS88.ne_blk hi (kbl (g := gb143) (o := .cells #[.int .i64 0, .int .u8 0, .string (⟨#[]⟩ : ByteArray)] 23 (0, 0)) bk_ hb2) (by decide)); have n5_ := Aside0.mk (Ne.symm (IsS88.ne_blk hi (kbl (g := gb143) (o := .cells #[.int .i64 0, .int .u8 0, .string (⟨#[]⟩ : ByteArray)] 23 (0, 0)) bk_ hb2) (by decide))); clear HO146; clear BK143; clear HB; have HO146 := n0_; have BK143 := n1_; have HB := n2_; have HI151 := n3_; have NB151_143 := n4_; have NB143_151 := n5_; clear n0_ n1_ n2_ n3_ n4_ n5_; (try clear hb); (try clear hb2); (try clear hk); (try clear hi)) | ((with_reducible refine gcl (f := 28) rfl ?_); refine gl_ (some 23) rfl rfl Try.func28 (by kernel_rfl) rfl #[.pointer (some ⟨g151, 0, none⟩), .int .i64 1099511627776] rfl ar_ ?_; (with_reducible refine (codec_In_N.calls g151 t149 t150 1099511627776 t152 t153 t154 w _ ?side1 ?side2 A20.out).mono ?_); (case side1 => repeat (first | (with_reducible first | exact HI151.out | apply IsS88.alloc | apply IsS88.drewN | apply IsS88.drew | apply IsS88.set_0 | apply IsS88.set_1 | refine IsS88.far ?_ NB151_143.out _) | exact HI151.out)); (case side2 => repeat (first | (with_reducible first | exact HB.out | apply bal | apply bdn | apply bd1 | refine bst ?_ (IsS88.ge HI151.out) | refine bst ?_ GE143.out) | exact HB.out)); rintro e w26 ⟨rfl, hi, hb, hk⟩; refine ⟨_, rfl, ?_⟩; have n0_ := Aside0.mk (KeepBut.blk hk (g' := gb143) (o := .cells #[.int .i64 0, .int .u8 0, .string (⟨#[]⟩ : ByteArray)] 23 (0, 0)) bk_ NB143_151.out (by simp)); have n1_ := Aside0.mk (Kd.R_mono (Kd.R_keep (IsS88.apart (show IsS88 w _ g151 t149 t150 from by repeat (first | (with_reducible first | exact HI151.out | apply IsS88.alloc | apply IsS88.drewN | apply IsS88.drew | apply IsS88.set_0 | apply IsS88.set_1 | refine IsS88.far ?_ NB151_143.out _) | exact HI151.out)) (by (with_reducible repeat (first | apply Kd.R_alloc | apply Kd.R_drewN | apply Kd.R_drew)); exact HO146.out) (by decide)) hk (fun _ h => h.2)) (fun _ h => h.1)); have n2_ := Aside0.mk (hb); have n3_ := Aside0.mk (hi); clear BK143; clear HO146; clear HB; clear HI151; have BK143 := n0_; have HO146 := n1_; have HB := n2_; have HI151 := n3_; clear n0_ n1_ n2_ n3_; (try clear hb); (try clear hb2); (try clear hk); (try clear hi)) | ((with_reducible refine gcl (f := 28) rfl ?_); refine gl_ (some 25) rfl rfl Try.func28 (by kernel_rfl) rfl #[.pointer (some ⟨g151, 0, none⟩), .int .i64 255] rfl ar_ ?_; (with_reducible refine (codec_In_N.calls g151 t153 t154 255 t155 t156 t157 w _ ?side1 ?side2 A21.out).mono ?_); (case side1 => repeat (first | (with_reducible first | exact HI151.out | apply IsS88.alloc | apply IsS88.drewN | apply IsS88.drew | apply IsS88.set_0 | apply IsS88.set_1 | refine IsS88.far ?_ NB151_143.out _) | exact HI151.out)); (case side2 => repeat (first | (with_reducible first | exact HB.out | apply bal | apply bdn | apply bd1 | refine bst ?_ (IsS88.ge HI151.out) | refine bst ?_ GE143.out) | exact HB.out)); rintro e w27 ⟨rfl, hi, hb, hk⟩; refine ⟨_, rfl, ?_⟩; have n0_ := Aside0.mk (KeepBut.blk hk (g' := gb143) (o := .cells #[.int .i64 0, .int .u8 0, .string (⟨#[]⟩ : ByteArray)] 23 (0, 0)) bk_ NB143_151.out (by simp)); have n1_ := Aside0.mk (Kd.R_mono (Kd.R_keep (IsS88.apart (show IsS88 w _ g151 t153 t154 from by repeat (first | (with_reducible first | exact HI151.out | apply IsS88.alloc | apply IsS88.drewN | apply IsS88.drew | apply IsS88.set_0 | apply IsS88.set_1 | refine IsS88.far ?_ NB151_143.out _) | exact HI151.out)) (by (with_reducible repeat (first | apply Kd.R_alloc | apply Kd.R_drewN | apply Kd.R_drew)); exact HO146.out) (by decide)) hk (fun _ h => h.2)) (fun _ h => h.1)); have n2_ := Aside0.mk (hb); have n3_ := Aside0.mk (hi); clear BK143; clear HO146; clear HB; clear HI151; have BK143 := n0_; have HO146 := n1_; have HB := n2_; have HI151 := n3_; clear n0_ n1_ n2_ n3_; (try clear hb); (try clear hb2); (try clear hk); (try clear hi)) | ((with_reducible refine gcl (f := 29) rfl ?_); refine gl_ (some 28) rfl rfl Try.func29 (by kernel_rfl) rfl #[.pointer (some ⟨g151, 0, none⟩), .int .i64 44] rfl ar_ ?_; (with_reducible refine (codec_In_S.calls g151 t156 t157 44 t158 t159 t160 w _ ?side1 ?side2 A22.out).mono ?_); (case side1 => repeat (first | (with_reducible first | exact HI151.out | apply IsS88.alloc | apply IsS88.drewN | apply IsS88.drew | apply IsS88.set_0 | apply IsS88.set_1 | refine IsS88.far ?_ NB151_143.out _) | exact HI151.out)); (case side2 => repeat (first | (with_reducible first | exact HB.out | apply bal | apply bdn | apply bd1 | refine bst ?_ (IsS88.ge HI151.out) | refine bst ?_ GE143.out) | exact HB.out)); rintro e w28 ⟨rfl, hi, hb, hk⟩; refine ⟨_, rfl, ?_⟩; have n0_ := Aside0.mk (KeepBut.blk hk (g' := gb143) (o := .cells #[.int .i64 0, .int .u8 0, .string (⟨#[]⟩ : ByteArray)] 23 (0, 0)) bk_ NB143_151.out (by simp)); have n1_ := Aside0.mk (Kd.R_mono (Kd.R_keep (IsS88.apart (show IsS88 w _ g151 t156 t157 from by repeat (first | (with_reducible first | exact HI151.out | apply IsS88.alloc | apply IsS88.drewN | apply IsS88.drew | apply IsS88.set_0 | apply IsS88.set_1 | refine IsS88.far ?_ NB151_143.out _) | exact HI151.out)) (by (with_reducible repeat (first | apply Kd.R_alloc | apply Kd.R_drewN | apply Kd.R_drew)); exact HO146.out) (by decide)) hk (fun _ h => h.2)) (fun _ h => h.1)); have n2_ := Aside0.mk (hb); have n3_ := Aside0.mk (hi); clear BK143; clear HO146; clear HB; clear HI151; have BK143 := n0_; have HO146 := n1_; have HB := n2_; have HI151 := n3_; clear n0_ n1_ n2_ n3_; (try clear hb); (try clear hb2); (try clear hk); (try clear hi)) | ((with_reducible refine gds (N := 5) rfl ?_); refine bev ?hg (N := 5) ?hd (cs := #[.int .i64 0, .int .u8 0, .string (⟨#[]⟩ : ByteArray)]) (t := 23) ?hr ?_; (case hd => rfl); (case hg => rfl); (case hr => first | (go_simp; done) | (go_simp; rfl)); intro gb161 hg w29 hbox hb; have n0_ := Aside0.mk (Kd.R_below (by (with_reducible repeat (first | apply Kd.R_alloc | apply Kd.R_drewN | apply Kd.R_drew)); exact HO146.out) hb); have n1_ := Aside0.mk (kbl (g := gb143) (o := .cells #[.int .i64 0, .int .u8 0, .string (⟨#[]⟩ : ByteArray)] 23 (0, 0)) bk_ hb); have n2_ := Aside0.mk (IsS88.below (by repeat (first | (with_reducible first | exact HI151.out | apply IsS88.alloc | apply IsS88.drewN | apply IsS88.drew | apply IsS88.set_0 | apply IsS88.set_1 | refine IsS88.far ?_ NB151_143.out _) | exact HI151.out)) hb); have n3_ := Aside0.mk (bsp (by repeat (first | (with_reducible first | exact HB.out | apply bal | apply bdn | apply bd1 | refine bst ?_ (IsS88.ge HI151.out) | refine bst ?_ GE143.out) | exact HB.out)) hb); have n4_ := Aside0.mk (hbox); have n5_ := Aside0.mk ((by rw [hg]; exact (bsz (by repeat (first | (with_reducible first | exact HB.out | apply bal | apply bdn | apply bd1 | refine bst ?_ (IsS88.ge HI151.out) | refine bst ?_ GE143.out) | exact HB.out))) : w.heap.size ≤ gb161)); have n6_ := Aside0.mk ((by rw [hg]; exact (bsz (by repeat (first | (with_reducible first | exact HB.out | apply bal | apply bdn | apply bd1 | refine bst ?_ (IsS88.ge HI151.out) | refine bst ?_ GE143.out) | exact HB.out))) : w.heap.size ≤ gb161)); have n7_ := Aside0.mk ((by rw [hg]; exact Nat.ne_of_lt (blk_lt (g := gb143) (o := .cells #[.int .i64 0, .int .u8 0, .string (⟨#[]⟩ : ByteArray)] 23 (0, 0)) bk_) : gb143 ≠ gb161)); have n8_ := Aside0.mk ((by rw [hg]; exact Nat.ne_of_gt (blk_lt (g := gb143) (o := .cells #[.int .i64 0, .int .u8 0, .string (⟨#[]⟩ : ByteArray)] 23 (0, 0)) bk_) : gb161 ≠ gb143)); have n9_ := Aside0.mk ((by rw [hg]; exact Nat.ne_of_lt (IsS88.lt (show IsS88 w _ g151 t159 t160 from by repeat (first | (with_reducible first | exact HI151.out | apply IsS88.alloc | apply IsS88.drewN | apply IsS88.drew | apply IsS88.set_0 | apply IsS88.set_1 | refine IsS88.far ?_ NB151_143.out _) | exact HI151.out))) : g151 ≠ gb161)); have n10_ := Aside0.mk ((by rw [hg]; exact Nat.ne_of_gt (IsS88.lt (show IsS88 w _ g151 t159 t160 from by repeat (first | (with_reducible first | exact HI151.out | apply IsS88.alloc | apply IsS88.drewN | apply IsS88.drew | apply IsS88.set_0 | apply IsS88.set_1 | refine IsS88.far ?_ NB151_143.out _) | exact HI151.out))) : gb161 ≠ g151)); clear HO146; clear BK143; clear HI151; clear HB; have HO146 := n0_; have BK143 := n1_; have HI151 := n2_; have HB := n3_; have BK161 := n4_; have GW161 := n5_; have GE161 := n6_; have NB143_161 := n7_; have NB161_143 := n8_; have NB151_161 := n9_; have NB161_151 := n10_; clear n0_ n1_ n2_ n3_ n4_ n5_ n6_ n7_ n8_ n9_ n10_; clear hb hbox hg; have hnb30 := NB161_143.out; have hnc30 := NB143_161.out; have hnb31 := NB161_151.out; have hnc31 := NB151_161.out; have hcz32 := bc3 BK161.out) | ((with_reducible refine gcl (f := 30) rfl ?_); refine gl_ (some 31) rfl rfl Try.func30 (by kernel_rfl) rfl #[.pointer (some ⟨g151, 0, none⟩)] rfl ar_ ?_; (with_reducible refine (codec_In_Err.calls g151 t159 t160 t162 t163 t164 w _ ?side1 ?side2 A23.out).mono ?_); (case side1 => repeat (first | (with_reducible first | exact HI151.out | apply IsS88.alloc | apply IsS88.drewN | apply IsS88.drew | apply IsS88.set_0 | apply IsS88.set_1 | refine IsS88.far ?_ NB151_143.out _ | refine IsS88.far ?_ NB151_161.out _) | exact HI151.out)); (case side2 => repeat (first | (with_reducible first | exact HB.out | apply bal | apply bdn | apply bd1 | refine bst ?_ (IsS88.ge HI151.out) | refine bst ?_ GE143.out | refine bst ?_ GE161.out) | exact HB.out)); rintro e w33 ⟨rfl, hi, hb, hk⟩; refine ⟨_, rfl, ?_⟩; have n0_ := Aside0.mk (KeepBut.blk hk (g' := gb143) (o := .cells #[.int .i64 0, .int .u8 0, .string (⟨#[]⟩ : ByteArray)] 23 (0, 0)) bk_ NB143_151.out (by simp)); have n1_ := Aside0.mk (Kd.R_mono (Kd.R_keep (IsS88.apart (show IsS88 w _ g151 t159 t160 from by repeat (first | (with_reducible first | exact HI151.out | apply IsS88.alloc | apply IsS88.drewN | apply IsS88.drew | apply IsS88.set_0 | apply IsS88.set_1 | refine IsS88.far ?_ NB151_143.out _ | refine IsS88.far ?_ NB151_161.out _) | exact HI151.out)) (by (with_reducible repeat (first | apply Kd.R_alloc | apply Kd.R_drewN | apply Kd.R_drew)); exact (Kd.R_mono (Kd.R_far (p := ⟨gb161, 2, none⟩) (Kd.R_far (p := ⟨gb161, 1, none⟩) (Kd.R_far (p := ⟨gb161, 0, none⟩) (Kd.R_types HO146.out BK161.out (by decide)) (fun _ hk => hk.2) (.int .i64 t152)) (fun _ hk => hk.2) (.int .u8 ((t155) % 256))) (fun _ hk => hk.2) (.string t158)) (fun _ h_ => h_.1))) (by decide)) hk (fun _ h => h.2)) (fun _ h => h.1)); have n2_ := Aside0.mk (KeepBut.blk hk (g' := gb161) (o := .cells #[.int .i64 t152, .int .u8 ((t155) % 256), .string t158] 23 (0, 0)) bk_ NB161_151.out (by simp)); have n3_ := Aside0.mk (hb); have n4_ := Aside0.mk (hi); clear BK143; clear HO146; clear BK161; clear HB; clear HI151; have BK143 := n0_; have HO146 := n1_; have BK161 := n2_; have HB := n3_; have HI151 := n4_; clear n0_ n1_ n2_ n3_ n4_; (try clear hb); (try clear hb2); (try clear hk); (try clear hi)))
  (try simp only [Act.put, List.setIfInBounds_toArray, List.set_cons_zero, List.set_cons_succ])
  have H := HS24.out
  clear HS24
  by_cases c34 : t162 = 0
  rotate_left
  · rw [if_neg c34] at H
    have c34b0 : (t162 == 0) = false := beq_eq_false_iff_ne.mpr c34
    have c34b1 : (t162 != 0) = true := bne_iff_ne.mpr c34
    (first | rw [c34b0] | (simp only [i64_w, i32_w]; rw [c34b0]) | skip)
    replace H := Option.bind_eq_some_iff.mp H
    obtain ⟨⟨t166, t167, t168⟩, A560, H⟩ := H
    replace H : (some (0, 0, (⟨#[]⟩ : ByteArray), t166)) = some (r1, r2, r3, r4) := H
    have A56 := Aside0.mk A560
    clear A560
    simp only [Option.some.injEq, Prod.mk.injEq] at H
    obtain ⟨rfl, rfl, rfl, rfl⟩ := H
    go_wp2_with (first | ((with_reducible refine gcl (f := 30) rfl ?_); refine gl_ (some 35) rfl rfl Try.func30 (by kernel_rfl) rfl #[.pointer (some ⟨g151, 0, none⟩)] rfl ar_ ?_; (with_reducible refine (codec_In_Err.calls g151 t163 t164 t166 t167 t168 w _ ?side1 ?side2 A56.out).mono ?_); (case side1 => repeat (first | (with_reducible first | exact HI151.out | apply IsS88.alloc | apply IsS88.drewN | apply IsS88.drew | apply IsS88.set_0 | apply IsS88.set_1 | refine IsS88.far ?_ NB151_143.out _ | refine IsS88.far ?_ NB151_161.out _) | exact HI151.out)); (case side2 => repeat (first | (with_reducible first | exact HB.out | apply bal | apply bdn | apply bd1 | refine bst ?_ (IsS88.ge HI151.out) | refine bst ?_ GE143.out | refine bst ?_ GE161.out) | exact HB.out)); rintro e w57 ⟨rfl, hi, hb, hk⟩; refine ⟨_, rfl, ?_⟩; have n0_ := Aside0.mk (KeepBut.blk hk (g' := gb143) (o := .cells #[.int .i64 0, .int .u8 0, .string (⟨#[]⟩ : ByteArray)] 23 (0, 0)) bk_ NB143_151.out (by simp)); have n1_ := Aside0.mk (Kd.R_mono (Kd.R_keep (IsS88.apart (show IsS88 w _ g151 t163 t164 from by repeat (first | (with_reducible first | exact HI151.out | apply IsS88.alloc | apply IsS88.drewN | apply IsS88.drew | apply IsS88.set_0 | apply IsS88.set_1 | refine IsS88.far ?_ NB151_143.out _ | refine IsS88.far ?_ NB151_161.out _) | exact HI151.out)) (by (with_reducible repeat (first | apply Kd.R_alloc | apply Kd.R_drewN | apply Kd.R_drew)); exact HO146.out) (by decide)) hk (fun _ h => h.2)) (fun _ h => h.1)); have n2_ := Aside0.mk (KeepBut.blk hk (g' := gb161) (o := .cells #[.int .i64 t152, .int .u8 ((t155) % 256), .string t158] 23 (0, 0)) bk_ NB161_151.out (by simp)); have n3_ := Aside0.mk (hb); have n4_ := Aside0.mk (hi); clear BK143; clear HO146; clear BK161; clear HB; clear HI151; have BK143 := n0_; have HO146 := n1_; have BK161 := n2_; have HB := n3_; have HI151 := n4_; clear n0_ n1_ n2_ n3_ n4_; (try clear hb); (try clear hb2); (try clear hk); (try clear hi); have hnb58 := NB143_161.out; have hnc58 := NB161_143.out; have hnb59 := NB143_151.out; have hnc59 := NB151_143.out; have hcz60 := bc3 BK143.out))
    refine bodyPost_ret (results_ct rfl _ _ gb143 23 #[.int .i64 0, .int .u8 0, .string (⟨#[]⟩ : ByteArray)] (0, 0) _ rfl bk_ Try.underlying23 rfl (by kernel_rfl)) rfl ?_
    exact ⟨er_, by repeat (first | (with_reducible first | exact HB.out | apply bal | apply bdn | apply bd1 | refine bst ?_ (IsS88.ge HI151.out) | refine bst ?_ GE143.out | refine bst ?_ GE161.out) | exact HB.out)⟩
  rw [if_pos c34] at H
  have c34b0 : (t162 == 0) = true := beq_iff_eq.mpr c34
  have c34b1 : (t162 != 0) = false := bne_eq_false_iff_eq.mpr c34
  clear c34
  (first | rw [c34b0] | (simp only [i64_w, i32_w]; rw [c34b0]) | skip)
  by_cases c35 : t152 < 1
  · rw [if_pos c35] at H
    have c35b0 : decide (t152 < 1) = true := decide_eq_true c35
    clear c35
    simp only [Option.some.injEq, Prod.mk.injEq] at H
    obtain ⟨rfl, rfl, rfl, rfl⟩ := H
    have hnb36 := NB161_143.out
    have hnc36 := NB143_161.out
    have hnb37 := NB161_151.out
    have hnc37 := NB151_161.out
    have hcz38 := bc3 BK161.out
    have hnb39 := NB143_151.out
    have hnc39 := NB151_143.out
    have hcz40 := bc3 BK143.out
    go_wp2
    refine bodyPost_ret (results_ct rfl _ _ gb143 23 #[.int .i64 0, .int .u8 0, .string (⟨#[]⟩ : ByteArray)] (0, 0) _ rfl bk_ Try.underlying23 rfl (by kernel_rfl)) rfl ?_
    exact ⟨er_, by repeat (first | (with_reducible first | exact HB.out | apply bal | apply bdn | apply bd1 | refine bst ?_ (IsS88.ge HI151.out) | refine bst ?_ GE143.out | refine bst ?_ GE161.out) | exact HB.out)⟩
  rw [if_neg c35] at H
  have c35b0 : decide (t152 < 1) = false := decide_eq_false c35
  clear c35
  replace H := Option.bind_eq_some_iff.mp H
  obtain ⟨t165, A410, H⟩ := H
  replace H : (if t165.toList = a0.toList then (some (t152, (t155) % 256, t158, 0)) else (some (0, 0, (⟨#[]⟩ : ByteArray), 2))) = some (r1, r2, r3, r4) := H
  have A41 := Aside0.mk A410
  clear A410
  have HS42 := Aside0.mk H
  clear H
  have hnb43 := NB161_143.out
  have hnc43 := NB143_161.out
  have hnb44 := NB161_151.out
  have hnc44 := NB151_161.out
  have hcz45 := bc3 BK161.out
  go_upto_if 44 with (first | (go_at_call 13; (with_reducible refine (stamp_Sector_Text.calls k t152 ((t155) % 256) t158 t165 _ A41.out).mono ?_); rintro e w46 ⟨rfl, hb⟩; have n0_ := Aside0.mk (Kd.R_below (by (with_reducible repeat (first | apply Kd.R_alloc | apply Kd.R_drewN | apply Kd.R_drew)); exact HO146.out) hb); have n1_ := Aside0.mk (kbl (g := gb143) (o := .cells #[.int .i64 0, .int .u8 0, .string (⟨#[]⟩ : ByteArray)] 23 (0, 0)) bk_ hb); have n2_ := Aside0.mk (IsS88.below (by repeat (first | (with_reducible first | exact HI151.out | apply IsS88.alloc | apply IsS88.drewN | apply IsS88.drew | apply IsS88.set_0 | apply IsS88.set_1 | refine IsS88.far ?_ NB151_143.out _ | refine IsS88.far ?_ NB151_161.out _) | exact HI151.out)) hb); have n3_ := Aside0.mk (kbl (g := gb161) (o := .cells #[.int .i64 t152, .int .u8 ((t155) % 256), .string t158] 23 (0, 0)) bk_ hb); have n4_ := Aside0.mk (bsp (by repeat (first | (with_reducible first | exact HB.out | apply bal | apply bdn | apply bd1 | refine bst ?_ (IsS88.ge HI151.out) | refine bst ?_ GE143.out | refine bst ?_ GE161.out) | exact HB.out)) hb); clear HO146; clear BK143; clear HI151; clear BK161; clear HB; have HO146 := n0_; have BK143 := n1_; have HI151 := n2_; have BK161 := n3_; have HB := n4_; clear n0_ n1_ n2_ n3_ n4_; (try clear hb); (try clear hb2); (try clear hk); (try clear hi)))
  (try simp only [Act.put, List.setIfInBounds_toArray, List.set_cons_zero, List.set_cons_succ])
  have H := HS42.out
  clear HS42
  by_cases c47 : t165.toList = a0.toList
  rotate_left
  · rw [if_neg c47] at H
    have c47b0 : (t165.toList == a0.toList) = false := beq_eq_false_iff_ne.mpr c47
    have c47b1 : (t165.toList != a0.toList) = true := bne_iff_ne.mpr c47
    (first | rw [c47b0] | (simp only [i64_w, i32_w]; rw [c47b0]) | skip)
    simp only [Option.some.injEq, Prod.mk.injEq] at H
    obtain ⟨rfl, rfl, rfl, rfl⟩ := H
    have hnb53 := NB143_161.out
    have hnc53 := NB161_143.out
    have hnb54 := NB143_151.out
    have hnc54 := NB151_143.out
    have hcz55 := bc3 BK143.out
    go_wp2
    refine bodyPost_ret (results_ct rfl _ _ gb143 23 #[.int .i64 0, .int .u8 0, .string (⟨#[]⟩ : ByteArray)] (0, 0) _ rfl bk_ Try.underlying23 rfl (by kernel_rfl)) rfl ?_
    exact ⟨er_, by repeat (first | (with_reducible first | exact HB.out | apply bal | apply bdn | apply bd1 | refine bst ?_ (IsS88.ge HI151.out) | refine bst ?_ GE143.out | refine bst ?_ GE161.out) | exact HB.out)⟩
  rw [if_pos c47] at H
  have c47b0 : (t165.toList == a0.toList) = true := beq_iff_eq.mpr c47
  have c47b1 : (t165.toList != a0.toList) = false := bne_eq_false_iff_eq.mpr c47
  clear c47
  (first | rw [c47b0] | (simp only [i64_w, i32_w]; rw [c47b0]) | skip)
  simp only [Option.some.injEq, Prod.mk.injEq] at H
  obtain ⟨rfl, rfl, rfl, rfl⟩ := H
  have hnb48 := NB161_143.out
  have hnc48 := NB143_161.out
  have hnb49 := NB161_151.out
  have hnc49 := NB151_161.out
  have hcz50 := bc3 BK161.out
  have hnb51 := NB143_151.out
  have hnc51 := NB151_143.out
  have hcz52 := bc3 BK143.out
  go_wp2
  refine bodyPost_ret (results_ct rfl _ _ gb143 23 #[.int .i64 t152, .int .u8 ((t155) % 256), .string t158] (0, 0) _ rfl bk_ Try.underlying23 rfl (by kernel_rfl)) rfl ?_
  exact ⟨er_, by repeat (first | (with_reducible first | exact HB.out | apply bal | apply bdn | apply bd1 | refine bst ?_ (IsS88.ge HI151.out) | refine bst ?_ GE143.out | refine bst ?_ GE161.out) | exact HB.out)⟩
end Go.Proofs.Ytodikgjanhihhaa.PA

