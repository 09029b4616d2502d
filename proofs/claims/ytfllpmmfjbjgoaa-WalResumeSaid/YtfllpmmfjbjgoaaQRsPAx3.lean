import Derived.Test.YtfllpmmfjbjgoaaQRsPAx0
import Derived.Test.YtfllpmmfjbjgoaaQRsPAx2
namespace Go.Proofs.Ytfllpmmfjbjgoaa.PA
open Go.Proofs.Ytfllpmmfjbjgoaa.PL
open Go.RowKit Go.Proofs.YtfllpmmfjbjgoaaW.PrintWords Go.Proofs.YtfllpmmfjbjgoaaW.PrintLast Go.Proofs.YtfllpmmfjbjgoaaW.PrintMore
attribute [local go_sem] max2_int min2_int max_two min_two max_three min_three max_four min_four
set_option linter.unusedVariables false
set_option linter.unusedSimpArgs false
def codec_In_Err.f (s0_0 : ByteArray) (s0_1 : Int) : Option (Int × ByteArray × Int) := some (s0_1, s0_0, s0_1)
set_option maxHeartbeats 2000000 in
set_option maxRecDepth 100000 in
theorem codec_In_Err.calls (g : Nat) (s0_0 : ByteArray) (s0_1 : Int) (r1 : Int) (r2 : ByteArray) (r3 : Int) (w0 w : World) (hI : IsS133 w0 w g s0_0 s0_1) (hB : Below w0.heap.size w0 w) (h : codec_In_Err.f s0_0 s0_1 = some (r1, r2, r3)) :
    Calls Try.prog 64 #[.pointer (some ⟨g, 0, none⟩)] w fun e w' => e = .returned (.int .i64 r1) ∧ IsS133 w0 w' g r2 r3 ∧ Below w0.heap.size w0 w' ∧ KeepBut w w' g none := by
  have HI0 := Aside0.mk hI
  have HK := Aside0.mk (KeepBut.refl w g none)
  have HL := Aside0.mk hB.size
  clear hI
  have HW0 := Aside0.mk hB.size
  have HB := Aside0.mk hB
  clear hB
  have H : (some (s0_1, s0_0, s0_1)) = some (r1, r2, r3) := h
  clear h
  simp only [Option.some.injEq, Prod.mk.injEq] at H
  obtain ⟨rfl, rfl, rfl⟩ := H
  obtain ⟨HGz2, hgz2⟩ := HI0.out
  have hcz2_0 := cellS133_0 HGz2
  have hcz2_1 := cellS133_1 HGz2
  have hfz2_0 := kfr HGz2 0
  have hfz2_1 := kfr HGz2 1
  clear HGz2 hgz2
  go_enter Try.func64, Try.ntmps64
  go_wp2
  go_ret
  exact ⟨er_, by repeat (first | (with_reducible first | exact HI0.out | apply IsS133.alloc | apply IsS133.drewN | apply IsS133.drew | apply IsS133.set_0 | apply IsS133.set_1) | exact HI0.out), by repeat (first | (with_reducible first | exact HB.out | apply bal | apply bdn | apply bd1 | refine bst ?_ (IsS133.ge HI0.out)) | exact HB.out), by repeat (first | (with_reducible first | exact HK.out | apply KeepBut.set_ | apply edn | apply edw | apply eal) | exact HK.out)⟩
def stamp_Parse.f (k : Nat) (a0 : ByteArray) : Option (Int × Int × ByteArray × Int) := if (a0.size : Int) = 64 then (if 0 ≤ 4 then (if 4 ≤ (a0.size : Int) then ((crc_Of.f k (([a0.extract 4 a0.size] : List ByteArray))).bind fun t146 => ((crc_Bytes.f t146).bind fun t147 => (if (a0.extract 0 4).toList = t147.toList then ((codec_Read.f (a0.extract 4 a0.size)).bind fun bt148 => ((codec_In_N.f bt148.1 bt148.2 1099511627776).bind fun bt151 => ((codec_In_N.f bt151.2.1 bt151.2.2 255).bind fun bt154 => ((codec_In_S.f bt154.2.1 bt154.2.2 44).bind fun bt157 => ((codec_In_Err.f bt157.2.1 bt157.2.2).bind fun bt161 => (if bt161.1 = 0 then (if bt151.1 < 1 then (some (0, 0, (⟨#[]⟩ : ByteArray), 2)) else ((stamp_Sector_Text.f k bt151.1 ((bt154.1) % 256) bt157.1).bind fun t164 => (if t164.toList = a0.toList then (some (bt151.1, (bt154.1) % 256, bt157.1, 0)) else (some (0, 0, (⟨#[]⟩ : ByteArray), 2))))) else ((codec_In_Err.f bt161.2.1 bt161.2.2).bind fun bt165 => (some (0, 0, (⟨#[]⟩ : ByteArray), bt165.1))))))))) else (some (0, 0, (⟨#[]⟩ : ByteArray), 5))))) else (none)) else (none)) else (some (0, 0, (⟨#[]⟩ : ByteArray), 1))
def stamp_Parse.T3 : Bool × List (List Nat × List Nat) := (true, [([], []), ([0], [0]), ([], []), ([2], [2]), ([3], [3]), ([4], [4]), ([5, 5], [5]), ([1, 6], [1, 6])])
def stamp_Parse.B3 : List Nat := [0, 1, 0, 4, 12, 28, 60, 127]
theorem stamp_Parse.tab3 : rtab .any (opsOf Try.f47 3) = stamp_Parse.T3 := by kernel_rfl
theorem stamp_Parse.bits3 : waitsOk stamp_Parse.T3.2 stamp_Parse.B3 = true := by kernel_rfl
set_option maxHeartbeats 2000000 in
set_option maxRecDepth 100000 in
theorem stamp_Parse.calls (k : Nat) (a0 : ByteArray) (r1 : Int) (r2 : Int) (r3 : ByteArray) (r4 : Int) (w : World) (h : stamp_Parse.f k a0 = some (r1, r2, r3, r4)) :
    Calls Try.prog 47 #[.string a0] w fun e w' => e = .returned (.tuple #[.agg #[.int .i64 r1, .int .u8 r2, .string r3], .int .i64 r4]) ∧ Below w.heap.size w w' := by
  have hu41 := Try.underlying41
  have HB := Aside0.mk (Below.refl w.heap.size w)
  have H : (if (a0.size : Int) = 64 then (if 0 ≤ 4 then (if 4 ≤ (a0.size : Int) then ((crc_Of.f k (([a0.extract 4 a0.size] : List ByteArray))).bind fun t146 => ((crc_Bytes.f t146).bind fun t147 => (if (a0.extract 0 4).toList = t147.toList then ((codec_Read.f (a0.extract 4 a0.size)).bind fun bt148 => ((codec_In_N.f bt148.1 bt148.2 1099511627776).bind fun bt151 => ((codec_In_N.f bt151.2.1 bt151.2.2 255).bind fun bt154 => ((codec_In_S.f bt154.2.1 bt154.2.2 44).bind fun bt157 => ((codec_In_Err.f bt157.2.1 bt157.2.2).bind fun bt161 => (if bt161.1 = 0 then (if bt151.1 < 1 then (some (0, 0, (⟨#[]⟩ : ByteArray), 2)) else ((stamp_Sector_Text.f k bt151.1 ((bt154.1) % 256) bt157.1).bind fun t164 => (if t164.toList = a0.toList then (some (bt151.1, (bt154.1) % 256, bt157.1, 0)) else (some (0, 0, (⟨#[]⟩ : ByteArray), 2))))) else ((codec_In_Err.f bt161.2.1 bt161.2.2).bind fun bt165 => (some (0, 0, (⟨#[]⟩ : ByteArray), bt165.1))))))))) else (some (0, 0, (⟨#[]⟩ : ByteArray), 5))))) else (none)) else (none)) else (some (0, 0, (⟨#[]⟩ : ByteArray), 1))) = some (r1, r2, r3, r4) := h
  clear h
  have HS2 := Aside0.mk H
  clear H
  go_enter Try.func47, Try.ntmps47
  go_upto_if 8 with (first | ((with_reducible refine gds (N := 2) rfl ?_); refine bev ?hg (N := 2) ?hd (cs := #[.int .i64 0, .int .u8 0, .string (⟨#[]⟩ : ByteArray)]) (t := 41) ?hr ?_; (case hd => rfl); (case hg => rfl); (case hr => first | (go_simp; done) | (go_simp; rfl)); intro gb142 hg w3 hbox hb; have n0_ := Aside0.mk (bsp bl_ hb); have n1_ := Aside0.mk (hbox); have n2_ := Aside0.mk ((by rw [hg]; exact bsz bl_ : w.heap.size ≤ gb142)); have n3_ := Aside0.mk ((by rw [hg]; exact bsz bl_ : w.heap.size ≤ gb142)); clear HB; have HB := n0_; have BK142 := n1_; have GW142 := n2_; have GE142 := n3_; clear n0_ n1_ n2_ n3_; clear hb hbox hg))
  (try simp only [Act.put, List.setIfInBounds_toArray, List.set_cons_zero, List.set_cons_succ])
  have H := HS2.out
  clear HS2
  by_cases c4 : (a0.size : Int) = 64
  rotate_left
  · rw [if_neg c4] at H
    have c4b0 : ((a0.size : Int) == 64) = false := beq_eq_false_iff_ne.mpr c4
    have c4b1 : ((a0.size : Int) != 64) = true := bne_iff_ne.mpr c4
    (first | rw [c4b0] | rw [c4b1] | (simp only [i64_w, i32_w]; rw [c4b0]) | (simp only [i64_w, i32_w]; rw [c4b1]) | rw [c4b2] | skip)
    simp only [Option.some.injEq, Prod.mk.injEq] at H
    obtain ⟨rfl, rfl, rfl, rfl⟩ := H
    have hcz62 := bc3 BK142.out
    go_wp2
    refine bodyPost_ret (results_ct rfl _ _ gb142 41 #[.int .i64 0, .int .u8 0, .string (⟨#[]⟩ : ByteArray)] (0, 0) _ rfl bk_ Try.underlying41 rfl (by kernel_rfl)) rfl ?_
    exact ⟨er_, bl_⟩
  rw [if_pos c4] at H
  have c4b0 : ((a0.size : Int) == 64) = true := beq_iff_eq.mpr c4
  have c4b1 : ((a0.size : Int) != 64) = false := bne_eq_false_iff_eq.mpr c4
  clear c4
  (first | rw [c4b0] | rw [c4b1] | (simp only [i64_w, i32_w]; rw [c4b0]) | (simp only [i64_w, i32_w]; rw [c4b1]) | rw [c4b2] | skip)
  by_cases c5 : 0 ≤ 4
  rotate_left
  · rw [if_neg c5] at H
    exact absurd H (by simp)
  rw [if_pos c5] at H
  have c5b0 := eq_true c5
  have c5b1 : decide (0 ≤ 4) = true := decide_eq_true c5
  clear c5
  by_cases c6 : 4 ≤ (a0.size : Int)
  rotate_left
  · rw [if_neg c6] at H
    exact absurd H (by simp)
  rw [if_pos c6] at H
  have c6b0 := eq_true c6
  have c6b1 : decide (4 ≤ (a0.size : Int)) = true := decide_eq_true c6
  clear c6
  have c7b0 := eq_true (of_decide_eq_true (by first | (with_reducible assumption) | assumption) : 4 ≤ (a0.size : Int))
  obtain ⟨y143, hy143⟩ : ∃ y_ : List ByteArray, y_ = (([a0.extract 4 a0.size] : List ByteArray)) := ⟨_, rfl⟩
  replace H : ((crc_Of.f k y143).bind fun t146 => ((crc_Bytes.f t146).bind fun t147 => (if (a0.extract 0 4).toList = t147.toList then ((codec_Read.f (a0.extract 4 a0.size)).bind fun bt148 => ((codec_In_N.f bt148.1 bt148.2 1099511627776).bind fun bt151 => ((codec_In_N.f bt151.2.1 bt151.2.2 255).bind fun bt154 => ((codec_In_S.f bt154.2.1 bt154.2.2 44).bind fun bt157 => ((codec_In_Err.f bt157.2.1 bt157.2.2).bind fun bt161 => (if bt161.1 = 0 then (if bt151.1 < 1 then (some (0, 0, (⟨#[]⟩ : ByteArray), 2)) else ((stamp_Sector_Text.f k bt151.1 ((bt154.1) % 256) bt157.1).bind fun t164 => (if t164.toList = a0.toList then (some (bt151.1, (bt154.1) % 256, bt157.1, 0)) else (some (0, 0, (⟨#[]⟩ : ByteArray), 2))))) else ((codec_In_Err.f bt161.2.1 bt161.2.2).bind fun bt165 => (some (0, 0, (⟨#[]⟩ : ByteArray), bt165.1))))))))) else (some (0, 0, (⟨#[]⟩ : ByteArray), 5))))) = some (r1, r2, r3, r4) := by first | (rw [hy143]; with_reducible exact H) | (have H2_ := (Option.bind_some _ _).symm.trans H; rw [hy143]; with_reducible exact H2_) | (have H2_ := (Option.bind_some _ _).symm.trans H; with_reducible exact H2_) | with_reducible exact H | (rw [hy143]; exact H) | exact H
  have Ny143 := Aside0.mk hy143
  clear hy143
  replace H := Option.bind_eq_some_iff.mp H
  obtain ⟨t146, A80, H⟩ := H
  replace H : ((crc_Bytes.f t146).bind fun t147 => (if (a0.extract 0 4).toList = t147.toList then ((codec_Read.f (a0.extract 4 a0.size)).bind fun bt148 => ((codec_In_N.f bt148.1 bt148.2 1099511627776).bind fun bt151 => ((codec_In_N.f bt151.2.1 bt151.2.2 255).bind fun bt154 => ((codec_In_S.f bt154.2.1 bt154.2.2 44).bind fun bt157 => ((codec_In_Err.f bt157.2.1 bt157.2.2).bind fun bt161 => (if bt161.1 = 0 then (if bt151.1 < 1 then (some (0, 0, (⟨#[]⟩ : ByteArray), 2)) else ((stamp_Sector_Text.f k bt151.1 ((bt154.1) % 256) bt157.1).bind fun t164 => (if t164.toList = a0.toList then (some (bt151.1, (bt154.1) % 256, bt157.1, 0)) else (some (0, 0, (⟨#[]⟩ : ByteArray), 2))))) else ((codec_In_Err.f bt161.2.1 bt161.2.2).bind fun bt165 => (some (0, 0, (⟨#[]⟩ : ByteArray), bt165.1))))))))) else (some (0, 0, (⟨#[]⟩ : ByteArray), 5)))) = some (r1, r2, r3, r4) := H
  have A8 := Aside0.mk A80
  clear A80
  replace H := Option.bind_eq_some_iff.mp H
  obtain ⟨t147, A90, H⟩ := H
  replace H : (if (a0.extract 0 4).toList = t147.toList then ((codec_Read.f (a0.extract 4 a0.size)).bind fun bt148 => ((codec_In_N.f bt148.1 bt148.2 1099511627776).bind fun bt151 => ((codec_In_N.f bt151.2.1 bt151.2.2 255).bind fun bt154 => ((codec_In_S.f bt154.2.1 bt154.2.2 44).bind fun bt157 => ((codec_In_Err.f bt157.2.1 bt157.2.2).bind fun bt161 => (if bt161.1 = 0 then (if bt151.1 < 1 then (some (0, 0, (⟨#[]⟩ : ByteArray), 2)) else ((stamp_Sector_Text.f k bt151.1 ((bt154.1) % 256) bt157.1).bind fun t164 => (if t164.toList = a0.toList then (some (bt151.1, (bt154.1) % 256, bt157.1, 0)) else (some (0, 0, (⟨#[]⟩ : ByteArray), 2))))) else ((codec_In_Err.f bt161.2.1 bt161.2.2).bind fun bt165 => (some (0, 0, (⟨#[]⟩ : ByteArray), bt165.1))))))))) else (some (0, 0, (⟨#[]⟩ : ByteArray), 5))) = some (r1, r2, r3, r4) := H
  have A9 := Aside0.mk A90
  clear A90
  have HS10 := Aside0.mk H
  clear H
  try go_wp2
  have n0_ := Aside0.mk (kdw BK142.out)
  have n1_ := Aside0.mk (bd1 HB.out)
  clear BK142
  clear HB
  have BK142 := n0_
  have HB := n1_
  clear n0_ n1_
  refine start_ (n := 8) (S := fun w' => True) (ds := []) #[false,false,false,false,false,false,false,false] (by kernel_rfl) rfl rfl trivial (fun hHeld => ?_); refine with_tabW stamp_Parse.tab3 stamp_Parse.bits3 (fun HT_ HW_ => ?_)
  generalize w3.drew = w11 at BK142 HB hHeld ⊢
  refine pure_ (i := 0) (N := some 10) (v := ?_) (a' := ?_) (bA 8 1) rfl rfl (any_of HT_.out (by kernel_rfl)) (fun _ _ _ h => h) (Or.inl ⟨by rfl, ?_⟩) ?_ ?_
  rotate_left; (intro w'; go_simp; with_reducible rfl); rotate_left; (simp only [Act.put, List.setIfInBounds_toArray, List.set_cons_zero, List.set_cons_succ, i64_w, i32_w]; rfl)
  refine pure_ (i := 1) (N := some 11) (v := ?_) (a' := ?_) (bA 8 3) rfl rfl (any_of HT_.out (by kernel_rfl)) (fun _ _ _ h => h) (Or.inl ⟨by rfl, ?_⟩) ?_ ?_
  rotate_left; (intro w'; go_simp; with_reducible rfl); rotate_left; (simp only [Act.put, List.setIfInBounds_toArray, List.set_cons_zero, List.set_cons_succ, i64_w, i32_w]; rfl)
  refine pure_ (i := 2) (N := some 12) (v := ?_) (a' := ?_) (bA 8 7) rfl rfl (any_of HT_.out (by kernel_rfl)) (fun _ _ _ h => h) (Or.inl ⟨by rfl, ?_⟩) ?_ ?_
  rotate_left; (intro w'; go_simp; with_reducible rfl); rotate_left; (simp only [Act.put, List.setIfInBounds_toArray, List.set_cons_zero, List.set_cons_succ, i64_w, i32_w]; rfl)
  refine pure_ (i := 3) (N := some 13) (v := ?_) (a' := ?_) (bA 8 15) rfl rfl (any_of HT_.out (by kernel_rfl)) (fun _ _ _ h => h) (Or.inl ⟨by rfl, ?_⟩) ?_ ?_
  rotate_left; (intro w'; go_simp; with_reducible rfl); rotate_left; (simp only [Act.put, List.setIfInBounds_toArray, List.set_cons_zero, List.set_cons_succ, i64_w, i32_w]; rfl)
  refine one_ (i := 4) (N := some 14) #[true,true,true,true,true,false,false,false] rfl rfl (one_of HT_.out (by kernel_rfl)) (by decide) (fun K hK => ?_)
  refine Kd.R_lit_step Kd.string _ 9 ?hg (N := 14) ?hd (xs := ([a0.extract 4 a0.size] : List ByteArray)) (inner := [.string (a0.extract 4 a0.size)]) (ok := fun _ => True) (okp := fun _ => True) ?hr ?hp (fun _ hk => hk) trivial (Below.refl _ _) (Nat.le_refl _) (by simp) ?_; (case hd => rfl); (case hg => rfl); (case hr => first | (go_simp; done) | (go_simp; rfl)); (case hp => exact (Reps.one (show Kd.M Kd.string _ _ _ (a0.extract 4 a0.size) [.string (a0.extract 4 a0.size)] from rfl) (Reps.none _ _)))
  intro v144 w12 ho13 hb hg_ hnew_
  clear hg_ hnew_
  (first | rw [← Ny143.out] at ho13 | (simp only [Int.reduceToNat] at ho13; rw [← Ny143.out] at ho13))
  have n0_ := Aside0.mk (Kd.R_lower ho13 (bsz bl_))
  have n1_ := Aside0.mk (kbl (g := gb142) (o := .cells #[.int .i64 0, .int .u8 0, .string (⟨#[]⟩ : ByteArray)] 41 (0, 0)) bk_ hb)
  have n2_ := Aside0.mk (bsp bl_ hb)
  clear BK142
  clear HB
  have HO145 := n0_
  have BK142 := n1_
  have HB := n2_
  clear n0_ n1_ n2_
  clear hb ho13
  obtain ⟨Ao14, co14, eo14⟩ := Kd.R_slice HO145.out
  (first | subst eo14 | (injection eo14 with f1_ f2_ f3_; have f4_ := f1_.symm; have f5_ := f3_.symm; clear f1_ f2_ f3_; subst f4_; subst f5_))
  refine hK.out _ _ trivial (fun hHeld => ?_)
  clear hK K
  refine norm_ (a' := ?_) ?_ ?_
  rotate_left
  · show Act.put _ (some 14) _ = _
    simp only [Act.put, List.setIfInBounds_toArray, List.set_cons_zero, List.set_cons_succ, i64_w, i32_w]
    rfl
  refine one_ (i := 5) (N := some 15) #[true,true,true,true,true,true,false,false] rfl rfl (one_of HT_.out (by kernel_rfl)) (by decide) (fun K hK => ?_)
  refine goes_ Try.func53 (by kernel_rfl) rfl #[.slice Ao14 y143.length co14] (by rfl) rfl rfl (by (try simp only [List.map_toArray, List.map_cons, List.map_nil]); first | done | rfl | (simp only [List.length_drop, List.length_take]; rfl) | (simp only [Act.eval, Array.getD_eq_getD_getElem?, Option.getD_some, *]; done) | (simp only [Array.mk.injEq, List.cons.injEq, Value.int.injEq, true_and, and_true]; first | omega | (simp [IntKind.wrap, IntKind.bits, IntKind.signed]; omega))) ?_
  with_reducible refine (crc_Of.calls k _ _ y143 t146 _ ?side1 ?side2 A8.out).mono ?_
  (case side1 => repeat (first | exact (Kd.R_reads' HO145.out).2.2 | (with_reducible refine Kd.C_alloc ?_ _) | (with_reducible refine Kd.C_drewN ?_ _) | (with_reducible refine Kd.C_drew ?_)))
  (case side2 => exact (Kd.R_reads' HO145.out).2.1)
  rintro e w15 ⟨rfl, hb⟩
  refine ⟨_, rfl, ?_⟩
  have n0_ := Aside0.mk (Kd.R_below (by (with_reducible repeat (first | apply Kd.R_alloc | apply Kd.R_drewN | apply Kd.R_drew)); exact HO145.out) hb)
  have n1_ := Aside0.mk (kbl (g := gb142) (o := .cells #[.int .i64 0, .int .u8 0, .string (⟨#[]⟩ : ByteArray)] 41 (0, 0)) bk_ hb)
  have n2_ := Aside0.mk (bsp bl_ hb)
  clear HO145
  clear BK142
  clear HB
  have HO145 := n0_
  have BK142 := n1_
  have HB := n2_
  clear n0_ n1_ n2_
  (try clear hb)
  (try clear hb2)
  (try clear hk)
  (try clear hi)
  refine hK.out _ _ trivial (fun hHeld => ?_)
  clear hK K
  refine norm_ (a' := ?_) ?_ ?_
  rotate_left
  · show Act.put _ (some 15) _ = _
    simp only [Act.put, List.setIfInBounds_toArray, List.set_cons_zero, List.set_cons_succ, i64_w, i32_w]
    rfl
  refine one_ (i := 6) (N := some 16) #[true,true,true,true,true,true,true,false] rfl rfl (one_of HT_.out (by kernel_rfl)) (by decide) (fun K hK => ?_)
  refine goes_ Try.func52 (by kernel_rfl) rfl #[.int .u32 t146] (by rfl) rfl rfl (by (try simp only [List.map_toArray, List.map_cons, List.map_nil]); first | done | rfl | (simp only [List.length_drop, List.length_take]; rfl) | (simp only [Act.eval, Array.getD_eq_getD_getElem?, Option.getD_some, *]; done) | (simp only [Array.mk.injEq, List.cons.injEq, Value.int.injEq, true_and, and_true]; first | omega | (simp [IntKind.wrap, IntKind.bits, IntKind.signed]; omega))) ?_
  with_reducible refine (crc_Bytes.calls t146 t147 _ A9.out).mono ?_
  rintro e w16 ⟨rfl, hb⟩
  refine ⟨_, rfl, ?_⟩
  have n0_ := Aside0.mk (Kd.R_below (by (with_reducible repeat (first | apply Kd.R_alloc | apply Kd.R_drewN | apply Kd.R_drew)); exact HO145.out) hb)
  have n1_ := Aside0.mk (kbl (g := gb142) (o := .cells #[.int .i64 0, .int .u8 0, .string (⟨#[]⟩ : ByteArray)] 41 (0, 0)) bk_ hb)
  have n2_ := Aside0.mk (bsp bl_ hb)
  clear HO145
  clear BK142
  clear HB
  have HO145 := n0_
  have BK142 := n1_
  have HB := n2_
  clear n0_ n1_ n2_
  (try clear hb)
  (try clear hb2)
  (try clear hk)
  (try clear hi)
  refine hK.out _ _ trivial (fun hHeld => ?_)
  clear hK K
  refine norm_ (a' := ?_) ?_ ?_
  rotate_left
  · show Act.put _ (some 16) _ = _
    simp only [Act.put, List.setIfInBounds_toArray, List.set_cons_zero, List.set_cons_succ, i64_w, i32_w]
    rfl
  refine pure_ (i := 7) (N := some 17) (v := ?_) (a' := ?_) (bA 8 255) rfl rfl (any_of HT_.out (by kernel_rfl)) (fun _ _ _ h => h) (Or.inl ⟨by rfl, ?_⟩) ?_ ?_
  rotate_left; (intro w'; go_simp; with_reducible rfl); rotate_left; (simp only [Act.put, List.setIfInBounds_toArray, List.set_cons_zero, List.set_cons_succ, i64_w, i32_w]; rfl)
  refine done_ (done_of HT_.out (by kernel_rfl)) ?_
  go_upto_if 17 with (fail)
  have H := HS10.out
  clear HS10
  by_cases c17 : (a0.extract 0 4).toList = t147.toList
  rotate_left
  · rw [if_neg c17] at H
    have c17b0 : ((a0.extract 0 4).toList == t147.toList) = false := beq_eq_false_iff_ne.mpr c17
    have c17b1 : ((a0.extract 0 4).toList != t147.toList) = true := bne_iff_ne.mpr c17
    (first | rw [c17b0] | (simp only [i64_w, i32_w]; rw [c17b0]) | skip)
    simp only [Option.some.injEq, Prod.mk.injEq] at H
    obtain ⟨rfl, rfl, rfl, rfl⟩ := H
    have hcz61 := bc3 BK142.out
    go_wp2
    refine bodyPost_ret (results_ct rfl _ _ gb142 41 #[.int .i64 0, .int .u8 0, .string (⟨#[]⟩ : ByteArray)] (0, 0) _ rfl bk_ Try.underlying41 rfl (by kernel_rfl)) rfl ?_
    exact ⟨er_, bl_⟩
  rw [if_pos c17] at H
  have c17b0 : ((a0.extract 0 4).toList == t147.toList) = true := beq_iff_eq.mpr c17
  have c17b1 : ((a0.extract 0 4).toList != t147.toList) = false := bne_eq_false_iff_eq.mpr c17
  clear c17
  (first | rw [c17b0] | (simp only [i64_w, i32_w]; rw [c17b0]) | skip)
  have c18b0 := eq_true (of_decide_eq_true (by first | (with_reducible assumption) | assumption) : 4 ≤ (a0.size : Int))
  replace H := Option.bind_eq_some_iff.mp H
  obtain ⟨⟨t148, t149⟩, A190, H⟩ := H
  replace H : ((codec_In_N.f t148 t149 1099511627776).bind fun bt151 => ((codec_In_N.f bt151.2.1 bt151.2.2 255).bind fun bt154 => ((codec_In_S.f bt154.2.1 bt154.2.2 44).bind fun bt157 => ((codec_In_Err.f bt157.2.1 bt157.2.2).bind fun bt161 => (if bt161.1 = 0 then (if bt151.1 < 1 then (some (0, 0, (⟨#[]⟩ : ByteArray), 2)) else ((stamp_Sector_Text.f k bt151.1 ((bt154.1) % 256) bt157.1).bind fun t164 => (if t164.toList = a0.toList then (some (bt151.1, (bt154.1) % 256, bt157.1, 0)) else (some (0, 0, (⟨#[]⟩ : ByteArray), 2))))) else ((codec_In_Err.f bt161.2.1 bt161.2.2).bind fun bt165 => (some (0, 0, (⟨#[]⟩ : ByteArray), bt165.1)))))))) = some (r1, r2, r3, r4) := H
  have A19 := Aside0.mk A190
  clear A190
  replace H := Option.bind_eq_some_iff.mp H
  obtain ⟨⟨t151, t152, t153⟩, A200, H⟩ := H
  replace H : ((codec_In_N.f t152 t153 255).bind fun bt154 => ((codec_In_S.f bt154.2.1 bt154.2.2 44).bind fun bt157 => ((codec_In_Err.f bt157.2.1 bt157.2.2).bind fun bt161 => (if bt161.1 = 0 then (if t151 < 1 then (some (0, 0, (⟨#[]⟩ : ByteArray), 2)) else ((stamp_Sector_Text.f k t151 ((bt154.1) % 256) bt157.1).bind fun t164 => (if t164.toList = a0.toList then (some (t151, (bt154.1) % 256, bt157.1, 0)) else (some (0, 0, (⟨#[]⟩ : ByteArray), 2))))) else ((codec_In_Err.f bt161.2.1 bt161.2.2).bind fun bt165 => (some (0, 0, (⟨#[]⟩ : ByteArray), bt165.1))))))) = some (r1, r2, r3, r4) := H
  have A20 := Aside0.mk A200
  clear A200
  replace H := Option.bind_eq_some_iff.mp H
  obtain ⟨⟨t154, t155, t156⟩, A210, H⟩ := H
  replace H : ((codec_In_S.f t155 t156 44).bind fun bt157 => ((codec_In_Err.f bt157.2.1 bt157.2.2).bind fun bt161 => (if bt161.1 = 0 then (if t151 < 1 then (some (0, 0, (⟨#[]⟩ : ByteArray), 2)) else ((stamp_Sector_Text.f k t151 ((t154) % 256) bt157.1).bind fun t164 => (if t164.toList = a0.toList then (some (t151, (t154) % 256, bt157.1, 0)) else (some (0, 0, (⟨#[]⟩ : ByteArray), 2))))) else ((codec_In_Err.f bt161.2.1 bt161.2.2).bind fun bt165 => (some (0, 0, (⟨#[]⟩ : ByteArray), bt165.1)))))) = some (r1, r2, r3, r4) := H
  have A21 := Aside0.mk A210
  clear A210
  replace H := Option.bind_eq_some_iff.mp H
  obtain ⟨⟨t157, t158, t159⟩, A220, H⟩ := H
  replace H : ((codec_In_Err.f t158 t159).bind fun bt161 => (if bt161.1 = 0 then (if t151 < 1 then (some (0, 0, (⟨#[]⟩ : ByteArray), 2)) else ((stamp_Sector_Text.f k t151 ((t154) % 256) t157).bind fun t164 => (if t164.toList = a0.toList then (some (t151, (t154) % 256, t157, 0)) else (some (0, 0, (⟨#[]⟩ : ByteArray), 2))))) else ((codec_In_Err.f bt161.2.1 bt161.2.2).bind fun bt165 => (some (0, 0, (⟨#[]⟩ : ByteArray), bt165.1))))) = some (r1, r2, r3, r4) := H
  have A22 := Aside0.mk A220
  clear A220
  replace H := Option.bind_eq_some_iff.mp H
  obtain ⟨⟨t161, t162, t163⟩, A230, H⟩ := H
  replace H : (if t161 = 0 then (if t151 < 1 then (some (0, 0, (⟨#[]⟩ : ByteArray), 2)) else ((stamp_Sector_Text.f k t151 ((t154) % 256) t157).bind fun t164 => (if t164.toList = a0.toList then (some (t151, (t154) % 256, t157, 0)) else (some (0, 0, (⟨#[]⟩ : ByteArray), 2))))) else ((codec_In_Err.f t162 t163).bind fun bt165 => (some (0, 0, (⟨#[]⟩ : ByteArray), bt165.1)))) = some (r1, r2, r3, r4) := H
  have A23 := Aside0.mk A230
  clear A230
  have HS24 := Aside0.mk H
  clear H
  go_upto_if 32 with (first | ((with_reducible refine gcl (f := 61) rfl ?_); refine gl_ (some 21) rfl rfl Try.func61 (by kernel_rfl) rfl #[.string (a0.extract 4 a0.size)] rfl ar_ ?_; (with_reducible refine (codec_Read.calls (a0.extract 4 a0.size) t148 t149 w _ ?side1 A19.out).mono ?_); (case side1 => repeat (first | (with_reducible first | exact HB.out | apply bal | apply bdn | apply bd1 | refine bst ?_ GE142.out) | exact HB.out)); rintro e w25 ⟨g150, rfl, hi, hb, hb2⟩; refine ⟨_, rfl, ?_⟩; have n0_ := Aside0.mk (Kd.R_below (by (with_reducible repeat (first | apply Kd.R_alloc | apply Kd.R_drewN | apply Kd.R_drew)); exact HO145.out) hb2); have n1_ := Aside0.mk (kbl (g := gb142) (o := .cells #[.int .i64 0, .int .u8 0, .string (⟨#[]⟩ : ByteArray)] 41 (0, 0)) bk_ hb2); have n2_ := Aside0.mk (hb); have n3_ := Aside0.mk (hi); have n4_ := Aside0.mk (IsS133.ne_blk hi (kbl (g := gb142) (o := .cells #[.int .i64 0, .int .u8 0, .string (⟨#[]⟩ : ByteArray)] 41 (0, 0)) bk_ hb2) (by decide)); have n5_ := Aside0.mk (Ne.symm (IsS133.ne_blk hi (kbl (g := gb142) (o := .cells #[.int .i64 0, .int .u8 0, .string (⟨#[]⟩ : ByteArray)] 41 (0, 0)) bk_ hb2) (by decide))); clear HO145; clear BK142; clear HB; have HO145 := n0_; have BK142 := n1_; have HB := n2_; have HI150 := n3_; have NB150_142 := n4_; have NB142_150 := n5_; clear n0_ n1_ n2_ n3_ n4_ n5_; (try clear hb); (try clear hb2); (try clear hk); (try clear hi)) | ((with_reducible refine gcl (f := 62) rfl ?_); refine gl_ (some 23) rfl rfl Try.func62 (by kernel_rfl) rfl #[.pointer (some ⟨g150, 0, none⟩), .int .i64 1099511627776] rfl ar_ ?_; (with_reducible refine (codec_In_N.calls g150 t148 t149 1099511627776 t151 t152 t153 w _ ?side1 ?side2 A20.out).mono ?_); (case side1 => repeat (first | (with_reducible first | exact HI150.out | apply IsS133.alloc | apply IsS133.drewN | apply IsS133.drew | apply IsS133.set_0 | apply IsS133.set_1 | refine IsS133.far ?_ NB150_142.out _) | exact HI150.out)); (case side2 => repeat (first | (with_reducible first | exact HB.out | apply bal | apply bdn | apply bd1 | refine bst ?_ (IsS133.ge HI150.out) | refine bst ?_ GE142.out) | exact HB.out)); rintro e w26 ⟨rfl, hi, hb, hk⟩; refine ⟨_, rfl, ?_⟩; have n0_ := Aside0.mk (KeepBut.blk hk (g' := gb142) (o := .cells #[.int .i64 0, .int .u8 0, .string (⟨#[]⟩ : ByteArray)] 41 (0, 0)) bk_ NB142_150.out (by simp)); have n1_ := Aside0.mk (Kd.R_mono (Kd.R_keep (IsS133.apart (show IsS133 w _ g150 t148 t149 from by repeat (first | (with_reducible first | exact HI150.out | apply IsS133.alloc | apply IsS133.drewN | apply IsS133.drew | apply IsS133.set_0 | apply IsS133.set_1 | refine IsS133.far ?_ NB150_142.out _) | exact HI150.out)) (by (with_reducible repeat (first | apply Kd.R_alloc | apply Kd.R_drewN | apply Kd.R_drew)); exact HO145.out) (by decide)) hk (fun _ h => h.2)) (fun _ h => h.1)); have n2_ := Aside0.mk (hb); have n3_ := Aside0.mk (hi); clear BK142; clear HO145; clear HB; clear HI150; have BK142 := n0_; have HO145 := n1_; have HB := n2_; have HI150 := n3_; clear n0_ n1_ n2_ n3_; (try clear hb); (try clear hb2); (try clear hk); (try clear hi)) | ((with_reducible refine gcl (f := 62) rfl ?_); refine gl_ (some 25) rfl rfl Try.func62 (by kernel_rfl) rfl #[.pointer (some ⟨g150, 0, none⟩), .int .i64 255] rfl ar_ ?_; (with_reducible refine (codec_In_N.calls g150 t152 t153 255 t154 t155 t156 w _ ?side1 ?side2 A21.out).mono ?_); (case side1 => repeat (first | (with_reducible first | exact HI150.out | apply IsS133.alloc | apply IsS133.drewN | apply IsS133.drew | apply IsS133.set_0 | apply IsS133.set_1 | refine IsS133.far ?_ NB150_142.out _) | exact HI150.out)); (case side2 => repeat (first | (with_reducible first | exact HB.out | apply bal | apply bdn | apply bd1 | refine bst ?_ (IsS133.ge HI150.out) | refine bst ?_ GE142.out) | exact HB.out)); rintro e w27 ⟨rfl, hi, hb, hk⟩; refine ⟨_, rfl, ?_⟩; have n0_ := Aside0.mk (KeepBut.blk hk (g' := gb142) (o := .cells #[.int .i64 0, .int .u8 0, .string (⟨#[]⟩ : ByteArray)] 41 (0, 0)) bk_ NB142_150.out (by simp)); have n1_ := Aside0.mk (Kd.R_mono (Kd.R_keep (IsS133.apart (show IsS133 w _ g150 t152 t153 from by repeat (first | (with_reducible first | exact HI150.out | apply IsS133.alloc | apply IsS133.drewN | apply IsS133.drew | apply IsS133.set_0 | apply IsS133.set_1 | refine IsS133.far ?_ NB150_142.out _) | exact HI150.out)) (by (with_reducible repeat (first | apply Kd.R_alloc | apply Kd.R_drewN | apply Kd.R_drew)); exact HO145.out) (by decide)) hk (fun _ h => h.2)) (fun _ h => h.1)); have n2_ := Aside0.mk (hb); have n3_ := Aside0.mk (hi); clear BK142; clear HO145; clear HB; clear HI150; have BK142 := n0_; have HO145 := n1_; have HB := n2_; have HI150 := n3_; clear n0_ n1_ n2_ n3_; (try clear hb); (try clear hb2); (try clear hk); (try clear hi)) | ((with_reducible refine gcl (f := 63) rfl ?_); refine gl_ (some 28) rfl rfl Try.func63 (by kernel_rfl) rfl #[.pointer (some ⟨g150, 0, none⟩), .int .i64 44] rfl ar_ ?_; (with_reducible refine (codec_In_S.calls g150 t155 t156 44 t157 t158 t159 w _ ?side1 ?side2 A22.out).mono ?_); (case side1 => repeat (first | (with_reducible first | exact HI150.out | apply IsS133.alloc | apply IsS133.drewN | apply IsS133.drew | apply IsS133.set_0 | apply IsS133.set_1 | refine IsS133.far ?_ NB150_142.out _) | exact HI150.out)); (case side2 => repeat (first | (with_reducible first | exact HB.out | apply bal | apply bdn | apply bd1 | refine bst ?_ (IsS133.ge HI150.out) | refine bst ?_ GE142.out) | exact HB.out)); rintro e w28 ⟨rfl, hi, hb, hk⟩; refine ⟨_, rfl, ?_⟩; have n0_ := Aside0.mk (KeepBut.blk hk (g' := gb142) (o := .cells #[.int .i64 0, .int .u8 0, .string (⟨#[]⟩ : ByteArray)] 41 (0, 0)) bk_ NB142_150.out (by simp)); have n1_ := Aside0.mk (Kd.R_mono (Kd.R_keep (IsS133.apart (show IsS133 w _ g150 t155 t156 from by repeat (first | (with_reducible first | exact HI150.out | apply IsS133.alloc | apply IsS133.drewN | apply IsS133.drew | apply IsS133.set_0 | apply IsS133.set_1 | refine IsS133.far ?_ NB150_142.out _) | exact HI150.out)) (by (with_reducible repeat (first | apply Kd.R_alloc | apply Kd.R_drewN | apply Kd.R_drew)); exact HO145.out) (by decide)) hk (fun _ h => h.2)) (fun _ h => h.1)); have n2_ := Aside0.mk (hb); have n3_ := Aside0.mk (hi); clear BK142; clear HO145; clear HB; clear HI150; have BK142 := n0_; have HO145 := n1_; have HB := n2_; have HI150 := n3_; clear n0_ n1_ n2_ n3_; (try clear hb); (try clear hb2); (try clear hk); (try clear hi)) | ((with_reducible refine gds (N := 5) rfl ?_); refine bev ?hg (N := 5) ?hd (cs := #[.int .i64 0, .int .u8 0, .string (⟨#[]⟩ : ByteArray)]) (t := 41) ?hr ?_; (case hd => rfl); (case hg => rfl); (case hr => first | (go_simp; done) | (go_simp; rfl)); intro gb160 hg w29 hbox hb; have n0_ := Aside0.mk (Kd.R_below (by (with_reducible repeat (first | apply Kd.R_alloc | apply Kd.R_drewN | apply Kd.R_drew)); exact HO145.out) hb); have n1_ := Aside0.mk (kbl (g := gb142) (o := .cells #[.int .i64 0, .int .u8 0, .string (⟨#[]⟩ : ByteArray)] 41 (0, 0)) bk_ hb); have n2_ := Aside0.mk (IsS133.below (by repeat (first | (with_reducible first | exact HI150.out | apply IsS133.alloc | apply IsS133.drewN | apply IsS133.drew | apply IsS133.set_0 | apply IsS133.set_1 | refine IsS133.far ?_ NB150_142.out _) | exact HI150.out)) hb); have n3_ := Aside0.mk (bsp (by repeat (first | (with_reducible first | exact HB.out | apply bal | apply bdn | apply bd1 | refine bst ?_ (IsS133.ge HI150.out) | refine bst ?_ GE142.out) | exact HB.out)) hb); have n4_ := Aside0.mk (hbox); have n5_ := Aside0.mk ((by rw [hg]; exact (bsz (by repeat (first | (with_reducible first | exact HB.out | apply bal | apply bdn | apply bd1 | refine bst ?_ (IsS133.ge HI150.out) | refine bst ?_ GE142.out) | exact HB.out))) : w.heap.size ≤ gb160)); have n6_ := Aside0.mk ((by rw [hg]; exact (bsz (by repeat (first | (with_reducible first | exact HB.out | apply bal | apply bdn | apply bd1 | refine bst ?_ (IsS133.ge HI150.out) | refine bst ?_ GE142.out) | exact HB.out))) : w.heap.size ≤ gb160)); have n7_ := Aside0.mk ((by rw [hg]; exact Nat.ne_of_lt (blk_lt (g := gb142) (o := .cells #[.int .i64 0, .int .u8 0, .string (⟨#[]⟩ : ByteArray)] 41 (0, 0)) bk_) : gb142 ≠ gb160)); have n8_ := Aside0.mk ((by rw [hg]; exact Nat.ne_of_gt (blk_lt (g := gb142) (o := .cells #[.int .i64 0, .int .u8 0, .string (⟨#[]⟩ : ByteArray)] 41 (0, 0)) bk_) : gb160 ≠ gb142)); have n9_ := Aside0.mk ((by rw [hg]; exact Nat.ne_of_lt (IsS133.lt (show IsS133 w _ g150 t158 t159 from by repeat (first | (with_reducible first | exact HI150.out | apply IsS133.alloc | apply IsS133.drewN | apply IsS133.drew | apply IsS133.set_0 | apply IsS133.set_1 | refine IsS133.far ?_ NB150_142.out _) | exact HI150.out))) : g150 ≠ gb160)); have n10_ := Aside0.mk ((by rw [hg]; exact Nat.ne_of_gt (IsS133.lt (show IsS133 w _ g150 t158 t159 from by repeat (first | (with_reducible first | exact HI150.out | apply IsS133.alloc | apply IsS133.drewN | apply IsS133.drew | apply IsS133.set_0 | apply IsS133.set_1 | refine IsS133.far ?_ NB150_142.out _) | exact HI150.out))) : gb160 ≠ g150)); clear HO145; clear BK142; clear HI150; clear HB; have HO145 := n0_; have BK142 := n1_; have HI150 := n2_; have HB := n3_; have BK160 := n4_; have GW160 := n5_; have GE160 := n6_; have NB142_160 := n7_; have NB160_142 := n8_; have NB150_160 := n9_; have NB160_150 := n10_; clear n0_ n1_ n2_ n3_ n4_ n5_ n6_ n7_ n8_ n9_ n10_; clear hb hbox hg; have hnb30 := NB160_142.out; have hnc30 := NB142_160.out; have hnb31 := NB160_150.out; have hnc31 := NB150_160.out; have hcz32 := bc3 BK160.out) | ((with_reducible refine gcl (f := 64) rfl ?_); refine gl_ (some 31) rfl rfl Try.func64 (by kernel_rfl) rfl #[.pointer (some ⟨g150, 0, none⟩)] rfl ar_ ?_; (with_reducible refine (codec_In_Err.calls g150 t158 t159 t161 t162 t163 w _ ?side1 ?side2 A23.out).mono ?_); (case side1 => repeat (first | (with_reducible first | exact HI150.out | apply IsS133.alloc | apply IsS133.drewN | apply IsS133.drew | apply IsS133.set_0 | apply IsS133.set_1 | refine IsS133.far ?_ NB150_142.out _ | refine IsS133.far ?_ NB150_160.out _) | exact HI150.out)); (case side2 => repeat (first | (with_reducible first | exact HB.out | apply bal | apply bdn | apply bd1 | refine bst ?_ (IsS133.ge HI150.out) | refine bst ?_ GE142.out | refine bst ?_ GE160.out) | exact HB.out)); rintro e w33 ⟨rfl, hi, hb, hk⟩; refine ⟨_, rfl, ?_⟩; have n0_ := Aside0.mk (KeepBut.blk hk (g' := gb142) (o := .cells #[.int .i64 0, .int .u8 0, .string (⟨#[]⟩ : ByteArray)] 41 (0, 0)) bk_ NB142_150.out (by simp)); have n1_ := Aside0.mk (Kd.R_mono (Kd.R_keep (IsS133.apart (show IsS133 w _ g150 t158 t159 from by repeat (first | (with_reducible first | exact HI150.out | apply IsS133.alloc | apply IsS133.drewN | apply IsS133.drew | apply IsS133.set_0 | apply IsS133.set_1 | refine IsS133.far ?_ NB150_142.out _ | refine IsS133.far ?_ NB150_160.out _) | exact HI150.out)) (by (with_reducible repeat (first | apply Kd.R_alloc | apply Kd.R_drewN | apply Kd.R_drew)); exact (Kd.R_mono (Kd.R_far (p := ⟨gb160, 2, none⟩) (Kd.R_far (p := ⟨gb160, 1, none⟩) (Kd.R_far (p := ⟨gb160, 0, none⟩) (Kd.R_types HO145.out BK160.out (by decide)) (fun _ hk => hk.2) (.int .i64 t151)) (fun _ hk => hk.2) (.int .u8 ((t154) % 256))) (fun _ hk => hk.2) (.string t157)) (fun _ h_ => h_.1))) (by decide)) hk (fun _ h => h.2)) (fun _ h => h.1)); have n2_ := Aside0.mk (KeepBut.blk hk (g' := gb160) (o := .cells #[.int .i64 t151, .int .u8 ((t154) % 256), .string t157] 41 (0, 0)) bk_ NB160_150.out (by simp)); have n3_ := Aside0.mk (hb); have n4_ := Aside0.mk (hi); clear BK142; clear HO145; clear BK160; clear HB; clear HI150; have BK142 := n0_; have HO145 := n1_; have BK160 := n2_; have HB := n3_; have HI150 := n4_; clear n0_ n1_ n2_ n3_ n4_; (try clear hb); (try clear hb2); (try clear hk); (try clear hi)))
  (try simp only [Act.put, List.setIfInBounds_toArray, List.set_cons_zero, List.set_cons_succ])
  have H := HS24.out
  clear HS24
  by_cases c34 : t161 = 0
  rotate_left
  · rw [if_neg c34] at H
    have c34b0 : (t161 == 0) = false := beq_eq_false_iff_ne.mpr c34
    have c34b1 : (t161 != 0) = true := bne_iff_ne.mpr c34
    (first | rw [c34b0] | (simp only [i64_w, i32_w]; rw [c34b0]) | skip)
    replace H := Option.bind_eq_some_iff.mp H
    obtain ⟨⟨t165, t166, t167⟩, A560, H⟩ := H
    replace H : (some (0, 0, (⟨#[]⟩ : ByteArray), t165)) = some (r1, r2, r3, r4) := H
    have A56 := Aside0.mk A560
    clear A560
    simp only [Option.some.injEq, Prod.mk.injEq] at H
    obtain ⟨rfl, rfl, rfl, rfl⟩ := H
    go_wp2_with (first | ((with_reducible refine gcl (f := 64) rfl ?_); refine gl_ (some 35) rfl rfl Try.func64 (by kernel_rfl) rfl #[.pointer (some ⟨g150, 0, none⟩)] rfl ar_ ?_; (with_reducible refine (codec_In_Err.calls g150 t162 t163 t165 t166 t167 w _ ?side1 ?side2 A56.out).mono ?_); (case side1 => repeat (first | (with_reducible first | exact HI150.out | apply IsS133.alloc | apply IsS133.drewN | apply IsS133.drew | apply IsS133.set_0 | apply IsS133.set_1 | refine IsS133.far ?_ NB150_142.out _ | refine IsS133.far ?_ NB150_160.out _) | exact HI150.out)); (case side2 => repeat (first | (with_reducible first | exact HB.out | apply bal | apply bdn | apply bd1 | refine bst ?_ (IsS133.ge HI150.out) | refine bst ?_ GE142.out | refine bst ?_ GE160.out) | exact HB.out)); rintro e w57 ⟨rfl, hi, hb, hk⟩; refine ⟨_, rfl, ?_⟩; have n0_ := Aside0.mk (KeepBut.blk hk (g' := gb142) (o := .cells #[.int .i64 0, .int .u8 0, .string (⟨#[]⟩ : ByteArray)] 41 (0, 0)) bk_ NB142_150.out (by simp)); have n1_ := Aside0.mk (Kd.R_mono (Kd.R_keep (IsS133.apart (show IsS133 w _ g150 t162 t163 from by repeat (first | (with_reducible first | exact HI150.out | apply IsS133.alloc | apply IsS133.drewN | apply IsS133.drew | apply IsS133.set_0 | apply IsS133.set_1 | refine IsS133.far ?_ NB150_142.out _ | refine IsS133.far ?_ NB150_160.out _) | exact HI150.out)) (by (with_reducible repeat (first | apply Kd.R_alloc | apply Kd.R_drewN | apply Kd.R_drew)); exact HO145.out) (by decide)) hk (fun _ h => h.2)) (fun _ h => h.1)); have n2_ := Aside0.mk (KeepBut.blk hk (g' := gb160) (o := .cells #[.int .i64 t151, .int .u8 ((t154) % 256), .string t157] 41 (0, 0)) bk_ NB160_150.out (by simp)); have n3_ := Aside0.mk (hb); have n4_ := Aside0.mk (hi); clear BK142; clear HO145; clear BK160; clear HB; clear HI150; have BK142 := n0_; have HO145 := n1_; have BK160 := n2_; have HB := n3_; have HI150 := n4_; clear n0_ n1_ n2_ n3_ n4_; (try clear hb); (try clear hb2); (try clear hk); (try clear hi); have hnb58 := NB142_160.out; have hnc58 := NB160_142.out; have hnb59 := NB142_150.out; have hnc59 := NB150_142.out; have hcz60 := bc3 BK142.out))
    refine bodyPost_ret (results_ct rfl _ _ gb142 41 #[.int .i64 0, .int .u8 0, .string (⟨#[]⟩ : ByteArray)] (0, 0) _ rfl bk_ Try.underlying41 rfl (by kernel_rfl)) rfl ?_
    exact ⟨er_, by repeat (first | (with_reducible first | exact HB.out | apply bal | apply bdn | apply bd1 | refine bst ?_ (IsS133.ge HI150.out) | refine bst ?_ GE142.out | refine bst ?_ GE160.out) | exact HB.out)⟩
  rw [if_pos c34] at H
  have c34b0 : (t161 == 0) = true := beq_iff_eq.mpr c34
  have c34b1 : (t161 != 0) = false := bne_eq_false_iff_eq.mpr c34
  clear c34
  (first | rw [c34b0] | (simp only [i64_w, i32_w]; rw [c34b0]) | skip)
  by_cases c35 : t151 < 1
  · rw [if_pos c35] at H
    have c35b0 : decide (t151 < 1) = true := decide_eq_true c35
    clear c35
    simp only [Option.some.injEq, Prod.mk.injEq] at H
    obtain ⟨rfl, rfl, rfl, rfl⟩ := H
    have hnb36 := NB160_142.out
    have hnc36 := NB142_160.out
    have hnb37 := NB160_150.out
    have hnc37 := NB150_160.out
    have hcz38 := bc3 BK160.out
    have hnb39 := NB142_150.out
    have hnc39 := NB150_142.out
    have hcz40 := bc3 BK142.out
    go_wp2
    refine bodyPost_ret (results_ct rfl _ _ gb142 41 #[.int .i64 0, .int .u8 0, .string (⟨#[]⟩ : ByteArray)] (0, 0) _ rfl bk_ Try.underlying41 rfl (by kernel_rfl)) rfl ?_
    exact ⟨er_, by repeat (first | (with_reducible first | exact HB.out | apply bal | apply bdn | apply bd1 | refine bst ?_ (IsS133.ge HI150.out) | refine bst ?_ GE142.out | refine bst ?_ GE160.out) | exact HB.out)⟩
  rw [if_neg c35] at H
  have c35b0 : decide (t151 < 1) = false := decide_eq_false c35
  clear c35
  replace H := Option.bind_eq_some_iff.mp H
  obtain ⟨t164, A410, H⟩ := H
  replace H : (if t164.toList = a0.toList then (some (t151, (t154) % 256, t157, 0)) else (some (0, 0, (⟨#[]⟩ : ByteArray), 2))) = some (r1, r2, r3, r4) := H
  have A41 := Aside0.mk A410
  clear A410
  have HS42 := Aside0.mk H
  clear H
  have hnb43 := NB160_142.out
  have hnc43 := NB142_160.out
  have hnb44 := NB160_150.out
  have hnc44 := NB150_160.out
  have hcz45 := bc3 BK160.out
  go_upto_if 44 with (first | (go_at_call 42; (with_reducible refine (stamp_Sector_Text.calls k t151 ((t154) % 256) t157 t164 _ A41.out).mono ?_); rintro e w46 ⟨rfl, hb⟩; have n0_ := Aside0.mk (Kd.R_below (by (with_reducible repeat (first | apply Kd.R_alloc | apply Kd.R_drewN | apply Kd.R_drew)); exact HO145.out) hb); have n1_ := Aside0.mk (kbl (g := gb142) (o := .cells #[.int .i64 0, .int .u8 0, .string (⟨#[]⟩ : ByteArray)] 41 (0, 0)) bk_ hb); have n2_ := Aside0.mk (IsS133.below (by repeat (first | (with_reducible first | exact HI150.out | apply IsS133.alloc | apply IsS133.drewN | apply IsS133.drew | apply IsS133.set_0 | apply IsS133.set_1 | refine IsS133.far ?_ NB150_142.out _ | refine IsS133.far ?_ NB150_160.out _) | exact HI150.out)) hb); have n3_ := Aside0.mk (kbl (g := gb160) (o := .cells #[.int .i64 t151, .int .u8 ((t154) % 256), .string t157] 41 (0, 0)) bk_ hb); have n4_ := Aside0.mk (bsp (by repeat (first | (with_reducible first | exact HB.out | apply bal | apply bdn | apply bd1 | refine bst ?_ (IsS133.ge HI150.out) | refine bst ?_ GE142.out | refine bst ?_ GE160.out) | exact HB.out)) hb); clear HO145; clear BK142; clear HI150; clear BK160; clear HB; have HO145 := n0_; have BK142 := n1_; have HI150 := n2_; have BK160 := n3_; have HB := n4_; clear n0_ n1_ n2_ n3_ n4_; (try clear hb); (try clear hb2); (try clear hk); (try clear hi)))
  (try simp only [Act.put, List.setIfInBounds_toArray, List.set_cons_zero, List.set_cons_succ])
  have H := HS42.out
  clear HS42
  by_cases c47 : t164.toList = a0.toList
  rotate_left
  · rw [if_neg c47] at H
    have c47b0 : (t164.toList == a0.toList) = false := beq_eq_false_iff_ne.mpr c47
    have c47b1 : (t164.toList != a0.toList) = true := bne_iff_ne.mpr c47
    (first | rw [c47b0] | (simp only [i64_w, i32_w]; rw [c47b0]) | skip)
    simp only [Option.some.injEq, Prod.mk.injEq] at H
    obtain ⟨rfl, rfl, rfl, rfl⟩ := H
    have hnb53 := NB142_160.out
    have hnc53 := NB160_142.out
    have hnb54 := NB142_150.out
    have hnc54 := NB150_142.out
    have hcz55 := bc3 BK142.out
    go_wp2
    refine bodyPost_ret (results_ct rfl _ _ gb142 41 #[.int .i64 0, .int .u8 0, .string (⟨#[]⟩ : ByteArray)] (0, 0) _ rfl bk_ Try.underlying41 rfl (by kernel_rfl)) rfl ?_
    exact ⟨er_, by repeat (first | (with_reducible first | exact HB.out | apply bal | apply bdn | apply bd1 | refine bst ?_ (IsS133.ge HI150.out) | refine bst ?_ GE142.out | refine bst ?_ GE160.out) | exact HB.out)⟩
  rw [if_pos c47] at H
  have c47b0 : (t164.toList == a0.toList) = true := beq_iff_eq.mpr c47
  have c47b1 : (t164.toList != a0.toList) = false := bne_eq_false_iff_eq.mpr c47
  clear c47
  (first | rw [c47b0] | (simp only [i64_w, i32_w]; rw [c47b0]) | skip)
  simp only [Option.some.injEq, Prod.mk.injEq] at H
  obtain ⟨rfl, rfl, rfl, rfl⟩ := H
  have hnb48 := NB160_142.out
  have hnc48 := NB142_160.out
  have hnb49 := NB160_150.out
  have hnc49 := NB150_160.out
  have hcz50 := bc3 BK160.out
  have hnb51 := NB142_150.out
  have hnc51 := NB150_142.out
  have hcz52 := bc3 BK142.out
  go_wp2
  refine bodyPost_ret (results_ct rfl _ _ gb142 41 #[.int .i64 t151, .int .u8 ((t154) % 256), .string t157] (0, 0) _ rfl bk_ Try.underlying41 rfl (by kernel_rfl)) rfl ?_
  exact ⟨er_, by repeat (first | (with_reducible first | exact HB.out | apply bal | apply bdn | apply bd1 | refine bst ?_ (IsS133.ge HI150.out) | refine bst ?_ GE142.out | refine bst ?_ GE160.out) | exact HB.out)⟩
def stamp_Sector_Check.j0 : Nat → Bool → Int → Int → ByteArray → Option (Int)
  | 0, _, _, _, _ => none
  | k + 1, x3, x169000, x169001, x169002 => if x3 = true then (some 18) else (if (x169002.size : Int) > 44 then (some 3) else (some 0))
def stamp_Sector_Check.f (k : Nat) (a0_0 : Int) (a0_1 : Int) (a0_2 : ByteArray) : Option (Int) := if a0_0 < 1 then (stamp_Sector_Check.j0 k true a0_0 a0_1 a0_2) else (stamp_Sector_Check.j0 k (decide (a0_0 > 1099511627776)) a0_0 a0_1 a0_2)
set_option maxHeartbeats 2000000 in
set_option maxRecDepth 100000 in
theorem stamp_Sector_Check.calls (k : Nat) (a0_0 : Int) (a0_1 : Int) (a0_2 : ByteArray) (r : Int) (w : World) (h : stamp_Sector_Check.f k a0_0 a0_1 a0_2 = some r) :
    Calls Try.prog 40 #[.agg #[.int .i64 a0_0, .int .u8 a0_1, .string a0_2]] w fun e w' => e = .returned (.int .i64 r) ∧ Below w.heap.size w w' := by
  have hu41 := Try.underlying41
  have HB := Aside0.mk (Below.refl w.heap.size w)
  have H : (if a0_0 < 1 then (stamp_Sector_Check.j0 k true a0_0 a0_1 a0_2) else (stamp_Sector_Check.j0 k (decide (a0_0 > 1099511627776)) a0_0 a0_1 a0_2)) = some r := h
  clear h
  have HC2 := Aside0.mk H
  clear H
  go_enter Try.func40, Try.ntmps40
  go_upto_region 1 with (first | ((with_reducible refine gds (N := 1) rfl ?_); refine bev ?hg (N := 1) ?hd (cs := #[.int .i64 a0_0, .int .u8 a0_1, .string a0_2]) (t := 41) ?hr ?_; (case hd => rfl); (case hg => rfl); (case hr => first | (go_simp; done) | (go_simp; rfl)); intro gb168 hg w3 hbox hb; have n0_ := Aside0.mk (bsp bl_ hb); have n1_ := Aside0.mk (hbox); have n2_ := Aside0.mk ((by rw [hg]; exact bsz bl_ : w.heap.size ≤ gb168)); have n3_ := Aside0.mk ((by rw [hg]; exact bsz bl_ : w.heap.size ≤ gb168)); clear HB; have HB := n0_; have BK168 := n1_; have GW168 := n2_; have GE168 := n3_; clear n0_ n1_ n2_ n3_; clear hb hbox hg))
  (try simp only [Act.put, List.setIfInBounds_toArray, List.set_cons_zero, List.set_cons_succ])
  go_cut [3] (fun v3 wc => ∃ (kq : Nat) (x3_1 : Bool), v3 = .bool x3_1 ∧ Aside0 (stamp_Sector_Check.j0 kq x3_1 a0_0 a0_1 a0_2 = some r) ∧ Aside0 (kq ≤ k) ∧ Aside0 (wc.heap[gb168]? = some (.cells #[.int .i64 a0_0, .int .u8 a0_1, .string a0_2] 41 (0, 0))) ∧ Aside0 (Below w.heap.size w wc))
  case first =>
    have H := HC2.out
    clear HC2
    by_cases c4 : a0_0 < 1
    · rw [if_pos c4] at H
      have c4b0 : decide (a0_0 < 1) = true := decide_eq_true c4
      clear c4
      (first | rw [c4b0] | (simp only [i64_w, i32_w]; rw [c4b0]) | skip)
      have H' := Aside0.mk H
      clear H
      have hcz5 := bc3 BK168.out
      go_wp2
      go_meet
      case rel => exact ⟨_, (true), (by first | rfl | (simp; done) | (simp [*]; done) | exact emp1_ _ | exact (emp1_ _).symm | exact emp2_ _ | exact (emp2_ _).symm), H', ⟨by first | omega | exact Nat.le_refl _⟩, ⟨bk_⟩, ⟨bl_⟩⟩
    rw [if_neg c4] at H
    have c4b0 : decide (a0_0 < 1) = false := decide_eq_false c4
    clear c4
    (first | rw [c4b0] | (simp only [i64_w, i32_w]; rw [c4b0]) | skip)
    have H' := Aside0.mk H
    clear H
    have hcz6 := bc3 BK168.out
    go_wp2
    go_meet
    case rel => exact ⟨_, (decide (a0_0 > 1099511627776)), (by first | rfl | (simp; done) | (simp [*]; done) | exact emp1_ _ | exact (emp1_ _).symm | exact emp2_ _ | exact (emp2_ _).symm), H', ⟨by first | omega | exact Nat.le_refl _⟩, ⟨bk_⟩, ⟨bl_⟩⟩
  clear HC2
  try clear p2
  try clear c4
  try clear c4b0
  try clear hcz5
  try clear hcz6
  try clear hcz5
  try clear hcz6
  obtain ⟨kq, x3_1, rfl, HA, HJ1, BK168, HB⟩ := hcut
  cases kq with
  | zero => exact absurd HA.out (by simp [stamp_Sector_Check.j0])
  | succ kj1 =>
    have H := HA.out
    clear HA
    simp only [stamp_Sector_Check.j0] at H
    by_cases c7 : x3_1 = true
    · subst c7
      have H1 : (some 18) = some r := by rw [if_pos rfl] at H; exact H
      clear H
      have H := H1
      clear H1
      obtain rfl := Option.some.inj H
      go_wp2
      go_ret
      exact ⟨er_, bl_⟩
    replace c7 := Bool.eq_false_iff.mpr c7
    subst c7
    have H1 : (if (a0_2.size : Int) > 44 then (some 3) else (some 0)) = some r := by rw [if_neg (show ¬ (false = true) by decide)] at H; exact H
    clear H
    have H := H1
    clear H1
    by_cases c8 : (a0_2.size : Int) > 44
    · rw [if_pos c8] at H
      have c8b0 : decide (44 < (a0_2.size : Int)) = true := decide_eq_true c8
      have c8b1 : decide (44 < a0_2.size) = true := decide_eq_true (by omega)
      clear c8
      obtain rfl := Option.some.inj H
      have hcz9 := bc3 BK168.out
      go_wp2
      go_ret
      exact ⟨er_, bl_⟩
    rw [if_neg c8] at H
    have c8b0 : decide (44 < (a0_2.size : Int)) = false := decide_eq_false c8
    have c8b1 : decide (44 < a0_2.size) = false := decide_eq_false (by omega)
    clear c8
    obtain rfl := Option.some.inj H
    have hcz10 := bc3 BK168.out
    go_wp2
    go_ret
    exact ⟨er_, bl_⟩
end Go.Proofs.Ytfllpmmfjbjgoaa.PA

