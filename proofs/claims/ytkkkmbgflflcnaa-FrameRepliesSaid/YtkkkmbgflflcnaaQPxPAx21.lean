import Derived.Test.YtkkkmbgflflcnaaQPxPAx1
import Derived.Test.YtkkkmbgflflcnaaQPxPAx12
namespace Go.Proofs.Ytkkkmbgflflcnaa.PA
open Go.Proofs.Ytkkkmbgflflcnaa.PL
open Go.RowKit Go.Proofs.YtkkkmbgflflcnaaW.PrintWords Go.Proofs.YtkkkmbgflflcnaaW.PrintLast Go.Proofs.YtkkkmbgflflcnaaW.PrintMore
attribute [local go_sem] max2_int min2_int max_two min_two max_three min_three max_four min_four
set_option linter.unusedVariables false
set_option linter.unusedSimpArgs false
def codec_In_Len.f (s0_0 : ByteArray) (s0_1 : Int) : Option (Int × ByteArray × Int) := some ((s0_0.size : Int), s0_0, s0_1)
set_option maxHeartbeats 2000000 in
set_option maxRecDepth 100000 in
theorem codec_In_Len.calls (g : Nat) (s0_0 : ByteArray) (s0_1 : Int) (r1 : Int) (r2 : ByteArray) (r3 : Int) (w0 w : World) (hI : IsS108 w0 w g s0_0 s0_1) (hB : Below w0.heap.size w0 w) (h : codec_In_Len.f s0_0 s0_1 = some (r1, r2, r3)) :
    Calls Try.prog 51 #[.pointer (some ⟨g, 0, none⟩)] w fun e w' => e = .returned (.int .i64 r1) ∧ IsS108 w0 w' g r2 r3 ∧ Below w0.heap.size w0 w' ∧ KeepBut w w' g none := by
  have HI0 := Aside0.mk hI
  have HK := Aside0.mk (KeepBut.refl w g none)
  have HL := Aside0.mk hB.size
  clear hI
  have HW0 := Aside0.mk hB.size
  have HB := Aside0.mk hB
  clear hB
  have H : (some ((s0_0.size : Int), s0_0, s0_1)) = some (r1, r2, r3) := h
  clear h
  simp only [Option.some.injEq, Prod.mk.injEq] at H
  obtain ⟨rfl, rfl, rfl⟩ := H
  obtain ⟨HGz2, hgz2⟩ := HI0.out
  have hcz2_0 := cellS108_0 HGz2
  have hcz2_1 := cellS108_1 HGz2
  have hfz2_0 := kfr HGz2 0
  have hfz2_1 := kfr HGz2 1
  clear HGz2 hgz2
  go_enter Try.func51, Try.ntmps51
  go_wp2
  go_ret
  exact ⟨by first | rfl | (simp [errW_none, errW_some] <;> rfl) | (simp [*, errW_none, errW_some] <;> rfl), by repeat (first | (with_reducible first | exact HI0.out | apply IsS108.alloc | apply IsS108.drewN | apply IsS108.drew | apply IsS108.set_0 | apply IsS108.set_1) | exact HI0.out), by repeat (first | (with_reducible first | exact HB.out | apply bal | apply bdn | apply bd1 | refine bst ?_ (IsS108.ge HI0.out)) | exact HB.out), by repeat (first | (with_reducible first | exact HK.out | apply KeepBut.set_ | apply edn | apply edw | apply eal) | exact HK.out)⟩
def method_Result_Check.j0 : Nat → Bool → Int → ByteArray → Int → Option (Int)
  | 0, _, _, _, _ => none
  | k + 1, x3, x371000, x371001, x371002 => if x3 = true then (some 6) else (if (x371001.size : Int) > 24 then (some 3) else (if x371001.toList = ([] : List UInt8) then (some 0) else (if x371002 = 0 then (some 0) else (some 2))))
def method_Result_Check.f (k : Nat) (a0_0 : Int) (a0_1 : ByteArray) (a0_2 : Int) : Option (Int) := if a0_0 = 1 then (method_Result_Check.j0 k false a0_0 a0_1 a0_2) else (method_Result_Check.j0 k (a0_0 != 2) a0_0 a0_1 a0_2)
set_option maxHeartbeats 2000000 in
set_option maxRecDepth 100000 in
theorem method_Result_Check.calls (k : Nat) (a0_0 : Int) (a0_1 : ByteArray) (a0_2 : Int) (r : Int) (w : World) (h : method_Result_Check.f k a0_0 a0_1 a0_2 = some r) :
    Calls Try.prog 55 #[.agg #[.int .i64 a0_0, .string a0_1, .int .i64 a0_2]] w fun e w' => e = .returned (.int .i64 r) ∧ Below w.heap.size w w' := by
  have hu51 := Try.underlying51
  have HB := Aside0.mk (Below.refl w.heap.size w)
  have H : (if a0_0 = 1 then (method_Result_Check.j0 k false a0_0 a0_1 a0_2) else (method_Result_Check.j0 k (a0_0 != 2) a0_0 a0_1 a0_2)) = some r := h
  clear h
  have HC2 := Aside0.mk H
  clear H
  go_enter Try.func55, Try.ntmps55
  go_upto_region 1 with (first | ((with_reducible refine gds (N := 1) rfl ?_); refine bev ?hg (N := 1) ?hd (cs := #[.int .i64 a0_0, .string a0_1, .int .i64 a0_2]) (t := 51) ?hr ?_; (case hd => rfl); (case hg => rfl); (case hr => first | (go_simp; done) | (go_simp; rfl)); intro gb370 hg w3 hbox hb; have n0_ := Aside0.mk (bsp (by repeat (first | (with_reducible first | exact HB.out | apply bal | apply bdn | apply bd1) | exact HB.out)) hb); have n1_ := Aside0.mk (hbox); have n2_ := Aside0.mk ((by rw [hg]; exact (bsz (by repeat (first | (with_reducible first | exact HB.out | apply bal | apply bdn | apply bd1) | exact HB.out))) : w.heap.size ≤ gb370)); have n3_ := Aside0.mk ((by rw [hg]; exact (bsz (by repeat (first | (with_reducible first | exact HB.out | apply bal | apply bdn | apply bd1) | exact HB.out))) : w.heap.size ≤ gb370)); clear HB; have HB := n0_; have BK370 := n1_; have GW370 := n2_; have GE370 := n3_; clear n0_ n1_ n2_ n3_; clear hb hbox hg))
  (try simp only [Act.put, List.setIfInBounds_toArray, List.set_cons_zero, List.set_cons_succ])
  go_cut [3] (fun v3 wc => ∃ (kq : Nat) (x3_1 : Bool), v3 = .bool x3_1 ∧ Aside0 (method_Result_Check.j0 kq x3_1 a0_0 a0_1 a0_2 = some r) ∧ Aside0 (kq ≤ k) ∧ Aside0 (wc.heap[gb370]? = some (.cells #[.int .i64 a0_0, .string a0_1, .int .i64 a0_2] 51 (0, 0))) ∧ Aside0 (Below w.heap.size w wc))
  case first =>
    have H := HC2.out
    clear HC2
    by_cases c4 : a0_0 = 1
    rotate_left
    · rw [if_neg c4] at H
      have c4b0 : (a0_0 == 1) = false := beq_eq_false_iff_ne.mpr c4
      have c4b1 : (a0_0 != 1) = true := bne_iff_ne.mpr c4
      (first | rw [c4b0] | (simp only [i64_w, i32_w]; rw [c4b0]) | skip)
      have H' := Aside0.mk H
      clear H
      have hcz6_0 : w3.cell? ⟨gb370, 0, none⟩ = some (.int .i64 a0_0) := (kcl BK370.out 0).trans rfl
      have hcz6_1 : w3.cell? ⟨gb370, 1, none⟩ = some (.string a0_1) := (kcl BK370.out 1).trans rfl
      have hcz6_2 : w3.cell? ⟨gb370, 2, none⟩ = some (.int .i64 a0_2) := (kcl BK370.out 2).trans rfl
      have hfz6_0 := kfr BK370.out 0
      have hfz6_1 := kfr BK370.out 1
      have hfz6_2 := kfr BK370.out 2
      go_wp2
      go_meet
      case rel => exact ⟨_, ((a0_0 != 2)), (by first | rfl | (simp; done) | (simp [*]; done) | exact emp1_ _ | exact (emp1_ _).symm | exact emp2_ _ | exact (emp2_ _).symm), H', ⟨by first | omega | exact Nat.le_refl _⟩, ⟨by (with_reducible repeat (first | refine kdn ?_ _ | refine kdw ?_ | refine kal ?_ _)); exact BK370.out⟩, ⟨by repeat (first | (with_reducible first | exact HB.out | apply bal | apply bdn | apply bd1 | refine bst ?_ GE370.out) | exact HB.out)⟩⟩
    rw [if_pos c4] at H
    have c4b0 : (a0_0 == 1) = true := beq_iff_eq.mpr c4
    have c4b1 : (a0_0 != 1) = false := bne_eq_false_iff_eq.mpr c4
    clear c4
    (first | rw [c4b0] | (simp only [i64_w, i32_w]; rw [c4b0]) | skip)
    have H' := Aside0.mk H
    clear H
    have hcz5_0 : w3.cell? ⟨gb370, 0, none⟩ = some (.int .i64 a0_0) := (kcl BK370.out 0).trans rfl
    have hcz5_1 : w3.cell? ⟨gb370, 1, none⟩ = some (.string a0_1) := (kcl BK370.out 1).trans rfl
    have hcz5_2 : w3.cell? ⟨gb370, 2, none⟩ = some (.int .i64 a0_2) := (kcl BK370.out 2).trans rfl
    have hfz5_0 := kfr BK370.out 0
    have hfz5_1 := kfr BK370.out 1
    have hfz5_2 := kfr BK370.out 2
    go_wp2
    go_meet
    case rel => exact ⟨_, (false), (by first | rfl | (simp; done) | (simp [*]; done) | exact emp1_ _ | exact (emp1_ _).symm | exact emp2_ _ | exact (emp2_ _).symm), H', ⟨by first | omega | exact Nat.le_refl _⟩, ⟨by (with_reducible repeat (first | refine kdn ?_ _ | refine kdw ?_ | refine kal ?_ _)); exact BK370.out⟩, ⟨by repeat (first | (with_reducible first | exact HB.out | apply bal | apply bdn | apply bd1 | refine bst ?_ GE370.out) | exact HB.out)⟩⟩
  clear HC2
  try clear p2
  try clear c4
  try clear c4b0
  try clear c4b1
  try clear c5
  try clear hcz5_0
  try clear hcz5_1
  try clear hcz5_2
  try clear hcz6_0
  try clear hcz6_1
  try clear hcz6_2
  try clear hfz5_0
  try clear hfz5_1
  try clear hfz5_2
  try clear hfz6_0
  try clear hfz6_1
  try clear hfz6_2
  obtain ⟨kq, x3_1, rfl, HA, HJ1, BK370, HB⟩ := hcut
  cases kq with
  | zero => exact absurd HA.out (by simp [method_Result_Check.j0])
  | succ kj1 =>
    have H := HA.out
    clear HA
    simp only [method_Result_Check.j0] at H
    by_cases c7 : x3_1 = true
    · subst c7
      have H1 : (some 6) = some r := by rw [if_pos rfl] at H; exact H
      clear H
      have H := H1
      clear H1
      obtain rfl := Option.some.inj H
      go_wp2
      go_ret
      exact ⟨by first | rfl | (simp [errW_none, errW_some] <;> rfl) | (simp [*, errW_none, errW_some] <;> rfl), by repeat (first | (with_reducible first | exact HB.out | apply bal | apply bdn | apply bd1 | refine bst ?_ GE370.out) | exact HB.out)⟩
    replace c7 := Bool.eq_false_iff.mpr c7
    subst c7
    have H1 : (if (a0_1.size : Int) > 24 then (some 3) else (if a0_1.toList = ([] : List UInt8) then (some 0) else (if a0_2 = 0 then (some 0) else (some 2)))) = some r := by rw [if_neg (show ¬ (false = true) by decide)] at H; exact H
    clear H
    have H := H1
    clear H1
    by_cases c8 : (a0_1.size : Int) > 24
    · rw [if_pos c8] at H
      have c8b0 : decide (24 < (a0_1.size : Int)) = true := decide_eq_true c8
      have c8b1 : decide (24 < a0_1.size) = true := decide_eq_true (by omega)
      clear c8
      obtain rfl := Option.some.inj H
      have hcz9_0 : wc.cell? ⟨gb370, 0, none⟩ = some (.int .i64 a0_0) := (kcl BK370.out 0).trans rfl
      have hcz9_1 : wc.cell? ⟨gb370, 1, none⟩ = some (.string a0_1) := (kcl BK370.out 1).trans rfl
      have hcz9_2 : wc.cell? ⟨gb370, 2, none⟩ = some (.int .i64 a0_2) := (kcl BK370.out 2).trans rfl
      have hfz9_0 := kfr BK370.out 0
      have hfz9_1 := kfr BK370.out 1
      have hfz9_2 := kfr BK370.out 2
      go_wp2
      go_ret
      exact ⟨by first | rfl | (simp [errW_none, errW_some] <;> rfl) | (simp [*, errW_none, errW_some] <;> rfl), by repeat (first | (with_reducible first | exact HB.out | apply bal | apply bdn | apply bd1 | refine bst ?_ GE370.out) | exact HB.out)⟩
    rw [if_neg c8] at H
    have c8b0 : decide (24 < (a0_1.size : Int)) = false := decide_eq_false c8
    have c8b1 : decide (24 < a0_1.size) = false := decide_eq_false (by omega)
    clear c8
    by_cases c10 : a0_1.toList = ([] : List UInt8)
    · rw [if_pos c10] at H
      have c10b0 : (a0_1.toList == ([] : List UInt8)) = true := beq_iff_eq.mpr c10
      have c10b1 : (a0_1.toList != ([] : List UInt8)) = false := bne_eq_false_iff_eq.mpr c10
      clear c10
      obtain rfl := Option.some.inj H
      have hcz11_0 : wc.cell? ⟨gb370, 0, none⟩ = some (.int .i64 a0_0) := (kcl BK370.out 0).trans rfl
      have hcz11_1 : wc.cell? ⟨gb370, 1, none⟩ = some (.string a0_1) := (kcl BK370.out 1).trans rfl
      have hcz11_2 : wc.cell? ⟨gb370, 2, none⟩ = some (.int .i64 a0_2) := (kcl BK370.out 2).trans rfl
      have hfz11_0 := kfr BK370.out 0
      have hfz11_1 := kfr BK370.out 1
      have hfz11_2 := kfr BK370.out 2
      go_wp2
      go_ret
      exact ⟨by first | rfl | (simp [errW_none, errW_some] <;> rfl) | (simp [*, errW_none, errW_some] <;> rfl), by repeat (first | (with_reducible first | exact HB.out | apply bal | apply bdn | apply bd1 | refine bst ?_ GE370.out) | exact HB.out)⟩
    rw [if_neg c10] at H
    have c10b0 : (a0_1.toList == ([] : List UInt8)) = false := beq_eq_false_iff_ne.mpr c10
    have c10b1 : (a0_1.toList != ([] : List UInt8)) = true := bne_iff_ne.mpr c10
    by_cases c12 : a0_2 = 0
    rotate_left
    · rw [if_neg c12] at H
      have c12b0 : (a0_2 == 0) = false := beq_eq_false_iff_ne.mpr c12
      have c12b1 : (a0_2 != 0) = true := bne_iff_ne.mpr c12
      obtain rfl := Option.some.inj H
      have hcz14_0 : wc.cell? ⟨gb370, 0, none⟩ = some (.int .i64 a0_0) := (kcl BK370.out 0).trans rfl
      have hcz14_1 : wc.cell? ⟨gb370, 1, none⟩ = some (.string a0_1) := (kcl BK370.out 1).trans rfl
      have hcz14_2 : wc.cell? ⟨gb370, 2, none⟩ = some (.int .i64 a0_2) := (kcl BK370.out 2).trans rfl
      have hfz14_0 := kfr BK370.out 0
      have hfz14_1 := kfr BK370.out 1
      have hfz14_2 := kfr BK370.out 2
      go_wp2
      go_ret
      exact ⟨by first | rfl | (simp [errW_none, errW_some] <;> rfl) | (simp [*, errW_none, errW_some] <;> rfl), by repeat (first | (with_reducible first | exact HB.out | apply bal | apply bdn | apply bd1 | refine bst ?_ GE370.out) | exact HB.out)⟩
    rw [if_pos c12] at H
    have c12b0 : (a0_2 == 0) = true := beq_iff_eq.mpr c12
    have c12b1 : (a0_2 != 0) = false := bne_eq_false_iff_eq.mpr c12
    clear c12
    obtain rfl := Option.some.inj H
    have hcz13_0 : wc.cell? ⟨gb370, 0, none⟩ = some (.int .i64 a0_0) := (kcl BK370.out 0).trans rfl
    have hcz13_1 : wc.cell? ⟨gb370, 1, none⟩ = some (.string a0_1) := (kcl BK370.out 1).trans rfl
    have hcz13_2 : wc.cell? ⟨gb370, 2, none⟩ = some (.int .i64 a0_2) := (kcl BK370.out 2).trans rfl
    have hfz13_0 := kfr BK370.out 0
    have hfz13_1 := kfr BK370.out 1
    have hfz13_2 := kfr BK370.out 2
    go_wp2
    go_ret
    exact ⟨by first | rfl | (simp [errW_none, errW_some] <;> rfl) | (simp [*, errW_none, errW_some] <;> rfl), by repeat (first | (with_reducible first | exact HB.out | apply bal | apply bdn | apply bd1 | refine bst ?_ GE370.out) | exact HB.out)⟩
def method_ReadResult.j0 : Nat → ByteArray → Int → Int → ByteArray → Int → Option (Int × ByteArray × Int × ByteArray × Int)
  | 0, _, _, _, _, _ => none
  | k + 1, x1000, x1001, x382000, x382001, x382002 => (codec_In_Err.f x1000 x1001).bind fun bt388 => (if bt388.1 = 0 then (some (x382000, x382001, x382002, bt388.2.1, bt388.2.2)) else (some (0, (⟨#[]⟩ : ByteArray), 0, bt388.2.1, bt388.2.2)))
def method_ReadResult.f (k : Nat) (s0_0 : ByteArray) (s0_1 : Int) : Option (Int × ByteArray × Int × ByteArray × Int) := (codec_In_N.f s0_0 s0_1 2).bind fun bt372 => ((codec_In_S.f bt372.2.1 bt372.2.2 24).bind fun bt375 => ((codec_In_I.f bt375.2.1 bt375.2.2).bind fun bt378 => ((codec_In_Err.f bt378.2.1 bt378.2.2).bind fun bt382 => (if bt382.1 = 0 then ((method_Result_Check.f k bt372.1 bt375.1 bt378.1).bind fun t385 => ((PL.codec_In_Fail.f bt382.2.1 bt382.2.2 t385).bind fun bt386 => (method_ReadResult.j0 k bt386.1 bt386.2 bt372.1 bt375.1 bt378.1))) else (method_ReadResult.j0 k bt382.2.1 bt382.2.2 bt372.1 bt375.1 bt378.1)))))
set_option maxHeartbeats 2000000 in
set_option maxRecDepth 100000 in
theorem method_ReadResult.calls (k : Nat) (g : Nat) (s0_0 : ByteArray) (s0_1 : Int) (r1 : Int) (r2 : ByteArray) (r3 : Int) (r4 : ByteArray) (r5 : Int) (w0 w : World) (hI : IsS108 w0 w g s0_0 s0_1) (hB : Below w0.heap.size w0 w) (h : method_ReadResult.f k s0_0 s0_1 = some (r1, r2, r3, r4, r5)) :
    Calls Try.prog 52 #[.pointer (some ⟨g, 0, none⟩)] w fun e w' => e = .returned (.agg #[.int .i64 r1, .string r2, .int .i64 r3]) ∧ IsS108 w0 w' g r4 r5 ∧ Below w0.heap.size w0 w' ∧ KeepBut w w' g none := by
  have hu51 := Try.underlying51
  have HI0 := Aside0.mk hI
  have HK := Aside0.mk (KeepBut.refl w g none)
  have HL := Aside0.mk hB.size
  clear hI
  have HW0 := Aside0.mk hB.size
  have HB := Aside0.mk hB
  clear hB
  have H : ((codec_In_N.f s0_0 s0_1 2).bind fun bt372 => ((codec_In_S.f bt372.2.1 bt372.2.2 24).bind fun bt375 => ((codec_In_I.f bt375.2.1 bt375.2.2).bind fun bt378 => ((codec_In_Err.f bt378.2.1 bt378.2.2).bind fun bt382 => (if bt382.1 = 0 then ((method_Result_Check.f k bt372.1 bt375.1 bt378.1).bind fun t385 => ((PL.codec_In_Fail.f bt382.2.1 bt382.2.2 t385).bind fun bt386 => (method_ReadResult.j0 k bt386.1 bt386.2 bt372.1 bt375.1 bt378.1))) else (method_ReadResult.j0 k bt382.2.1 bt382.2.2 bt372.1 bt375.1 bt378.1)))))) = some (r1, r2, r3, r4, r5) := h
  clear h
  replace H := Option.bind_eq_some_iff.mp H
  obtain ⟨⟨t372, t373, t374⟩, A20, H⟩ := H
  replace H : ((codec_In_S.f t373 t374 24).bind fun bt375 => ((codec_In_I.f bt375.2.1 bt375.2.2).bind fun bt378 => ((codec_In_Err.f bt378.2.1 bt378.2.2).bind fun bt382 => (if bt382.1 = 0 then ((method_Result_Check.f k t372 bt375.1 bt378.1).bind fun t385 => ((PL.codec_In_Fail.f bt382.2.1 bt382.2.2 t385).bind fun bt386 => (method_ReadResult.j0 k bt386.1 bt386.2 t372 bt375.1 bt378.1))) else (method_ReadResult.j0 k bt382.2.1 bt382.2.2 t372 bt375.1 bt378.1))))) = some (r1, r2, r3, r4, r5) := H
  have A2 := Aside0.mk A20
  clear A20
  replace H := Option.bind_eq_some_iff.mp H
  obtain ⟨⟨t375, t376, t377⟩, A30, H⟩ := H
  replace H : ((codec_In_I.f t376 t377).bind fun bt378 => ((codec_In_Err.f bt378.2.1 bt378.2.2).bind fun bt382 => (if bt382.1 = 0 then ((method_Result_Check.f k t372 t375 bt378.1).bind fun t385 => ((PL.codec_In_Fail.f bt382.2.1 bt382.2.2 t385).bind fun bt386 => (method_ReadResult.j0 k bt386.1 bt386.2 t372 t375 bt378.1))) else (method_ReadResult.j0 k bt382.2.1 bt382.2.2 t372 t375 bt378.1)))) = some (r1, r2, r3, r4, r5) := H
  have A3 := Aside0.mk A30
  clear A30
  replace H := Option.bind_eq_some_iff.mp H
  obtain ⟨⟨t378, t379, t380⟩, A40, H⟩ := H
  replace H : ((codec_In_Err.f t379 t380).bind fun bt382 => (if bt382.1 = 0 then ((method_Result_Check.f k t372 t375 t378).bind fun t385 => ((PL.codec_In_Fail.f bt382.2.1 bt382.2.2 t385).bind fun bt386 => (method_ReadResult.j0 k bt386.1 bt386.2 t372 t375 t378))) else (method_ReadResult.j0 k bt382.2.1 bt382.2.2 t372 t375 t378))) = some (r1, r2, r3, r4, r5) := H
  have A4 := Aside0.mk A40
  clear A40
  replace H := Option.bind_eq_some_iff.mp H
  obtain ⟨⟨t382, t383, t384⟩, A50, H⟩ := H
  replace H : (if t382 = 0 then ((method_Result_Check.f k t372 t375 t378).bind fun t385 => ((PL.codec_In_Fail.f t383 t384 t385).bind fun bt386 => (method_ReadResult.j0 k bt386.1 bt386.2 t372 t375 t378))) else (method_ReadResult.j0 k t383 t384 t372 t375 t378)) = some (r1, r2, r3, r4, r5) := H
  have A5 := Aside0.mk A50
  clear A50
  have HC6 := Aside0.mk H
  clear H
  go_enter Try.func52, Try.ntmps52
  go_upto_if 13 with (first | ((with_reducible refine gds (N := 2) rfl ?_); refine bev ?hg (N := 2) ?hd (cs := #[.int .i64 0, .string (⟨#[]⟩ : ByteArray), .int .i64 0]) (t := 51) ?hr ?_; (case hd => rfl); (case hg => rfl); (case hr => first | (go_simp; done) | (go_simp; rfl)); intro gb371 hg w7 hbox hb; have n0_ := Aside0.mk (IsS108.below (by repeat (first | (with_reducible first | exact HI0.out | apply IsS108.alloc | apply IsS108.drewN | apply IsS108.drew | apply IsS108.set_0 | apply IsS108.set_1) | exact HI0.out)) hb); have n1_ := Aside0.mk (KeepBut.trans (by repeat (first | (with_reducible first | exact HK.out | apply KeepBut.set_ | apply edn | apply edw | apply eal) | exact HK.out)) (KeepBut.of_below hb g none) (.inl rfl)); have n2_ := Aside0.mk (bsp (by repeat (first | (with_reducible first | exact HB.out | apply bal | apply bdn | apply bd1 | refine bst ?_ (IsS108.ge HI0.out)) | exact HB.out)) hb); have n3_ := Aside0.mk (hbox); have n4_ := Aside0.mk ((by rw [hg]; exact (keep_size (w := w) (g := g) (row := none) (by repeat (first | (with_reducible first | exact HK.out | apply KeepBut.set_ | apply edn | apply edw | apply eal) | exact HK.out))) : w.heap.size ≤ gb371)); have n5_ := Aside0.mk ((Nat.le_trans HW0.out (by rw [hg]; exact (keep_size (w := w) (g := g) (row := none) (by repeat (first | (with_reducible first | exact HK.out | apply KeepBut.set_ | apply edn | apply edw | apply eal) | exact HK.out))) : w.heap.size ≤ gb371) : w0.heap.size ≤ gb371)); have n6_ := Aside0.mk ((by rw [hg]; exact Nat.ne_of_lt (IsS108.lt (show IsS108 w0 _ g s0_0 s0_1 from by repeat (first | (with_reducible first | exact HI0.out | apply IsS108.alloc | apply IsS108.drewN | apply IsS108.drew | apply IsS108.set_0 | apply IsS108.set_1) | exact HI0.out))) : g ≠ gb371)); have n7_ := Aside0.mk ((by rw [hg]; exact Nat.ne_of_gt (IsS108.lt (show IsS108 w0 _ g s0_0 s0_1 from by repeat (first | (with_reducible first | exact HI0.out | apply IsS108.alloc | apply IsS108.drewN | apply IsS108.drew | apply IsS108.set_0 | apply IsS108.set_1) | exact HI0.out))) : gb371 ≠ g)); clear HI0; clear HK; clear HB; have HI0 := n0_; have HK := n1_; have HB := n2_; have BK371 := n3_; have GW371 := n4_; have GE371 := n5_; have NB0_371 := n6_; have NB371_0 := n7_; clear n0_ n1_ n2_ n3_ n4_ n5_ n6_ n7_; clear hb hbox hg) | ((with_reducible refine gcl (f := 33) rfl ?_); refine gl_ (some 5) rfl rfl Try.func33 (by kernel_rfl) rfl #[.pointer (some ⟨g, 0, none⟩), .int .i64 2] rfl (by (try simp only [List.map_toArray, List.map_cons, List.map_nil]); first | done | rfl | (simp only [List.length_drop, List.length_take]; rfl)) ?_; (with_reducible refine (codec_In_N.calls g s0_0 s0_1 2 t372 t373 t374 w0 _ ?side1 ?side2 A2.out).mono ?_); (case side1 => repeat (first | (with_reducible first | exact HI0.out | apply IsS108.alloc | apply IsS108.drewN | apply IsS108.drew | apply IsS108.set_0 | apply IsS108.set_1 | refine IsS108.far ?_ NB0_371.out _) | exact HI0.out)); (case side2 => repeat (first | (with_reducible first | exact HB.out | apply bal | apply bdn | apply bd1 | refine bst ?_ (IsS108.ge HI0.out) | refine bst ?_ GE371.out) | exact HB.out)); rintro e w8 ⟨rfl, hi, hb, hk⟩; refine ⟨_, rfl, ?_⟩; have n0_ := Aside0.mk (KeepBut.blk hk (g' := gb371) (o := .cells #[.int .i64 0, .string (⟨#[]⟩ : ByteArray), .int .i64 0] 51 (0, 0)) (by (with_reducible repeat (first | refine kdn ?_ _ | refine kdw ?_ | refine kal ?_ _)); exact BK371.out) NB371_0.out (by simp)); have n1_ := Aside0.mk (KeepBut.trans (by repeat (first | (with_reducible first | exact HK.out | apply KeepBut.set_ | apply edn | apply edw | apply eal | refine keep_far ?_ GW371.out _) | exact HK.out)) hk (.inl rfl)); have n2_ := Aside0.mk (hb); have n3_ := Aside0.mk (hi); clear BK371; clear HK; clear HB; clear HI0; have BK371 := n0_; have HK := n1_; have HB := n2_; have HI0 := n3_; clear n0_ n1_ n2_ n3_; (try clear hb); (try clear hb2); (try clear hk); (try clear hi)) | ((with_reducible refine gcl (f := 35) rfl ?_); refine gl_ (some 7) rfl rfl Try.func35 (by kernel_rfl) rfl #[.pointer (some ⟨g, 0, none⟩), .int .i64 24] rfl (by (try simp only [List.map_toArray, List.map_cons, List.map_nil]); first | done | rfl | (simp only [List.length_drop, List.length_take]; rfl)) ?_; (with_reducible refine (codec_In_S.calls g t373 t374 24 t375 t376 t377 w0 _ ?side1 ?side2 A3.out).mono ?_); (case side1 => repeat (first | (with_reducible first | exact HI0.out | apply IsS108.alloc | apply IsS108.drewN | apply IsS108.drew | apply IsS108.set_0 | apply IsS108.set_1 | refine IsS108.far ?_ NB0_371.out _) | exact HI0.out)); (case side2 => repeat (first | (with_reducible first | exact HB.out | apply bal | apply bdn | apply bd1 | refine bst ?_ (IsS108.ge HI0.out) | refine bst ?_ GE371.out) | exact HB.out)); rintro e w9 ⟨rfl, hi, hb, hk⟩; refine ⟨_, rfl, ?_⟩; have n0_ := Aside0.mk (KeepBut.blk hk (g' := gb371) (o := .cells #[.int .i64 0, .string (⟨#[]⟩ : ByteArray), .int .i64 0] 51 (0, 0)) (by (with_reducible repeat (first | refine kdn ?_ _ | refine kdw ?_ | refine kal ?_ _)); exact BK371.out) NB371_0.out (by simp)); have n1_ := Aside0.mk (KeepBut.trans (by repeat (first | (with_reducible first | exact HK.out | apply KeepBut.set_ | apply edn | apply edw | apply eal | refine keep_far ?_ GW371.out _) | exact HK.out)) hk (.inl rfl)); have n2_ := Aside0.mk (hb); have n3_ := Aside0.mk (hi); clear BK371; clear HK; clear HB; clear HI0; have BK371 := n0_; have HK := n1_; have HB := n2_; have HI0 := n3_; clear n0_ n1_ n2_ n3_; (try clear hb); (try clear hb2); (try clear hk); (try clear hi)) | ((with_reducible refine gcl (f := 65) rfl ?_); refine gl_ (some 9) rfl rfl Try.func65 (by kernel_rfl) rfl #[.pointer (some ⟨g, 0, none⟩)] rfl (by (try simp only [List.map_toArray, List.map_cons, List.map_nil]); first | done | rfl | (simp only [List.length_drop, List.length_take]; rfl)) ?_; (with_reducible refine (codec_In_I.calls g t376 t377 t378 t379 t380 w0 _ ?side1 ?side2 A4.out).mono ?_); (case side1 => repeat (first | (with_reducible first | exact HI0.out | apply IsS108.alloc | apply IsS108.drewN | apply IsS108.drew | apply IsS108.set_0 | apply IsS108.set_1 | refine IsS108.far ?_ NB0_371.out _) | exact HI0.out)); (case side2 => repeat (first | (with_reducible first | exact HB.out | apply bal | apply bdn | apply bd1 | refine bst ?_ (IsS108.ge HI0.out) | refine bst ?_ GE371.out) | exact HB.out)); rintro e w10 ⟨rfl, hi, hb, hk⟩; refine ⟨_, rfl, ?_⟩; have n0_ := Aside0.mk (KeepBut.blk hk (g' := gb371) (o := .cells #[.int .i64 0, .string (⟨#[]⟩ : ByteArray), .int .i64 0] 51 (0, 0)) (by (with_reducible repeat (first | refine kdn ?_ _ | refine kdw ?_ | refine kal ?_ _)); exact BK371.out) NB371_0.out (by simp)); have n1_ := Aside0.mk (KeepBut.trans (by repeat (first | (with_reducible first | exact HK.out | apply KeepBut.set_ | apply edn | apply edw | apply eal | refine keep_far ?_ GW371.out _) | exact HK.out)) hk (.inl rfl)); have n2_ := Aside0.mk (hb); have n3_ := Aside0.mk (hi); clear BK371; clear HK; clear HB; clear HI0; have BK371 := n0_; have HK := n1_; have HB := n2_; have HI0 := n3_; clear n0_ n1_ n2_ n3_; (try clear hb); (try clear hb2); (try clear hk); (try clear hi)) | ((with_reducible refine gds (N := 3) rfl ?_); refine bev ?hg (N := 3) ?hd (cs := #[.int .i64 0, .string (⟨#[]⟩ : ByteArray), .int .i64 0]) (t := 51) ?hr ?_; (case hd => rfl); (case hg => rfl); (case hr => first | (go_simp; done) | (go_simp; rfl)); intro gb381 hg w11 hbox hb; have n0_ := Aside0.mk (IsS108.below (by repeat (first | (with_reducible first | exact HI0.out | apply IsS108.alloc | apply IsS108.drewN | apply IsS108.drew | apply IsS108.set_0 | apply IsS108.set_1 | refine IsS108.far ?_ NB0_371.out _) | exact HI0.out)) hb); have n1_ := Aside0.mk (kbl (g := gb371) (o := .cells #[.int .i64 0, .string (⟨#[]⟩ : ByteArray), .int .i64 0] 51 (0, 0)) (by (with_reducible repeat (first | refine kdn ?_ _ | refine kdw ?_ | refine kal ?_ _)); exact BK371.out) hb); have n2_ := Aside0.mk (KeepBut.trans (by repeat (first | (with_reducible first | exact HK.out | apply KeepBut.set_ | apply edn | apply edw | apply eal | refine keep_far ?_ GW371.out _) | exact HK.out)) (KeepBut.of_below hb g none) (.inl rfl)); have n3_ := Aside0.mk (bsp (by repeat (first | (with_reducible first | exact HB.out | apply bal | apply bdn | apply bd1 | refine bst ?_ (IsS108.ge HI0.out) | refine bst ?_ GE371.out) | exact HB.out)) hb); have n4_ := Aside0.mk (hbox); have n5_ := Aside0.mk ((by rw [hg]; exact (keep_size (w := w) (g := g) (row := none) (by repeat (first | (with_reducible first | exact HK.out | apply KeepBut.set_ | apply edn | apply edw | apply eal | refine keep_far ?_ GW371.out _) | exact HK.out))) : w.heap.size ≤ gb381)); have n6_ := Aside0.mk ((Nat.le_trans HW0.out (by rw [hg]; exact (keep_size (w := w) (g := g) (row := none) (by repeat (first | (with_reducible first | exact HK.out | apply KeepBut.set_ | apply edn | apply edw | apply eal | refine keep_far ?_ GW371.out _) | exact HK.out))) : w.heap.size ≤ gb381) : w0.heap.size ≤ gb381)); have n7_ := Aside0.mk ((by rw [hg]; exact Nat.ne_of_lt (blk_lt (g := gb371) (o := .cells #[.int .i64 0, .string (⟨#[]⟩ : ByteArray), .int .i64 0] 51 (0, 0)) (by (with_reducible repeat (first | refine kdn ?_ _ | refine kdw ?_ | refine kal ?_ _)); exact BK371.out)) : gb371 ≠ gb381)); have n8_ := Aside0.mk ((by rw [hg]; exact Nat.ne_of_gt (blk_lt (g := gb371) (o := .cells #[.int .i64 0, .string (⟨#[]⟩ : ByteArray), .int .i64 0] 51 (0, 0)) (by (with_reducible repeat (first | refine kdn ?_ _ | refine kdw ?_ | refine kal ?_ _)); exact BK371.out)) : gb381 ≠ gb371)); have n9_ := Aside0.mk ((by rw [hg]; exact Nat.ne_of_lt (IsS108.lt (show IsS108 w0 _ g t379 t380 from by repeat (first | (with_reducible first | exact HI0.out | apply IsS108.alloc | apply IsS108.drewN | apply IsS108.drew | apply IsS108.set_0 | apply IsS108.set_1 | refine IsS108.far ?_ NB0_371.out _) | exact HI0.out))) : g ≠ gb381)); have n10_ := Aside0.mk ((by rw [hg]; exact Nat.ne_of_gt (IsS108.lt (show IsS108 w0 _ g t379 t380 from by repeat (first | (with_reducible first | exact HI0.out | apply IsS108.alloc | apply IsS108.drewN | apply IsS108.drew | apply IsS108.set_0 | apply IsS108.set_1 | refine IsS108.far ?_ NB0_371.out _) | exact HI0.out))) : gb381 ≠ g)); clear HI0; clear BK371; clear HK; clear HB; have HI0 := n0_; have BK371 := n1_; have HK := n2_; have HB := n3_; have BK381 := n4_; have GW381 := n5_; have GE381 := n6_; have NB371_381 := n7_; have NB381_371 := n8_; have NB0_381 := n9_; have NB381_0 := n10_; clear n0_ n1_ n2_ n3_ n4_ n5_ n6_ n7_ n8_ n9_ n10_; clear hb hbox hg; have hnb12 := NB381_371.out; have hnc12 := NB371_381.out; have hnb13 := NB381_0.out; have hnc13 := NB0_381.out; have hcz14_0 : w11.cell? ⟨gb381, 0, none⟩ = some (.int .i64 0) := (kcl BK381.out 0).trans rfl; have hcz14_1 : w11.cell? ⟨gb381, 1, none⟩ = some (.string (⟨#[]⟩ : ByteArray)) := (kcl BK381.out 1).trans rfl; have hcz14_2 : w11.cell? ⟨gb381, 2, none⟩ = some (.int .i64 0) := (kcl BK381.out 2).trans rfl; have hfz14_0 := kfr BK381.out 0; have hfz14_1 := kfr BK381.out 1; have hfz14_2 := kfr BK381.out 2) | ((with_reducible refine gcl (f := 66) rfl ?_); refine gl_ (some 12) rfl rfl Try.func66 (by kernel_rfl) rfl #[.pointer (some ⟨g, 0, none⟩)] rfl (by (try simp only [List.map_toArray, List.map_cons, List.map_nil]); first | done | rfl | (simp only [List.length_drop, List.length_take]; rfl)) ?_; (with_reducible refine (codec_In_Err.calls g t379 t380 t382 t383 t384 w0 _ ?side1 ?side2 A5.out).mono ?_); (case side1 => repeat (first | (with_reducible first | exact HI0.out | apply IsS108.alloc | apply IsS108.drewN | apply IsS108.drew | apply IsS108.set_0 | apply IsS108.set_1 | refine IsS108.far ?_ NB0_371.out _ | refine IsS108.far ?_ NB0_381.out _) | exact HI0.out)); (case side2 => repeat (first | (with_reducible first | exact HB.out | apply bal | apply bdn | apply bd1 | refine bst ?_ (IsS108.ge HI0.out) | refine bst ?_ GE371.out | refine bst ?_ GE381.out) | exact HB.out)); rintro e w15 ⟨rfl, hi, hb, hk⟩; refine ⟨_, rfl, ?_⟩; have n0_ := Aside0.mk (KeepBut.blk hk (g' := gb371) (o := .cells #[.int .i64 0, .string (⟨#[]⟩ : ByteArray), .int .i64 0] 51 (0, 0)) (by (with_reducible repeat (first | refine kdn ?_ _ | refine kdw ?_ | refine kal ?_ _)); refine blk_far ?_ NB371_381.out _; (with_reducible repeat (first | refine kdn ?_ _ | refine kdw ?_ | refine kal ?_ _)); refine blk_far ?_ NB371_381.out _; (with_reducible repeat (first | refine kdn ?_ _ | refine kdw ?_ | refine kal ?_ _)); refine blk_far ?_ NB371_381.out _; (with_reducible repeat (first | refine kdn ?_ _ | refine kdw ?_ | refine kal ?_ _)); exact BK371.out) NB371_0.out (by simp)); have n1_ := Aside0.mk (KeepBut.blk hk (g' := gb381) (o := .cells #[.int .i64 t372, .string t375, .int .i64 t378] 51 (0, 0)) (by (with_reducible repeat (first | refine kdn ?_ _ | refine kdw ?_ | refine kal ?_ _)); refine kpt (cs := #[.int .i64 t372, .string t375, .int .i64 0]) ?_ 2 _ rfl; (with_reducible repeat (first | refine kdn ?_ _ | refine kdw ?_ | refine kal ?_ _)); refine kpt (cs := #[.int .i64 t372, .string (⟨#[]⟩ : ByteArray), .int .i64 0]) ?_ 1 _ rfl; (with_reducible repeat (first | refine kdn ?_ _ | refine kdw ?_ | refine kal ?_ _)); refine kpt (cs := #[.int .i64 0, .string (⟨#[]⟩ : ByteArray), .int .i64 0]) ?_ 0 _ rfl; (with_reducible repeat (first | refine kdn ?_ _ | refine kdw ?_ | refine kal ?_ _)); exact BK381.out) NB381_0.out (by simp)); have n2_ := Aside0.mk (KeepBut.trans (by repeat (first | (with_reducible first | exact HK.out | apply KeepBut.set_ | apply edn | apply edw | apply eal | refine keep_far ?_ GW371.out _ | refine keep_far ?_ GW381.out _) | exact HK.out)) hk (.inl rfl)); have n3_ := Aside0.mk (hb); have n4_ := Aside0.mk (hi); clear BK371; clear BK381; clear HK; clear HB; clear HI0; have BK371 := n0_; have BK381 := n1_; have HK := n2_; have HB := n3_; have HI0 := n4_; clear n0_ n1_ n2_ n3_ n4_; (try clear hb); (try clear hb2); (try clear hk); (try clear hi)))
  (try simp only [Act.put, List.setIfInBounds_toArray, List.set_cons_zero, List.set_cons_succ])
  go_cut [] (fun wc => ∃ (kq : Nat) (x1000_5 : ByteArray) (x1001_5 : Int), Aside0 (method_ReadResult.j0 kq x1000_5 x1001_5 t372 t375 t378 = some (r1, r2, r3, r4, r5)) ∧ Aside0 (kq ≤ k) ∧ Aside0 (wc.heap[gb371]? = some (.cells #[.int .i64 0, .string (⟨#[]⟩ : ByteArray), .int .i64 0] 51 (0, 0))) ∧ Aside0 (wc.heap[gb381]? = some (.cells #[.int .i64 t372, .string t375, .int .i64 t378] 51 (0, 0))) ∧ Aside0 (IsS108 w0 wc g x1000_5 x1001_5) ∧ Aside0 (KeepBut w wc g none) ∧ Aside0 (Below w0.heap.size w0 wc))
  case first =>
    have H := HC6.out
    clear HC6
    by_cases c16 : t382 = 0
    rotate_left
    · rw [if_neg c16] at H
      have c16b0 : (t382 == 0) = false := beq_eq_false_iff_ne.mpr c16
      have c16b1 : (t382 != 0) = true := bne_iff_ne.mpr c16
      (first | rw [c16b0] | (simp only [i64_w, i32_w]; rw [c16b0]) | skip)
      have H' := Aside0.mk H
      clear H
      go_wp2
      go_meet
      case rel => exact ⟨_, (t383), (t384), H', ⟨by first | omega | exact Nat.le_refl _⟩, ⟨by (with_reducible repeat (first | refine kdn ?_ _ | refine kdw ?_ | refine kal ?_ _)); exact BK371.out⟩, ⟨by (with_reducible repeat (first | refine kdn ?_ _ | refine kdw ?_ | refine kal ?_ _)); exact BK381.out⟩, ⟨by repeat (first | (with_reducible first | exact HI0.out | apply IsS108.alloc | apply IsS108.drewN | apply IsS108.drew | apply IsS108.set_0 | apply IsS108.set_1 | refine IsS108.far ?_ NB0_371.out _ | refine IsS108.far ?_ NB0_381.out _) | exact HI0.out)⟩, ⟨by repeat (first | (with_reducible first | exact HK.out | apply KeepBut.set_ | apply edn | apply edw | apply eal | refine keep_far ?_ GW371.out _ | refine keep_far ?_ GW381.out _) | exact HK.out)⟩, ⟨by repeat (first | (with_reducible first | exact HB.out | apply bal | apply bdn | apply bd1 | refine bst ?_ (IsS108.ge HI0.out) | refine bst ?_ GE371.out | refine bst ?_ GE381.out) | exact HB.out)⟩⟩
    rw [if_pos c16] at H
    have c16b0 : (t382 == 0) = true := beq_iff_eq.mpr c16
    have c16b1 : (t382 != 0) = false := bne_eq_false_iff_eq.mpr c16
    clear c16
    (first | rw [c16b0] | (simp only [i64_w, i32_w]; rw [c16b0]) | skip)
    replace H := Option.bind_eq_some_iff.mp H
    obtain ⟨t385, A170, H⟩ := H
    replace H : ((PL.codec_In_Fail.f t383 t384 t385).bind fun bt386 => (method_ReadResult.j0 k bt386.1 bt386.2 t372 t375 t378)) = some (r1, r2, r3, r4, r5) := H
    have A17 := Aside0.mk A170
    clear A170
    replace H := Option.bind_eq_some_iff.mp H
    obtain ⟨⟨t386, t387⟩, A180, H⟩ := H
    replace H : (method_ReadResult.j0 k t386 t387 t372 t375 t378) = some (r1, r2, r3, r4, r5) := H
    have A18 := Aside0.mk A180
    clear A180
    have H' := Aside0.mk H
    clear H
    have hnb19 := NB381_371.out
    have hnc19 := NB371_381.out
    have hnb20 := NB381_0.out
    have hnc20 := NB0_381.out
    have hcz21_0 : w15.cell? ⟨gb381, 0, none⟩ = some (.int .i64 t372) := (kcl BK381.out 0).trans rfl
    have hcz21_1 : w15.cell? ⟨gb381, 1, none⟩ = some (.string t375) := (kcl BK381.out 1).trans rfl
    have hcz21_2 : w15.cell? ⟨gb381, 2, none⟩ = some (.int .i64 t378) := (kcl BK381.out 2).trans rfl
    have hfz21_0 := kfr BK381.out 0
    have hfz21_1 := kfr BK381.out 1
    have hfz21_2 := kfr BK381.out 2
    go_wp2_with (first | ((with_reducible refine gcl (f := 55) rfl ?_); refine gl_ (some 16) rfl rfl Try.func55 (by kernel_rfl) rfl #[.agg #[.int .i64 t372, .string t375, .int .i64 t378]] rfl (by (try simp only [List.map_toArray, List.map_cons, List.map_nil]); first | done | rfl | (simp only [List.length_drop, List.length_take]; rfl)) ?_; (with_reducible refine (method_Result_Check.calls k t372 t375 t378 t385 _ A17.out).mono ?_); rintro e w22 ⟨rfl, hb⟩; refine ⟨_, rfl, ?_⟩; have n0_ := Aside0.mk (IsS108.below (by repeat (first | (with_reducible first | exact HI0.out | apply IsS108.alloc | apply IsS108.drewN | apply IsS108.drew | apply IsS108.set_0 | apply IsS108.set_1 | refine IsS108.far ?_ NB0_371.out _ | refine IsS108.far ?_ NB0_381.out _) | exact HI0.out)) hb); have n1_ := Aside0.mk (kbl (g := gb371) (o := .cells #[.int .i64 0, .string (⟨#[]⟩ : ByteArray), .int .i64 0] 51 (0, 0)) (by (with_reducible repeat (first | refine kdn ?_ _ | refine kdw ?_ | refine kal ?_ _)); exact BK371.out) hb); have n2_ := Aside0.mk (kbl (g := gb381) (o := .cells #[.int .i64 t372, .string t375, .int .i64 t378] 51 (0, 0)) (by (with_reducible repeat (first | refine kdn ?_ _ | refine kdw ?_ | refine kal ?_ _)); exact BK381.out) hb); have n3_ := Aside0.mk (KeepBut.trans (by repeat (first | (with_reducible first | exact HK.out | apply KeepBut.set_ | apply edn | apply edw | apply eal | refine keep_far ?_ GW371.out _ | refine keep_far ?_ GW381.out _) | exact HK.out)) (KeepBut.of_below hb g none) (.inl rfl)); have n4_ := Aside0.mk (bsp (by repeat (first | (with_reducible first | exact HB.out | apply bal | apply bdn | apply bd1 | refine bst ?_ (IsS108.ge HI0.out) | refine bst ?_ GE371.out | refine bst ?_ GE381.out) | exact HB.out)) hb); clear HI0; clear BK371; clear BK381; clear HK; clear HB; have HI0 := n0_; have BK371 := n1_; have BK381 := n2_; have HK := n3_; have HB := n4_; clear n0_ n1_ n2_ n3_ n4_; (try clear hb); (try clear hb2); (try clear hk); (try clear hi)) | ((with_reducible refine gcl (f := 34) rfl ?_); refine gl_ (some 17) rfl rfl Try.func34 (by kernel_rfl) rfl #[.pointer (some ⟨g, 0, none⟩), .int .i64 t385] rfl (by (try simp only [List.map_toArray, List.map_cons, List.map_nil]); first | done | rfl | (simp only [List.length_drop, List.length_take]; rfl)) ?_; (with_reducible refine (PL.codec_In_Fail.calls g t383 t384 t385 t386 t387 w0 _ ?side1 ?side2 A18.out).mono ?_); (case side1 => repeat (first | (with_reducible first | exact HI0.out | apply IsS108.alloc | apply IsS108.drewN | apply IsS108.drew | apply IsS108.set_0 | apply IsS108.set_1 | refine IsS108.far ?_ NB0_371.out _ | refine IsS108.far ?_ NB0_381.out _) | exact HI0.out)); (case side2 => repeat (first | (with_reducible first | exact HB.out | apply bal | apply bdn | apply bd1 | refine bst ?_ (IsS108.ge HI0.out) | refine bst ?_ GE371.out | refine bst ?_ GE381.out) | exact HB.out)); rintro e w23 ⟨rfl, hi, hb, hk⟩; refine ⟨_, rfl, ?_⟩; have n0_ := Aside0.mk (KeepBut.blk hk (g' := gb371) (o := .cells #[.int .i64 0, .string (⟨#[]⟩ : ByteArray), .int .i64 0] 51 (0, 0)) (by (with_reducible repeat (first | refine kdn ?_ _ | refine kdw ?_ | refine kal ?_ _)); exact BK371.out) NB371_0.out (by simp)); have n1_ := Aside0.mk (KeepBut.blk hk (g' := gb381) (o := .cells #[.int .i64 t372, .string t375, .int .i64 t378] 51 (0, 0)) (by (with_reducible repeat (first | refine kdn ?_ _ | refine kdw ?_ | refine kal ?_ _)); exact BK381.out) NB381_0.out (by simp)); have n2_ := Aside0.mk (KeepBut.trans (by repeat (first | (with_reducible first | exact HK.out | apply KeepBut.set_ | apply edn | apply edw | apply eal | refine keep_far ?_ GW371.out _ | refine keep_far ?_ GW381.out _) | exact HK.out)) hk (.inl rfl)); have n3_ := Aside0.mk (hb); have n4_ := Aside0.mk (hi); clear BK371; clear BK381; clear HK; clear HB; clear HI0; have BK371 := n0_; have BK381 := n1_; have HK := n2_; have HB := n3_; have HI0 := n4_; clear n0_ n1_ n2_ n3_ n4_; (try clear hb); (try clear hb2); (try clear hk); (try clear hi)))
    go_meet
    case rel => exact ⟨_, (t386), (t387), H', ⟨by first | omega | exact Nat.le_refl _⟩, ⟨by (with_reducible repeat (first | refine kdn ?_ _ | refine kdw ?_ | refine kal ?_ _)); exact BK371.out⟩, ⟨by (with_reducible repeat (first | refine kdn ?_ _ | refine kdw ?_ | refine kal ?_ _)); exact BK381.out⟩, ⟨by repeat (first | (with_reducible first | exact HI0.out | apply IsS108.alloc | apply IsS108.drewN | apply IsS108.drew | apply IsS108.set_0 | apply IsS108.set_1 | refine IsS108.far ?_ NB0_371.out _ | refine IsS108.far ?_ NB0_381.out _) | exact HI0.out)⟩, ⟨by repeat (first | (with_reducible first | exact HK.out | apply KeepBut.set_ | apply edn | apply edw | apply eal | refine keep_far ?_ GW371.out _ | refine keep_far ?_ GW381.out _) | exact HK.out)⟩, ⟨by repeat (first | (with_reducible first | exact HB.out | apply bal | apply bdn | apply bd1 | refine bst ?_ (IsS108.ge HI0.out) | refine bst ?_ GE371.out | refine bst ?_ GE381.out) | exact HB.out)⟩⟩
  clear HC6
  try clear c1
  try clear c2
  try clear p2
  try clear c3
  try clear c5
  try clear c6
  try clear c12
  try clear c13
  try clear c16
  try clear c16b0
  try clear c16b1
  try clear c19
  try clear c20
  try clear hcz14_0
  try clear hcz14_1
  try clear hcz14_2
  try clear hcz21_0
  try clear hcz21_1
  try clear hcz21_2
  try clear hfz14_0
  try clear hfz14_1
  try clear hfz14_2
  try clear hfz21_0
  try clear hfz21_1
  try clear hfz21_2
  obtain ⟨kq, x1000_5, x1001_5, HA, HJ5, BK371, BK381, HI0, HK, HB⟩ := hcut
  cases kq with
  | zero => exact absurd HA.out (by simp [method_ReadResult.j0])
  | succ kj5 =>
    have H := HA.out
    clear HA
    simp only [method_ReadResult.j0] at H
    replace H := Option.bind_eq_some_iff.mp H
    obtain ⟨⟨t388, t389, t390⟩, A240, H⟩ := H
    replace H : (if t388 = 0 then (some (t372, t375, t378, t389, t390)) else (some (0, (⟨#[]⟩ : ByteArray), 0, t389, t390))) = some (r1, r2, r3, r4, r5) := H
    have A24 := Aside0.mk A240
    clear A240
    by_cases c25 : t388 = 0
    rotate_left
    · rw [if_neg c25] at H
      have c25b0 : (t388 == 0) = false := beq_eq_false_iff_ne.mpr c25
      have c25b1 : (t388 != 0) = true := bne_iff_ne.mpr c25
      simp only [Option.some.injEq, Prod.mk.injEq] at H
      obtain ⟨rfl, rfl, rfl, rfl, rfl⟩ := H
      go_wp2_with (first | ((with_reducible refine gcl (f := 66) rfl ?_); refine gl_ (some 19) rfl rfl Try.func66 (by kernel_rfl) rfl #[.pointer (some ⟨g, 0, none⟩)] rfl (by (try simp only [List.map_toArray, List.map_cons, List.map_nil]); first | done | rfl | (simp only [List.length_drop, List.length_take]; rfl)) ?_; (with_reducible refine (codec_In_Err.calls g x1000_5 x1001_5 t388 t389 t390 w0 _ ?side1 ?side2 A24.out).mono ?_); (case side1 => repeat (first | (with_reducible first | exact HI0.out | apply IsS108.alloc | apply IsS108.drewN | apply IsS108.drew | apply IsS108.set_0 | apply IsS108.set_1 | refine IsS108.far ?_ NB0_371.out _ | refine IsS108.far ?_ NB0_381.out _) | exact HI0.out)); (case side2 => repeat (first | (with_reducible first | exact HB.out | apply bal | apply bdn | apply bd1 | refine bst ?_ (IsS108.ge HI0.out) | refine bst ?_ GE371.out | refine bst ?_ GE381.out) | exact HB.out)); rintro e w32 ⟨rfl, hi, hb, hk⟩; refine ⟨_, rfl, ?_⟩; have n0_ := Aside0.mk (KeepBut.blk hk (g' := gb371) (o := .cells #[.int .i64 0, .string (⟨#[]⟩ : ByteArray), .int .i64 0] 51 (0, 0)) (by (with_reducible repeat (first | refine kdn ?_ _ | refine kdw ?_ | refine kal ?_ _)); exact BK371.out) NB371_0.out (by simp)); have n1_ := Aside0.mk (KeepBut.blk hk (g' := gb381) (o := .cells #[.int .i64 t372, .string t375, .int .i64 t378] 51 (0, 0)) (by (with_reducible repeat (first | refine kdn ?_ _ | refine kdw ?_ | refine kal ?_ _)); exact BK381.out) NB381_0.out (by simp)); have n2_ := Aside0.mk (KeepBut.trans (by repeat (first | (with_reducible first | exact HK.out | apply KeepBut.set_ | apply edn | apply edw | apply eal | refine keep_far ?_ GW371.out _ | refine keep_far ?_ GW381.out _) | exact HK.out)) hk (.inl rfl)); have n3_ := Aside0.mk (hb); have n4_ := Aside0.mk (hi); clear BK371; clear BK381; clear HK; clear HB; clear HI0; have BK371 := n0_; have BK381 := n1_; have HK := n2_; have HB := n3_; have HI0 := n4_; clear n0_ n1_ n2_ n3_ n4_; (try clear hb); (try clear hb2); (try clear hk); (try clear hi); have hnb33 := NB371_381.out; have hnc33 := NB381_371.out; have hnb34 := NB371_0.out; have hnc34 := NB0_371.out; have hcz35_0 : w32.cell? ⟨gb371, 0, none⟩ = some (.int .i64 0) := (kcl BK371.out 0).trans rfl; have hcz35_1 : w32.cell? ⟨gb371, 1, none⟩ = some (.string (⟨#[]⟩ : ByteArray)) := (kcl BK371.out 1).trans rfl; have hcz35_2 : w32.cell? ⟨gb371, 2, none⟩ = some (.int .i64 0) := (kcl BK371.out 2).trans rfl; have hfz35_0 := kfr BK371.out 0; have hfz35_1 := kfr BK371.out 1; have hfz35_2 := kfr BK371.out 2))
      refine bodyPost_ret (results_cell_row rfl _ _ gb371 51 #[.int .i64 0, .string (⟨#[]⟩ : ByteArray), .int .i64 0] (0, 0) _ rfl (by (with_reducible repeat (first | refine kdn ?_ _ | refine kdw ?_ | refine kal ?_ _)); refine kpt (cs := #[.int .i64 0, .string (⟨#[]⟩ : ByteArray), .int .i64 0]) ?_ 2 _ rfl; (with_reducible repeat (first | refine kdn ?_ _ | refine kdw ?_ | refine kal ?_ _)); refine kpt (cs := #[.int .i64 0, .string (⟨#[]⟩ : ByteArray), .int .i64 0]) ?_ 1 _ rfl; (with_reducible repeat (first | refine kdn ?_ _ | refine kdw ?_ | refine kal ?_ _)); refine kpt (cs := #[.int .i64 0, .string (⟨#[]⟩ : ByteArray), .int .i64 0]) ?_ 0 _ rfl; (with_reducible repeat (first | refine kdn ?_ _ | refine kdw ?_ | refine kal ?_ _)); exact BK371.out) Try.underlying51 rfl (by kernel_rfl)) rfl ?_
      exact ⟨by first | rfl | (simp [errW_none, errW_some] <;> rfl) | (simp [*, errW_none, errW_some] <;> rfl), by repeat (first | (with_reducible first | exact HI0.out | apply IsS108.alloc | apply IsS108.drewN | apply IsS108.drew | apply IsS108.set_0 | apply IsS108.set_1 | refine IsS108.far ?_ NB0_371.out _ | refine IsS108.far ?_ NB0_381.out _) | exact HI0.out), by repeat (first | (with_reducible first | exact HB.out | apply bal | apply bdn | apply bd1 | refine bst ?_ (IsS108.ge HI0.out) | refine bst ?_ GE371.out | refine bst ?_ GE381.out) | exact HB.out), by repeat (first | (with_reducible first | exact HK.out | apply KeepBut.set_ | apply edn | apply edw | apply eal | refine keep_far ?_ GW371.out _ | refine keep_far ?_ GW381.out _) | exact HK.out)⟩
    rw [if_pos c25] at H
    have c25b0 : (t388 == 0) = true := beq_iff_eq.mpr c25
    have c25b1 : (t388 != 0) = false := bne_eq_false_iff_eq.mpr c25
    clear c25
    simp only [Option.some.injEq, Prod.mk.injEq] at H
    obtain ⟨rfl, rfl, rfl, rfl, rfl⟩ := H
    go_wp2_with (first | ((with_reducible refine gcl (f := 66) rfl ?_); refine gl_ (some 19) rfl rfl Try.func66 (by kernel_rfl) rfl #[.pointer (some ⟨g, 0, none⟩)] rfl (by (try simp only [List.map_toArray, List.map_cons, List.map_nil]); first | done | rfl | (simp only [List.length_drop, List.length_take]; rfl)) ?_; (with_reducible refine (codec_In_Err.calls g x1000_5 x1001_5 t388 t389 t390 w0 _ ?side1 ?side2 A24.out).mono ?_); (case side1 => repeat (first | (with_reducible first | exact HI0.out | apply IsS108.alloc | apply IsS108.drewN | apply IsS108.drew | apply IsS108.set_0 | apply IsS108.set_1 | refine IsS108.far ?_ NB0_371.out _ | refine IsS108.far ?_ NB0_381.out _) | exact HI0.out)); (case side2 => repeat (first | (with_reducible first | exact HB.out | apply bal | apply bdn | apply bd1 | refine bst ?_ (IsS108.ge HI0.out) | refine bst ?_ GE371.out | refine bst ?_ GE381.out) | exact HB.out)); rintro e w26 ⟨rfl, hi, hb, hk⟩; refine ⟨_, rfl, ?_⟩; have n0_ := Aside0.mk (KeepBut.blk hk (g' := gb371) (o := .cells #[.int .i64 0, .string (⟨#[]⟩ : ByteArray), .int .i64 0] 51 (0, 0)) (by (with_reducible repeat (first | refine kdn ?_ _ | refine kdw ?_ | refine kal ?_ _)); exact BK371.out) NB371_0.out (by simp)); have n1_ := Aside0.mk (KeepBut.blk hk (g' := gb381) (o := .cells #[.int .i64 t372, .string t375, .int .i64 t378] 51 (0, 0)) (by (with_reducible repeat (first | refine kdn ?_ _ | refine kdw ?_ | refine kal ?_ _)); exact BK381.out) NB381_0.out (by simp)); have n2_ := Aside0.mk (KeepBut.trans (by repeat (first | (with_reducible first | exact HK.out | apply KeepBut.set_ | apply edn | apply edw | apply eal | refine keep_far ?_ GW371.out _ | refine keep_far ?_ GW381.out _) | exact HK.out)) hk (.inl rfl)); have n3_ := Aside0.mk (hb); have n4_ := Aside0.mk (hi); clear BK371; clear BK381; clear HK; clear HB; clear HI0; have BK371 := n0_; have BK381 := n1_; have HK := n2_; have HB := n3_; have HI0 := n4_; clear n0_ n1_ n2_ n3_ n4_; (try clear hb); (try clear hb2); (try clear hk); (try clear hi); have hnb27 := NB381_371.out; have hnc27 := NB371_381.out; have hnb28 := NB381_0.out; have hnc28 := NB0_381.out; have hcz29_0 : w26.cell? ⟨gb381, 0, none⟩ = some (.int .i64 t372) := (kcl BK381.out 0).trans rfl; have hcz29_1 : w26.cell? ⟨gb381, 1, none⟩ = some (.string t375) := (kcl BK381.out 1).trans rfl; have hcz29_2 : w26.cell? ⟨gb381, 2, none⟩ = some (.int .i64 t378) := (kcl BK381.out 2).trans rfl; have hfz29_0 := kfr BK381.out 0; have hfz29_1 := kfr BK381.out 1; have hfz29_2 := kfr BK381.out 2; have hnb30 := NB371_0.out; have hnc30 := NB0_371.out; have hcz31_0 : w26.cell? ⟨gb371, 0, none⟩ = some (.int .i64 0) := (kcl BK371.out 0).trans rfl; have hcz31_1 : w26.cell? ⟨gb371, 1, none⟩ = some (.string (⟨#[]⟩ : ByteArray)) := (kcl BK371.out 1).trans rfl; have hcz31_2 : w26.cell? ⟨gb371, 2, none⟩ = some (.int .i64 0) := (kcl BK371.out 2).trans rfl; have hfz31_0 := kfr BK371.out 0; have hfz31_1 := kfr BK371.out 1; have hfz31_2 := kfr BK371.out 2))
    refine bodyPost_ret (results_cell_row rfl _ _ gb371 51 #[.int .i64 t372, .string t375, .int .i64 t378] (0, 0) _ rfl (by (with_reducible repeat (first | refine kdn ?_ _ | refine kdw ?_ | refine kal ?_ _)); refine kpt (cs := #[.int .i64 t372, .string t375, .int .i64 0]) ?_ 2 _ rfl; (with_reducible repeat (first | refine kdn ?_ _ | refine kdw ?_ | refine kal ?_ _)); refine kpt (cs := #[.int .i64 t372, .string (⟨#[]⟩ : ByteArray), .int .i64 0]) ?_ 1 _ rfl; (with_reducible repeat (first | refine kdn ?_ _ | refine kdw ?_ | refine kal ?_ _)); refine kpt (cs := #[.int .i64 0, .string (⟨#[]⟩ : ByteArray), .int .i64 0]) ?_ 0 _ rfl; (with_reducible repeat (first | refine kdn ?_ _ | refine kdw ?_ | refine kal ?_ _)); exact BK371.out) Try.underlying51 rfl (by kernel_rfl)) rfl ?_
    exact ⟨by first | rfl | (simp [errW_none, errW_some] <;> rfl) | (simp [*, errW_none, errW_some] <;> rfl), by repeat (first | (with_reducible first | exact HI0.out | apply IsS108.alloc | apply IsS108.drewN | apply IsS108.drew | apply IsS108.set_0 | apply IsS108.set_1 | refine IsS108.far ?_ NB0_371.out _ | refine IsS108.far ?_ NB0_381.out _) | exact HI0.out), by repeat (first | (with_reducible first | exact HB.out | apply bal | apply bdn | apply bd1 | refine bst ?_ (IsS108.ge HI0.out) | refine bst ?_ GE371.out | refine bst ?_ GE381.out) | exact HB.out), by repeat (first | (with_reducible first | exact HK.out | apply KeepBut.set_ | apply edn | apply edw | apply eal | refine keep_far ?_ GW371.out _ | refine keep_far ?_ GW381.out _) | exact HK.out)⟩
def frame_ParseReply.j0 : Nat → ByteArray → Int → Int → Int → Int → ByteArray → Int → Option (Int × Int × Int × ByteArray × Int × Int)
  | 0, _, _, _, _, _, _, _ => none
  | k + 1, x397000, x397001, x404000, x404001, x404002, x404003, x404004 => (codec_In_End.f x397000 x397001).bind fun bt412 => (if bt412.1 = 0 then (some (x404000, x404001, x404002, x404003, x404004, 0)) else (some (0, 0, 0, (⟨#[]⟩ : ByteArray), 0, bt412.1)))
def frame_ParseReply.f (k : Nat) (a0 : ByteArray) : Option (Int × Int × Int × ByteArray × Int × Int) := (frame_open.f k a0).bind fun bt392 => (if bt392.2 = 0 then ((codec_Read.f bt392.1).bind fun bt394 => ((codec_In_N.f bt394.1 bt394.2 19).bind fun bt397 => ((codec_In_N.f bt397.2.1 bt397.2.2 1099511627776).bind fun bt400 => ((codec_In_Len.f bt400.2.1 bt400.2.2).bind fun bt404 => (if bt404.1 > 0 then ((method_ReadResult.f k bt404.2.1 bt404.2.2).bind fun bt407 => (frame_ParseReply.j0 k bt407.2.2.2.1 bt407.2.2.2.2 bt397.1 bt400.1 bt407.1 bt407.2.1 bt407.2.2.1)) else (frame_ParseReply.j0 k bt404.2.1 bt404.2.2 bt397.1 bt400.1 0 (⟨#[]⟩ : ByteArray) 0)))))) else (some (0, 0, 0, (⟨#[]⟩ : ByteArray), 0, bt392.2)))
set_option maxHeartbeats 2000000 in
set_option maxRecDepth 100000 in
theorem frame_ParseReply.calls (k : Nat) (a0 : ByteArray) (r1 : Int) (r2 : Int) (r3 : Int) (r4 : ByteArray) (r5 : Int) (r6 : Int) (w : World) (h : frame_ParseReply.f k a0 = some (r1, r2, r3, r4, r5, r6)) :
    Calls Try.prog 20 #[.string a0] w fun e w' => e = .returned (.tuple #[.agg #[.int .i64 r1, .int .i64 r2, .int .i64 r3, .string r4, .int .i64 r5], .int .i64 r6]) ∧ Below w.heap.size w w' := by
  have hu53 := Try.underlying53
  have hu51 := Try.underlying51
  have HB := Aside0.mk (Below.refl w.heap.size w)
  have H : ((frame_open.f k a0).bind fun bt392 => (if bt392.2 = 0 then ((codec_Read.f bt392.1).bind fun bt394 => ((codec_In_N.f bt394.1 bt394.2 19).bind fun bt397 => ((codec_In_N.f bt397.2.1 bt397.2.2 1099511627776).bind fun bt400 => ((codec_In_Len.f bt400.2.1 bt400.2.2).bind fun bt404 => (if bt404.1 > 0 then ((method_ReadResult.f k bt404.2.1 bt404.2.2).bind fun bt407 => (frame_ParseReply.j0 k bt407.2.2.2.1 bt407.2.2.2.2 bt397.1 bt400.1 bt407.1 bt407.2.1 bt407.2.2.1)) else (frame_ParseReply.j0 k bt404.2.1 bt404.2.2 bt397.1 bt400.1 0 (⟨#[]⟩ : ByteArray) 0)))))) else (some (0, 0, 0, (⟨#[]⟩ : ByteArray), 0, bt392.2)))) = some (r1, r2, r3, r4, r5, r6) := h
  clear h
  replace H := Option.bind_eq_some_iff.mp H
  obtain ⟨⟨t392, t393⟩, A20, H⟩ := H
  replace H : (if t393 = 0 then ((codec_Read.f t392).bind fun bt394 => ((codec_In_N.f bt394.1 bt394.2 19).bind fun bt397 => ((codec_In_N.f bt397.2.1 bt397.2.2 1099511627776).bind fun bt400 => ((codec_In_Len.f bt400.2.1 bt400.2.2).bind fun bt404 => (if bt404.1 > 0 then ((method_ReadResult.f k bt404.2.1 bt404.2.2).bind fun bt407 => (frame_ParseReply.j0 k bt407.2.2.2.1 bt407.2.2.2.2 bt397.1 bt400.1 bt407.1 bt407.2.1 bt407.2.2.1)) else (frame_ParseReply.j0 k bt404.2.1 bt404.2.2 bt397.1 bt400.1 0 (⟨#[]⟩ : ByteArray) 0)))))) else (some (0, 0, 0, (⟨#[]⟩ : ByteArray), 0, t393))) = some (r1, r2, r3, r4, r5, r6) := H
  have A2 := Aside0.mk A20
  clear A20
  by_cases c3 : t393 = 0
  rotate_left
  · rw [if_neg c3] at H
    have c3b0 : (t393 == 0) = false := beq_eq_false_iff_ne.mpr c3
    have c3b1 : (t393 != 0) = true := bne_iff_ne.mpr c3
    simp only [Option.some.injEq, Prod.mk.injEq] at H
    obtain ⟨rfl, rfl, rfl, rfl, rfl, rfl⟩ := H
    go_enter Try.func20, Try.ntmps20
    go_wp2_with (first | ((with_reducible refine gds (N := 2) rfl ?_); refine bev ?hg (N := 2) ?hd (cs := #[.int .i64 0, .int .i64 0, .int .i64 0, .string (⟨#[]⟩ : ByteArray), .int .i64 0]) (t := 53) ?hr ?_; (case hd => rfl); (case hg => rfl); (case hr => first | (go_simp; done) | (go_simp; rfl)); intro gb391 hg w37 hbox hb; have n0_ := Aside0.mk (bsp (by repeat (first | (with_reducible first | exact HB.out | apply bal | apply bdn | apply bd1) | exact HB.out)) hb); have n1_ := Aside0.mk (hbox); have n2_ := Aside0.mk ((by rw [hg]; exact (bsz (by repeat (first | (with_reducible first | exact HB.out | apply bal | apply bdn | apply bd1) | exact HB.out))) : w.heap.size ≤ gb391)); have n3_ := Aside0.mk ((by rw [hg]; exact (bsz (by repeat (first | (with_reducible first | exact HB.out | apply bal | apply bdn | apply bd1) | exact HB.out))) : w.heap.size ≤ gb391)); clear HB; have HB := n0_; have BK391 := n1_; have GW391 := n2_; have GE391 := n3_; clear n0_ n1_ n2_ n3_; clear hb hbox hg) | ((with_reducible refine gcl (f := 31) rfl ?_); refine gl_ (some 11) rfl rfl Try.func31 (by kernel_rfl) rfl #[.string a0] rfl (by (try simp only [List.map_toArray, List.map_cons, List.map_nil]); first | done | rfl | (simp only [List.length_drop, List.length_take]; rfl)) ?_; (with_reducible refine (frame_open.calls k a0 t392 t393 _ A2.out).mono ?_); rintro e w38 ⟨rfl, hb⟩; refine ⟨_, rfl, ?_⟩; have n0_ := Aside0.mk (kbl (g := gb391) (o := .cells #[.int .i64 0, .int .i64 0, .int .i64 0, .string (⟨#[]⟩ : ByteArray), .int .i64 0] 53 (0, 0)) (by (with_reducible repeat (first | refine kdn ?_ _ | refine kdw ?_ | refine kal ?_ _)); exact BK391.out) hb); have n1_ := Aside0.mk (bsp (by repeat (first | (with_reducible first | exact HB.out | apply bal | apply bdn | apply bd1 | refine bst ?_ GE391.out) | exact HB.out)) hb); clear BK391; clear HB; have BK391 := n0_; have HB := n1_; clear n0_ n1_; (try clear hb); (try clear hb2); (try clear hk); (try clear hi); have hcz39_0 : w38.cell? ⟨gb391, 0, none⟩ = some (.int .i64 0) := (kcl BK391.out 0).trans rfl; have hcz39_1 : w38.cell? ⟨gb391, 1, none⟩ = some (.int .i64 0) := (kcl BK391.out 1).trans rfl; have hcz39_2 : w38.cell? ⟨gb391, 2, none⟩ = some (.int .i64 0) := (kcl BK391.out 2).trans rfl; have hcz39_3 : w38.cell? ⟨gb391, 3, none⟩ = some (.string (⟨#[]⟩ : ByteArray)) := (kcl BK391.out 3).trans rfl; have hcz39_4 : w38.cell? ⟨gb391, 4, none⟩ = some (.int .i64 0) := (kcl BK391.out 4).trans rfl; have hfz39_0 := kfr BK391.out 0; have hfz39_1 := kfr BK391.out 1; have hfz39_2 := kfr BK391.out 2; have hfz39_3 := kfr BK391.out 3; have hfz39_4 := kfr BK391.out 4))
    refine bodyPost_ret (results_ct rfl _ _ gb391 53 #[.int .i64 0, .int .i64 0, .int .i64 0, .string (⟨#[]⟩ : ByteArray), .int .i64 0] (0, 0) _ rfl (by (with_reducible repeat (first | refine kdn ?_ _ | refine kdw ?_ | refine kal ?_ _)); refine kpt (cs := #[.int .i64 0, .int .i64 0, .int .i64 0, .string (⟨#[]⟩ : ByteArray), .int .i64 0]) ?_ 4 _ rfl; (with_reducible repeat (first | refine kdn ?_ _ | refine kdw ?_ | refine kal ?_ _)); refine kpt (cs := #[.int .i64 0, .int .i64 0, .int .i64 0, .string (⟨#[]⟩ : ByteArray), .int .i64 0]) ?_ 3 _ rfl; (with_reducible repeat (first | refine kdn ?_ _ | refine kdw ?_ | refine kal ?_ _)); refine kpt (cs := #[.int .i64 0, .int .i64 0, .int .i64 0, .string (⟨#[]⟩ : ByteArray), .int .i64 0]) ?_ 2 _ rfl; (with_reducible repeat (first | refine kdn ?_ _ | refine kdw ?_ | refine kal ?_ _)); refine kpt (cs := #[.int .i64 0, .int .i64 0, .int .i64 0, .string (⟨#[]⟩ : ByteArray), .int .i64 0]) ?_ 1 _ rfl; (with_reducible repeat (first | refine kdn ?_ _ | refine kdw ?_ | refine kal ?_ _)); refine kpt (cs := #[.int .i64 0, .int .i64 0, .int .i64 0, .string (⟨#[]⟩ : ByteArray), .int .i64 0]) ?_ 0 _ rfl; (with_reducible repeat (first | refine kdn ?_ _ | refine kdw ?_ | refine kal ?_ _)); exact BK391.out) Try.underlying53 rfl (by kernel_rfl)) rfl ?_
    exact ⟨by first | rfl | (simp [errW_none, errW_some] <;> rfl) | (simp [*, errW_none, errW_some] <;> rfl), by repeat (first | (with_reducible first | exact HB.out | apply bal | apply bdn | apply bd1 | refine bst ?_ GE391.out) | exact HB.out)⟩
  rw [if_pos c3] at H
  have c3b0 : (t393 == 0) = true := beq_iff_eq.mpr c3
  have c3b1 : (t393 != 0) = false := bne_eq_false_iff_eq.mpr c3
  clear c3
  replace H := Option.bind_eq_some_iff.mp H
  obtain ⟨⟨t394, t395⟩, A40, H⟩ := H
  replace H : ((codec_In_N.f t394 t395 19).bind fun bt397 => ((codec_In_N.f bt397.2.1 bt397.2.2 1099511627776).bind fun bt400 => ((codec_In_Len.f bt400.2.1 bt400.2.2).bind fun bt404 => (if bt404.1 > 0 then ((method_ReadResult.f k bt404.2.1 bt404.2.2).bind fun bt407 => (frame_ParseReply.j0 k bt407.2.2.2.1 bt407.2.2.2.2 bt397.1 bt400.1 bt407.1 bt407.2.1 bt407.2.2.1)) else (frame_ParseReply.j0 k bt404.2.1 bt404.2.2 bt397.1 bt400.1 0 (⟨#[]⟩ : ByteArray) 0))))) = some (r1, r2, r3, r4, r5, r6) := H
  have A4 := Aside0.mk A40
  clear A40
  replace H := Option.bind_eq_some_iff.mp H
  obtain ⟨⟨t397, t398, t399⟩, A50, H⟩ := H
  replace H : ((codec_In_N.f t398 t399 1099511627776).bind fun bt400 => ((codec_In_Len.f bt400.2.1 bt400.2.2).bind fun bt404 => (if bt404.1 > 0 then ((method_ReadResult.f k bt404.2.1 bt404.2.2).bind fun bt407 => (frame_ParseReply.j0 k bt407.2.2.2.1 bt407.2.2.2.2 t397 bt400.1 bt407.1 bt407.2.1 bt407.2.2.1)) else (frame_ParseReply.j0 k bt404.2.1 bt404.2.2 t397 bt400.1 0 (⟨#[]⟩ : ByteArray) 0)))) = some (r1, r2, r3, r4, r5, r6) := H
  have A5 := Aside0.mk A50
  clear A50
  replace H := Option.bind_eq_some_iff.mp H
  obtain ⟨⟨t400, t401, t402⟩, A60, H⟩ := H
  replace H : ((codec_In_Len.f t401 t402).bind fun bt404 => (if bt404.1 > 0 then ((method_ReadResult.f k bt404.2.1 bt404.2.2).bind fun bt407 => (frame_ParseReply.j0 k bt407.2.2.2.1 bt407.2.2.2.2 t397 t400 bt407.1 bt407.2.1 bt407.2.2.1)) else (frame_ParseReply.j0 k bt404.2.1 bt404.2.2 t397 t400 0 (⟨#[]⟩ : ByteArray) 0))) = some (r1, r2, r3, r4, r5, r6) := H
  have A6 := Aside0.mk A60
  clear A60
  replace H := Option.bind_eq_some_iff.mp H
  obtain ⟨⟨t404, t405, t406⟩, A70, H⟩ := H
  replace H : (if t404 > 0 then ((method_ReadResult.f k t405 t406).bind fun bt407 => (frame_ParseReply.j0 k bt407.2.2.2.1 bt407.2.2.2.2 t397 t400 bt407.1 bt407.2.1 bt407.2.2.1)) else (frame_ParseReply.j0 k t405 t406 t397 t400 0 (⟨#[]⟩ : ByteArray) 0)) = some (r1, r2, r3, r4, r5, r6) := H
  have A7 := Aside0.mk A70
  clear A70
  have HC8 := Aside0.mk H
  clear H
  go_enter Try.func20, Try.ntmps20
  go_upto_if 27 with (first | ((with_reducible refine gds (N := 2) rfl ?_); refine bev ?hg (N := 2) ?hd (cs := #[.int .i64 0, .int .i64 0, .int .i64 0, .string (⟨#[]⟩ : ByteArray), .int .i64 0]) (t := 53) ?hr ?_; (case hd => rfl); (case hg => rfl); (case hr => first | (go_simp; done) | (go_simp; rfl)); intro gb391 hg w9 hbox hb; have n0_ := Aside0.mk (bsp (by repeat (first | (with_reducible first | exact HB.out | apply bal | apply bdn | apply bd1) | exact HB.out)) hb); have n1_ := Aside0.mk (hbox); have n2_ := Aside0.mk ((by rw [hg]; exact (bsz (by repeat (first | (with_reducible first | exact HB.out | apply bal | apply bdn | apply bd1) | exact HB.out))) : w.heap.size ≤ gb391)); have n3_ := Aside0.mk ((by rw [hg]; exact (bsz (by repeat (first | (with_reducible first | exact HB.out | apply bal | apply bdn | apply bd1) | exact HB.out))) : w.heap.size ≤ gb391)); clear HB; have HB := n0_; have BK391 := n1_; have GW391 := n2_; have GE391 := n3_; clear n0_ n1_ n2_ n3_; clear hb hbox hg) | ((with_reducible refine gcl (f := 31) rfl ?_); refine gl_ (some 11) rfl rfl Try.func31 (by kernel_rfl) rfl #[.string a0] rfl (by (try simp only [List.map_toArray, List.map_cons, List.map_nil]); first | done | rfl | (simp only [List.length_drop, List.length_take]; rfl)) ?_; (with_reducible refine (frame_open.calls k a0 t392 t393 _ A2.out).mono ?_); rintro e w10 ⟨rfl, hb⟩; refine ⟨_, rfl, ?_⟩; have n0_ := Aside0.mk (kbl (g := gb391) (o := .cells #[.int .i64 0, .int .i64 0, .int .i64 0, .string (⟨#[]⟩ : ByteArray), .int .i64 0] 53 (0, 0)) (by (with_reducible repeat (first | refine kdn ?_ _ | refine kdw ?_ | refine kal ?_ _)); exact BK391.out) hb); have n1_ := Aside0.mk (bsp (by repeat (first | (with_reducible first | exact HB.out | apply bal | apply bdn | apply bd1 | refine bst ?_ GE391.out) | exact HB.out)) hb); clear BK391; clear HB; have BK391 := n0_; have HB := n1_; clear n0_ n1_; (try clear hb); (try clear hb2); (try clear hk); (try clear hi)) | ((with_reducible refine gcl (f := 32) rfl ?_); refine gl_ (some 19) rfl rfl Try.func32 (by kernel_rfl) rfl #[.string t392] rfl (by (try simp only [List.map_toArray, List.map_cons, List.map_nil]); first | done | rfl | (simp only [List.length_drop, List.length_take]; rfl)) ?_; (with_reducible refine (codec_Read.calls t392 t394 t395 w _ ?side1 A4.out).mono ?_); (case side1 => repeat (first | (with_reducible first | exact HB.out | apply bal | apply bdn | apply bd1 | refine bst ?_ GE391.out) | exact HB.out)); rintro e w11 ⟨g396, rfl, hi, hb, hb2⟩; refine ⟨_, rfl, ?_⟩; have n0_ := Aside0.mk (kbl (g := gb391) (o := .cells #[.int .i64 0, .int .i64 0, .int .i64 0, .string (⟨#[]⟩ : ByteArray), .int .i64 0] 53 (0, 0)) (by (with_reducible repeat (first | refine kdn ?_ _ | refine kdw ?_ | refine kal ?_ _)); exact BK391.out) hb2); have n1_ := Aside0.mk (hb); have n2_ := Aside0.mk (hi); have n3_ := Aside0.mk (IsS108.ne_blk hi (kbl (g := gb391) (o := .cells #[.int .i64 0, .int .i64 0, .int .i64 0, .string (⟨#[]⟩ : ByteArray), .int .i64 0] 53 (0, 0)) (by (with_reducible repeat (first | refine kdn ?_ _ | refine kdw ?_ | refine kal ?_ _)); exact BK391.out) hb2) (by decide)); have n4_ := Aside0.mk (Ne.symm (IsS108.ne_blk hi (kbl (g := gb391) (o := .cells #[.int .i64 0, .int .i64 0, .int .i64 0, .string (⟨#[]⟩ : ByteArray), .int .i64 0] 53 (0, 0)) (by (with_reducible repeat (first | refine kdn ?_ _ | refine kdw ?_ | refine kal ?_ _)); exact BK391.out) hb2) (by decide))); clear BK391; clear HB; have BK391 := n0_; have HB := n1_; have HI396 := n2_; have NB396_391 := n3_; have NB391_396 := n4_; clear n0_ n1_ n2_ n3_ n4_; (try clear hb); (try clear hb2); (try clear hk); (try clear hi)) | ((with_reducible refine gcl (f := 33) rfl ?_); refine gl_ (some 21) rfl rfl Try.func33 (by kernel_rfl) rfl #[.pointer (some ⟨g396, 0, none⟩), .int .i64 19] rfl (by (try simp only [List.map_toArray, List.map_cons, List.map_nil]); first | done | rfl | (simp only [List.length_drop, List.length_take]; rfl)) ?_; (with_reducible refine (codec_In_N.calls g396 t394 t395 19 t397 t398 t399 w _ ?side1 ?side2 A5.out).mono ?_); (case side1 => repeat (first | (with_reducible first | exact HI396.out | apply IsS108.alloc | apply IsS108.drewN | apply IsS108.drew | apply IsS108.set_0 | apply IsS108.set_1 | refine IsS108.far ?_ NB396_391.out _) | exact HI396.out)); (case side2 => repeat (first | (with_reducible first | exact HB.out | apply bal | apply bdn | apply bd1 | refine bst ?_ (IsS108.ge HI396.out) | refine bst ?_ GE391.out) | exact HB.out)); rintro e w12 ⟨rfl, hi, hb, hk⟩; refine ⟨_, rfl, ?_⟩; have n0_ := Aside0.mk (KeepBut.blk hk (g' := gb391) (o := .cells #[.int .i64 0, .int .i64 0, .int .i64 0, .string (⟨#[]⟩ : ByteArray), .int .i64 0] 53 (0, 0)) (by (with_reducible repeat (first | refine kdn ?_ _ | refine kdw ?_ | refine kal ?_ _)); exact BK391.out) NB391_396.out (by simp)); have n1_ := Aside0.mk (hb); have n2_ := Aside0.mk (hi); clear BK391; clear HB; clear HI396; have BK391 := n0_; have HB := n1_; have HI396 := n2_; clear n0_ n1_ n2_; (try clear hb); (try clear hb2); (try clear hk); (try clear hi)) | ((with_reducible refine gcl (f := 33) rfl ?_); refine gl_ (some 23) rfl rfl Try.func33 (by kernel_rfl) rfl #[.pointer (some ⟨g396, 0, none⟩), .int .i64 1099511627776] rfl (by (try simp only [List.map_toArray, List.map_cons, List.map_nil]); first | done | rfl | (simp only [List.length_drop, List.length_take]; rfl)) ?_; (with_reducible refine (codec_In_N.calls g396 t398 t399 1099511627776 t400 t401 t402 w _ ?side1 ?side2 A6.out).mono ?_); (case side1 => repeat (first | (with_reducible first | exact HI396.out | apply IsS108.alloc | apply IsS108.drewN | apply IsS108.drew | apply IsS108.set_0 | apply IsS108.set_1 | refine IsS108.far ?_ NB396_391.out _) | exact HI396.out)); (case side2 => repeat (first | (with_reducible first | exact HB.out | apply bal | apply bdn | apply bd1 | refine bst ?_ (IsS108.ge HI396.out) | refine bst ?_ GE391.out) | exact HB.out)); rintro e w13 ⟨rfl, hi, hb, hk⟩; refine ⟨_, rfl, ?_⟩; have n0_ := Aside0.mk (KeepBut.blk hk (g' := gb391) (o := .cells #[.int .i64 0, .int .i64 0, .int .i64 0, .string (⟨#[]⟩ : ByteArray), .int .i64 0] 53 (0, 0)) (by (with_reducible repeat (first | refine kdn ?_ _ | refine kdw ?_ | refine kal ?_ _)); exact BK391.out) NB391_396.out (by simp)); have n1_ := Aside0.mk (hb); have n2_ := Aside0.mk (hi); clear BK391; clear HB; clear HI396; have BK391 := n0_; have HB := n1_; have HI396 := n2_; clear n0_ n1_ n2_; (try clear hb); (try clear hb2); (try clear hk); (try clear hi)) | ((with_reducible refine gds (N := 7) rfl ?_); refine bev ?hg (N := 7) ?hd (cs := #[.int .i64 0, .int .i64 0, .int .i64 0, .string (⟨#[]⟩ : ByteArray), .int .i64 0]) (t := 53) ?hr ?_; (case hd => rfl); (case hg => rfl); (case hr => first | (go_simp; done) | (go_simp; rfl)); intro gb403 hg w14 hbox hb; have n0_ := Aside0.mk (kbl (g := gb391) (o := .cells #[.int .i64 0, .int .i64 0, .int .i64 0, .string (⟨#[]⟩ : ByteArray), .int .i64 0] 53 (0, 0)) (by (with_reducible repeat (first | refine kdn ?_ _ | refine kdw ?_ | refine kal ?_ _)); exact BK391.out) hb); have n1_ := Aside0.mk (IsS108.below (by repeat (first | (with_reducible first | exact HI396.out | apply IsS108.alloc | apply IsS108.drewN | apply IsS108.drew | apply IsS108.set_0 | apply IsS108.set_1 | refine IsS108.far ?_ NB396_391.out _) | exact HI396.out)) hb); have n2_ := Aside0.mk (bsp (by repeat (first | (with_reducible first | exact HB.out | apply bal | apply bdn | apply bd1 | refine bst ?_ (IsS108.ge HI396.out) | refine bst ?_ GE391.out) | exact HB.out)) hb); have n3_ := Aside0.mk (hbox); have n4_ := Aside0.mk ((by rw [hg]; exact (bsz (by repeat (first | (with_reducible first | exact HB.out | apply bal | apply bdn | apply bd1 | refine bst ?_ (IsS108.ge HI396.out) | refine bst ?_ GE391.out) | exact HB.out))) : w.heap.size ≤ gb403)); have n5_ := Aside0.mk ((by rw [hg]; exact (bsz (by repeat (first | (with_reducible first | exact HB.out | apply bal | apply bdn | apply bd1 | refine bst ?_ (IsS108.ge HI396.out) | refine bst ?_ GE391.out) | exact HB.out))) : w.heap.size ≤ gb403)); have n6_ := Aside0.mk ((by rw [hg]; exact Nat.ne_of_lt (blk_lt (g := gb391) (o := .cells #[.int .i64 0, .int .i64 0, .int .i64 0, .string (⟨#[]⟩ : ByteArray), .int .i64 0] 53 (0, 0)) (by (with_reducible repeat (first | refine kdn ?_ _ | refine kdw ?_ | refine kal ?_ _)); exact BK391.out)) : gb391 ≠ gb403)); have n7_ := Aside0.mk ((by rw [hg]; exact Nat.ne_of_gt (blk_lt (g := gb391) (o := .cells #[.int .i64 0, .int .i64 0, .int .i64 0, .string (⟨#[]⟩ : ByteArray), .int .i64 0] 53 (0, 0)) (by (with_reducible repeat (first | refine kdn ?_ _ | refine kdw ?_ | refine kal ?_ _)); exact BK391.out)) : gb403 ≠ gb391)); have n8_ := Aside0.mk ((by rw [hg]; exact Nat.ne_of_lt (IsS108.lt (show IsS108 w _ g396 t401 t402 from by repeat (first | (with_reducible first | exact HI396.out | apply IsS108.alloc | apply IsS108.drewN | apply IsS108.drew | apply IsS108.set_0 | apply IsS108.set_1 | refine IsS108.far ?_ NB396_391.out _) | exact HI396.out))) : g396 ≠ gb403)); have n9_ := Aside0.mk ((by rw [hg]; exact Nat.ne_of_gt (IsS108.lt (show IsS108 w _ g396 t401 t402 from by repeat (first | (with_reducible first | exact HI396.out | apply IsS108.alloc | apply IsS108.drewN | apply IsS108.drew | apply IsS108.set_0 | apply IsS108.set_1 | refine IsS108.far ?_ NB396_391.out _) | exact HI396.out))) : gb403 ≠ g396)); clear BK391; clear HI396; clear HB; have BK391 := n0_; have HI396 := n1_; have HB := n2_; have BK403 := n3_; have GW403 := n4_; have GE403 := n5_; have NB391_403 := n6_; have NB403_391 := n7_; have NB396_403 := n8_; have NB403_396 := n9_; clear n0_ n1_ n2_ n3_ n4_ n5_ n6_ n7_ n8_ n9_; clear hb hbox hg; have hnb15 := NB403_391.out; have hnc15 := NB391_403.out; have hnb16 := NB403_396.out; have hnc16 := NB396_403.out; have hcz17_0 : w14.cell? ⟨gb403, 0, none⟩ = some (.int .i64 0) := (kcl BK403.out 0).trans rfl; have hcz17_1 : w14.cell? ⟨gb403, 1, none⟩ = some (.int .i64 0) := (kcl BK403.out 1).trans rfl; have hcz17_2 : w14.cell? ⟨gb403, 2, none⟩ = some (.int .i64 0) := (kcl BK403.out 2).trans rfl; have hcz17_3 : w14.cell? ⟨gb403, 3, none⟩ = some (.string (⟨#[]⟩ : ByteArray)) := (kcl BK403.out 3).trans rfl; have hcz17_4 : w14.cell? ⟨gb403, 4, none⟩ = some (.int .i64 0) := (kcl BK403.out 4).trans rfl; have hfz17_0 := kfr BK403.out 0; have hfz17_1 := kfr BK403.out 1; have hfz17_2 := kfr BK403.out 2; have hfz17_3 := kfr BK403.out 3; have hfz17_4 := kfr BK403.out 4) | ((with_reducible refine gcl (f := 51) rfl ?_); refine gl_ (some 26) rfl rfl Try.func51 (by kernel_rfl) rfl #[.pointer (some ⟨g396, 0, none⟩)] rfl (by (try simp only [List.map_toArray, List.map_cons, List.map_nil]); first | done | rfl | (simp only [List.length_drop, List.length_take]; rfl)) ?_; (with_reducible refine (codec_In_Len.calls g396 t401 t402 t404 t405 t406 w _ ?side1 ?side2 A7.out).mono ?_); (case side1 => repeat (first | (with_reducible first | exact HI396.out | apply IsS108.alloc | apply IsS108.drewN | apply IsS108.drew | apply IsS108.set_0 | apply IsS108.set_1 | refine IsS108.far ?_ NB396_391.out _ | refine IsS108.far ?_ NB396_403.out _) | exact HI396.out)); (case side2 => repeat (first | (with_reducible first | exact HB.out | apply bal | apply bdn | apply bd1 | refine bst ?_ (IsS108.ge HI396.out) | refine bst ?_ GE391.out | refine bst ?_ GE403.out) | exact HB.out)); rintro e w18 ⟨rfl, hi, hb, hk⟩; refine ⟨_, rfl, ?_⟩; have n0_ := Aside0.mk (KeepBut.blk hk (g' := gb391) (o := .cells #[.int .i64 0, .int .i64 0, .int .i64 0, .string (⟨#[]⟩ : ByteArray), .int .i64 0] 53 (0, 0)) (by (with_reducible repeat (first | refine kdn ?_ _ | refine kdw ?_ | refine kal ?_ _)); refine blk_far ?_ NB391_403.out _; (with_reducible repeat (first | refine kdn ?_ _ | refine kdw ?_ | refine kal ?_ _)); refine blk_far ?_ NB391_403.out _; (with_reducible repeat (first | refine kdn ?_ _ | refine kdw ?_ | refine kal ?_ _)); refine blk_far ?_ NB391_403.out _; (with_reducible repeat (first | refine kdn ?_ _ | refine kdw ?_ | refine kal ?_ _)); refine blk_far ?_ NB391_403.out _; (with_reducible repeat (first | refine kdn ?_ _ | refine kdw ?_ | refine kal ?_ _)); refine blk_far ?_ NB391_403.out _; (with_reducible repeat (first | refine kdn ?_ _ | refine kdw ?_ | refine kal ?_ _)); exact BK391.out) NB391_396.out (by simp)); have n1_ := Aside0.mk (KeepBut.blk hk (g' := gb403) (o := .cells #[.int .i64 t397, .int .i64 t400, .int .i64 0, .string (⟨#[]⟩ : ByteArray), .int .i64 0] 53 (0, 0)) (by (with_reducible repeat (first | refine kdn ?_ _ | refine kdw ?_ | refine kal ?_ _)); refine kpt (cs := #[.int .i64 t397, .int .i64 t400, .int .i64 0, .string (⟨#[]⟩ : ByteArray), .int .i64 0]) ?_ 4 _ rfl; (with_reducible repeat (first | refine kdn ?_ _ | refine kdw ?_ | refine kal ?_ _)); refine kpt (cs := #[.int .i64 t397, .int .i64 t400, .int .i64 0, .string (⟨#[]⟩ : ByteArray), .int .i64 0]) ?_ 3 _ rfl; (with_reducible repeat (first | refine kdn ?_ _ | refine kdw ?_ | refine kal ?_ _)); refine kpt (cs := #[.int .i64 t397, .int .i64 t400, .int .i64 0, .string (⟨#[]⟩ : ByteArray), .int .i64 0]) ?_ 2 _ rfl; (with_reducible repeat (first | refine kdn ?_ _ | refine kdw ?_ | refine kal ?_ _)); refine kpt (cs := #[.int .i64 t397, .int .i64 0, .int .i64 0, .string (⟨#[]⟩ : ByteArray), .int .i64 0]) ?_ 1 _ rfl; (with_reducible repeat (first | refine kdn ?_ _ | refine kdw ?_ | refine kal ?_ _)); refine kpt (cs := #[.int .i64 0, .int .i64 0, .int .i64 0, .string (⟨#[]⟩ : ByteArray), .int .i64 0]) ?_ 0 _ rfl; (with_reducible repeat (first | refine kdn ?_ _ | refine kdw ?_ | refine kal ?_ _)); exact BK403.out) NB403_396.out (by simp)); have n2_ := Aside0.mk (hb); have n3_ := Aside0.mk (hi); clear BK391; clear BK403; clear HB; clear HI396; have BK391 := n0_; have BK403 := n1_; have HB := n2_; have HI396 := n3_; clear n0_ n1_ n2_ n3_; (try clear hb); (try clear hb2); (try clear hk); (try clear hi)))
  (try simp only [Act.put, List.setIfInBounds_toArray, List.set_cons_zero, List.set_cons_succ])
  go_cut [] (fun wc => ∃ (kq : Nat) (x397000_7 : ByteArray) (x397001_7 : Int) (x404002_7 : Int) (x404003_7 : ByteArray) (x404004_7 : Int), Aside0 (frame_ParseReply.j0 kq x397000_7 x397001_7 t397 t400 x404002_7 x404003_7 x404004_7 = some (r1, r2, r3, r4, r5, r6)) ∧ Aside0 (kq ≤ k) ∧ Aside0 (wc.heap[gb391]? = some (.cells #[.int .i64 0, .int .i64 0, .int .i64 0, .string (⟨#[]⟩ : ByteArray), .int .i64 0] 53 (0, 0))) ∧ Aside0 (wc.heap[gb403]? = some (.cells #[.int .i64 t397, .int .i64 t400, .int .i64 x404002_7, .string x404003_7, .int .i64 x404004_7] 53 (0, 0))) ∧ Aside0 (IsS108 w wc g396 x397000_7 x397001_7) ∧ Aside0 (Below w.heap.size w wc))
  case first =>
    have H := HC8.out
    clear HC8
    by_cases c19 : t404 > 0
    rotate_left
    · rw [if_neg c19] at H
      have c19b0 : decide (0 < t404) = false := decide_eq_false c19
      clear c19
      (first | rw [c19b0] | (simp only [i64_w, i32_w]; rw [c19b0]) | skip)
      have H' := Aside0.mk H
      clear H
      go_wp2
      go_meet
      case rel => exact ⟨_, (t405), (t406), (0), ((⟨#[]⟩ : ByteArray)), (0), H', ⟨by first | omega | exact Nat.le_refl _⟩, ⟨by (with_reducible repeat (first | refine kdn ?_ _ | refine kdw ?_ | refine kal ?_ _)); exact BK391.out⟩, ⟨by (with_reducible repeat (first | refine kdn ?_ _ | refine kdw ?_ | refine kal ?_ _)); exact BK403.out⟩, ⟨by repeat (first | (with_reducible first | exact HI396.out | apply IsS108.alloc | apply IsS108.drewN | apply IsS108.drew | apply IsS108.set_0 | apply IsS108.set_1 | refine IsS108.far ?_ NB396_391.out _ | refine IsS108.far ?_ NB396_403.out _) | exact HI396.out)⟩, ⟨by repeat (first | (with_reducible first | exact HB.out | apply bal | apply bdn | apply bd1 | refine bst ?_ (IsS108.ge HI396.out) | refine bst ?_ GE391.out | refine bst ?_ GE403.out) | exact HB.out)⟩⟩
    rw [if_pos c19] at H
    have c19b0 : decide (0 < t404) = true := decide_eq_true c19
    clear c19
    (first | rw [c19b0] | (simp only [i64_w, i32_w]; rw [c19b0]) | skip)
    replace H := Option.bind_eq_some_iff.mp H
    obtain ⟨⟨t407, t408, t409, t410, t411⟩, A200, H⟩ := H
    replace H : (frame_ParseReply.j0 k t410 t411 t397 t400 t407 t408 t409) = some (r1, r2, r3, r4, r5, r6) := H
    have A20 := Aside0.mk A200
    clear A200
    have H' := Aside0.mk H
    clear H
    go_wp2_with (first | ((with_reducible refine gcl (f := 52) rfl ?_); refine gl_ (some 29) rfl rfl Try.func52 (by kernel_rfl) rfl #[.pointer (some ⟨g396, 0, none⟩)] rfl (by (try simp only [List.map_toArray, List.map_cons, List.map_nil]); first | done | rfl | (simp only [List.length_drop, List.length_take]; rfl)) ?_; (with_reducible refine (method_ReadResult.calls k g396 t405 t406 t407 t408 t409 t410 t411 w _ ?side1 ?side2 A20.out).mono ?_); (case side1 => repeat (first | (with_reducible first | exact HI396.out | apply IsS108.alloc | apply IsS108.drewN | apply IsS108.drew | apply IsS108.set_0 | apply IsS108.set_1 | refine IsS108.far ?_ NB396_391.out _ | refine IsS108.far ?_ NB396_403.out _) | exact HI396.out)); (case side2 => repeat (first | (with_reducible first | exact HB.out | apply bal | apply bdn | apply bd1 | refine bst ?_ (IsS108.ge HI396.out) | refine bst ?_ GE391.out | refine bst ?_ GE403.out) | exact HB.out)); rintro e w21 ⟨rfl, hi, hb, hk⟩; refine ⟨_, rfl, ?_⟩; have n0_ := Aside0.mk (KeepBut.blk hk (g' := gb391) (o := .cells #[.int .i64 0, .int .i64 0, .int .i64 0, .string (⟨#[]⟩ : ByteArray), .int .i64 0] 53 (0, 0)) (by (with_reducible repeat (first | refine kdn ?_ _ | refine kdw ?_ | refine kal ?_ _)); exact BK391.out) NB391_396.out (by simp)); have n1_ := Aside0.mk (KeepBut.blk hk (g' := gb403) (o := .cells #[.int .i64 t397, .int .i64 t400, .int .i64 0, .string (⟨#[]⟩ : ByteArray), .int .i64 0] 53 (0, 0)) (by (with_reducible repeat (first | refine kdn ?_ _ | refine kdw ?_ | refine kal ?_ _)); exact BK403.out) NB403_396.out (by simp)); have n2_ := Aside0.mk (hb); have n3_ := Aside0.mk (hi); clear BK391; clear BK403; clear HB; clear HI396; have BK391 := n0_; have BK403 := n1_; have HB := n2_; have HI396 := n3_; clear n0_ n1_ n2_ n3_; (try clear hb); (try clear hb2); (try clear hk); (try clear hi); have hnb22 := NB403_391.out; have hnc22 := NB391_403.out; have hnb23 := NB403_396.out; have hnc23 := NB396_403.out; have hcz24_0 : w21.cell? ⟨gb403, 0, none⟩ = some (.int .i64 t397) := (kcl BK403.out 0).trans rfl; have hcz24_1 : w21.cell? ⟨gb403, 1, none⟩ = some (.int .i64 t400) := (kcl BK403.out 1).trans rfl; have hcz24_2 : w21.cell? ⟨gb403, 2, none⟩ = some (.int .i64 0) := (kcl BK403.out 2).trans rfl; have hcz24_3 : w21.cell? ⟨gb403, 3, none⟩ = some (.string (⟨#[]⟩ : ByteArray)) := (kcl BK403.out 3).trans rfl; have hcz24_4 : w21.cell? ⟨gb403, 4, none⟩ = some (.int .i64 0) := (kcl BK403.out 4).trans rfl; have hfz24_0 := kfr BK403.out 0; have hfz24_1 := kfr BK403.out 1; have hfz24_2 := kfr BK403.out 2; have hfz24_3 := kfr BK403.out 3; have hfz24_4 := kfr BK403.out 4))
    go_meet
    case rel => exact ⟨_, (t410), (t411), (t407), (t408), (t409), H', ⟨by first | omega | exact Nat.le_refl _⟩, ⟨by (with_reducible repeat (first | refine kdn ?_ _ | refine kdw ?_ | refine kal ?_ _)); refine blk_far ?_ NB391_403.out _; (with_reducible repeat (first | refine kdn ?_ _ | refine kdw ?_ | refine kal ?_ _)); refine blk_far ?_ NB391_403.out _; (with_reducible repeat (first | refine kdn ?_ _ | refine kdw ?_ | refine kal ?_ _)); refine blk_far ?_ NB391_403.out _; (with_reducible repeat (first | refine kdn ?_ _ | refine kdw ?_ | refine kal ?_ _)); exact BK391.out⟩, ⟨by (with_reducible repeat (first | refine kdn ?_ _ | refine kdw ?_ | refine kal ?_ _)); refine kpt (cs := #[.int .i64 t397, .int .i64 t400, .int .i64 t407, .string t408, .int .i64 0]) ?_ 4 _ rfl; (with_reducible repeat (first | refine kdn ?_ _ | refine kdw ?_ | refine kal ?_ _)); refine kpt (cs := #[.int .i64 t397, .int .i64 t400, .int .i64 t407, .string (⟨#[]⟩ : ByteArray), .int .i64 0]) ?_ 3 _ rfl; (with_reducible repeat (first | refine kdn ?_ _ | refine kdw ?_ | refine kal ?_ _)); refine kpt (cs := #[.int .i64 t397, .int .i64 t400, .int .i64 0, .string (⟨#[]⟩ : ByteArray), .int .i64 0]) ?_ 2 _ rfl; (with_reducible repeat (first | refine kdn ?_ _ | refine kdw ?_ | refine kal ?_ _)); exact BK403.out⟩, ⟨by repeat (first | (with_reducible first | exact HI396.out | apply IsS108.alloc | apply IsS108.drewN | apply IsS108.drew | apply IsS108.set_0 | apply IsS108.set_1 | refine IsS108.far ?_ NB396_391.out _ | refine IsS108.far ?_ NB396_403.out _) | exact HI396.out)⟩, ⟨by repeat (first | (with_reducible first | exact HB.out | apply bal | apply bdn | apply bd1 | refine bst ?_ (IsS108.ge HI396.out) | refine bst ?_ GE391.out | refine bst ?_ GE403.out) | exact HB.out)⟩⟩
  clear HC8
  try clear c1
  try clear c2
  try clear p2
  try clear c3
  try clear c3b0
  try clear c3b1
  try clear c5
  try clear c15
  try clear c16
  try clear c19
  try clear c19b0
  try clear c20
  try clear c22
  try clear c23
  try clear hcz17_0
  try clear hcz17_1
  try clear hcz17_2
  try clear hcz17_3
  try clear hcz17_4
  try clear hcz24_0
  try clear hcz24_1
  try clear hcz24_2
  try clear hcz24_3
  try clear hcz24_4
  try clear hfz17_0
  try clear hfz17_1
  try clear hfz17_2
  try clear hfz17_3
  try clear hfz17_4
  try clear hfz24_0
  try clear hfz24_1
  try clear hfz24_2
  try clear hfz24_3
  try clear hfz24_4
  obtain ⟨kq, x397000_7, x397001_7, x404002_7, x404003_7, x404004_7, HA, HJ7, BK391, BK403, HI396, HB⟩ := hcut
  cases kq with
  | zero => exact absurd HA.out (by simp [frame_ParseReply.j0])
  | succ kj7 =>
    have H := HA.out
    clear HA
    simp only [frame_ParseReply.j0] at H
    replace H := Option.bind_eq_some_iff.mp H
    obtain ⟨⟨t412, t413, t414⟩, A250, H⟩ := H
    replace H : (if t412 = 0 then (some (t397, t400, x404002_7, x404003_7, x404004_7, 0)) else (some (0, 0, 0, (⟨#[]⟩ : ByteArray), 0, t412))) = some (r1, r2, r3, r4, r5, r6) := H
    have A25 := Aside0.mk A250
    clear A250
    by_cases c26 : t412 = 0
    rotate_left
    · rw [if_neg c26] at H
      have c26b0 : (t412 == 0) = false := beq_eq_false_iff_ne.mpr c26
      have c26b1 : (t412 != 0) = true := bne_iff_ne.mpr c26
      simp only [Option.some.injEq, Prod.mk.injEq] at H
      obtain ⟨rfl, rfl, rfl, rfl, rfl, rfl⟩ := H
      go_wp2_with (first | ((with_reducible refine gcl (f := 37) rfl ?_); refine gl_ (some 32) rfl rfl Try.func37 (by kernel_rfl) rfl #[.pointer (some ⟨g396, 0, none⟩)] rfl (by (try simp only [List.map_toArray, List.map_cons, List.map_nil]); first | done | rfl | (simp only [List.length_drop, List.length_take]; rfl)) ?_; (with_reducible refine (codec_In_End.calls g396 x397000_7 x397001_7 t412 t413 t414 w _ ?side1 ?side2 A25.out).mono ?_); (case side1 => repeat (first | (with_reducible first | exact HI396.out | apply IsS108.alloc | apply IsS108.drewN | apply IsS108.drew | apply IsS108.set_0 | apply IsS108.set_1 | refine IsS108.far ?_ NB396_391.out _ | refine IsS108.far ?_ NB396_403.out _) | exact HI396.out)); (case side2 => repeat (first | (with_reducible first | exact HB.out | apply bal | apply bdn | apply bd1 | refine bst ?_ (IsS108.ge HI396.out) | refine bst ?_ GE391.out | refine bst ?_ GE403.out) | exact HB.out)); rintro e w33 ⟨rfl, hi, hb, hk⟩; refine ⟨_, rfl, ?_⟩; have n0_ := Aside0.mk (KeepBut.blk hk (g' := gb391) (o := .cells #[.int .i64 0, .int .i64 0, .int .i64 0, .string (⟨#[]⟩ : ByteArray), .int .i64 0] 53 (0, 0)) (by (with_reducible repeat (first | refine kdn ?_ _ | refine kdw ?_ | refine kal ?_ _)); exact BK391.out) NB391_396.out (by simp)); have n1_ := Aside0.mk (KeepBut.blk hk (g' := gb403) (o := .cells #[.int .i64 t397, .int .i64 t400, .int .i64 x404002_7, .string x404003_7, .int .i64 x404004_7] 53 (0, 0)) (by (with_reducible repeat (first | refine kdn ?_ _ | refine kdw ?_ | refine kal ?_ _)); exact BK403.out) NB403_396.out (by simp)); have n2_ := Aside0.mk (hb); have n3_ := Aside0.mk (hi); clear BK391; clear BK403; clear HB; clear HI396; have BK391 := n0_; have BK403 := n1_; have HB := n2_; have HI396 := n3_; clear n0_ n1_ n2_ n3_; (try clear hb); (try clear hb2); (try clear hk); (try clear hi); have hnb34 := NB391_403.out; have hnc34 := NB403_391.out; have hnb35 := NB391_396.out; have hnc35 := NB396_391.out; have hcz36_0 : w33.cell? ⟨gb391, 0, none⟩ = some (.int .i64 0) := (kcl BK391.out 0).trans rfl; have hcz36_1 : w33.cell? ⟨gb391, 1, none⟩ = some (.int .i64 0) := (kcl BK391.out 1).trans rfl; have hcz36_2 : w33.cell? ⟨gb391, 2, none⟩ = some (.int .i64 0) := (kcl BK391.out 2).trans rfl; have hcz36_3 : w33.cell? ⟨gb391, 3, none⟩ = some (.string (⟨#[]⟩ : ByteArray)) := (kcl BK391.out 3).trans rfl; have hcz36_4 : w33.cell? ⟨gb391, 4, none⟩ = some (.int .i64 0) := (kcl BK391.out 4).trans rfl; have hfz36_0 := kfr BK391.out 0; have hfz36_1 := kfr BK391.out 1; have hfz36_2 := kfr BK391.out 2; have hfz36_3 := kfr BK391.out 3; have hfz36_4 := kfr BK391.out 4))
      refine bodyPost_ret (results_ct rfl _ _ gb391 53 #[.int .i64 0, .int .i64 0, .int .i64 0, .string (⟨#[]⟩ : ByteArray), .int .i64 0] (0, 0) _ rfl (by (with_reducible repeat (first | refine kdn ?_ _ | refine kdw ?_ | refine kal ?_ _)); refine kpt (cs := #[.int .i64 0, .int .i64 0, .int .i64 0, .string (⟨#[]⟩ : ByteArray), .int .i64 0]) ?_ 4 _ rfl; (with_reducible repeat (first | refine kdn ?_ _ | refine kdw ?_ | refine kal ?_ _)); refine kpt (cs := #[.int .i64 0, .int .i64 0, .int .i64 0, .string (⟨#[]⟩ : ByteArray), .int .i64 0]) ?_ 3 _ rfl; (with_reducible repeat (first | refine kdn ?_ _ | refine kdw ?_ | refine kal ?_ _)); refine kpt (cs := #[.int .i64 0, .int .i64 0, .int .i64 0, .string (⟨#[]⟩ : ByteArray), .int .i64 0]) ?_ 2 _ rfl; (with_reducible repeat (first | refine kdn ?_ _ | refine kdw ?_ | refine kal ?_ _)); refine kpt (cs := #[.int .i64 0, .int .i64 0, .int .i64 0, .string (⟨#[]⟩ : ByteArray), .int .i64 0]) ?_ 1 _ rfl; (with_reducible repeat (first | refine kdn ?_ _ | refine kdw ?_ | refine kal ?_ _)); refine kpt (cs := #[.int .i64 0, .int .i64 0, .int .i64 0, .string (⟨#[]⟩ : ByteArray), .int .i64 0]) ?_ 0 _ rfl; (with_reducible repeat (first | refine kdn ?_ _ | refine kdw ?_ | refine kal ?_ _)); exact BK391.out) Try.underlying53 rfl (by kernel_rfl)) rfl ?_
      exact ⟨by first | rfl | (simp [errW_none, errW_some] <;> rfl) | (simp [*, errW_none, errW_some] <;> rfl), by repeat (first | (with_reducible first | exact HB.out | apply bal | apply bdn | apply bd1 | refine bst ?_ (IsS108.ge HI396.out) | refine bst ?_ GE391.out | refine bst ?_ GE403.out) | exact HB.out)⟩
    rw [if_pos c26] at H
    have c26b0 : (t412 == 0) = true := beq_iff_eq.mpr c26
    have c26b1 : (t412 != 0) = false := bne_eq_false_iff_eq.mpr c26
    clear c26
    simp only [Option.some.injEq, Prod.mk.injEq] at H
    obtain ⟨rfl, rfl, rfl, rfl, rfl, rfl⟩ := H
    go_wp2_with (first | ((with_reducible refine gcl (f := 37) rfl ?_); refine gl_ (some 32) rfl rfl Try.func37 (by kernel_rfl) rfl #[.pointer (some ⟨g396, 0, none⟩)] rfl (by (try simp only [List.map_toArray, List.map_cons, List.map_nil]); first | done | rfl | (simp only [List.length_drop, List.length_take]; rfl)) ?_; (with_reducible refine (codec_In_End.calls g396 x397000_7 x397001_7 t412 t413 t414 w _ ?side1 ?side2 A25.out).mono ?_); (case side1 => repeat (first | (with_reducible first | exact HI396.out | apply IsS108.alloc | apply IsS108.drewN | apply IsS108.drew | apply IsS108.set_0 | apply IsS108.set_1 | refine IsS108.far ?_ NB396_391.out _ | refine IsS108.far ?_ NB396_403.out _) | exact HI396.out)); (case side2 => repeat (first | (with_reducible first | exact HB.out | apply bal | apply bdn | apply bd1 | refine bst ?_ (IsS108.ge HI396.out) | refine bst ?_ GE391.out | refine bst ?_ GE403.out) | exact HB.out)); rintro e w27 ⟨rfl, hi, hb, hk⟩; refine ⟨_, rfl, ?_⟩; have n0_ := Aside0.mk (KeepBut.blk hk (g' := gb391) (o := .cells #[.int .i64 0, .int .i64 0, .int .i64 0, .string (⟨#[]⟩ : ByteArray), .int .i64 0] 53 (0, 0)) (by (with_reducible repeat (first | refine kdn ?_ _ | refine kdw ?_ | refine kal ?_ _)); exact BK391.out) NB391_396.out (by simp)); have n1_ := Aside0.mk (KeepBut.blk hk (g' := gb403) (o := .cells #[.int .i64 t397, .int .i64 t400, .int .i64 x404002_7, .string x404003_7, .int .i64 x404004_7] 53 (0, 0)) (by (with_reducible repeat (first | refine kdn ?_ _ | refine kdw ?_ | refine kal ?_ _)); exact BK403.out) NB403_396.out (by simp)); have n2_ := Aside0.mk (hb); have n3_ := Aside0.mk (hi); clear BK391; clear BK403; clear HB; clear HI396; have BK391 := n0_; have BK403 := n1_; have HB := n2_; have HI396 := n3_; clear n0_ n1_ n2_ n3_; (try clear hb); (try clear hb2); (try clear hk); (try clear hi); have hnb28 := NB403_391.out; have hnc28 := NB391_403.out; have hnb29 := NB403_396.out; have hnc29 := NB396_403.out; have hcz30_0 : w27.cell? ⟨gb403, 0, none⟩ = some (.int .i64 t397) := (kcl BK403.out 0).trans rfl; have hcz30_1 : w27.cell? ⟨gb403, 1, none⟩ = some (.int .i64 t400) := (kcl BK403.out 1).trans rfl; have hcz30_2 : w27.cell? ⟨gb403, 2, none⟩ = some (.int .i64 x404002_7) := (kcl BK403.out 2).trans rfl; have hcz30_3 : w27.cell? ⟨gb403, 3, none⟩ = some (.string x404003_7) := (kcl BK403.out 3).trans rfl; have hcz30_4 : w27.cell? ⟨gb403, 4, none⟩ = some (.int .i64 x404004_7) := (kcl BK403.out 4).trans rfl; have hfz30_0 := kfr BK403.out 0; have hfz30_1 := kfr BK403.out 1; have hfz30_2 := kfr BK403.out 2; have hfz30_3 := kfr BK403.out 3; have hfz30_4 := kfr BK403.out 4; have hnb31 := NB391_396.out; have hnc31 := NB396_391.out; have hcz32_0 : w27.cell? ⟨gb391, 0, none⟩ = some (.int .i64 0) := (kcl BK391.out 0).trans rfl; have hcz32_1 : w27.cell? ⟨gb391, 1, none⟩ = some (.int .i64 0) := (kcl BK391.out 1).trans rfl; have hcz32_2 : w27.cell? ⟨gb391, 2, none⟩ = some (.int .i64 0) := (kcl BK391.out 2).trans rfl; have hcz32_3 : w27.cell? ⟨gb391, 3, none⟩ = some (.string (⟨#[]⟩ : ByteArray)) := (kcl BK391.out 3).trans rfl; have hcz32_4 : w27.cell? ⟨gb391, 4, none⟩ = some (.int .i64 0) := (kcl BK391.out 4).trans rfl; have hfz32_0 := kfr BK391.out 0; have hfz32_1 := kfr BK391.out 1; have hfz32_2 := kfr BK391.out 2; have hfz32_3 := kfr BK391.out 3; have hfz32_4 := kfr BK391.out 4))
    refine bodyPost_ret (results_ct rfl _ _ gb391 53 #[.int .i64 t397, .int .i64 t400, .int .i64 x404002_7, .string x404003_7, .int .i64 x404004_7] (0, 0) _ rfl (by (with_reducible repeat (first | refine kdn ?_ _ | refine kdw ?_ | refine kal ?_ _)); refine kpt (cs := #[.int .i64 t397, .int .i64 t400, .int .i64 x404002_7, .string x404003_7, .int .i64 0]) ?_ 4 _ rfl; (with_reducible repeat (first | refine kdn ?_ _ | refine kdw ?_ | refine kal ?_ _)); refine kpt (cs := #[.int .i64 t397, .int .i64 t400, .int .i64 x404002_7, .string (⟨#[]⟩ : ByteArray), .int .i64 0]) ?_ 3 _ rfl; (with_reducible repeat (first | refine kdn ?_ _ | refine kdw ?_ | refine kal ?_ _)); refine kpt (cs := #[.int .i64 t397, .int .i64 t400, .int .i64 0, .string (⟨#[]⟩ : ByteArray), .int .i64 0]) ?_ 2 _ rfl; (with_reducible repeat (first | refine kdn ?_ _ | refine kdw ?_ | refine kal ?_ _)); refine kpt (cs := #[.int .i64 t397, .int .i64 0, .int .i64 0, .string (⟨#[]⟩ : ByteArray), .int .i64 0]) ?_ 1 _ rfl; (with_reducible repeat (first | refine kdn ?_ _ | refine kdw ?_ | refine kal ?_ _)); refine kpt (cs := #[.int .i64 0, .int .i64 0, .int .i64 0, .string (⟨#[]⟩ : ByteArray), .int .i64 0]) ?_ 0 _ rfl; (with_reducible repeat (first | refine kdn ?_ _ | refine kdw ?_ | refine kal ?_ _)); exact BK391.out) Try.underlying53 rfl (by kernel_rfl)) rfl ?_
    exact ⟨by first | rfl | (simp [errW_none, errW_some] <;> rfl) | (simp [*, errW_none, errW_some] <;> rfl), by repeat (first | (with_reducible first | exact HB.out | apply bal | apply bdn | apply bd1 | refine bst ?_ (IsS108.ge HI396.out) | refine bst ?_ GE391.out | refine bst ?_ GE403.out) | exact HB.out)⟩
end Go.Proofs.Ytkkkmbgflflcnaa.PA

