import Derived.Test.YtkkkmbgflflcnaaQSxPSx6
import Derived.Test.YtkkkmbgflflcnaaQSxPSx7
import Derived.Test.YtkkkmbgflflcnaaQSxPSx8
namespace Go.Proofs.Ytkkkmbgflflcnaa.PS
open Go.Proofs.Ytkkkmbgflflcnaa.PL
open Go.RowKit Go.Proofs.YtkkkmbgflflcnaaW.PrintWords Go.Proofs.YtkkkmbgflflcnaaW.PrintLast Go.Proofs.YtkkkmbgflflcnaaW.PrintMore
attribute [local go_sem] max2_int min2_int max_two min_two max_three min_three max_four min_four
set_option linter.unusedVariables false
set_option linter.unusedSimpArgs false
def codec_Read.f (a0 : ByteArray) : Option (ByteArray × Int) := some (a0, 0)
set_option maxHeartbeats 2000000 in
set_option maxRecDepth 100000 in
theorem codec_Read.calls (a0 : ByteArray) (r1 : ByteArray) (r2 : Int) (w0 w : World) (hB : Below w0.heap.size w0 w) (h : codec_Read.f a0 = some (r1, r2)) :
    Calls Try.prog 32 #[.string a0] w fun e w' => ∃ g_ : Nat, e = .returned (.pointer (some ⟨g_, 0, none⟩)) ∧ IsS108 w0 w' g_ r1 r2 ∧ Below w0.heap.size w0 w' ∧ Below w.heap.size w w' := by
  have hu108 := Try.underlying108
  have HBW := Aside0.mk (Below.refl w.heap.size w)
  have HW0 := Aside0.mk hB.size
  have HB := Aside0.mk hB
  clear hB
  have H : (some (a0, 0)) = some (r1, r2) := h
  clear h
  simp only [Option.some.injEq, Prod.mk.injEq] at H
  obtain ⟨rfl, rfl⟩ := H
  go_enter Try.func32, Try.ntmps32
  go_wp2_with (first | ((with_reducible refine gds (N := 5) rfl ?_); refine bev ?hg (N := 5) ?hd (cs := #[.string a0, .int .i64 0]) (t := 108) ?hr ?_; (case hd => rfl); (case hg => rfl); (case hr => first | (go_simp; done) | (go_simp; rfl)); intro gb132 hg w2 hbox hb; have n0_ := Aside0.mk (bsp HBW.out hb); have n1_ := Aside0.mk (bsp bl_ hb); have n2_ := Aside0.mk (hbox); have n3_ := Aside0.mk ((by rw [hg]; exact (bsz (by repeat (first | (with_reducible first | exact HBW.out | apply bal | apply bdn | apply bd1) | exact HBW.out))) : w.heap.size ≤ gb132)); have n4_ := Aside0.mk ((Nat.le_trans HW0.out (by rw [hg]; exact (bsz (by repeat (first | (with_reducible first | exact HBW.out | apply bal | apply bdn | apply bd1) | exact HBW.out))) : w.heap.size ≤ gb132) : w0.heap.size ≤ gb132)); clear HBW; clear HB; have HBW := n0_; have HB := n1_; have BK132 := n2_; have GW132 := n3_; have GE132 := n4_; clear n0_ n1_ n2_ n3_ n4_; clear hb hbox hg))
  go_ret
  exact ⟨_, rfl, (show IsS108 w0 _ gb132 a0 0 from ⟨bk_, GE132.out⟩), bl_, by repeat (first | (with_reducible first | exact HBW.out | apply bal | apply bdn | apply bd1 | refine bst ?_ GW132.out) | exact HBW.out)⟩
def codec_In_N.f (s0_0 : ByteArray) (s0_1 : Int) (a1 : Int) : Option (Int × ByteArray × Int) := (codec_In_U.f s0_0 s0_1).bind fun bt133 => (if bt133.1 > (IntKind.u64.wrap (mx a1 0)) then ((PL.codec_In_Fail.f bt133.2.1 bt133.2.2 3).bind fun bt136 => (some (0, bt136.1, bt136.2))) else (some (wrap64 (bt133.1), bt133.2.1, bt133.2.2)))
set_option maxHeartbeats 2000000 in
set_option maxRecDepth 100000 in
theorem codec_In_N.calls (g : Nat) (s0_0 : ByteArray) (s0_1 : Int) (a1 : Int) (r1 : Int) (r2 : ByteArray) (r3 : Int) (w0 w : World) (hI : IsS108 w0 w g s0_0 s0_1) (hB : Below w0.heap.size w0 w) (h : codec_In_N.f s0_0 s0_1 a1 = some (r1, r2, r3)) :
    Calls Try.prog 33 #[.pointer (some ⟨g, 0, none⟩), .int .i64 a1] w fun e w' => e = .returned (.int .i64 r1) ∧ IsS108 w0 w' g r2 r3 ∧ Below w0.heap.size w0 w' ∧ KeepBut w w' g none := by
  have HI0 := Aside0.mk hI
  have HK := Aside0.mk (KeepBut.refl w g none)
  have HL := Aside0.mk hB.size
  clear hI
  have HW0 := Aside0.mk hB.size
  have HB := Aside0.mk hB
  clear hB
  have H : ((codec_In_U.f s0_0 s0_1).bind fun bt133 => (if bt133.1 > (IntKind.u64.wrap (mx a1 0)) then ((PL.codec_In_Fail.f bt133.2.1 bt133.2.2 3).bind fun bt136 => (some (0, bt136.1, bt136.2))) else (some (wrap64 (bt133.1), bt133.2.1, bt133.2.2)))) = some (r1, r2, r3) := h
  clear h
  replace H := Option.bind_eq_some_iff.mp H
  obtain ⟨⟨t133, t134, t135⟩, A30, H⟩ := H
  replace H : (if t133 > (IntKind.u64.wrap (mx a1 0)) then ((PL.codec_In_Fail.f t134 t135 3).bind fun bt136 => (some (0, bt136.1, bt136.2))) else (some (wrap64 (t133), t134, t135))) = some (r1, r2, r3) := H
  have A3 := Aside0.mk A30
  clear A30
  obtain ⟨ji4, hji4⟩ : ∃ j_ : Int, (mx a1 0) = j_ := ⟨_, rfl⟩
  replace H : (if t133 > (IntKind.u64.wrap (ji4)) then ((PL.codec_In_Fail.f t134 t135 3).bind fun bt136 => (some (0, bt136.1, bt136.2))) else (some (wrap64 (t133), t134, t135))) = some (r1, r2, r3) := by first | (rw [hji4] at H; exact H) | (simp only [hji4] at H ⊢; exact H)
  (try rw [hji4] at A3)
  (try (have hji4l : 0 ≤ ji4 := by (rw [← hji4]; unfold mx; (repeat' split) <;> omega)))
  (try (have hji4m : 0 ≤ ji4 := by omega))
  have hji4_ : (if a1 < 0 then 0 else a1) = ji4 := hji4
  have HS5 := Aside0.mk H
  clear H
  go_enter Try.func33, Try.ntmps33
  go_upto_if 12 with (first | ((with_reducible refine gcl (f := 63) rfl ?_); refine gl_ (some 7) rfl rfl Try.func63 (by kernel_rfl) rfl #[.pointer (some ⟨g, 0, none⟩)] rfl ar_ ?_; (with_reducible refine (codec_In_U.calls g s0_0 s0_1 t133 t134 t135 w0 _ ?side1 ?side2 A3.out).mono ?_); (case side1 => repeat (first | (with_reducible first | exact HI0.out | apply IsS108.alloc | apply IsS108.drewN | apply IsS108.drew | apply IsS108.set_0 | apply IsS108.set_1) | exact HI0.out)); (case side2 => repeat (first | (with_reducible first | exact HB.out | apply bal | apply bdn | apply bd1 | refine bst ?_ (IsS108.ge HI0.out)) | exact HB.out)); rintro e w6 ⟨rfl, hi, hb, hk⟩; refine ⟨_, rfl, ?_⟩; have n0_ := Aside0.mk (KeepBut.trans (by repeat (first | (with_reducible first | exact HK.out | apply KeepBut.set_ | apply edn | apply edw | apply eal) | exact HK.out)) hk (.inl rfl)); have n1_ := Aside0.mk (hb); have n2_ := Aside0.mk (hi); clear HK; clear HB; clear HI0; have HK := n0_; have HB := n1_; have HI0 := n2_; clear n0_ n1_ n2_; (try clear hb); (try clear hb2); (try clear hk); (try clear hi)))
  (try simp only [Act.put, List.setIfInBounds_toArray, List.set_cons_zero, List.set_cons_succ])
  have H := HS5.out
  clear HS5
  by_cases c7 : t133 > (IntKind.u64.wrap (ji4))
  rotate_left
  · rw [if_neg c7] at H
    have c7b0 : decide ((IntKind.u64.wrap (ji4)) < t133) = false := decide_eq_false c7
    clear c7
    (first | rw [c7b0] | (simp only [i64_w, i32_w]; rw [c7b0]) | skip)
    simp only [Option.some.injEq, Prod.mk.injEq] at H
    obtain ⟨rfl, rfl, rfl⟩ := H
    go_wp2
    go_ret
    exact ⟨by first | rfl | (simp [errW_none, errW_some] <;> rfl) | (simp only [← hji4]; first | rfl | (simp [errW_none, errW_some] <;> rfl)) | (simp [*, errW_none, errW_some] <;> rfl), by repeat (first | (with_reducible first | exact HI0.out | apply IsS108.alloc | apply IsS108.drewN | apply IsS108.drew | apply IsS108.set_0 | apply IsS108.set_1) | exact HI0.out), by repeat (first | (with_reducible first | exact HB.out | apply bal | apply bdn | apply bd1 | refine bst ?_ (IsS108.ge HI0.out)) | exact HB.out), by repeat (first | (with_reducible first | exact HK.out | apply KeepBut.set_ | apply edn | apply edw | apply eal) | exact HK.out)⟩
  rw [if_pos c7] at H
  have c7b0 : decide ((IntKind.u64.wrap (ji4)) < t133) = true := decide_eq_true c7
  clear c7
  (first | rw [c7b0] | (simp only [i64_w, i32_w]; rw [c7b0]) | skip)
  replace H := Option.bind_eq_some_iff.mp H
  obtain ⟨⟨t136, t137⟩, A80, H⟩ := H
  replace H : (some (0, t136, t137)) = some (r1, r2, r3) := H
  have A8 := Aside0.mk A80
  clear A80
  simp only [Option.some.injEq, Prod.mk.injEq] at H
  obtain ⟨rfl, rfl, rfl⟩ := H
  go_wp2_with (first | ((with_reducible refine gcl (f := 34) rfl ?_); refine gl_ (some 14) rfl rfl Try.func34 (by kernel_rfl) rfl #[.pointer (some ⟨g, 0, none⟩), .int .i64 3] rfl ar_ ?_; (with_reducible refine (PL.codec_In_Fail.calls g t134 t135 3 t136 t137 w0 _ ?side1 ?side2 A8.out).mono ?_); (case side1 => repeat (first | (with_reducible first | exact HI0.out | apply IsS108.alloc | apply IsS108.drewN | apply IsS108.drew | apply IsS108.set_0 | apply IsS108.set_1) | exact HI0.out)); (case side2 => repeat (first | (with_reducible first | exact HB.out | apply bal | apply bdn | apply bd1 | refine bst ?_ (IsS108.ge HI0.out)) | exact HB.out)); rintro e w9 ⟨rfl, hi, hb, hk⟩; refine ⟨_, rfl, ?_⟩; have n0_ := Aside0.mk (KeepBut.trans (by repeat (first | (with_reducible first | exact HK.out | apply KeepBut.set_ | apply edn | apply edw | apply eal) | exact HK.out)) hk (.inl rfl)); have n1_ := Aside0.mk (hb); have n2_ := Aside0.mk (hi); clear HK; clear HB; clear HI0; have HK := n0_; have HB := n1_; have HI0 := n2_; clear n0_ n1_ n2_; (try clear hb); (try clear hb2); (try clear hk); (try clear hi)))
  go_ret
  exact ⟨by first | rfl | (simp [errW_none, errW_some] <;> rfl) | (simp only [← hji4]; first | rfl | (simp [errW_none, errW_some] <;> rfl)) | (simp [*, errW_none, errW_some] <;> rfl), by repeat (first | (with_reducible first | exact HI0.out | apply IsS108.alloc | apply IsS108.drewN | apply IsS108.drew | apply IsS108.set_0 | apply IsS108.set_1) | exact HI0.out), by repeat (first | (with_reducible first | exact HB.out | apply bal | apply bdn | apply bd1 | refine bst ?_ (IsS108.ge HI0.out)) | exact HB.out), by repeat (first | (with_reducible first | exact HK.out | apply KeepBut.set_ | apply edn | apply edw | apply eal) | exact HK.out)⟩
def codec_In_S.f (s0_0 : ByteArray) (s0_1 : Int) (a1 : Int) : Option (ByteArray × ByteArray × Int) := (codec_In_N.f s0_0 s0_1 a1).bind fun bt138 => ((PL.codec_In_take.f bt138.2.1 bt138.2.2 bt138.1).bind fun bt141 => (some (bt141.1, bt141.2.1, bt141.2.2)))
set_option maxHeartbeats 2000000 in
set_option maxRecDepth 100000 in
theorem codec_In_S.calls (g : Nat) (s0_0 : ByteArray) (s0_1 : Int) (a1 : Int) (r1 : ByteArray) (r2 : ByteArray) (r3 : Int) (w0 w : World) (hI : IsS108 w0 w g s0_0 s0_1) (hB : Below w0.heap.size w0 w) (h : codec_In_S.f s0_0 s0_1 a1 = some (r1, r2, r3)) :
    Calls Try.prog 35 #[.pointer (some ⟨g, 0, none⟩), .int .i64 a1] w fun e w' => e = .returned (.string r1) ∧ IsS108 w0 w' g r2 r3 ∧ Below w0.heap.size w0 w' ∧ KeepBut w w' g none := by
  have HI0 := Aside0.mk hI
  have HK := Aside0.mk (KeepBut.refl w g none)
  have HL := Aside0.mk hB.size
  clear hI
  have HW0 := Aside0.mk hB.size
  have HB := Aside0.mk hB
  clear hB
  have H : ((codec_In_N.f s0_0 s0_1 a1).bind fun bt138 => ((PL.codec_In_take.f bt138.2.1 bt138.2.2 bt138.1).bind fun bt141 => (some (bt141.1, bt141.2.1, bt141.2.2)))) = some (r1, r2, r3) := h
  clear h
  replace H := Option.bind_eq_some_iff.mp H
  obtain ⟨⟨t138, t139, t140⟩, A30, H⟩ := H
  replace H : ((PL.codec_In_take.f t139 t140 t138).bind fun bt141 => (some (bt141.1, bt141.2.1, bt141.2.2))) = some (r1, r2, r3) := H
  have A3 := Aside0.mk A30
  clear A30
  replace H := Option.bind_eq_some_iff.mp H
  obtain ⟨⟨t141, t142, t143⟩, A40, H⟩ := H
  replace H : (some (t141, t142, t143)) = some (r1, r2, r3) := H
  have A4 := Aside0.mk A40
  clear A40
  simp only [Option.some.injEq, Prod.mk.injEq] at H
  obtain ⟨rfl, rfl, rfl⟩ := H
  go_enter Try.func35, Try.ntmps35
  go_wp2_with (first | ((with_reducible refine gcl (f := 33) rfl ?_); refine gl_ (some 8) rfl rfl Try.func33 (by kernel_rfl) rfl #[.pointer (some ⟨g, 0, none⟩), .int .i64 a1] rfl ar_ ?_; (with_reducible refine (codec_In_N.calls g s0_0 s0_1 a1 t138 t139 t140 w0 _ ?side1 ?side2 A3.out).mono ?_); (case side1 => repeat (first | (with_reducible first | exact HI0.out | apply IsS108.alloc | apply IsS108.drewN | apply IsS108.drew | apply IsS108.set_0 | apply IsS108.set_1) | exact HI0.out)); (case side2 => repeat (first | (with_reducible first | exact HB.out | apply bal | apply bdn | apply bd1 | refine bst ?_ (IsS108.ge HI0.out)) | exact HB.out)); rintro e w5 ⟨rfl, hi, hb, hk⟩; refine ⟨_, rfl, ?_⟩; have n0_ := Aside0.mk (KeepBut.trans (by repeat (first | (with_reducible first | exact HK.out | apply KeepBut.set_ | apply edn | apply edw | apply eal) | exact HK.out)) hk (.inl rfl)); have n1_ := Aside0.mk (hb); have n2_ := Aside0.mk (hi); clear HK; clear HB; clear HI0; have HK := n0_; have HB := n1_; have HI0 := n2_; clear n0_ n1_ n2_; (try clear hb); (try clear hb2); (try clear hk); (try clear hi)) | ((with_reducible refine gcl (f := 64) rfl ?_); refine gl_ (some 9) rfl rfl Try.func64 (by kernel_rfl) rfl #[.pointer (some ⟨g, 0, none⟩), .int .i64 t138] rfl ar_ ?_; (with_reducible refine (PL.codec_In_take.calls g t139 t140 t138 t141 t142 t143 w0 _ ?side1 ?side2 A4.out).mono ?_); (case side1 => repeat (first | (with_reducible first | exact HI0.out | apply IsS108.alloc | apply IsS108.drewN | apply IsS108.drew | apply IsS108.set_0 | apply IsS108.set_1) | exact HI0.out)); (case side2 => repeat (first | (with_reducible first | exact HB.out | apply bal | apply bdn | apply bd1 | refine bst ?_ (IsS108.ge HI0.out)) | exact HB.out)); rintro e w6 ⟨rfl, hi, hb, hk⟩; refine ⟨_, rfl, ?_⟩; have n0_ := Aside0.mk (KeepBut.trans (by repeat (first | (with_reducible first | exact HK.out | apply KeepBut.set_ | apply edn | apply edw | apply eal) | exact HK.out)) hk (.inl rfl)); have n1_ := Aside0.mk (hb); have n2_ := Aside0.mk (hi); clear HK; clear HB; clear HI0; have HK := n0_; have HB := n1_; have HI0 := n2_; clear n0_ n1_ n2_; (try clear hb); (try clear hb2); (try clear hk); (try clear hi)))
  go_ret
  exact ⟨er_, by repeat (first | (with_reducible first | exact HI0.out | apply IsS108.alloc | apply IsS108.drewN | apply IsS108.drew | apply IsS108.set_0 | apply IsS108.set_1) | exact HI0.out), by repeat (first | (with_reducible first | exact HB.out | apply bal | apply bdn | apply bd1 | refine bst ?_ (IsS108.ge HI0.out)) | exact HB.out), by repeat (first | (with_reducible first | exact HK.out | apply KeepBut.set_ | apply edn | apply edw | apply eal) | exact HK.out)⟩
def codec_In_I.f (s0_0 : ByteArray) (s0_1 : Int) : Option (Int × ByteArray × Int) := (codec_In_U.f s0_0 s0_1).bind fun bt144 => (if (Go.bits .and .u64 bt144.1 1) = 1 then (some (wrap64 ((wrap64 (-(wrap64 (bt144.1 / 2)))) - 1), bt144.2.1, bt144.2.2)) else (some (wrap64 (bt144.1 / 2), bt144.2.1, bt144.2.2)))
set_option maxHeartbeats 2000000 in
set_option maxRecDepth 100000 in
theorem codec_In_I.calls (g : Nat) (s0_0 : ByteArray) (s0_1 : Int) (r1 : Int) (r2 : ByteArray) (r3 : Int) (w0 w : World) (hI : IsS108 w0 w g s0_0 s0_1) (hB : Below w0.heap.size w0 w) (h : codec_In_I.f s0_0 s0_1 = some (r1, r2, r3)) :
    Calls Try.prog 65 #[.pointer (some ⟨g, 0, none⟩)] w fun e w' => e = .returned (.int .i64 r1) ∧ IsS108 w0 w' g r2 r3 ∧ Below w0.heap.size w0 w' ∧ KeepBut w w' g none := by
  have HI0 := Aside0.mk hI
  have HK := Aside0.mk (KeepBut.refl w g none)
  have HL := Aside0.mk hB.size
  clear hI
  have HW0 := Aside0.mk hB.size
  have HB := Aside0.mk hB
  clear hB
  have H : ((codec_In_U.f s0_0 s0_1).bind fun bt144 => (if (Go.bits .and .u64 bt144.1 1) = 1 then (some (wrap64 ((wrap64 (-(wrap64 (bt144.1 / 2)))) - 1), bt144.2.1, bt144.2.2)) else (some (wrap64 (bt144.1 / 2), bt144.2.1, bt144.2.2)))) = some (r1, r2, r3) := h
  clear h
  replace H := Option.bind_eq_some_iff.mp H
  obtain ⟨⟨t144, t145, t146⟩, A20, H⟩ := H
  replace H : (if (Go.bits .and .u64 t144 1) = 1 then (some (wrap64 ((wrap64 (-(wrap64 (t144 / 2)))) - 1), t145, t146)) else (some (wrap64 (t144 / 2), t145, t146))) = some (r1, r2, r3) := H
  have A2 := Aside0.mk A20
  clear A20
  have HS3 := Aside0.mk H
  clear H
  go_enter Try.func65, Try.ntmps65
  go_upto_if 8 with (first | ((with_reducible refine gcl (f := 63) rfl ?_); refine gl_ (some 5) rfl rfl Try.func63 (by kernel_rfl) rfl #[.pointer (some ⟨g, 0, none⟩)] rfl ar_ ?_; (with_reducible refine (codec_In_U.calls g s0_0 s0_1 t144 t145 t146 w0 _ ?side1 ?side2 A2.out).mono ?_); (case side1 => repeat (first | (with_reducible first | exact HI0.out | apply IsS108.alloc | apply IsS108.drewN | apply IsS108.drew | apply IsS108.set_0 | apply IsS108.set_1) | exact HI0.out)); (case side2 => repeat (first | (with_reducible first | exact HB.out | apply bal | apply bdn | apply bd1 | refine bst ?_ (IsS108.ge HI0.out)) | exact HB.out)); rintro e w4 ⟨rfl, hi, hb, hk⟩; refine ⟨_, rfl, ?_⟩; have n0_ := Aside0.mk (KeepBut.trans (by repeat (first | (with_reducible first | exact HK.out | apply KeepBut.set_ | apply edn | apply edw | apply eal) | exact HK.out)) hk (.inl rfl)); have n1_ := Aside0.mk (hb); have n2_ := Aside0.mk (hi); clear HK; clear HB; clear HI0; have HK := n0_; have HB := n1_; have HI0 := n2_; clear n0_ n1_ n2_; (try clear hb); (try clear hb2); (try clear hk); (try clear hi)))
  (try simp only [Act.put, List.setIfInBounds_toArray, List.set_cons_zero, List.set_cons_succ])
  have H := HS3.out
  clear HS3
  by_cases c5 : (Go.bits .and .u64 t144 1) = 1
  rotate_left
  · rw [if_neg c5] at H
    have c5b0 : ((Go.bits .and .u64 t144 1) == 1) = false := beq_eq_false_iff_ne.mpr c5
    have c5b1 : ((Go.bits .and .u64 t144 1) != 1) = true := bne_iff_ne.mpr c5
    (first | rw [c5b0] | (simp only [i64_w, i32_w]; rw [c5b0]) | skip)
    simp only [Option.some.injEq, Prod.mk.injEq] at H
    obtain ⟨rfl, rfl, rfl⟩ := H
    go_wp2
    go_ret
    exact ⟨er_, by repeat (first | (with_reducible first | exact HI0.out | apply IsS108.alloc | apply IsS108.drewN | apply IsS108.drew | apply IsS108.set_0 | apply IsS108.set_1) | exact HI0.out), by repeat (first | (with_reducible first | exact HB.out | apply bal | apply bdn | apply bd1 | refine bst ?_ (IsS108.ge HI0.out)) | exact HB.out), by repeat (first | (with_reducible first | exact HK.out | apply KeepBut.set_ | apply edn | apply edw | apply eal) | exact HK.out)⟩
  rw [if_pos c5] at H
  have c5b0 : ((Go.bits .and .u64 t144 1) == 1) = true := beq_iff_eq.mpr c5
  have c5b1 : ((Go.bits .and .u64 t144 1) != 1) = false := bne_eq_false_iff_eq.mpr c5
  clear c5
  (first | rw [c5b0] | (simp only [i64_w, i32_w]; rw [c5b0]) | skip)
  simp only [Option.some.injEq, Prod.mk.injEq] at H
  obtain ⟨rfl, rfl, rfl⟩ := H
  go_wp2
  go_ret
  exact ⟨er_, by repeat (first | (with_reducible first | exact HI0.out | apply IsS108.alloc | apply IsS108.drewN | apply IsS108.drew | apply IsS108.set_0 | apply IsS108.set_1) | exact HI0.out), by repeat (first | (with_reducible first | exact HB.out | apply bal | apply bdn | apply bd1 | refine bst ?_ (IsS108.ge HI0.out)) | exact HB.out), by repeat (first | (with_reducible first | exact HK.out | apply KeepBut.set_ | apply edn | apply edw | apply eal) | exact HK.out)⟩
def codec_In_Err.f (s0_0 : ByteArray) (s0_1 : Int) : Option (Int × ByteArray × Int) := some (s0_1, s0_0, s0_1)
set_option maxHeartbeats 2000000 in
set_option maxRecDepth 100000 in
theorem codec_In_Err.calls (g : Nat) (s0_0 : ByteArray) (s0_1 : Int) (r1 : Int) (r2 : ByteArray) (r3 : Int) (w0 w : World) (hI : IsS108 w0 w g s0_0 s0_1) (hB : Below w0.heap.size w0 w) (h : codec_In_Err.f s0_0 s0_1 = some (r1, r2, r3)) :
    Calls Try.prog 66 #[.pointer (some ⟨g, 0, none⟩)] w fun e w' => e = .returned (.int .i64 r1) ∧ IsS108 w0 w' g r2 r3 ∧ Below w0.heap.size w0 w' ∧ KeepBut w w' g none := by
  have HI0 := Aside0.mk hI
  have HK := Aside0.mk (KeepBut.refl w g none)
  have HL := Aside0.mk hB.size
  clear hI
  have HW0 := Aside0.mk hB.size
  have HB := Aside0.mk hB
  clear hB
  have H : (some (s0_1, s0_0, s0_1)) = some (r1, r2, r3) := h
  clear h
  simp only [Option.some.injEq, Prod.mk.injEq] at H
  obtain ⟨rfl, rfl, rfl⟩ := H
  obtain ⟨HGz2, hgz2⟩ := HI0.out
  have hcz2_0 := cellS108_0 HGz2
  have hcz2_1 := cellS108_1 HGz2
  have hfz2_0 := kfr HGz2 0
  have hfz2_1 := kfr HGz2 1
  clear HGz2 hgz2
  go_enter Try.func66, Try.ntmps66
  go_wp2
  go_ret
  exact ⟨er_, by repeat (first | (with_reducible first | exact HI0.out | apply IsS108.alloc | apply IsS108.drewN | apply IsS108.drew | apply IsS108.set_0 | apply IsS108.set_1) | exact HI0.out), by repeat (first | (with_reducible first | exact HB.out | apply bal | apply bdn | apply bd1 | refine bst ?_ (IsS108.ge HI0.out)) | exact HB.out), by repeat (first | (with_reducible first | exact HK.out | apply KeepBut.set_ | apply edn | apply edw | apply eal) | exact HK.out)⟩
def method_ReadCall.j0 : Nat → ByteArray → Int → Int → ByteArray → ByteArray → Int → Option (Int × ByteArray × ByteArray × Int × ByteArray × Int)
  | 0, _, _, _, _, _, _ => none
  | k + 1, x1000, x1001, x161000, x161001, x161002, x161003 => (codec_In_Err.f x1000 x1001).bind fun bt167 => (if bt167.1 = 0 then (some (x161000, x161001, x161002, x161003, bt167.2.1, bt167.2.2)) else (some (0, (⟨#[]⟩ : ByteArray), (⟨#[]⟩ : ByteArray), 0, bt167.2.1, bt167.2.2)))
def method_ReadCall.f (k : Nat) (s0_0 : ByteArray) (s0_1 : Int) : Option (Int × ByteArray × ByteArray × Int × ByteArray × Int) := (codec_In_N.f s0_0 s0_1 17).bind fun bt148 => ((codec_In_S.f bt148.2.1 bt148.2.2 24).bind fun bt151 => ((codec_In_S.f bt151.2.1 bt151.2.2 24).bind fun bt154 => ((codec_In_I.f bt154.2.1 bt154.2.2).bind fun bt157 => ((codec_In_Err.f bt157.2.1 bt157.2.2).bind fun bt161 => (if bt161.1 = 0 then ((method_Call_Check.f k bt148.1 bt151.1 bt154.1 bt157.1).bind fun t164 => ((PL.codec_In_Fail.f bt161.2.1 bt161.2.2 t164).bind fun bt165 => (method_ReadCall.j0 k bt165.1 bt165.2 bt148.1 bt151.1 bt154.1 bt157.1))) else (method_ReadCall.j0 k bt161.2.1 bt161.2.2 bt148.1 bt151.1 bt154.1 bt157.1))))))
set_option maxHeartbeats 2000000 in
set_option maxRecDepth 100000 in
theorem method_ReadCall.calls (k : Nat) (g : Nat) (s0_0 : ByteArray) (s0_1 : Int) (r1 : Int) (r2 : ByteArray) (r3 : ByteArray) (r4 : Int) (r5 : ByteArray) (r6 : Int) (w0 w : World) (hI : IsS108 w0 w g s0_0 s0_1) (hB : Below w0.heap.size w0 w) (h : method_ReadCall.f k s0_0 s0_1 = some (r1, r2, r3, r4, r5, r6)) :
    Calls Try.prog 36 #[.pointer (some ⟨g, 0, none⟩)] w fun e w' => e = .returned (.agg #[.int .i64 r1, .string r2, .string r3, .int .i64 r4]) ∧ IsS108 w0 w' g r5 r6 ∧ Below w0.heap.size w0 w' ∧ KeepBut w w' g none := by
  have hu24 := Try.underlying24
  have HI0 := Aside0.mk hI
  have HK := Aside0.mk (KeepBut.refl w g none)
  have HL := Aside0.mk hB.size
  clear hI
  have HW0 := Aside0.mk hB.size
  have HB := Aside0.mk hB
  clear hB
  have H : ((codec_In_N.f s0_0 s0_1 17).bind fun bt148 => ((codec_In_S.f bt148.2.1 bt148.2.2 24).bind fun bt151 => ((codec_In_S.f bt151.2.1 bt151.2.2 24).bind fun bt154 => ((codec_In_I.f bt154.2.1 bt154.2.2).bind fun bt157 => ((codec_In_Err.f bt157.2.1 bt157.2.2).bind fun bt161 => (if bt161.1 = 0 then ((method_Call_Check.f k bt148.1 bt151.1 bt154.1 bt157.1).bind fun t164 => ((PL.codec_In_Fail.f bt161.2.1 bt161.2.2 t164).bind fun bt165 => (method_ReadCall.j0 k bt165.1 bt165.2 bt148.1 bt151.1 bt154.1 bt157.1))) else (method_ReadCall.j0 k bt161.2.1 bt161.2.2 bt148.1 bt151.1 bt154.1 bt157.1))))))) = some (r1, r2, r3, r4, r5, r6) := h
  clear h
  replace H := Option.bind_eq_some_iff.mp H
  obtain ⟨⟨t148, t149, t150⟩, A20, H⟩ := H
  replace H : ((codec_In_S.f t149 t150 24).bind fun bt151 => ((codec_In_S.f bt151.2.1 bt151.2.2 24).bind fun bt154 => ((codec_In_I.f bt154.2.1 bt154.2.2).bind fun bt157 => ((codec_In_Err.f bt157.2.1 bt157.2.2).bind fun bt161 => (if bt161.1 = 0 then ((method_Call_Check.f k t148 bt151.1 bt154.1 bt157.1).bind fun t164 => ((PL.codec_In_Fail.f bt161.2.1 bt161.2.2 t164).bind fun bt165 => (method_ReadCall.j0 k bt165.1 bt165.2 t148 bt151.1 bt154.1 bt157.1))) else (method_ReadCall.j0 k bt161.2.1 bt161.2.2 t148 bt151.1 bt154.1 bt157.1)))))) = some (r1, r2, r3, r4, r5, r6) := H
  have A2 := Aside0.mk A20
  clear A20
  replace H := Option.bind_eq_some_iff.mp H
  obtain ⟨⟨t151, t152, t153⟩, A30, H⟩ := H
  replace H : ((codec_In_S.f t152 t153 24).bind fun bt154 => ((codec_In_I.f bt154.2.1 bt154.2.2).bind fun bt157 => ((codec_In_Err.f bt157.2.1 bt157.2.2).bind fun bt161 => (if bt161.1 = 0 then ((method_Call_Check.f k t148 t151 bt154.1 bt157.1).bind fun t164 => ((PL.codec_In_Fail.f bt161.2.1 bt161.2.2 t164).bind fun bt165 => (method_ReadCall.j0 k bt165.1 bt165.2 t148 t151 bt154.1 bt157.1))) else (method_ReadCall.j0 k bt161.2.1 bt161.2.2 t148 t151 bt154.1 bt157.1))))) = some (r1, r2, r3, r4, r5, r6) := H
  have A3 := Aside0.mk A30
  clear A30
  replace H := Option.bind_eq_some_iff.mp H
  obtain ⟨⟨t154, t155, t156⟩, A40, H⟩ := H
  replace H : ((codec_In_I.f t155 t156).bind fun bt157 => ((codec_In_Err.f bt157.2.1 bt157.2.2).bind fun bt161 => (if bt161.1 = 0 then ((method_Call_Check.f k t148 t151 t154 bt157.1).bind fun t164 => ((PL.codec_In_Fail.f bt161.2.1 bt161.2.2 t164).bind fun bt165 => (method_ReadCall.j0 k bt165.1 bt165.2 t148 t151 t154 bt157.1))) else (method_ReadCall.j0 k bt161.2.1 bt161.2.2 t148 t151 t154 bt157.1)))) = some (r1, r2, r3, r4, r5, r6) := H
  have A4 := Aside0.mk A40
  clear A40
  replace H := Option.bind_eq_some_iff.mp H
  obtain ⟨⟨t157, t158, t159⟩, A50, H⟩ := H
  replace H : ((codec_In_Err.f t158 t159).bind fun bt161 => (if bt161.1 = 0 then ((method_Call_Check.f k t148 t151 t154 t157).bind fun t164 => ((PL.codec_In_Fail.f bt161.2.1 bt161.2.2 t164).bind fun bt165 => (method_ReadCall.j0 k bt165.1 bt165.2 t148 t151 t154 t157))) else (method_ReadCall.j0 k bt161.2.1 bt161.2.2 t148 t151 t154 t157))) = some (r1, r2, r3, r4, r5, r6) := H
  have A5 := Aside0.mk A50
  clear A50
  replace H := Option.bind_eq_some_iff.mp H
  obtain ⟨⟨t161, t162, t163⟩, A60, H⟩ := H
  replace H : (if t161 = 0 then ((method_Call_Check.f k t148 t151 t154 t157).bind fun t164 => ((PL.codec_In_Fail.f t162 t163 t164).bind fun bt165 => (method_ReadCall.j0 k bt165.1 bt165.2 t148 t151 t154 t157))) else (method_ReadCall.j0 k t162 t163 t148 t151 t154 t157)) = some (r1, r2, r3, r4, r5, r6) := H
  have A6 := Aside0.mk A60
  clear A60
  have HC7 := Aside0.mk H
  clear H
  go_enter Try.func36, Try.ntmps36
  go_upto_if 15 with (first | ((with_reducible refine gds (N := 2) rfl ?_); refine bev ?hg (N := 2) ?hd (cs := #[.int .i64 0, .string (⟨#[]⟩ : ByteArray), .string (⟨#[]⟩ : ByteArray), .int .i64 0]) (t := 24) ?hr ?_; (case hd => rfl); (case hg => rfl); (case hr => first | (go_simp; done) | (go_simp; rfl)); intro gb147 hg w8 hbox hb; have n0_ := Aside0.mk (IsS108.below (by repeat (first | (with_reducible first | exact HI0.out | apply IsS108.alloc | apply IsS108.drewN | apply IsS108.drew | apply IsS108.set_0 | apply IsS108.set_1) | exact HI0.out)) hb); have n1_ := Aside0.mk (KeepBut.trans (by repeat (first | (with_reducible first | exact HK.out | apply KeepBut.set_ | apply edn | apply edw | apply eal) | exact HK.out)) (KeepBut.of_below hb g none) (.inl rfl)); have n2_ := Aside0.mk (bsp (by repeat (first | (with_reducible first | exact HB.out | apply bal | apply bdn | apply bd1 | refine bst ?_ (IsS108.ge HI0.out)) | exact HB.out)) hb); have n3_ := Aside0.mk (hbox); have n4_ := Aside0.mk ((by rw [hg]; exact (keep_size (w := w) (g := g) (row := none) (by repeat (first | (with_reducible first | exact HK.out | apply KeepBut.set_ | apply edn | apply edw | apply eal) | exact HK.out))) : w.heap.size ≤ gb147)); have n5_ := Aside0.mk ((Nat.le_trans HW0.out (by rw [hg]; exact (keep_size (w := w) (g := g) (row := none) (by repeat (first | (with_reducible first | exact HK.out | apply KeepBut.set_ | apply edn | apply edw | apply eal) | exact HK.out))) : w.heap.size ≤ gb147) : w0.heap.size ≤ gb147)); have n6_ := Aside0.mk ((by rw [hg]; exact Nat.ne_of_lt (IsS108.lt (show IsS108 w0 _ g s0_0 s0_1 from by repeat (first | (with_reducible first | exact HI0.out | apply IsS108.alloc | apply IsS108.drewN | apply IsS108.drew | apply IsS108.set_0 | apply IsS108.set_1) | exact HI0.out))) : g ≠ gb147)); have n7_ := Aside0.mk ((by rw [hg]; exact Nat.ne_of_gt (IsS108.lt (show IsS108 w0 _ g s0_0 s0_1 from by repeat (first | (with_reducible first | exact HI0.out | apply IsS108.alloc | apply IsS108.drewN | apply IsS108.drew | apply IsS108.set_0 | apply IsS108.set_1) | exact HI0.out))) : gb147 ≠ g)); clear HI0; clear HK; clear HB; have HI0 := n0_; have HK := n1_; have HB := n2_; have BK147 := n3_; have GW147 := n4_; have GE147 := n5_; have NB0_147 := n6_; have NB147_0 := n7_; clear n0_ n1_ n2_ n3_ n4_ n5_ n6_ n7_; clear hb hbox hg) | ((with_reducible refine gcl (f := 33) rfl ?_); refine gl_ (some 5) rfl rfl Try.func33 (by kernel_rfl) rfl #[.pointer (some ⟨g, 0, none⟩), .int .i64 17] rfl ar_ ?_; (with_reducible refine (codec_In_N.calls g s0_0 s0_1 17 t148 t149 t150 w0 _ ?side1 ?side2 A2.out).mono ?_); (case side1 => repeat (first | (with_reducible first | exact HI0.out | apply IsS108.alloc | apply IsS108.drewN | apply IsS108.drew | apply IsS108.set_0 | apply IsS108.set_1 | refine IsS108.far ?_ NB0_147.out _) | exact HI0.out)); (case side2 => repeat (first | (with_reducible first | exact HB.out | apply bal | apply bdn | apply bd1 | refine bst ?_ (IsS108.ge HI0.out) | refine bst ?_ GE147.out) | exact HB.out)); rintro e w9 ⟨rfl, hi, hb, hk⟩; refine ⟨_, rfl, ?_⟩; have n0_ := Aside0.mk (KeepBut.blk hk (g' := gb147) (o := .cells #[.int .i64 0, .string (⟨#[]⟩ : ByteArray), .string (⟨#[]⟩ : ByteArray), .int .i64 0] 24 (0, 0)) bk_ NB147_0.out (by simp)); have n1_ := Aside0.mk (KeepBut.trans (by repeat (first | (with_reducible first | exact HK.out | apply KeepBut.set_ | apply edn | apply edw | apply eal | refine keep_far ?_ GW147.out _) | exact HK.out)) hk (.inl rfl)); have n2_ := Aside0.mk (hb); have n3_ := Aside0.mk (hi); clear BK147; clear HK; clear HB; clear HI0; have BK147 := n0_; have HK := n1_; have HB := n2_; have HI0 := n3_; clear n0_ n1_ n2_ n3_; (try clear hb); (try clear hb2); (try clear hk); (try clear hi)) | ((with_reducible refine gcl (f := 35) rfl ?_); refine gl_ (some 7) rfl rfl Try.func35 (by kernel_rfl) rfl #[.pointer (some ⟨g, 0, none⟩), .int .i64 24] rfl ar_ ?_; (with_reducible refine (codec_In_S.calls g t149 t150 24 t151 t152 t153 w0 _ ?side1 ?side2 A3.out).mono ?_); (case side1 => repeat (first | (with_reducible first | exact HI0.out | apply IsS108.alloc | apply IsS108.drewN | apply IsS108.drew | apply IsS108.set_0 | apply IsS108.set_1 | refine IsS108.far ?_ NB0_147.out _) | exact HI0.out)); (case side2 => repeat (first | (with_reducible first | exact HB.out | apply bal | apply bdn | apply bd1 | refine bst ?_ (IsS108.ge HI0.out) | refine bst ?_ GE147.out) | exact HB.out)); rintro e w10 ⟨rfl, hi, hb, hk⟩; refine ⟨_, rfl, ?_⟩; have n0_ := Aside0.mk (KeepBut.blk hk (g' := gb147) (o := .cells #[.int .i64 0, .string (⟨#[]⟩ : ByteArray), .string (⟨#[]⟩ : ByteArray), .int .i64 0] 24 (0, 0)) bk_ NB147_0.out (by simp)); have n1_ := Aside0.mk (KeepBut.trans (by repeat (first | (with_reducible first | exact HK.out | apply KeepBut.set_ | apply edn | apply edw | apply eal | refine keep_far ?_ GW147.out _) | exact HK.out)) hk (.inl rfl)); have n2_ := Aside0.mk (hb); have n3_ := Aside0.mk (hi); clear BK147; clear HK; clear HB; clear HI0; have BK147 := n0_; have HK := n1_; have HB := n2_; have HI0 := n3_; clear n0_ n1_ n2_ n3_; (try clear hb); (try clear hb2); (try clear hk); (try clear hi)) | ((with_reducible refine gcl (f := 35) rfl ?_); refine gl_ (some 9) rfl rfl Try.func35 (by kernel_rfl) rfl #[.pointer (some ⟨g, 0, none⟩), .int .i64 24] rfl ar_ ?_; (with_reducible refine (codec_In_S.calls g t152 t153 24 t154 t155 t156 w0 _ ?side1 ?side2 A4.out).mono ?_); (case side1 => repeat (first | (with_reducible first | exact HI0.out | apply IsS108.alloc | apply IsS108.drewN | apply IsS108.drew | apply IsS108.set_0 | apply IsS108.set_1 | refine IsS108.far ?_ NB0_147.out _) | exact HI0.out)); (case side2 => repeat (first | (with_reducible first | exact HB.out | apply bal | apply bdn | apply bd1 | refine bst ?_ (IsS108.ge HI0.out) | refine bst ?_ GE147.out) | exact HB.out)); rintro e w11 ⟨rfl, hi, hb, hk⟩; refine ⟨_, rfl, ?_⟩; have n0_ := Aside0.mk (KeepBut.blk hk (g' := gb147) (o := .cells #[.int .i64 0, .string (⟨#[]⟩ : ByteArray), .string (⟨#[]⟩ : ByteArray), .int .i64 0] 24 (0, 0)) bk_ NB147_0.out (by simp)); have n1_ := Aside0.mk (KeepBut.trans (by repeat (first | (with_reducible first | exact HK.out | apply KeepBut.set_ | apply edn | apply edw | apply eal | refine keep_far ?_ GW147.out _) | exact HK.out)) hk (.inl rfl)); have n2_ := Aside0.mk (hb); have n3_ := Aside0.mk (hi); clear BK147; clear HK; clear HB; clear HI0; have BK147 := n0_; have HK := n1_; have HB := n2_; have HI0 := n3_; clear n0_ n1_ n2_ n3_; (try clear hb); (try clear hb2); (try clear hk); (try clear hi)) | ((with_reducible refine gcl (f := 65) rfl ?_); refine gl_ (some 11) rfl rfl Try.func65 (by kernel_rfl) rfl #[.pointer (some ⟨g, 0, none⟩)] rfl ar_ ?_; (with_reducible refine (codec_In_I.calls g t155 t156 t157 t158 t159 w0 _ ?side1 ?side2 A5.out).mono ?_); (case side1 => repeat (first | (with_reducible first | exact HI0.out | apply IsS108.alloc | apply IsS108.drewN | apply IsS108.drew | apply IsS108.set_0 | apply IsS108.set_1 | refine IsS108.far ?_ NB0_147.out _) | exact HI0.out)); (case side2 => repeat (first | (with_reducible first | exact HB.out | apply bal | apply bdn | apply bd1 | refine bst ?_ (IsS108.ge HI0.out) | refine bst ?_ GE147.out) | exact HB.out)); rintro e w12 ⟨rfl, hi, hb, hk⟩; refine ⟨_, rfl, ?_⟩; have n0_ := Aside0.mk (KeepBut.blk hk (g' := gb147) (o := .cells #[.int .i64 0, .string (⟨#[]⟩ : ByteArray), .string (⟨#[]⟩ : ByteArray), .int .i64 0] 24 (0, 0)) bk_ NB147_0.out (by simp)); have n1_ := Aside0.mk (KeepBut.trans (by repeat (first | (with_reducible first | exact HK.out | apply KeepBut.set_ | apply edn | apply edw | apply eal | refine keep_far ?_ GW147.out _) | exact HK.out)) hk (.inl rfl)); have n2_ := Aside0.mk (hb); have n3_ := Aside0.mk (hi); clear BK147; clear HK; clear HB; clear HI0; have BK147 := n0_; have HK := n1_; have HB := n2_; have HI0 := n3_; clear n0_ n1_ n2_ n3_; (try clear hb); (try clear hb2); (try clear hk); (try clear hi)) | ((with_reducible refine gds (N := 3) rfl ?_); refine bev ?hg (N := 3) ?hd (cs := #[.int .i64 0, .string (⟨#[]⟩ : ByteArray), .string (⟨#[]⟩ : ByteArray), .int .i64 0]) (t := 24) ?hr ?_; (case hd => rfl); (case hg => rfl); (case hr => first | (go_simp; done) | (go_simp; rfl)); intro gb160 hg w13 hbox hb; have n0_ := Aside0.mk (IsS108.below (by repeat (first | (with_reducible first | exact HI0.out | apply IsS108.alloc | apply IsS108.drewN | apply IsS108.drew | apply IsS108.set_0 | apply IsS108.set_1 | refine IsS108.far ?_ NB0_147.out _) | exact HI0.out)) hb); have n1_ := Aside0.mk (kbl (g := gb147) (o := .cells #[.int .i64 0, .string (⟨#[]⟩ : ByteArray), .string (⟨#[]⟩ : ByteArray), .int .i64 0] 24 (0, 0)) bk_ hb); have n2_ := Aside0.mk (KeepBut.trans (by repeat (first | (with_reducible first | exact HK.out | apply KeepBut.set_ | apply edn | apply edw | apply eal | refine keep_far ?_ GW147.out _) | exact HK.out)) (KeepBut.of_below hb g none) (.inl rfl)); have n3_ := Aside0.mk (bsp (by repeat (first | (with_reducible first | exact HB.out | apply bal | apply bdn | apply bd1 | refine bst ?_ (IsS108.ge HI0.out) | refine bst ?_ GE147.out) | exact HB.out)) hb); have n4_ := Aside0.mk (hbox); have n5_ := Aside0.mk ((by rw [hg]; exact (keep_size (w := w) (g := g) (row := none) (by repeat (first | (with_reducible first | exact HK.out | apply KeepBut.set_ | apply edn | apply edw | apply eal | refine keep_far ?_ GW147.out _) | exact HK.out))) : w.heap.size ≤ gb160)); have n6_ := Aside0.mk ((Nat.le_trans HW0.out (by rw [hg]; exact (keep_size (w := w) (g := g) (row := none) (by repeat (first | (with_reducible first | exact HK.out | apply KeepBut.set_ | apply edn | apply edw | apply eal | refine keep_far ?_ GW147.out _) | exact HK.out))) : w.heap.size ≤ gb160) : w0.heap.size ≤ gb160)); have n7_ := Aside0.mk ((by rw [hg]; exact Nat.ne_of_lt (blk_lt (g := gb147) (o := .cells #[.int .i64 0, .string (⟨#[]⟩ : ByteArray), .string (⟨#[]⟩ : ByteArray), .int .i64 0] 24 (0, 0)) bk_) : gb147 ≠ gb160)); have n8_ := Aside0.mk ((by rw [hg]; exact Nat.ne_of_gt (blk_lt (g := gb147) (o := .cells #[.int .i64 0, .string (⟨#[]⟩ : ByteArray), .string (⟨#[]⟩ : ByteArray), .int .i64 0] 24 (0, 0)) bk_) : gb160 ≠ gb147)); have n9_ := Aside0.mk ((by rw [hg]; exact Nat.ne_of_lt (IsS108.lt (show IsS108 w0 _ g t158 t159 from by repeat (first | (with_reducible first | exact HI0.out | apply IsS108.alloc | apply IsS108.drewN | apply IsS108.drew | apply IsS108.set_0 | apply IsS108.set_1 | refine IsS108.far ?_ NB0_147.out _) | exact HI0.out))) : g ≠ gb160)); have n10_ := Aside0.mk ((by rw [hg]; exact Nat.ne_of_gt (IsS108.lt (show IsS108 w0 _ g t158 t159 from by repeat (first | (with_reducible first | exact HI0.out | apply IsS108.alloc | apply IsS108.drewN | apply IsS108.drew | apply IsS108.set_0 | apply IsS108.set_1 | refine IsS108.far ?_ NB0_147.out _) | exact HI0.out))) : gb160 ≠ g)); clear HI0; clear BK147; clear HK; clear HB; have HI0 := n0_; have BK147 := n1_; have HK := n2_; have HB := n3_; have BK160 := n4_; have GW160 := n5_; have GE160 := n6_; have NB147_160 := n7_; have NB160_147 := n8_; have NB0_160 := n9_; have NB160_0 := n10_; clear n0_ n1_ n2_ n3_ n4_ n5_ n6_ n7_ n8_ n9_ n10_; clear hb hbox hg; have hnb14 := NB160_147.out; have hnc14 := NB147_160.out; have hnb15 := NB160_0.out; have hnc15 := NB0_160.out; have hcz16 := bc4 BK160.out) | ((with_reducible refine gcl (f := 66) rfl ?_); refine gl_ (some 14) rfl rfl Try.func66 (by kernel_rfl) rfl #[.pointer (some ⟨g, 0, none⟩)] rfl ar_ ?_; (with_reducible refine (codec_In_Err.calls g t158 t159 t161 t162 t163 w0 _ ?side1 ?side2 A6.out).mono ?_); (case side1 => repeat (first | (with_reducible first | exact HI0.out | apply IsS108.alloc | apply IsS108.drewN | apply IsS108.drew | apply IsS108.set_0 | apply IsS108.set_1 | refine IsS108.far ?_ NB0_147.out _ | refine IsS108.far ?_ NB0_160.out _) | exact HI0.out)); (case side2 => repeat (first | (with_reducible first | exact HB.out | apply bal | apply bdn | apply bd1 | refine bst ?_ (IsS108.ge HI0.out) | refine bst ?_ GE147.out | refine bst ?_ GE160.out) | exact HB.out)); rintro e w17 ⟨rfl, hi, hb, hk⟩; refine ⟨_, rfl, ?_⟩; have n0_ := Aside0.mk (KeepBut.blk hk (g' := gb147) (o := .cells #[.int .i64 0, .string (⟨#[]⟩ : ByteArray), .string (⟨#[]⟩ : ByteArray), .int .i64 0] 24 (0, 0)) bk_ NB147_0.out (by simp)); have n1_ := Aside0.mk (KeepBut.blk hk (g' := gb160) (o := .cells #[.int .i64 t148, .string t151, .string t154, .int .i64 t157] 24 (0, 0)) bk_ NB160_0.out (by simp)); have n2_ := Aside0.mk (KeepBut.trans (by repeat (first | (with_reducible first | exact HK.out | apply KeepBut.set_ | apply edn | apply edw | apply eal | refine keep_far ?_ GW147.out _ | refine keep_far ?_ GW160.out _) | exact HK.out)) hk (.inl rfl)); have n3_ := Aside0.mk (hb); have n4_ := Aside0.mk (hi); clear BK147; clear BK160; clear HK; clear HB; clear HI0; have BK147 := n0_; have BK160 := n1_; have HK := n2_; have HB := n3_; have HI0 := n4_; clear n0_ n1_ n2_ n3_ n4_; (try clear hb); (try clear hb2); (try clear hk); (try clear hi)))
  (try simp only [Act.put, List.setIfInBounds_toArray, List.set_cons_zero, List.set_cons_succ])
  go_cut [] (fun wc => ∃ (kq : Nat) (x1000_6 : ByteArray) (x1001_6 : Int), Aside0 (method_ReadCall.j0 kq x1000_6 x1001_6 t148 t151 t154 t157 = some (r1, r2, r3, r4, r5, r6)) ∧ Aside0 (kq ≤ k) ∧ Aside0 (wc.heap[gb147]? = some (.cells #[.int .i64 0, .string (⟨#[]⟩ : ByteArray), .string (⟨#[]⟩ : ByteArray), .int .i64 0] 24 (0, 0))) ∧ Aside0 (wc.heap[gb160]? = some (.cells #[.int .i64 t148, .string t151, .string t154, .int .i64 t157] 24 (0, 0))) ∧ Aside0 (IsS108 w0 wc g x1000_6 x1001_6) ∧ Aside0 (KeepBut w wc g none) ∧ Aside0 (Below w0.heap.size w0 wc))
  case first =>
    have H := HC7.out
    clear HC7
    by_cases c18 : t161 = 0
    rotate_left
    · rw [if_neg c18] at H
      have c18b0 : (t161 == 0) = false := beq_eq_false_iff_ne.mpr c18
      have c18b1 : (t161 != 0) = true := bne_iff_ne.mpr c18
      (first | rw [c18b0] | (simp only [i64_w, i32_w]; rw [c18b0]) | skip)
      have H' := Aside0.mk H
      clear H
      go_wp2
      go_meet
      case rel => exact ⟨_, (t162), (t163), H', ⟨by first | omega | exact Nat.le_refl _⟩, ⟨bk_⟩, ⟨bk_⟩, ⟨by repeat (first | (with_reducible first | exact HI0.out | apply IsS108.alloc | apply IsS108.drewN | apply IsS108.drew | apply IsS108.set_0 | apply IsS108.set_1 | refine IsS108.far ?_ NB0_147.out _ | refine IsS108.far ?_ NB0_160.out _) | exact HI0.out)⟩, ⟨by repeat (first | (with_reducible first | exact HK.out | apply KeepBut.set_ | apply edn | apply edw | apply eal | refine keep_far ?_ GW147.out _ | refine keep_far ?_ GW160.out _) | exact HK.out)⟩, ⟨by repeat (first | (with_reducible first | exact HB.out | apply bal | apply bdn | apply bd1 | refine bst ?_ (IsS108.ge HI0.out) | refine bst ?_ GE147.out | refine bst ?_ GE160.out) | exact HB.out)⟩⟩
    rw [if_pos c18] at H
    have c18b0 : (t161 == 0) = true := beq_iff_eq.mpr c18
    have c18b1 : (t161 != 0) = false := bne_eq_false_iff_eq.mpr c18
    clear c18
    (first | rw [c18b0] | (simp only [i64_w, i32_w]; rw [c18b0]) | skip)
    replace H := Option.bind_eq_some_iff.mp H
    obtain ⟨t164, A190, H⟩ := H
    replace H : ((PL.codec_In_Fail.f t162 t163 t164).bind fun bt165 => (method_ReadCall.j0 k bt165.1 bt165.2 t148 t151 t154 t157)) = some (r1, r2, r3, r4, r5, r6) := H
    have A19 := Aside0.mk A190
    clear A190
    replace H := Option.bind_eq_some_iff.mp H
    obtain ⟨⟨t165, t166⟩, A200, H⟩ := H
    replace H : (method_ReadCall.j0 k t165 t166 t148 t151 t154 t157) = some (r1, r2, r3, r4, r5, r6) := H
    have A20 := Aside0.mk A200
    clear A200
    have H' := Aside0.mk H
    clear H
    have hnb21 := NB160_147.out
    have hnc21 := NB147_160.out
    have hnb22 := NB160_0.out
    have hnc22 := NB0_160.out
    have hcz23 := bc4 BK160.out
    go_wp2_with (first | ((with_reducible refine gcl (f := 28) rfl ?_); refine gl_ (some 18) rfl rfl Try.func28 (by kernel_rfl) rfl #[.agg #[.int .i64 t148, .string t151, .string t154, .int .i64 t157]] rfl ar_ ?_; (with_reducible refine (method_Call_Check.calls k t148 t151 t154 t157 t164 _ A19.out).mono ?_); rintro e w24 ⟨rfl, hb⟩; refine ⟨_, rfl, ?_⟩; have n0_ := Aside0.mk (IsS108.below (by repeat (first | (with_reducible first | exact HI0.out | apply IsS108.alloc | apply IsS108.drewN | apply IsS108.drew | apply IsS108.set_0 | apply IsS108.set_1 | refine IsS108.far ?_ NB0_147.out _ | refine IsS108.far ?_ NB0_160.out _) | exact HI0.out)) hb); have n1_ := Aside0.mk (kbl (g := gb147) (o := .cells #[.int .i64 0, .string (⟨#[]⟩ : ByteArray), .string (⟨#[]⟩ : ByteArray), .int .i64 0] 24 (0, 0)) bk_ hb); have n2_ := Aside0.mk (kbl (g := gb160) (o := .cells #[.int .i64 t148, .string t151, .string t154, .int .i64 t157] 24 (0, 0)) bk_ hb); have n3_ := Aside0.mk (KeepBut.trans (by repeat (first | (with_reducible first | exact HK.out | apply KeepBut.set_ | apply edn | apply edw | apply eal | refine keep_far ?_ GW147.out _ | refine keep_far ?_ GW160.out _) | exact HK.out)) (KeepBut.of_below hb g none) (.inl rfl)); have n4_ := Aside0.mk (bsp (by repeat (first | (with_reducible first | exact HB.out | apply bal | apply bdn | apply bd1 | refine bst ?_ (IsS108.ge HI0.out) | refine bst ?_ GE147.out | refine bst ?_ GE160.out) | exact HB.out)) hb); clear HI0; clear BK147; clear BK160; clear HK; clear HB; have HI0 := n0_; have BK147 := n1_; have BK160 := n2_; have HK := n3_; have HB := n4_; clear n0_ n1_ n2_ n3_ n4_; (try clear hb); (try clear hb2); (try clear hk); (try clear hi)) | ((with_reducible refine gcl (f := 34) rfl ?_); refine gl_ (some 19) rfl rfl Try.func34 (by kernel_rfl) rfl #[.pointer (some ⟨g, 0, none⟩), .int .i64 t164] rfl ar_ ?_; (with_reducible refine (PL.codec_In_Fail.calls g t162 t163 t164 t165 t166 w0 _ ?side1 ?side2 A20.out).mono ?_); (case side1 => repeat (first | (with_reducible first | exact HI0.out | apply IsS108.alloc | apply IsS108.drewN | apply IsS108.drew | apply IsS108.set_0 | apply IsS108.set_1 | refine IsS108.far ?_ NB0_147.out _ | refine IsS108.far ?_ NB0_160.out _) | exact HI0.out)); (case side2 => repeat (first | (with_reducible first | exact HB.out | apply bal | apply bdn | apply bd1 | refine bst ?_ (IsS108.ge HI0.out) | refine bst ?_ GE147.out | refine bst ?_ GE160.out) | exact HB.out)); rintro e w25 ⟨rfl, hi, hb, hk⟩; refine ⟨_, rfl, ?_⟩; have n0_ := Aside0.mk (KeepBut.blk hk (g' := gb147) (o := .cells #[.int .i64 0, .string (⟨#[]⟩ : ByteArray), .string (⟨#[]⟩ : ByteArray), .int .i64 0] 24 (0, 0)) bk_ NB147_0.out (by simp)); have n1_ := Aside0.mk (KeepBut.blk hk (g' := gb160) (o := .cells #[.int .i64 t148, .string t151, .string t154, .int .i64 t157] 24 (0, 0)) bk_ NB160_0.out (by simp)); have n2_ := Aside0.mk (KeepBut.trans (by repeat (first | (with_reducible first | exact HK.out | apply KeepBut.set_ | apply edn | apply edw | apply eal | refine keep_far ?_ GW147.out _ | refine keep_far ?_ GW160.out _) | exact HK.out)) hk (.inl rfl)); have n3_ := Aside0.mk (hb); have n4_ := Aside0.mk (hi); clear BK147; clear BK160; clear HK; clear HB; clear HI0; have BK147 := n0_; have BK160 := n1_; have HK := n2_; have HB := n3_; have HI0 := n4_; clear n0_ n1_ n2_ n3_ n4_; (try clear hb); (try clear hb2); (try clear hk); (try clear hi)))
    go_meet
    case rel => exact ⟨_, (t165), (t166), H', ⟨by first | omega | exact Nat.le_refl _⟩, ⟨bk_⟩, ⟨bk_⟩, ⟨by repeat (first | (with_reducible first | exact HI0.out | apply IsS108.alloc | apply IsS108.drewN | apply IsS108.drew | apply IsS108.set_0 | apply IsS108.set_1 | refine IsS108.far ?_ NB0_147.out _ | refine IsS108.far ?_ NB0_160.out _) | exact HI0.out)⟩, ⟨by repeat (first | (with_reducible first | exact HK.out | apply KeepBut.set_ | apply edn | apply edw | apply eal | refine keep_far ?_ GW147.out _ | refine keep_far ?_ GW160.out _) | exact HK.out)⟩, ⟨by repeat (first | (with_reducible first | exact HB.out | apply bal | apply bdn | apply bd1 | refine bst ?_ (IsS108.ge HI0.out) | refine bst ?_ GE147.out | refine bst ?_ GE160.out) | exact HB.out)⟩⟩
  clear HC7
  try clear c1
  try clear c2
  try clear p2
  try clear c3
  try clear c6
  try clear c14
  try clear c15
  try clear c18
  try clear c18b0
  try clear c18b1
  try clear c21
  try clear c22
  try clear hcz16
  try clear hcz23
  try clear hcz16
  try clear hcz23
  obtain ⟨kq, x1000_6, x1001_6, HA, HJ6, BK147, BK160, HI0, HK, HB⟩ := hcut
  cases kq with
  | zero => exact absurd HA.out (by simp [method_ReadCall.j0])
  | succ kj6 =>
    have H := HA.out
    clear HA
    simp only [method_ReadCall.j0] at H
    replace H := Option.bind_eq_some_iff.mp H
    obtain ⟨⟨t167, t168, t169⟩, A260, H⟩ := H
    replace H : (if t167 = 0 then (some (t148, t151, t154, t157, t168, t169)) else (some (0, (⟨#[]⟩ : ByteArray), (⟨#[]⟩ : ByteArray), 0, t168, t169))) = some (r1, r2, r3, r4, r5, r6) := H
    have A26 := Aside0.mk A260
    clear A260
    have HS27 := Aside0.mk H
    clear H
    go_upto_if 22 with (first | ((with_reducible refine gcl (f := 66) rfl ?_); refine gl_ (some 21) rfl rfl Try.func66 (by kernel_rfl) rfl #[.pointer (some ⟨g, 0, none⟩)] rfl ar_ ?_; (with_reducible refine (codec_In_Err.calls g x1000_6 x1001_6 t167 t168 t169 w0 _ ?side1 ?side2 A26.out).mono ?_); (case side1 => repeat (first | (with_reducible first | exact HI0.out | apply IsS108.alloc | apply IsS108.drewN | apply IsS108.drew | apply IsS108.set_0 | apply IsS108.set_1 | refine IsS108.far ?_ NB0_147.out _ | refine IsS108.far ?_ NB0_160.out _) | exact HI0.out)); (case side2 => repeat (first | (with_reducible first | exact HB.out | apply bal | apply bdn | apply bd1 | refine bst ?_ (IsS108.ge HI0.out) | refine bst ?_ GE147.out | refine bst ?_ GE160.out) | exact HB.out)); rintro e w28 ⟨rfl, hi, hb, hk⟩; refine ⟨_, rfl, ?_⟩; have n0_ := Aside0.mk (KeepBut.blk hk (g' := gb147) (o := .cells #[.int .i64 0, .string (⟨#[]⟩ : ByteArray), .string (⟨#[]⟩ : ByteArray), .int .i64 0] 24 (0, 0)) bk_ NB147_0.out (by simp)); have n1_ := Aside0.mk (KeepBut.blk hk (g' := gb160) (o := .cells #[.int .i64 t148, .string t151, .string t154, .int .i64 t157] 24 (0, 0)) bk_ NB160_0.out (by simp)); have n2_ := Aside0.mk (KeepBut.trans (by repeat (first | (with_reducible first | exact HK.out | apply KeepBut.set_ | apply edn | apply edw | apply eal | refine keep_far ?_ GW147.out _ | refine keep_far ?_ GW160.out _) | exact HK.out)) hk (.inl rfl)); have n3_ := Aside0.mk (hb); have n4_ := Aside0.mk (hi); clear BK147; clear BK160; clear HK; clear HB; clear HI0; have BK147 := n0_; have BK160 := n1_; have HK := n2_; have HB := n3_; have HI0 := n4_; clear n0_ n1_ n2_ n3_ n4_; (try clear hb); (try clear hb2); (try clear hk); (try clear hi)))
    (try simp only [Act.put, List.setIfInBounds_toArray, List.set_cons_zero, List.set_cons_succ])
    have H := HS27.out
    clear HS27
    by_cases c29 : t167 = 0
    rotate_left
    · rw [if_neg c29] at H
      have c29b0 : (t167 == 0) = false := beq_eq_false_iff_ne.mpr c29
      have c29b1 : (t167 != 0) = true := bne_iff_ne.mpr c29
      (first | rw [c29b0] | (simp only [i64_w, i32_w]; rw [c29b0]) | skip)
      simp only [Option.some.injEq, Prod.mk.injEq] at H
      obtain ⟨rfl, rfl, rfl, rfl, rfl, rfl⟩ := H
      have hnb35 := NB147_160.out
      have hnc35 := NB160_147.out
      have hnb36 := NB147_0.out
      have hnc36 := NB0_147.out
      have hcz37 := bc4 BK147.out
      go_wp2
      refine bodyPost_ret (results_cell_row rfl _ _ gb147 24 #[.int .i64 0, .string (⟨#[]⟩ : ByteArray), .string (⟨#[]⟩ : ByteArray), .int .i64 0] (0, 0) _ rfl bk_ Try.underlying24 rfl (by kernel_rfl)) rfl ?_
      exact ⟨er_, by repeat (first | (with_reducible first | exact HI0.out | apply IsS108.alloc | apply IsS108.drewN | apply IsS108.drew | apply IsS108.set_0 | apply IsS108.set_1 | refine IsS108.far ?_ NB0_147.out _ | refine IsS108.far ?_ NB0_160.out _) | exact HI0.out), by repeat (first | (with_reducible first | exact HB.out | apply bal | apply bdn | apply bd1 | refine bst ?_ (IsS108.ge HI0.out) | refine bst ?_ GE147.out | refine bst ?_ GE160.out) | exact HB.out), by repeat (first | (with_reducible first | exact HK.out | apply KeepBut.set_ | apply edn | apply edw | apply eal | refine keep_far ?_ GW147.out _ | refine keep_far ?_ GW160.out _) | exact HK.out)⟩
    rw [if_pos c29] at H
    have c29b0 : (t167 == 0) = true := beq_iff_eq.mpr c29
    have c29b1 : (t167 != 0) = false := bne_eq_false_iff_eq.mpr c29
    clear c29
    (first | rw [c29b0] | (simp only [i64_w, i32_w]; rw [c29b0]) | skip)
    simp only [Option.some.injEq, Prod.mk.injEq] at H
    obtain ⟨rfl, rfl, rfl, rfl, rfl, rfl⟩ := H
    have hnb30 := NB160_147.out
    have hnc30 := NB147_160.out
    have hnb31 := NB160_0.out
    have hnc31 := NB0_160.out
    have hcz32 := bc4 BK160.out
    have hnb33 := NB147_0.out
    have hnc33 := NB0_147.out
    have hcz34 := bc4 BK147.out
    go_wp2
    refine bodyPost_ret (results_cell_row rfl _ _ gb147 24 #[.int .i64 t148, .string t151, .string t154, .int .i64 t157] (0, 0) _ rfl bk_ Try.underlying24 rfl (by kernel_rfl)) rfl ?_
    exact ⟨er_, by repeat (first | (with_reducible first | exact HI0.out | apply IsS108.alloc | apply IsS108.drewN | apply IsS108.drew | apply IsS108.set_0 | apply IsS108.set_1 | refine IsS108.far ?_ NB0_147.out _ | refine IsS108.far ?_ NB0_160.out _) | exact HI0.out), by repeat (first | (with_reducible first | exact HB.out | apply bal | apply bdn | apply bd1 | refine bst ?_ (IsS108.ge HI0.out) | refine bst ?_ GE147.out | refine bst ?_ GE160.out) | exact HB.out), by repeat (first | (with_reducible first | exact HK.out | apply KeepBut.set_ | apply edn | apply edw | apply eal | refine keep_far ?_ GW147.out _ | refine keep_far ?_ GW160.out _) | exact HK.out)⟩
def codec_In_End.f (s0_0 : ByteArray) (s0_1 : Int) : Option (Int × ByteArray × Int) := if s0_0.toList = ([] : List UInt8) then (some (s0_1, s0_0, s0_1)) else ((PL.codec_In_Fail.f s0_0 s0_1 2).bind fun bt170 => (some (bt170.2, bt170.1, bt170.2)))
set_option maxHeartbeats 2000000 in
set_option maxRecDepth 100000 in
theorem codec_In_End.calls (g : Nat) (s0_0 : ByteArray) (s0_1 : Int) (r1 : Int) (r2 : ByteArray) (r3 : Int) (w0 w : World) (hI : IsS108 w0 w g s0_0 s0_1) (hB : Below w0.heap.size w0 w) (h : codec_In_End.f s0_0 s0_1 = some (r1, r2, r3)) :
    Calls Try.prog 37 #[.pointer (some ⟨g, 0, none⟩)] w fun e w' => e = .returned (.int .i64 r1) ∧ IsS108 w0 w' g r2 r3 ∧ Below w0.heap.size w0 w' ∧ KeepBut w w' g none := by
  have HI0 := Aside0.mk hI
  have HK := Aside0.mk (KeepBut.refl w g none)
  have HL := Aside0.mk hB.size
  clear hI
  have HW0 := Aside0.mk hB.size
  have HB := Aside0.mk hB
  clear hB
  have H : (if s0_0.toList = ([] : List UInt8) then (some (s0_1, s0_0, s0_1)) else ((PL.codec_In_Fail.f s0_0 s0_1 2).bind fun bt170 => (some (bt170.2, bt170.1, bt170.2)))) = some (r1, r2, r3) := h
  clear h
  by_cases c2 : s0_0.toList = ([] : List UInt8)
  · rw [if_pos c2] at H
    have c2b0 : (s0_0.toList == ([] : List UInt8)) = true := beq_iff_eq.mpr c2
    have c2b1 : (s0_0.toList != ([] : List UInt8)) = false := bne_eq_false_iff_eq.mpr c2
    (try (have c2b2 : s0_0.toList.isEmpty = true := by simpa using c2))
    clear c2
    simp only [Option.some.injEq, Prod.mk.injEq] at H
    obtain ⟨rfl, rfl, rfl⟩ := H
    obtain ⟨HGz3, hgz3⟩ := HI0.out
    have hcz3_0 := cellS108_0 HGz3
    have hcz3_1 := cellS108_1 HGz3
    have hfz3_0 := kfr HGz3 0
    have hfz3_1 := kfr HGz3 1
    clear HGz3 hgz3
    go_enter Try.func37, Try.ntmps37
    go_wp2
    go_ret
    exact ⟨er_, by repeat (first | (with_reducible first | exact HI0.out | apply IsS108.alloc | apply IsS108.drewN | apply IsS108.drew | apply IsS108.set_0 | apply IsS108.set_1) | exact HI0.out), by repeat (first | (with_reducible first | exact HB.out | apply bal | apply bdn | apply bd1 | refine bst ?_ (IsS108.ge HI0.out)) | exact HB.out), by repeat (first | (with_reducible first | exact HK.out | apply KeepBut.set_ | apply edn | apply edw | apply eal) | exact HK.out)⟩
  rw [if_neg c2] at H
  have c2b0 : (s0_0.toList == ([] : List UInt8)) = false := beq_eq_false_iff_ne.mpr c2
  have c2b1 : (s0_0.toList != ([] : List UInt8)) = true := bne_iff_ne.mpr c2
  (try (have c2b2 : s0_0.toList.isEmpty = false := by simpa using c2))
  replace H := Option.bind_eq_some_iff.mp H
  obtain ⟨⟨t170, t171⟩, A40, H⟩ := H
  replace H : (some (t171, t170, t171)) = some (r1, r2, r3) := H
  have A4 := Aside0.mk A40
  clear A40
  simp only [Option.some.injEq, Prod.mk.injEq] at H
  obtain ⟨rfl, rfl, rfl⟩ := H
  obtain ⟨HGz5, hgz5⟩ := HI0.out
  have hcz5_0 := cellS108_0 HGz5
  have hcz5_1 := cellS108_1 HGz5
  have hfz5_0 := kfr HGz5 0
  have hfz5_1 := kfr HGz5 1
  clear HGz5 hgz5
  go_enter Try.func37, Try.ntmps37
  go_wp2_with (first | ((with_reducible refine gcl (f := 34) rfl ?_); refine gl_ (some 9) rfl rfl Try.func34 (by kernel_rfl) rfl #[.pointer (some ⟨g, 0, none⟩), .int .i64 2] rfl ar_ ?_; (with_reducible refine (PL.codec_In_Fail.calls g s0_0 s0_1 2 t170 t171 w0 _ ?side1 ?side2 A4.out).mono ?_); (case side1 => repeat (first | (with_reducible first | exact HI0.out | apply IsS108.alloc | apply IsS108.drewN | apply IsS108.drew | apply IsS108.set_0 | apply IsS108.set_1) | exact HI0.out)); (case side2 => repeat (first | (with_reducible first | exact HB.out | apply bal | apply bdn | apply bd1 | refine bst ?_ (IsS108.ge HI0.out)) | exact HB.out)); rintro e w6 ⟨rfl, hi, hb, hk⟩; refine ⟨_, rfl, ?_⟩; have n0_ := Aside0.mk (KeepBut.trans (by repeat (first | (with_reducible first | exact HK.out | apply KeepBut.set_ | apply edn | apply edw | apply eal) | exact HK.out)) hk (.inl rfl)); have n1_ := Aside0.mk (hb); have n2_ := Aside0.mk (hi); clear HK; clear HB; clear HI0; have HK := n0_; have HB := n1_; have HI0 := n2_; clear n0_ n1_ n2_; (try clear hb); (try clear hb2); (try clear hk); (try clear hi); obtain ⟨HGz7, hgz7⟩ := HI0.out; have hcz7_0 := cellS108_0 HGz7; have hcz7_1 := cellS108_1 HGz7; have hfz7_0 := kfr HGz7 0; have hfz7_1 := kfr HGz7 1; clear HGz7 hgz7))
  go_ret
  exact ⟨er_, by repeat (first | (with_reducible first | exact HI0.out | apply IsS108.alloc | apply IsS108.drewN | apply IsS108.drew | apply IsS108.set_0 | apply IsS108.set_1) | exact HI0.out), by repeat (first | (with_reducible first | exact HB.out | apply bal | apply bdn | apply bd1 | refine bst ?_ (IsS108.ge HI0.out)) | exact HB.out), by repeat (first | (with_reducible first | exact HK.out | apply KeepBut.set_ | apply edn | apply edw | apply eal) | exact HK.out)⟩
def frame_ParseRequest.j0 : Nat → Bool → ByteArray → Int → Int → Int → ByteArray → Int → ByteArray → ByteArray → Int → Option (Int × Int × ByteArray × Int × ByteArray × ByteArray × Int × Int)
  | 0, _, _, _, _, _, _, _, _, _, _ => none
  | k + 1, x37, x178000, x178001, x182000, x182001, x182002, x182003, x182004, x182005, x182006 => if x37 = true then ((codec_In_N.f x178000 x178001 1099511627776).bind fun bt199 => ((codec_In_End.f bt199.2.1 bt199.2.2).bind fun bt202 => (if bt202.1 = 0 then (some (x182000, bt199.1, x182002, x182003, x182004, x182005, x182006, 0)) else (some (0, 0, (⟨#[]⟩ : ByteArray), 0, (⟨#[]⟩ : ByteArray), (⟨#[]⟩ : ByteArray), 0, bt202.1))))) else ((codec_In_End.f x178000 x178001).bind fun bt205 => (if bt205.1 = 0 then (some (x182000, x182001, x182002, x182003, x182004, x182005, x182006, 0)) else (some (0, 0, (⟨#[]⟩ : ByteArray), 0, (⟨#[]⟩ : ByteArray), (⟨#[]⟩ : ByteArray), 0, bt205.1))))
def frame_ParseRequest.f (k : Nat) (a0 : ByteArray) : Option (Int × Int × ByteArray × Int × ByteArray × ByteArray × Int × Int) := (frame_open.f k a0).bind fun bt173 => (if bt173.2 = 0 then ((codec_Read.f bt173.1).bind fun bt175 => ((codec_In_N.f bt175.1 bt175.2 7).bind fun bt178 => (if bt178.1 = 0 then ((PL.codec_In_Fail.f bt178.2.1 bt178.2.2 6).bind fun bt182 => ((codec_In_End.f bt182.1 bt182.2).bind fun bt184 => (if bt184.1 = 0 then (some (bt178.1, 0, (⟨#[]⟩ : ByteArray), 0, (⟨#[]⟩ : ByteArray), (⟨#[]⟩ : ByteArray), 0, 0)) else (some (0, 0, (⟨#[]⟩ : ByteArray), 0, (⟨#[]⟩ : ByteArray), (⟨#[]⟩ : ByteArray), 0, bt184.1))))) else (if bt178.1 = 2 then ((codec_In_S.f bt178.2.1 bt178.2.2 16).bind fun bt187 => ((method_ReadCall.f k bt187.2.1 bt187.2.2).bind fun bt190 => ((codec_In_End.f bt190.2.2.2.2.1 bt190.2.2.2.2.2).bind fun bt196 => (if bt196.1 = 0 then (some (bt178.1, 0, bt187.1, bt190.1, bt190.2.1, bt190.2.2.1, bt190.2.2.2.1, 0)) else (some (0, 0, (⟨#[]⟩ : ByteArray), 0, (⟨#[]⟩ : ByteArray), (⟨#[]⟩ : ByteArray), 0, bt196.1)))))) else (if bt178.1 = 4 then (frame_ParseRequest.j0 k (bt178.1 == 4) bt178.2.1 bt178.2.2 bt178.1 0 (⟨#[]⟩ : ByteArray) 0 (⟨#[]⟩ : ByteArray) (⟨#[]⟩ : ByteArray) 0) else (frame_ParseRequest.j0 k (bt178.1 == 7) bt178.2.1 bt178.2.2 bt178.1 0 (⟨#[]⟩ : ByteArray) 0 (⟨#[]⟩ : ByteArray) (⟨#[]⟩ : ByteArray) 0)))))) else (some (0, 0, (⟨#[]⟩ : ByteArray), 0, (⟨#[]⟩ : ByteArray), (⟨#[]⟩ : ByteArray), 0, bt173.2)))
set_option maxHeartbeats 2000000 in
set_option maxRecDepth 100000 in
theorem frame_ParseRequest.calls (k : Nat) (a0 : ByteArray) (r1 : Int) (r2 : Int) (r3 : ByteArray) (r4 : Int) (r5 : ByteArray) (r6 : ByteArray) (r7 : Int) (r8 : Int) (w : World) (h : frame_ParseRequest.f k a0 = some (r1, r2, r3, r4, r5, r6, r7, r8)) :
    Calls Try.prog 13 #[.string a0] w fun e w' => e = .returned (.tuple #[.agg #[.int .i64 r1, .int .i64 r2, .string r3, .int .i64 r4, .string r5, .string r6, .int .i64 r7], .int .i64 r8]) ∧ Below w.heap.size w w' := by
  have hu26 := Try.underlying26
  have hu24 := Try.underlying24
  have HB := Aside0.mk (Below.refl w.heap.size w)
  have H : ((frame_open.f k a0).bind fun bt173 => (if bt173.2 = 0 then ((codec_Read.f bt173.1).bind fun bt175 => ((codec_In_N.f bt175.1 bt175.2 7).bind fun bt178 => (if bt178.1 = 0 then ((PL.codec_In_Fail.f bt178.2.1 bt178.2.2 6).bind fun bt182 => ((codec_In_End.f bt182.1 bt182.2).bind fun bt184 => (if bt184.1 = 0 then (some (bt178.1, 0, (⟨#[]⟩ : ByteArray), 0, (⟨#[]⟩ : ByteArray), (⟨#[]⟩ : ByteArray), 0, 0)) else (some (0, 0, (⟨#[]⟩ : ByteArray), 0, (⟨#[]⟩ : ByteArray), (⟨#[]⟩ : ByteArray), 0, bt184.1))))) else (if bt178.1 = 2 then ((codec_In_S.f bt178.2.1 bt178.2.2 16).bind fun bt187 => ((method_ReadCall.f k bt187.2.1 bt187.2.2).bind fun bt190 => ((codec_In_End.f bt190.2.2.2.2.1 bt190.2.2.2.2.2).bind fun bt196 => (if bt196.1 = 0 then (some (bt178.1, 0, bt187.1, bt190.1, bt190.2.1, bt190.2.2.1, bt190.2.2.2.1, 0)) else (some (0, 0, (⟨#[]⟩ : ByteArray), 0, (⟨#[]⟩ : ByteArray), (⟨#[]⟩ : ByteArray), 0, bt196.1)))))) else (if bt178.1 = 4 then (frame_ParseRequest.j0 k (bt178.1 == 4) bt178.2.1 bt178.2.2 bt178.1 0 (⟨#[]⟩ : ByteArray) 0 (⟨#[]⟩ : ByteArray) (⟨#[]⟩ : ByteArray) 0) else (frame_ParseRequest.j0 k (bt178.1 == 7) bt178.2.1 bt178.2.2 bt178.1 0 (⟨#[]⟩ : ByteArray) 0 (⟨#[]⟩ : ByteArray) (⟨#[]⟩ : ByteArray) 0)))))) else (some (0, 0, (⟨#[]⟩ : ByteArray), 0, (⟨#[]⟩ : ByteArray), (⟨#[]⟩ : ByteArray), 0, bt173.2)))) = some (r1, r2, r3, r4, r5, r6, r7, r8) := h
  clear h
  replace H := Option.bind_eq_some_iff.mp H
  obtain ⟨⟨t173, t174⟩, A20, H⟩ := H
  replace H : (if t174 = 0 then ((codec_Read.f t173).bind fun bt175 => ((codec_In_N.f bt175.1 bt175.2 7).bind fun bt178 => (if bt178.1 = 0 then ((PL.codec_In_Fail.f bt178.2.1 bt178.2.2 6).bind fun bt182 => ((codec_In_End.f bt182.1 bt182.2).bind fun bt184 => (if bt184.1 = 0 then (some (bt178.1, 0, (⟨#[]⟩ : ByteArray), 0, (⟨#[]⟩ : ByteArray), (⟨#[]⟩ : ByteArray), 0, 0)) else (some (0, 0, (⟨#[]⟩ : ByteArray), 0, (⟨#[]⟩ : ByteArray), (⟨#[]⟩ : ByteArray), 0, bt184.1))))) else (if bt178.1 = 2 then ((codec_In_S.f bt178.2.1 bt178.2.2 16).bind fun bt187 => ((method_ReadCall.f k bt187.2.1 bt187.2.2).bind fun bt190 => ((codec_In_End.f bt190.2.2.2.2.1 bt190.2.2.2.2.2).bind fun bt196 => (if bt196.1 = 0 then (some (bt178.1, 0, bt187.1, bt190.1, bt190.2.1, bt190.2.2.1, bt190.2.2.2.1, 0)) else (some (0, 0, (⟨#[]⟩ : ByteArray), 0, (⟨#[]⟩ : ByteArray), (⟨#[]⟩ : ByteArray), 0, bt196.1)))))) else (if bt178.1 = 4 then (frame_ParseRequest.j0 k (bt178.1 == 4) bt178.2.1 bt178.2.2 bt178.1 0 (⟨#[]⟩ : ByteArray) 0 (⟨#[]⟩ : ByteArray) (⟨#[]⟩ : ByteArray) 0) else (frame_ParseRequest.j0 k (bt178.1 == 7) bt178.2.1 bt178.2.2 bt178.1 0 (⟨#[]⟩ : ByteArray) 0 (⟨#[]⟩ : ByteArray) (⟨#[]⟩ : ByteArray) 0)))))) else (some (0, 0, (⟨#[]⟩ : ByteArray), 0, (⟨#[]⟩ : ByteArray), (⟨#[]⟩ : ByteArray), 0, t174))) = some (r1, r2, r3, r4, r5, r6, r7, r8) := H
  have A2 := Aside0.mk A20
  clear A20
  have HS3 := Aside0.mk H
  clear H
  go_enter Try.func13, Try.ntmps13
  go_upto_if 15 with (first | ((with_reducible refine gds (N := 2) rfl ?_); refine bev ?hg (N := 2) ?hd (cs := #[.int .i64 0, .int .i64 0, .string (⟨#[]⟩ : ByteArray), .int .i64 0, .string (⟨#[]⟩ : ByteArray), .string (⟨#[]⟩ : ByteArray), .int .i64 0]) (t := 26) ?hr ?_; (case hd => rfl); (case hg => rfl); (case hr => first | (go_simp; done) | (go_simp; rfl)); intro gb172 hg w4 hbox hb; have n0_ := Aside0.mk (bsp bl_ hb); have n1_ := Aside0.mk (hbox); have n2_ := Aside0.mk ((by rw [hg]; exact bsz bl_ : w.heap.size ≤ gb172)); have n3_ := Aside0.mk ((by rw [hg]; exact bsz bl_ : w.heap.size ≤ gb172)); clear HB; have HB := n0_; have BK172 := n1_; have GW172 := n2_; have GE172 := n3_; clear n0_ n1_ n2_ n3_; clear hb hbox hg) | ((with_reducible refine gcl (f := 31) rfl ?_); refine gl_ (some 11) rfl rfl Try.func31 (by kernel_rfl) rfl #[.string a0] rfl ar_ ?_; (with_reducible refine (frame_open.calls k a0 t173 t174 _ A2.out).mono ?_); rintro e w5 ⟨rfl, hb⟩; refine ⟨_, rfl, ?_⟩; have n0_ := Aside0.mk (kbl (g := gb172) (o := .cells #[.int .i64 0, .int .i64 0, .string (⟨#[]⟩ : ByteArray), .int .i64 0, .string (⟨#[]⟩ : ByteArray), .string (⟨#[]⟩ : ByteArray), .int .i64 0] 26 (0, 0)) bk_ hb); have n1_ := Aside0.mk (bsp bl_ hb); clear BK172; clear HB; have BK172 := n0_; have HB := n1_; clear n0_ n1_; (try clear hb); (try clear hb2); (try clear hk); (try clear hi)))
  (try simp only [Act.put, List.setIfInBounds_toArray, List.set_cons_zero, List.set_cons_succ])
  have H := HS3.out
  clear HS3
  by_cases c6 : t174 = 0
  rotate_left
  · rw [if_neg c6] at H
    have c6b0 : (t174 == 0) = false := beq_eq_false_iff_ne.mpr c6
    have c6b1 : (t174 != 0) = true := bne_iff_ne.mpr c6
    (first | rw [c6b0] | (simp only [i64_w, i32_w]; rw [c6b0]) | skip)
    simp only [Option.some.injEq, Prod.mk.injEq] at H
    obtain ⟨rfl, rfl, rfl, rfl, rfl, rfl, rfl, rfl⟩ := H
    have hcz84 := bc7 BK172.out
    go_wp2
    refine bodyPost_ret (results_ct rfl _ _ gb172 26 #[.int .i64 0, .int .i64 0, .string (⟨#[]⟩ : ByteArray), .int .i64 0, .string (⟨#[]⟩ : ByteArray), .string (⟨#[]⟩ : ByteArray), .int .i64 0] (0, 0) _ rfl bk_ Try.underlying26 rfl (by kernel_rfl)) rfl ?_
    exact ⟨er_, bl_⟩
  rw [if_pos c6] at H
  have c6b0 : (t174 == 0) = true := beq_iff_eq.mpr c6
  have c6b1 : (t174 != 0) = false := bne_eq_false_iff_eq.mpr c6
  clear c6
  (first | rw [c6b0] | (simp only [i64_w, i32_w]; rw [c6b0]) | skip)
  replace H := Option.bind_eq_some_iff.mp H
  obtain ⟨⟨t175, t176⟩, A70, H⟩ := H
  replace H : ((codec_In_N.f t175 t176 7).bind fun bt178 => (if bt178.1 = 0 then ((PL.codec_In_Fail.f bt178.2.1 bt178.2.2 6).bind fun bt182 => ((codec_In_End.f bt182.1 bt182.2).bind fun bt184 => (if bt184.1 = 0 then (some (bt178.1, 0, (⟨#[]⟩ : ByteArray), 0, (⟨#[]⟩ : ByteArray), (⟨#[]⟩ : ByteArray), 0, 0)) else (some (0, 0, (⟨#[]⟩ : ByteArray), 0, (⟨#[]⟩ : ByteArray), (⟨#[]⟩ : ByteArray), 0, bt184.1))))) else (if bt178.1 = 2 then ((codec_In_S.f bt178.2.1 bt178.2.2 16).bind fun bt187 => ((method_ReadCall.f k bt187.2.1 bt187.2.2).bind fun bt190 => ((codec_In_End.f bt190.2.2.2.2.1 bt190.2.2.2.2.2).bind fun bt196 => (if bt196.1 = 0 then (some (bt178.1, 0, bt187.1, bt190.1, bt190.2.1, bt190.2.2.1, bt190.2.2.2.1, 0)) else (some (0, 0, (⟨#[]⟩ : ByteArray), 0, (⟨#[]⟩ : ByteArray), (⟨#[]⟩ : ByteArray), 0, bt196.1)))))) else (if bt178.1 = 4 then (frame_ParseRequest.j0 k (bt178.1 == 4) bt178.2.1 bt178.2.2 bt178.1 0 (⟨#[]⟩ : ByteArray) 0 (⟨#[]⟩ : ByteArray) (⟨#[]⟩ : ByteArray) 0) else (frame_ParseRequest.j0 k (bt178.1 == 7) bt178.2.1 bt178.2.2 bt178.1 0 (⟨#[]⟩ : ByteArray) 0 (⟨#[]⟩ : ByteArray) (⟨#[]⟩ : ByteArray) 0))))) = some (r1, r2, r3, r4, r5, r6, r7, r8) := H
  have A7 := Aside0.mk A70
  clear A70
  replace H := Option.bind_eq_some_iff.mp H
  obtain ⟨⟨t178, t179, t180⟩, A80, H⟩ := H
  replace H : (if t178 = 0 then ((PL.codec_In_Fail.f t179 t180 6).bind fun bt182 => ((codec_In_End.f bt182.1 bt182.2).bind fun bt184 => (if bt184.1 = 0 then (some (t178, 0, (⟨#[]⟩ : ByteArray), 0, (⟨#[]⟩ : ByteArray), (⟨#[]⟩ : ByteArray), 0, 0)) else (some (0, 0, (⟨#[]⟩ : ByteArray), 0, (⟨#[]⟩ : ByteArray), (⟨#[]⟩ : ByteArray), 0, bt184.1))))) else (if t178 = 2 then ((codec_In_S.f t179 t180 16).bind fun bt187 => ((method_ReadCall.f k bt187.2.1 bt187.2.2).bind fun bt190 => ((codec_In_End.f bt190.2.2.2.2.1 bt190.2.2.2.2.2).bind fun bt196 => (if bt196.1 = 0 then (some (t178, 0, bt187.1, bt190.1, bt190.2.1, bt190.2.2.1, bt190.2.2.2.1, 0)) else (some (0, 0, (⟨#[]⟩ : ByteArray), 0, (⟨#[]⟩ : ByteArray), (⟨#[]⟩ : ByteArray), 0, bt196.1)))))) else (if t178 = 4 then (frame_ParseRequest.j0 k (t178 == 4) t179 t180 t178 0 (⟨#[]⟩ : ByteArray) 0 (⟨#[]⟩ : ByteArray) (⟨#[]⟩ : ByteArray) 0) else (frame_ParseRequest.j0 k (t178 == 7) t179 t180 t178 0 (⟨#[]⟩ : ByteArray) 0 (⟨#[]⟩ : ByteArray) (⟨#[]⟩ : ByteArray) 0)))) = some (r1, r2, r3, r4, r5, r6, r7, r8) := H
  have A8 := Aside0.mk A80
  clear A80
  have HS9 := Aside0.mk H
  clear H
  go_upto_if 25 with (first | ((with_reducible refine gcl (f := 32) rfl ?_); refine gl_ (some 19) rfl rfl Try.func32 (by kernel_rfl) rfl #[.string t173] rfl ar_ ?_; (with_reducible refine (codec_Read.calls t173 t175 t176 w _ ?side1 A7.out).mono ?_); (case side1 => repeat (first | (with_reducible first | exact HB.out | apply bal | apply bdn | apply bd1 | refine bst ?_ GE172.out) | exact HB.out)); rintro e w10 ⟨g177, rfl, hi, hb, hb2⟩; refine ⟨_, rfl, ?_⟩; have n0_ := Aside0.mk (kbl (g := gb172) (o := .cells #[.int .i64 0, .int .i64 0, .string (⟨#[]⟩ : ByteArray), .int .i64 0, .string (⟨#[]⟩ : ByteArray), .string (⟨#[]⟩ : ByteArray), .int .i64 0] 26 (0, 0)) bk_ hb2); have n1_ := Aside0.mk (hb); have n2_ := Aside0.mk (hi); have n3_ := Aside0.mk (IsS108.ne_blk hi (kbl (g := gb172) (o := .cells #[.int .i64 0, .int .i64 0, .string (⟨#[]⟩ : ByteArray), .int .i64 0, .string (⟨#[]⟩ : ByteArray), .string (⟨#[]⟩ : ByteArray), .int .i64 0] 26 (0, 0)) bk_ hb2) (by decide)); have n4_ := Aside0.mk (Ne.symm (IsS108.ne_blk hi (kbl (g := gb172) (o := .cells #[.int .i64 0, .int .i64 0, .string (⟨#[]⟩ : ByteArray), .int .i64 0, .string (⟨#[]⟩ : ByteArray), .string (⟨#[]⟩ : ByteArray), .int .i64 0] 26 (0, 0)) bk_ hb2) (by decide))); clear BK172; clear HB; have BK172 := n0_; have HB := n1_; have HI177 := n2_; have NB177_172 := n3_; have NB172_177 := n4_; clear n0_ n1_ n2_ n3_ n4_; (try clear hb); (try clear hb2); (try clear hk); (try clear hi)) | ((with_reducible refine gcl (f := 33) rfl ?_); refine gl_ (some 21) rfl rfl Try.func33 (by kernel_rfl) rfl #[.pointer (some ⟨g177, 0, none⟩), .int .i64 7] rfl ar_ ?_; (with_reducible refine (codec_In_N.calls g177 t175 t176 7 t178 t179 t180 w _ ?side1 ?side2 A8.out).mono ?_); (case side1 => repeat (first | (with_reducible first | exact HI177.out | apply IsS108.alloc | apply IsS108.drewN | apply IsS108.drew | apply IsS108.set_0 | apply IsS108.set_1 | refine IsS108.far ?_ NB177_172.out _) | exact HI177.out)); (case side2 => repeat (first | (with_reducible first | exact HB.out | apply bal | apply bdn | apply bd1 | refine bst ?_ (IsS108.ge HI177.out) | refine bst ?_ GE172.out) | exact HB.out)); rintro e w11 ⟨rfl, hi, hb, hk⟩; refine ⟨_, rfl, ?_⟩; have n0_ := Aside0.mk (KeepBut.blk hk (g' := gb172) (o := .cells #[.int .i64 0, .int .i64 0, .string (⟨#[]⟩ : ByteArray), .int .i64 0, .string (⟨#[]⟩ : ByteArray), .string (⟨#[]⟩ : ByteArray), .int .i64 0] 26 (0, 0)) bk_ NB172_177.out (by simp)); have n1_ := Aside0.mk (hb); have n2_ := Aside0.mk (hi); clear BK172; clear HB; clear HI177; have BK172 := n0_; have HB := n1_; have HI177 := n2_; clear n0_ n1_ n2_; (try clear hb); (try clear hb2); (try clear hk); (try clear hi)) | ((with_reducible refine gds (N := 7) rfl ?_); refine bev ?hg (N := 7) ?hd (cs := #[.int .i64 0, .int .i64 0, .string (⟨#[]⟩ : ByteArray), .int .i64 0, .string (⟨#[]⟩ : ByteArray), .string (⟨#[]⟩ : ByteArray), .int .i64 0]) (t := 26) ?hr ?_; (case hd => rfl); (case hg => rfl); (case hr => first | (go_simp; done) | (go_simp; rfl)); intro gb181 hg w12 hbox hb; have n0_ := Aside0.mk (kbl (g := gb172) (o := .cells #[.int .i64 0, .int .i64 0, .string (⟨#[]⟩ : ByteArray), .int .i64 0, .string (⟨#[]⟩ : ByteArray), .string (⟨#[]⟩ : ByteArray), .int .i64 0] 26 (0, 0)) bk_ hb); have n1_ := Aside0.mk (IsS108.below (by repeat (first | (with_reducible first | exact HI177.out | apply IsS108.alloc | apply IsS108.drewN | apply IsS108.drew | apply IsS108.set_0 | apply IsS108.set_1 | refine IsS108.far ?_ NB177_172.out _) | exact HI177.out)) hb); have n2_ := Aside0.mk (bsp (by repeat (first | (with_reducible first | exact HB.out | apply bal | apply bdn | apply bd1 | refine bst ?_ (IsS108.ge HI177.out) | refine bst ?_ GE172.out) | exact HB.out)) hb); have n3_ := Aside0.mk (hbox); have n4_ := Aside0.mk ((by rw [hg]; exact (bsz (by repeat (first | (with_reducible first | exact HB.out | apply bal | apply bdn | apply bd1 | refine bst ?_ (IsS108.ge HI177.out) | refine bst ?_ GE172.out) | exact HB.out))) : w.heap.size ≤ gb181)); have n5_ := Aside0.mk ((by rw [hg]; exact (bsz (by repeat (first | (with_reducible first | exact HB.out | apply bal | apply bdn | apply bd1 | refine bst ?_ (IsS108.ge HI177.out) | refine bst ?_ GE172.out) | exact HB.out))) : w.heap.size ≤ gb181)); have n6_ := Aside0.mk ((by rw [hg]; exact Nat.ne_of_lt (blk_lt (g := gb172) (o := .cells #[.int .i64 0, .int .i64 0, .string (⟨#[]⟩ : ByteArray), .int .i64 0, .string (⟨#[]⟩ : ByteArray), .string (⟨#[]⟩ : ByteArray), .int .i64 0] 26 (0, 0)) bk_) : gb172 ≠ gb181)); have n7_ := Aside0.mk ((by rw [hg]; exact Nat.ne_of_gt (blk_lt (g := gb172) (o := .cells #[.int .i64 0, .int .i64 0, .string (⟨#[]⟩ : ByteArray), .int .i64 0, .string (⟨#[]⟩ : ByteArray), .string (⟨#[]⟩ : ByteArray), .int .i64 0] 26 (0, 0)) bk_) : gb181 ≠ gb172)); have n8_ := Aside0.mk ((by rw [hg]; exact Nat.ne_of_lt (IsS108.lt (show IsS108 w _ g177 t179 t180 from by repeat (first | (with_reducible first | exact HI177.out | apply IsS108.alloc | apply IsS108.drewN | apply IsS108.drew | apply IsS108.set_0 | apply IsS108.set_1 | refine IsS108.far ?_ NB177_172.out _) | exact HI177.out))) : g177 ≠ gb181)); have n9_ := Aside0.mk ((by rw [hg]; exact Nat.ne_of_gt (IsS108.lt (show IsS108 w _ g177 t179 t180 from by repeat (first | (with_reducible first | exact HI177.out | apply IsS108.alloc | apply IsS108.drewN | apply IsS108.drew | apply IsS108.set_0 | apply IsS108.set_1 | refine IsS108.far ?_ NB177_172.out _) | exact HI177.out))) : gb181 ≠ g177)); clear BK172; clear HI177; clear HB; have BK172 := n0_; have HI177 := n1_; have HB := n2_; have BK181 := n3_; have GW181 := n4_; have GE181 := n5_; have NB172_181 := n6_; have NB181_172 := n7_; have NB177_181 := n8_; have NB181_177 := n9_; clear n0_ n1_ n2_ n3_ n4_ n5_ n6_ n7_ n8_ n9_; clear hb hbox hg; have hnb13 := NB181_172.out; have hnc13 := NB172_181.out; have hnb14 := NB181_177.out; have hnc14 := NB177_181.out; have hcz15 := bc7 BK181.out))
  (try simp only [Act.put, List.setIfInBounds_toArray, List.set_cons_zero, List.set_cons_succ])
  have H := HS9.out
  clear HS9
  by_cases c16 : t178 = 0
  · rw [if_pos c16] at H
    have c16b0 : (t178 == 0) = true := beq_iff_eq.mpr c16
    have c16b1 : (t178 != 0) = false := bne_eq_false_iff_eq.mpr c16
    clear c16
    (first | rw [c16b0] | (simp only [i64_w, i32_w]; rw [c16b0]) | skip)
    replace H := Option.bind_eq_some_iff.mp H
    obtain ⟨⟨t182, t183⟩, A170, H⟩ := H
    replace H : ((codec_In_End.f t182 t183).bind fun bt184 => (if bt184.1 = 0 then (some (t178, 0, (⟨#[]⟩ : ByteArray), 0, (⟨#[]⟩ : ByteArray), (⟨#[]⟩ : ByteArray), 0, 0)) else (some (0, 0, (⟨#[]⟩ : ByteArray), 0, (⟨#[]⟩ : ByteArray), (⟨#[]⟩ : ByteArray), 0, bt184.1)))) = some (r1, r2, r3, r4, r5, r6, r7, r8) := H
    have A17 := Aside0.mk A170
    clear A170
    replace H := Option.bind_eq_some_iff.mp H
    obtain ⟨⟨t184, t185, t186⟩, A180, H⟩ := H
    replace H : (if t184 = 0 then (some (t178, 0, (⟨#[]⟩ : ByteArray), 0, (⟨#[]⟩ : ByteArray), (⟨#[]⟩ : ByteArray), 0, 0)) else (some (0, 0, (⟨#[]⟩ : ByteArray), 0, (⟨#[]⟩ : ByteArray), (⟨#[]⟩ : ByteArray), 0, t184))) = some (r1, r2, r3, r4, r5, r6, r7, r8) := H
    have A18 := Aside0.mk A180
    clear A180
    have HS19 := Aside0.mk H
    clear H
    go_upto_if 46 with (first | ((with_reducible refine gcl (f := 34) rfl ?_); refine gl_ (some 28) rfl rfl Try.func34 (by kernel_rfl) rfl #[.pointer (some ⟨g177, 0, none⟩), .int .i64 6] rfl ar_ ?_; (with_reducible refine (PL.codec_In_Fail.calls g177 t179 t180 6 t182 t183 w _ ?side1 ?side2 A17.out).mono ?_); (case side1 => repeat (first | (with_reducible first | exact HI177.out | apply IsS108.alloc | apply IsS108.drewN | apply IsS108.drew | apply IsS108.set_0 | apply IsS108.set_1 | refine IsS108.far ?_ NB177_172.out _ | refine IsS108.far ?_ NB177_181.out _) | exact HI177.out)); (case side2 => repeat (first | (with_reducible first | exact HB.out | apply bal | apply bdn | apply bd1 | refine bst ?_ (IsS108.ge HI177.out) | refine bst ?_ GE172.out | refine bst ?_ GE181.out) | exact HB.out)); rintro e w20 ⟨rfl, hi, hb, hk⟩; refine ⟨_, rfl, ?_⟩; have n0_ := Aside0.mk (KeepBut.blk hk (g' := gb172) (o := .cells #[.int .i64 0, .int .i64 0, .string (⟨#[]⟩ : ByteArray), .int .i64 0, .string (⟨#[]⟩ : ByteArray), .string (⟨#[]⟩ : ByteArray), .int .i64 0] 26 (0, 0)) bk_ NB172_177.out (by simp)); have n1_ := Aside0.mk (KeepBut.blk hk (g' := gb181) (o := .cells #[.int .i64 t178, .int .i64 0, .string (⟨#[]⟩ : ByteArray), .int .i64 0, .string (⟨#[]⟩ : ByteArray), .string (⟨#[]⟩ : ByteArray), .int .i64 0] 26 (0, 0)) bk_ NB181_177.out (by simp)); have n2_ := Aside0.mk (hb); have n3_ := Aside0.mk (hi); clear BK172; clear BK181; clear HB; clear HI177; have BK172 := n0_; have BK181 := n1_; have HB := n2_; have HI177 := n3_; clear n0_ n1_ n2_ n3_; (try clear hb); (try clear hb2); (try clear hk); (try clear hi)) | ((with_reducible refine gcl (f := 37) rfl ?_); refine gl_ (some 44) rfl rfl Try.func37 (by kernel_rfl) rfl #[.pointer (some ⟨g177, 0, none⟩)] rfl ar_ ?_; (with_reducible refine (codec_In_End.calls g177 t182 t183 t184 t185 t186 w _ ?side1 ?side2 A18.out).mono ?_); (case side1 => repeat (first | (with_reducible first | exact HI177.out | apply IsS108.alloc | apply IsS108.drewN | apply IsS108.drew | apply IsS108.set_0 | apply IsS108.set_1 | refine IsS108.far ?_ NB177_172.out _ | refine IsS108.far ?_ NB177_181.out _) | exact HI177.out)); (case side2 => repeat (first | (with_reducible first | exact HB.out | apply bal | apply bdn | apply bd1 | refine bst ?_ (IsS108.ge HI177.out) | refine bst ?_ GE172.out | refine bst ?_ GE181.out) | exact HB.out)); rintro e w21 ⟨rfl, hi, hb, hk⟩; refine ⟨_, rfl, ?_⟩; have n0_ := Aside0.mk (KeepBut.blk hk (g' := gb172) (o := .cells #[.int .i64 0, .int .i64 0, .string (⟨#[]⟩ : ByteArray), .int .i64 0, .string (⟨#[]⟩ : ByteArray), .string (⟨#[]⟩ : ByteArray), .int .i64 0] 26 (0, 0)) bk_ NB172_177.out (by simp)); have n1_ := Aside0.mk (KeepBut.blk hk (g' := gb181) (o := .cells #[.int .i64 t178, .int .i64 0, .string (⟨#[]⟩ : ByteArray), .int .i64 0, .string (⟨#[]⟩ : ByteArray), .string (⟨#[]⟩ : ByteArray), .int .i64 0] 26 (0, 0)) bk_ NB181_177.out (by simp)); have n2_ := Aside0.mk (hb); have n3_ := Aside0.mk (hi); clear BK172; clear BK181; clear HB; clear HI177; have BK172 := n0_; have BK181 := n1_; have HB := n2_; have HI177 := n3_; clear n0_ n1_ n2_ n3_; (try clear hb); (try clear hb2); (try clear hk); (try clear hi)))
    (try simp only [Act.put, List.setIfInBounds_toArray, List.set_cons_zero, List.set_cons_succ])
    have H := HS19.out
    clear HS19
    by_cases c22 : t184 = 0
    rotate_left
    · rw [if_neg c22] at H
      have c22b0 : (t184 == 0) = false := beq_eq_false_iff_ne.mpr c22
      have c22b1 : (t184 != 0) = true := bne_iff_ne.mpr c22
      (first | rw [c22b0] | (simp only [i64_w, i32_w]; rw [c22b0]) | skip)
      simp only [Option.some.injEq, Prod.mk.injEq] at H
      obtain ⟨rfl, rfl, rfl, rfl, rfl, rfl, rfl, rfl⟩ := H
      have hnb28 := NB172_181.out
      have hnc28 := NB181_172.out
      have hnb29 := NB172_177.out
      have hnc29 := NB177_172.out
      have hcz30 := bc7 BK172.out
      go_wp2
      refine bodyPost_ret (results_ct rfl _ _ gb172 26 #[.int .i64 0, .int .i64 0, .string (⟨#[]⟩ : ByteArray), .int .i64 0, .string (⟨#[]⟩ : ByteArray), .string (⟨#[]⟩ : ByteArray), .int .i64 0] (0, 0) _ rfl bk_ Try.underlying26 rfl (by kernel_rfl)) rfl ?_
      exact ⟨er_, by repeat (first | (with_reducible first | exact HB.out | apply bal | apply bdn | apply bd1 | refine bst ?_ (IsS108.ge HI177.out) | refine bst ?_ GE172.out | refine bst ?_ GE181.out) | exact HB.out)⟩
    rw [if_pos c22] at H
    have c22b0 : (t184 == 0) = true := beq_iff_eq.mpr c22
    have c22b1 : (t184 != 0) = false := bne_eq_false_iff_eq.mpr c22
    clear c22
    (first | rw [c22b0] | (simp only [i64_w, i32_w]; rw [c22b0]) | skip)
    simp only [Option.some.injEq, Prod.mk.injEq] at H
    obtain ⟨rfl, rfl, rfl, rfl, rfl, rfl, rfl, rfl⟩ := H
    have hnb23 := NB181_172.out
    have hnc23 := NB172_181.out
    have hnb24 := NB181_177.out
    have hnc24 := NB177_181.out
    have hcz25 := bc7 BK181.out
    have hnb26 := NB172_177.out
    have hnc26 := NB177_172.out
    have hcz27 := bc7 BK172.out
    go_wp2
    refine bodyPost_ret (results_ct rfl _ _ gb172 26 #[.int .i64 t178, .int .i64 0, .string (⟨#[]⟩ : ByteArray), .int .i64 0, .string (⟨#[]⟩ : ByteArray), .string (⟨#[]⟩ : ByteArray), .int .i64 0] (0, 0) _ rfl bk_ Try.underlying26 rfl (by kernel_rfl)) rfl ?_
    exact ⟨er_, by repeat (first | (with_reducible first | exact HB.out | apply bal | apply bdn | apply bd1 | refine bst ?_ (IsS108.ge HI177.out) | refine bst ?_ GE172.out | refine bst ?_ GE181.out) | exact HB.out)⟩
  rw [if_neg c16] at H
  have c16b0 : (t178 == 0) = false := beq_eq_false_iff_ne.mpr c16
  have c16b1 : (t178 != 0) = true := bne_iff_ne.mpr c16
  (first | rw [c16b0] | (simp only [i64_w, i32_w]; rw [c16b0]) | skip)
  by_cases c31 : t178 = 2
  · rw [if_pos c31] at H
    have c31b0 : (t178 == 2) = true := beq_iff_eq.mpr c31
    have c31b1 : (t178 != 2) = false := bne_eq_false_iff_eq.mpr c31
    clear c31
    replace H := Option.bind_eq_some_iff.mp H
    obtain ⟨⟨t187, t188, t189⟩, A320, H⟩ := H
    replace H : ((method_ReadCall.f k t188 t189).bind fun bt190 => ((codec_In_End.f bt190.2.2.2.2.1 bt190.2.2.2.2.2).bind fun bt196 => (if bt196.1 = 0 then (some (t178, 0, t187, bt190.1, bt190.2.1, bt190.2.2.1, bt190.2.2.2.1, 0)) else (some (0, 0, (⟨#[]⟩ : ByteArray), 0, (⟨#[]⟩ : ByteArray), (⟨#[]⟩ : ByteArray), 0, bt196.1))))) = some (r1, r2, r3, r4, r5, r6, r7, r8) := H
    have A32 := Aside0.mk A320
    clear A320
    replace H := Option.bind_eq_some_iff.mp H
    obtain ⟨⟨t190, t191, t192, t193, t194, t195⟩, A330, H⟩ := H
    replace H : ((codec_In_End.f t194 t195).bind fun bt196 => (if bt196.1 = 0 then (some (t178, 0, t187, t190, t191, t192, t193, 0)) else (some (0, 0, (⟨#[]⟩ : ByteArray), 0, (⟨#[]⟩ : ByteArray), (⟨#[]⟩ : ByteArray), 0, bt196.1)))) = some (r1, r2, r3, r4, r5, r6, r7, r8) := H
    have A33 := Aside0.mk A330
    clear A330
    replace H := Option.bind_eq_some_iff.mp H
    obtain ⟨⟨t196, t197, t198⟩, A340, H⟩ := H
    replace H : (if t196 = 0 then (some (t178, 0, t187, t190, t191, t192, t193, 0)) else (some (0, 0, (⟨#[]⟩ : ByteArray), 0, (⟨#[]⟩ : ByteArray), (⟨#[]⟩ : ByteArray), 0, t196))) = some (r1, r2, r3, r4, r5, r6, r7, r8) := H
    have A34 := Aside0.mk A340
    clear A340
    have HS35 := Aside0.mk H
    clear H
    go_upto_if 46 with (first | ((with_reducible refine gcl (f := 35) rfl ?_); refine gl_ (some 32) rfl rfl Try.func35 (by kernel_rfl) rfl #[.pointer (some ⟨g177, 0, none⟩), .int .i64 16] rfl ar_ ?_; (with_reducible refine (codec_In_S.calls g177 t179 t180 16 t187 t188 t189 w _ ?side1 ?side2 A32.out).mono ?_); (case side1 => repeat (first | (with_reducible first | exact HI177.out | apply IsS108.alloc | apply IsS108.drewN | apply IsS108.drew | apply IsS108.set_0 | apply IsS108.set_1 | refine IsS108.far ?_ NB177_172.out _ | refine IsS108.far ?_ NB177_181.out _) | exact HI177.out)); (case side2 => repeat (first | (with_reducible first | exact HB.out | apply bal | apply bdn | apply bd1 | refine bst ?_ (IsS108.ge HI177.out) | refine bst ?_ GE172.out | refine bst ?_ GE181.out) | exact HB.out)); rintro e w36 ⟨rfl, hi, hb, hk⟩; refine ⟨_, rfl, ?_⟩; have n0_ := Aside0.mk (KeepBut.blk hk (g' := gb172) (o := .cells #[.int .i64 0, .int .i64 0, .string (⟨#[]⟩ : ByteArray), .int .i64 0, .string (⟨#[]⟩ : ByteArray), .string (⟨#[]⟩ : ByteArray), .int .i64 0] 26 (0, 0)) bk_ NB172_177.out (by simp)); have n1_ := Aside0.mk (KeepBut.blk hk (g' := gb181) (o := .cells #[.int .i64 t178, .int .i64 0, .string (⟨#[]⟩ : ByteArray), .int .i64 0, .string (⟨#[]⟩ : ByteArray), .string (⟨#[]⟩ : ByteArray), .int .i64 0] 26 (0, 0)) bk_ NB181_177.out (by simp)); have n2_ := Aside0.mk (hb); have n3_ := Aside0.mk (hi); clear BK172; clear BK181; clear HB; clear HI177; have BK172 := n0_; have BK181 := n1_; have HB := n2_; have HI177 := n3_; clear n0_ n1_ n2_ n3_; (try clear hb); (try clear hb2); (try clear hk); (try clear hi); have hnb37 := NB181_172.out; have hnc37 := NB172_181.out; have hnb38 := NB181_177.out; have hnc38 := NB177_181.out; have hcz39 := bc7 BK181.out) | ((with_reducible refine gcl (f := 36) rfl ?_); refine gl_ (some 35) rfl rfl Try.func36 (by kernel_rfl) rfl #[.pointer (some ⟨g177, 0, none⟩)] rfl ar_ ?_; (with_reducible refine (method_ReadCall.calls k g177 t188 t189 t190 t191 t192 t193 t194 t195 w _ ?side1 ?side2 A33.out).mono ?_); (case side1 => repeat (first | (with_reducible first | exact HI177.out | apply IsS108.alloc | apply IsS108.drewN | apply IsS108.drew | apply IsS108.set_0 | apply IsS108.set_1 | refine IsS108.far ?_ NB177_172.out _ | refine IsS108.far ?_ NB177_181.out _) | exact HI177.out)); (case side2 => repeat (first | (with_reducible first | exact HB.out | apply bal | apply bdn | apply bd1 | refine bst ?_ (IsS108.ge HI177.out) | refine bst ?_ GE172.out | refine bst ?_ GE181.out) | exact HB.out)); rintro e w40 ⟨rfl, hi, hb, hk⟩; refine ⟨_, rfl, ?_⟩; have n0_ := Aside0.mk (KeepBut.blk hk (g' := gb172) (o := .cells #[.int .i64 0, .int .i64 0, .string (⟨#[]⟩ : ByteArray), .int .i64 0, .string (⟨#[]⟩ : ByteArray), .string (⟨#[]⟩ : ByteArray), .int .i64 0] 26 (0, 0)) bk_ NB172_177.out (by simp)); have n1_ := Aside0.mk (KeepBut.blk hk (g' := gb181) (o := .cells #[.int .i64 t178, .int .i64 0, .string t187, .int .i64 0, .string (⟨#[]⟩ : ByteArray), .string (⟨#[]⟩ : ByteArray), .int .i64 0] 26 (0, 0)) bk_ NB181_177.out (by simp)); have n2_ := Aside0.mk (hb); have n3_ := Aside0.mk (hi); clear BK172; clear BK181; clear HB; clear HI177; have BK172 := n0_; have BK181 := n1_; have HB := n2_; have HI177 := n3_; clear n0_ n1_ n2_ n3_; (try clear hb); (try clear hb2); (try clear hk); (try clear hi); have hcz41 := bc7 BK181.out) | ((with_reducible refine gcl (f := 37) rfl ?_); refine gl_ (some 44) rfl rfl Try.func37 (by kernel_rfl) rfl #[.pointer (some ⟨g177, 0, none⟩)] rfl ar_ ?_; (with_reducible refine (codec_In_End.calls g177 t194 t195 t196 t197 t198 w _ ?side1 ?side2 A34.out).mono ?_); (case side1 => repeat (first | (with_reducible first | exact HI177.out | apply IsS108.alloc | apply IsS108.drewN | apply IsS108.drew | apply IsS108.set_0 | apply IsS108.set_1 | refine IsS108.far ?_ NB177_172.out _ | refine IsS108.far ?_ NB177_181.out _) | exact HI177.out)); (case side2 => repeat (first | (with_reducible first | exact HB.out | apply bal | apply bdn | apply bd1 | refine bst ?_ (IsS108.ge HI177.out) | refine bst ?_ GE172.out | refine bst ?_ GE181.out) | exact HB.out)); rintro e w42 ⟨rfl, hi, hb, hk⟩; refine ⟨_, rfl, ?_⟩; have n0_ := Aside0.mk (KeepBut.blk hk (g' := gb172) (o := .cells #[.int .i64 0, .int .i64 0, .string (⟨#[]⟩ : ByteArray), .int .i64 0, .string (⟨#[]⟩ : ByteArray), .string (⟨#[]⟩ : ByteArray), .int .i64 0] 26 (0, 0)) bk_ NB172_177.out (by simp)); have n1_ := Aside0.mk (KeepBut.blk hk (g' := gb181) (o := .cells #[.int .i64 t178, .int .i64 0, .string t187, .int .i64 t190, .string t191, .string t192, .int .i64 t193] 26 (0, 0)) bk_ NB181_177.out (by simp)); have n2_ := Aside0.mk (hb); have n3_ := Aside0.mk (hi); clear BK172; clear BK181; clear HB; clear HI177; have BK172 := n0_; have BK181 := n1_; have HB := n2_; have HI177 := n3_; clear n0_ n1_ n2_ n3_; (try clear hb); (try clear hb2); (try clear hk); (try clear hi)))
    (try simp only [Act.put, List.setIfInBounds_toArray, List.set_cons_zero, List.set_cons_succ])
    have H := HS35.out
    clear HS35
    by_cases c43 : t196 = 0
    rotate_left
    · rw [if_neg c43] at H
      have c43b0 : (t196 == 0) = false := beq_eq_false_iff_ne.mpr c43
      have c43b1 : (t196 != 0) = true := bne_iff_ne.mpr c43
      (first | rw [c43b0] | (simp only [i64_w, i32_w]; rw [c43b0]) | skip)
      simp only [Option.some.injEq, Prod.mk.injEq] at H
      obtain ⟨rfl, rfl, rfl, rfl, rfl, rfl, rfl, rfl⟩ := H
      have hnb49 := NB172_181.out
      have hnc49 := NB181_172.out
      have hnb50 := NB172_177.out
      have hnc50 := NB177_172.out
      have hcz51 := bc7 BK172.out
      go_wp2
      refine bodyPost_ret (results_ct rfl _ _ gb172 26 #[.int .i64 0, .int .i64 0, .string (⟨#[]⟩ : ByteArray), .int .i64 0, .string (⟨#[]⟩ : ByteArray), .string (⟨#[]⟩ : ByteArray), .int .i64 0] (0, 0) _ rfl bk_ Try.underlying26 rfl (by kernel_rfl)) rfl ?_
      exact ⟨er_, by repeat (first | (with_reducible first | exact HB.out | apply bal | apply bdn | apply bd1 | refine bst ?_ (IsS108.ge HI177.out) | refine bst ?_ GE172.out | refine bst ?_ GE181.out) | exact HB.out)⟩
    rw [if_pos c43] at H
    have c43b0 : (t196 == 0) = true := beq_iff_eq.mpr c43
    have c43b1 : (t196 != 0) = false := bne_eq_false_iff_eq.mpr c43
    clear c43
    (first | rw [c43b0] | (simp only [i64_w, i32_w]; rw [c43b0]) | skip)
    simp only [Option.some.injEq, Prod.mk.injEq] at H
    obtain ⟨rfl, rfl, rfl, rfl, rfl, rfl, rfl, rfl⟩ := H
    have hnb44 := NB181_172.out
    have hnc44 := NB172_181.out
    have hnb45 := NB181_177.out
    have hnc45 := NB177_181.out
    have hcz46 := bc7 BK181.out
    have hnb47 := NB172_177.out
    have hnc47 := NB177_172.out
    have hcz48 := bc7 BK172.out
    go_wp2
    refine bodyPost_ret (results_ct rfl _ _ gb172 26 #[.int .i64 t178, .int .i64 0, .string t187, .int .i64 t190, .string t191, .string t192, .int .i64 t193] (0, 0) _ rfl bk_ Try.underlying26 rfl (by kernel_rfl)) rfl ?_
    exact ⟨er_, by repeat (first | (with_reducible first | exact HB.out | apply bal | apply bdn | apply bd1 | refine bst ?_ (IsS108.ge HI177.out) | refine bst ?_ GE172.out | refine bst ?_ GE181.out) | exact HB.out)⟩
  rw [if_neg c31] at H
  have c31b0 : (t178 == 2) = false := beq_eq_false_iff_ne.mpr c31
  have c31b1 : (t178 != 2) = true := bne_iff_ne.mpr c31
  have HC52 := Aside0.mk H
  clear H
  go_upto_if 37 with (fail)
  go_cut [37] (fun v37 wc => ∃ (kq : Nat) (x37_51 : Bool), v37 = .bool x37_51 ∧ Aside0 (frame_ParseRequest.j0 kq x37_51 t179 t180 t178 0 (⟨#[]⟩ : ByteArray) 0 (⟨#[]⟩ : ByteArray) (⟨#[]⟩ : ByteArray) 0 = some (r1, r2, r3, r4, r5, r6, r7, r8)) ∧ Aside0 (kq ≤ k) ∧ Aside0 (wc.heap[gb172]? = some (.cells #[.int .i64 0, .int .i64 0, .string (⟨#[]⟩ : ByteArray), .int .i64 0, .string (⟨#[]⟩ : ByteArray), .string (⟨#[]⟩ : ByteArray), .int .i64 0] 26 (0, 0))) ∧ Aside0 (wc.heap[gb181]? = some (.cells #[.int .i64 t178, .int .i64 0, .string (⟨#[]⟩ : ByteArray), .int .i64 0, .string (⟨#[]⟩ : ByteArray), .string (⟨#[]⟩ : ByteArray), .int .i64 0] 26 (0, 0))) ∧ Aside0 (IsS108 w wc g177 t179 t180) ∧ Aside0 (Below w.heap.size w wc))
  case first =>
    have H := HC52.out
    clear HC52
    by_cases c53 : t178 = 4
    rotate_left
    · rw [if_neg c53] at H
      have c53b0 : (t178 == 4) = false := beq_eq_false_iff_ne.mpr c53
      have c53b1 : (t178 != 4) = true := bne_iff_ne.mpr c53
      (first | rw [c53b0] | (simp only [i64_w, i32_w]; rw [c53b0]) | skip)
      have H' := Aside0.mk H
      clear H
      go_wp2
      go_meet
      case rel => exact ⟨_, ((t178 == 7)), (by first | rfl | (simp; done) | (simp [*]; done) | exact emp1_ _ | exact (emp1_ _).symm | exact emp2_ _ | exact (emp2_ _).symm), H', ⟨by first | omega | exact Nat.le_refl _⟩, ⟨bk_⟩, ⟨bk_⟩, ⟨by repeat (first | (with_reducible first | exact HI177.out | apply IsS108.alloc | apply IsS108.drewN | apply IsS108.drew | apply IsS108.set_0 | apply IsS108.set_1 | refine IsS108.far ?_ NB177_172.out _ | refine IsS108.far ?_ NB177_181.out _) | exact HI177.out)⟩, ⟨by repeat (first | (with_reducible first | exact HB.out | apply bal | apply bdn | apply bd1 | refine bst ?_ (IsS108.ge HI177.out) | refine bst ?_ GE172.out | refine bst ?_ GE181.out) | exact HB.out)⟩⟩
    rw [if_pos c53] at H
    have c53b0 : (t178 == 4) = true := beq_iff_eq.mpr c53
    have c53b1 : (t178 != 4) = false := bne_eq_false_iff_eq.mpr c53
    clear c53
    (first | rw [c53b0] | (simp only [i64_w, i32_w]; rw [c53b0]) | skip)
    have H' := Aside0.mk H
    clear H
    go_wp2
    go_meet
    case rel => exact ⟨_, ((t178 == 4)), (by first | rfl | (simp; done) | (simp [*]; done) | exact emp1_ _ | exact (emp1_ _).symm | exact emp2_ _ | exact (emp2_ _).symm), H', ⟨by first | omega | exact Nat.le_refl _⟩, ⟨bk_⟩, ⟨bk_⟩, ⟨by repeat (first | (with_reducible first | exact HI177.out | apply IsS108.alloc | apply IsS108.drewN | apply IsS108.drew | apply IsS108.set_0 | apply IsS108.set_1 | refine IsS108.far ?_ NB177_172.out _ | refine IsS108.far ?_ NB177_181.out _) | exact HI177.out)⟩, ⟨by repeat (first | (with_reducible first | exact HB.out | apply bal | apply bdn | apply bd1 | refine bst ?_ (IsS108.ge HI177.out) | refine bst ?_ GE172.out | refine bst ?_ GE181.out) | exact HB.out)⟩⟩
  clear HC52
  try clear c1
  try clear c2
  try clear p2
  try clear c3
  try clear c4
  try clear c5
  try clear c6
  try clear c6b0
  try clear c6b1
  try clear c13
  try clear c14
  try clear c16
  try clear c16b0
  try clear c16b1
  try clear c22
  try clear c22b0
  try clear c22b1
  try clear c23
  try clear c24
  try clear c26
  try clear c28
  try clear c29
  try clear c31
  try clear c31b0
  try clear c31b1
  try clear c32
  try clear c33
  try clear c34
  try clear c35
  try clear c36
  try clear c37
  try clear c38
  try clear c43
  try clear c43b0
  try clear c43b1
  try clear c44
  try clear c45
  try clear c47
  try clear c49
  try clear c50
  try clear c53
  try clear c53b0
  try clear c53b1
  try clear hcz15
  try clear hcz25
  try clear hcz27
  try clear hcz30
  try clear hcz39
  try clear hcz41
  try clear hcz46
  try clear hcz48
  try clear hcz51
  try clear hcz15
  try clear hcz25
  try clear hcz27
  try clear hcz30
  try clear hcz39
  try clear hcz41
  try clear hcz46
  try clear hcz48
  try clear hcz51
  obtain ⟨kq, x37_51, rfl, HA, HJ51, BK172, BK181, HI177, HB⟩ := hcut
  cases kq with
  | zero => exact absurd HA.out (by simp [frame_ParseRequest.j0])
  | succ kj51 =>
    have H := HA.out
    clear HA
    simp only [frame_ParseRequest.j0] at H
    by_cases c54 : x37_51 = true
    rotate_left
    · replace c54 := Bool.eq_false_iff.mpr c54
      subst c54
      have H1 : ((codec_In_End.f t179 t180).bind fun bt205 => (if bt205.1 = 0 then (some (t178, 0, (⟨#[]⟩ : ByteArray), 0, (⟨#[]⟩ : ByteArray), (⟨#[]⟩ : ByteArray), 0, 0)) else (some (0, 0, (⟨#[]⟩ : ByteArray), 0, (⟨#[]⟩ : ByteArray), (⟨#[]⟩ : ByteArray), 0, bt205.1)))) = some (r1, r2, r3, r4, r5, r6, r7, r8) := by rw [if_neg (show ¬ (false = true) by decide)] at H; exact H
      clear H
      have H := H1
      clear H1
      replace H := Option.bind_eq_some_iff.mp H
      obtain ⟨⟨t205, t206, t207⟩, A720, H⟩ := H
      replace H : (if t205 = 0 then (some (t178, 0, (⟨#[]⟩ : ByteArray), 0, (⟨#[]⟩ : ByteArray), (⟨#[]⟩ : ByteArray), 0, 0)) else (some (0, 0, (⟨#[]⟩ : ByteArray), 0, (⟨#[]⟩ : ByteArray), (⟨#[]⟩ : ByteArray), 0, t205))) = some (r1, r2, r3, r4, r5, r6, r7, r8) := H
      have A72 := Aside0.mk A720
      clear A720
      have HS73 := Aside0.mk H
      clear H
      go_upto_if 46 with (first | ((with_reducible refine gcl (f := 37) rfl ?_); refine gl_ (some 44) rfl rfl Try.func37 (by kernel_rfl) rfl #[.pointer (some ⟨g177, 0, none⟩)] rfl ar_ ?_; (with_reducible refine (codec_In_End.calls g177 t179 t180 t205 t206 t207 w _ ?side1 ?side2 A72.out).mono ?_); (case side1 => repeat (first | (with_reducible first | exact HI177.out | apply IsS108.alloc | apply IsS108.drewN | apply IsS108.drew | apply IsS108.set_0 | apply IsS108.set_1 | refine IsS108.far ?_ NB177_172.out _ | refine IsS108.far ?_ NB177_181.out _) | exact HI177.out)); (case side2 => repeat (first | (with_reducible first | exact HB.out | apply bal | apply bdn | apply bd1 | refine bst ?_ (IsS108.ge HI177.out) | refine bst ?_ GE172.out | refine bst ?_ GE181.out) | exact HB.out)); rintro e w74 ⟨rfl, hi, hb, hk⟩; refine ⟨_, rfl, ?_⟩; have n0_ := Aside0.mk (KeepBut.blk hk (g' := gb172) (o := .cells #[.int .i64 0, .int .i64 0, .string (⟨#[]⟩ : ByteArray), .int .i64 0, .string (⟨#[]⟩ : ByteArray), .string (⟨#[]⟩ : ByteArray), .int .i64 0] 26 (0, 0)) bk_ NB172_177.out (by simp)); have n1_ := Aside0.mk (KeepBut.blk hk (g' := gb181) (o := .cells #[.int .i64 t178, .int .i64 0, .string (⟨#[]⟩ : ByteArray), .int .i64 0, .string (⟨#[]⟩ : ByteArray), .string (⟨#[]⟩ : ByteArray), .int .i64 0] 26 (0, 0)) bk_ NB181_177.out (by simp)); have n2_ := Aside0.mk (hb); have n3_ := Aside0.mk (hi); clear BK172; clear BK181; clear HB; clear HI177; have BK172 := n0_; have BK181 := n1_; have HB := n2_; have HI177 := n3_; clear n0_ n1_ n2_ n3_; (try clear hb); (try clear hb2); (try clear hk); (try clear hi)))
      (try simp only [Act.put, List.setIfInBounds_toArray, List.set_cons_zero, List.set_cons_succ])
      have H := HS73.out
      clear HS73
      by_cases c75 : t205 = 0
      rotate_left
      · rw [if_neg c75] at H
        have c75b0 : (t205 == 0) = false := beq_eq_false_iff_ne.mpr c75
        have c75b1 : (t205 != 0) = true := bne_iff_ne.mpr c75
        (first | rw [c75b0] | (simp only [i64_w, i32_w]; rw [c75b0]) | skip)
        simp only [Option.some.injEq, Prod.mk.injEq] at H
        obtain ⟨rfl, rfl, rfl, rfl, rfl, rfl, rfl, rfl⟩ := H
        have hnb81 := NB172_181.out
        have hnc81 := NB181_172.out
        have hnb82 := NB172_177.out
        have hnc82 := NB177_172.out
        have hcz83 := bc7 BK172.out
        go_wp2
        refine bodyPost_ret (results_ct rfl _ _ gb172 26 #[.int .i64 0, .int .i64 0, .string (⟨#[]⟩ : ByteArray), .int .i64 0, .string (⟨#[]⟩ : ByteArray), .string (⟨#[]⟩ : ByteArray), .int .i64 0] (0, 0) _ rfl bk_ Try.underlying26 rfl (by kernel_rfl)) rfl ?_
        exact ⟨er_, by repeat (first | (with_reducible first | exact HB.out | apply bal | apply bdn | apply bd1 | refine bst ?_ (IsS108.ge HI177.out) | refine bst ?_ GE172.out | refine bst ?_ GE181.out) | exact HB.out)⟩
      rw [if_pos c75] at H
      have c75b0 : (t205 == 0) = true := beq_iff_eq.mpr c75
      have c75b1 : (t205 != 0) = false := bne_eq_false_iff_eq.mpr c75
      clear c75
      (first | rw [c75b0] | (simp only [i64_w, i32_w]; rw [c75b0]) | skip)
      simp only [Option.some.injEq, Prod.mk.injEq] at H
      obtain ⟨rfl, rfl, rfl, rfl, rfl, rfl, rfl, rfl⟩ := H
      have hnb76 := NB181_172.out
      have hnc76 := NB172_181.out
      have hnb77 := NB181_177.out
      have hnc77 := NB177_181.out
      have hcz78 := bc7 BK181.out
      have hnb79 := NB172_177.out
      have hnc79 := NB177_172.out
      have hcz80 := bc7 BK172.out
      go_wp2
      refine bodyPost_ret (results_ct rfl _ _ gb172 26 #[.int .i64 t178, .int .i64 0, .string (⟨#[]⟩ : ByteArray), .int .i64 0, .string (⟨#[]⟩ : ByteArray), .string (⟨#[]⟩ : ByteArray), .int .i64 0] (0, 0) _ rfl bk_ Try.underlying26 rfl (by kernel_rfl)) rfl ?_
      exact ⟨er_, by repeat (first | (with_reducible first | exact HB.out | apply bal | apply bdn | apply bd1 | refine bst ?_ (IsS108.ge HI177.out) | refine bst ?_ GE172.out | refine bst ?_ GE181.out) | exact HB.out)⟩
    subst c54
    have H1 : ((codec_In_N.f t179 t180 1099511627776).bind fun bt199 => ((codec_In_End.f bt199.2.1 bt199.2.2).bind fun bt202 => (if bt202.1 = 0 then (some (t178, bt199.1, (⟨#[]⟩ : ByteArray), 0, (⟨#[]⟩ : ByteArray), (⟨#[]⟩ : ByteArray), 0, 0)) else (some (0, 0, (⟨#[]⟩ : ByteArray), 0, (⟨#[]⟩ : ByteArray), (⟨#[]⟩ : ByteArray), 0, bt202.1))))) = some (r1, r2, r3, r4, r5, r6, r7, r8) := by rw [if_pos rfl] at H; exact H
    clear H
    have H := H1
    clear H1
    replace H := Option.bind_eq_some_iff.mp H
    obtain ⟨⟨t199, t200, t201⟩, A550, H⟩ := H
    replace H : ((codec_In_End.f t200 t201).bind fun bt202 => (if bt202.1 = 0 then (some (t178, t199, (⟨#[]⟩ : ByteArray), 0, (⟨#[]⟩ : ByteArray), (⟨#[]⟩ : ByteArray), 0, 0)) else (some (0, 0, (⟨#[]⟩ : ByteArray), 0, (⟨#[]⟩ : ByteArray), (⟨#[]⟩ : ByteArray), 0, bt202.1)))) = some (r1, r2, r3, r4, r5, r6, r7, r8) := H
    have A55 := Aside0.mk A550
    clear A550
    replace H := Option.bind_eq_some_iff.mp H
    obtain ⟨⟨t202, t203, t204⟩, A560, H⟩ := H
    replace H : (if t202 = 0 then (some (t178, t199, (⟨#[]⟩ : ByteArray), 0, (⟨#[]⟩ : ByteArray), (⟨#[]⟩ : ByteArray), 0, 0)) else (some (0, 0, (⟨#[]⟩ : ByteArray), 0, (⟨#[]⟩ : ByteArray), (⟨#[]⟩ : ByteArray), 0, t202))) = some (r1, r2, r3, r4, r5, r6, r7, r8) := H
    have A56 := Aside0.mk A560
    clear A560
    have HS57 := Aside0.mk H
    clear H
    go_upto_if 46 with (first | ((with_reducible refine gcl (f := 33) rfl ?_); refine gl_ (some 41) rfl rfl Try.func33 (by kernel_rfl) rfl #[.pointer (some ⟨g177, 0, none⟩), .int .i64 1099511627776] rfl ar_ ?_; (with_reducible refine (codec_In_N.calls g177 t179 t180 1099511627776 t199 t200 t201 w _ ?side1 ?side2 A55.out).mono ?_); (case side1 => repeat (first | (with_reducible first | exact HI177.out | apply IsS108.alloc | apply IsS108.drewN | apply IsS108.drew | apply IsS108.set_0 | apply IsS108.set_1 | refine IsS108.far ?_ NB177_172.out _ | refine IsS108.far ?_ NB177_181.out _) | exact HI177.out)); (case side2 => repeat (first | (with_reducible first | exact HB.out | apply bal | apply bdn | apply bd1 | refine bst ?_ (IsS108.ge HI177.out) | refine bst ?_ GE172.out | refine bst ?_ GE181.out) | exact HB.out)); rintro e w58 ⟨rfl, hi, hb, hk⟩; refine ⟨_, rfl, ?_⟩; have n0_ := Aside0.mk (KeepBut.blk hk (g' := gb172) (o := .cells #[.int .i64 0, .int .i64 0, .string (⟨#[]⟩ : ByteArray), .int .i64 0, .string (⟨#[]⟩ : ByteArray), .string (⟨#[]⟩ : ByteArray), .int .i64 0] 26 (0, 0)) bk_ NB172_177.out (by simp)); have n1_ := Aside0.mk (KeepBut.blk hk (g' := gb181) (o := .cells #[.int .i64 t178, .int .i64 0, .string (⟨#[]⟩ : ByteArray), .int .i64 0, .string (⟨#[]⟩ : ByteArray), .string (⟨#[]⟩ : ByteArray), .int .i64 0] 26 (0, 0)) bk_ NB181_177.out (by simp)); have n2_ := Aside0.mk (hb); have n3_ := Aside0.mk (hi); clear BK172; clear BK181; clear HB; clear HI177; have BK172 := n0_; have BK181 := n1_; have HB := n2_; have HI177 := n3_; clear n0_ n1_ n2_ n3_; (try clear hb); (try clear hb2); (try clear hk); (try clear hi); have hnb59 := NB181_172.out; have hnc59 := NB172_181.out; have hnb60 := NB181_177.out; have hnc60 := NB177_181.out; have hcz61 := bc7 BK181.out) | ((with_reducible refine gcl (f := 37) rfl ?_); refine gl_ (some 44) rfl rfl Try.func37 (by kernel_rfl) rfl #[.pointer (some ⟨g177, 0, none⟩)] rfl ar_ ?_; (with_reducible refine (codec_In_End.calls g177 t200 t201 t202 t203 t204 w _ ?side1 ?side2 A56.out).mono ?_); (case side1 => repeat (first | (with_reducible first | exact HI177.out | apply IsS108.alloc | apply IsS108.drewN | apply IsS108.drew | apply IsS108.set_0 | apply IsS108.set_1 | refine IsS108.far ?_ NB177_172.out _ | refine IsS108.far ?_ NB177_181.out _) | exact HI177.out)); (case side2 => repeat (first | (with_reducible first | exact HB.out | apply bal | apply bdn | apply bd1 | refine bst ?_ (IsS108.ge HI177.out) | refine bst ?_ GE172.out | refine bst ?_ GE181.out) | exact HB.out)); rintro e w62 ⟨rfl, hi, hb, hk⟩; refine ⟨_, rfl, ?_⟩; have n0_ := Aside0.mk (KeepBut.blk hk (g' := gb172) (o := .cells #[.int .i64 0, .int .i64 0, .string (⟨#[]⟩ : ByteArray), .int .i64 0, .string (⟨#[]⟩ : ByteArray), .string (⟨#[]⟩ : ByteArray), .int .i64 0] 26 (0, 0)) bk_ NB172_177.out (by simp)); have n1_ := Aside0.mk (KeepBut.blk hk (g' := gb181) (o := .cells #[.int .i64 t178, .int .i64 t199, .string (⟨#[]⟩ : ByteArray), .int .i64 0, .string (⟨#[]⟩ : ByteArray), .string (⟨#[]⟩ : ByteArray), .int .i64 0] 26 (0, 0)) bk_ NB181_177.out (by simp)); have n2_ := Aside0.mk (hb); have n3_ := Aside0.mk (hi); clear BK172; clear BK181; clear HB; clear HI177; have BK172 := n0_; have BK181 := n1_; have HB := n2_; have HI177 := n3_; clear n0_ n1_ n2_ n3_; (try clear hb); (try clear hb2); (try clear hk); (try clear hi)))
    (try simp only [Act.put, List.setIfInBounds_toArray, List.set_cons_zero, List.set_cons_succ])
    have H := HS57.out
    clear HS57
    by_cases c63 : t202 = 0
    rotate_left
    · rw [if_neg c63] at H
      have c63b0 : (t202 == 0) = false := beq_eq_false_iff_ne.mpr c63
      have c63b1 : (t202 != 0) = true := bne_iff_ne.mpr c63
      (first | rw [c63b0] | (simp only [i64_w, i32_w]; rw [c63b0]) | skip)
      simp only [Option.some.injEq, Prod.mk.injEq] at H
      obtain ⟨rfl, rfl, rfl, rfl, rfl, rfl, rfl, rfl⟩ := H
      have hnb69 := NB172_181.out
      have hnc69 := NB181_172.out
      have hnb70 := NB172_177.out
      have hnc70 := NB177_172.out
      have hcz71 := bc7 BK172.out
      go_wp2
      refine bodyPost_ret (results_ct rfl _ _ gb172 26 #[.int .i64 0, .int .i64 0, .string (⟨#[]⟩ : ByteArray), .int .i64 0, .string (⟨#[]⟩ : ByteArray), .string (⟨#[]⟩ : ByteArray), .int .i64 0] (0, 0) _ rfl bk_ Try.underlying26 rfl (by kernel_rfl)) rfl ?_
      exact ⟨er_, by repeat (first | (with_reducible first | exact HB.out | apply bal | apply bdn | apply bd1 | refine bst ?_ (IsS108.ge HI177.out) | refine bst ?_ GE172.out | refine bst ?_ GE181.out) | exact HB.out)⟩
    rw [if_pos c63] at H
    have c63b0 : (t202 == 0) = true := beq_iff_eq.mpr c63
    have c63b1 : (t202 != 0) = false := bne_eq_false_iff_eq.mpr c63
    clear c63
    (first | rw [c63b0] | (simp only [i64_w, i32_w]; rw [c63b0]) | skip)
    simp only [Option.some.injEq, Prod.mk.injEq] at H
    obtain ⟨rfl, rfl, rfl, rfl, rfl, rfl, rfl, rfl⟩ := H
    have hnb64 := NB181_172.out
    have hnc64 := NB172_181.out
    have hnb65 := NB181_177.out
    have hnc65 := NB177_181.out
    have hcz66 := bc7 BK181.out
    have hnb67 := NB172_177.out
    have hnc67 := NB177_172.out
    have hcz68 := bc7 BK172.out
    go_wp2
    refine bodyPost_ret (results_ct rfl _ _ gb172 26 #[.int .i64 t178, .int .i64 t199, .string (⟨#[]⟩ : ByteArray), .int .i64 0, .string (⟨#[]⟩ : ByteArray), .string (⟨#[]⟩ : ByteArray), .int .i64 0] (0, 0) _ rfl bk_ Try.underlying26 rfl (by kernel_rfl)) rfl ?_
    exact ⟨er_, by repeat (first | (with_reducible first | exact HB.out | apply bal | apply bdn | apply bd1 | refine bst ?_ (IsS108.ge HI177.out) | refine bst ?_ GE172.out | refine bst ?_ GE181.out) | exact HB.out)⟩
end Go.Proofs.Ytkkkmbgflflcnaa.PS

