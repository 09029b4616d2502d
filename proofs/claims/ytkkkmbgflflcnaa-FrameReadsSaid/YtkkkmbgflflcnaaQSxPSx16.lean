import Derived.Test.YtkkkmbgflflcnaaQSxPSx6
import Derived.Test.YtkkkmbgflflcnaaQSxPSx8
import Derived.Test.YtkkkmbgflflcnaaQSxPSx9
import Derived.Test.YtkkkmbgflflcnaaQSxPSx15
namespace Go.Proofs.Ytkkkmbgflflcnaa.PS
open Go.Proofs.Ytkkkmbgflflcnaa.PL
open Go.RowKit Go.Proofs.YtkkkmbgflflcnaaW.PrintWords Go.Proofs.YtkkkmbgflflcnaaW.PrintLast Go.Proofs.YtkkkmbgflflcnaaW.PrintMore
attribute [local go_sem] max2_int min2_int max_two min_two max_three min_three max_four min_four
set_option linter.unusedVariables false
set_option linter.unusedSimpArgs false
def method_ReadResult.j0 : Nat → ByteArray → Int → Int → ByteArray → Int → Option (Int × ByteArray × Int × ByteArray × Int)
  | 0, _, _, _, _, _ => none
  | k + 1, x1000, x1001, x370000, x370001, x370002 => (codec_In_Err.f x1000 x1001).bind fun bt376 => (if bt376.1 = 0 then (some (x370000, x370001, x370002, bt376.2.1, bt376.2.2)) else (some (0, (⟨#[]⟩ : ByteArray), 0, bt376.2.1, bt376.2.2)))
def method_ReadResult.f (k : Nat) (s0_0 : ByteArray) (s0_1 : Int) : Option (Int × ByteArray × Int × ByteArray × Int) := (codec_In_N.f s0_0 s0_1 2).bind fun bt360 => ((codec_In_S.f bt360.2.1 bt360.2.2 24).bind fun bt363 => ((codec_In_I.f bt363.2.1 bt363.2.2).bind fun bt366 => ((codec_In_Err.f bt366.2.1 bt366.2.2).bind fun bt370 => (if bt370.1 = 0 then ((method_Result_Check.f k bt360.1 bt363.1 bt366.1).bind fun t373 => ((PL.codec_In_Fail.f bt370.2.1 bt370.2.2 t373).bind fun bt374 => (method_ReadResult.j0 k bt374.1 bt374.2 bt360.1 bt363.1 bt366.1))) else (method_ReadResult.j0 k bt370.2.1 bt370.2.2 bt360.1 bt363.1 bt366.1)))))
set_option maxHeartbeats 2000000 in
set_option maxRecDepth 100000 in
theorem method_ReadResult.calls (k : Nat) (g : Nat) (s0_0 : ByteArray) (s0_1 : Int) (r1 : Int) (r2 : ByteArray) (r3 : Int) (r4 : ByteArray) (r5 : Int) (w0 w : World) (hI : IsS108 w0 w g s0_0 s0_1) (hB : Below w0.heap.size w0 w) (h : method_ReadResult.f k s0_0 s0_1 = some (r1, r2, r3, r4, r5)) :
    Calls Try.prog 52 #[.pointer (some ⟨g, 0, none⟩)] w fun e w' => e = .returned (.agg #[.int .i64 r1, .string r2, .int .i64 r3]) ∧ IsS108 w0 w' g r4 r5 ∧ Below w0.heap.size w0 w' ∧ KeepBut w w' g none := by
  have hu51 := Try.underlying51
  have HI0 := Aside0.mk hI
  have HK := Aside0.mk (KeepBut.refl w g none)
  have HL := Aside0.mk hB.size
  clear hI
  have HW0 := Aside0.mk hB.size
  have HB := Aside0.mk hB
  clear hB
  have H : ((codec_In_N.f s0_0 s0_1 2).bind fun bt360 => ((codec_In_S.f bt360.2.1 bt360.2.2 24).bind fun bt363 => ((codec_In_I.f bt363.2.1 bt363.2.2).bind fun bt366 => ((codec_In_Err.f bt366.2.1 bt366.2.2).bind fun bt370 => (if bt370.1 = 0 then ((method_Result_Check.f k bt360.1 bt363.1 bt366.1).bind fun t373 => ((PL.codec_In_Fail.f bt370.2.1 bt370.2.2 t373).bind fun bt374 => (method_ReadResult.j0 k bt374.1 bt374.2 bt360.1 bt363.1 bt366.1))) else (method_ReadResult.j0 k bt370.2.1 bt370.2.2 bt360.1 bt363.1 bt366.1)))))) = some (r1, r2, r3, r4, r5) := h
  clear h
  replace H := Option.bind_eq_some_iff.mp H
  obtain ⟨⟨t360, t361, t362⟩, A20, H⟩ := H
  replace H : ((codec_In_S.f t361 t362 24).bind fun bt363 => ((codec_In_I.f bt363.2.1 bt363.2.2).bind fun bt366 => ((codec_In_Err.f bt366.2.1 bt366.2.2).bind fun bt370 => (if bt370.1 = 0 then ((method_Result_Check.f k t360 bt363.1 bt366.1).bind fun t373 => ((PL.codec_In_Fail.f bt370.2.1 bt370.2.2 t373).bind fun bt374 => (method_ReadResult.j0 k bt374.1 bt374.2 t360 bt363.1 bt366.1))) else (method_ReadResult.j0 k bt370.2.1 bt370.2.2 t360 bt363.1 bt366.1))))) = some (r1, r2, r3, r4, r5) := H
  have A2 := Aside0.mk A20
  clear A20
  replace H := Option.bind_eq_some_iff.mp H
  obtain ⟨⟨t363, t364, t365⟩, A30, H⟩ := H
  replace H : ((codec_In_I.f t364 t365).bind fun bt366 => ((codec_In_Err.f bt366.2.1 bt366.2.2).bind fun bt370 => (if bt370.1 = 0 then ((method_Result_Check.f k t360 t363 bt366.1).bind fun t373 => ((PL.codec_In_Fail.f bt370.2.1 bt370.2.2 t373).bind fun bt374 => (method_ReadResult.j0 k bt374.1 bt374.2 t360 t363 bt366.1))) else (method_ReadResult.j0 k bt370.2.1 bt370.2.2 t360 t363 bt366.1)))) = some (r1, r2, r3, r4, r5) := H
  have A3 := Aside0.mk A30
  clear A30
  replace H := Option.bind_eq_some_iff.mp H
  obtain ⟨⟨t366, t367, t368⟩, A40, H⟩ := H
  replace H : ((codec_In_Err.f t367 t368).bind fun bt370 => (if bt370.1 = 0 then ((method_Result_Check.f k t360 t363 t366).bind fun t373 => ((PL.codec_In_Fail.f bt370.2.1 bt370.2.2 t373).bind fun bt374 => (method_ReadResult.j0 k bt374.1 bt374.2 t360 t363 t366))) else (method_ReadResult.j0 k bt370.2.1 bt370.2.2 t360 t363 t366))) = some (r1, r2, r3, r4, r5) := H
  have A4 := Aside0.mk A40
  clear A40
  replace H := Option.bind_eq_some_iff.mp H
  obtain ⟨⟨t370, t371, t372⟩, A50, H⟩ := H
  replace H : (if t370 = 0 then ((method_Result_Check.f k t360 t363 t366).bind fun t373 => ((PL.codec_In_Fail.f t371 t372 t373).bind fun bt374 => (method_ReadResult.j0 k bt374.1 bt374.2 t360 t363 t366))) else (method_ReadResult.j0 k t371 t372 t360 t363 t366)) = some (r1, r2, r3, r4, r5) := H
  have A5 := Aside0.mk A50
  clear A50
  have HC6 := Aside0.mk H
  clear H
  go_enter Try.func52, Try.ntmps52
  go_upto_if 13 with (first | ((with_reducible refine gds (N := 2) rfl ?_); refine bev ?hg (N := 2) ?hd (cs := #[.int .i64 0, .string (⟨#[]⟩ : ByteArray), .int .i64 0]) (t := 51) ?hr ?_; (case hd => rfl); (case hg => rfl); (case hr => first | (go_simp; done) | (go_simp; rfl)); intro gb359 hg w7 hbox hb; have n0_ := Aside0.mk (IsS108.below (by repeat (first | (with_reducible first | exact HI0.out | apply IsS108.alloc | apply IsS108.drewN | apply IsS108.drew | apply IsS108.set_0 | apply IsS108.set_1) | exact HI0.out)) hb); have n1_ := Aside0.mk (KeepBut.trans (by repeat (first | (with_reducible first | exact HK.out | apply KeepBut.set_ | apply edn | apply edw | apply eal) | exact HK.out)) (KeepBut.of_below hb g none) (.inl rfl)); have n2_ := Aside0.mk (bsp (by repeat (first | (with_reducible first | exact HB.out | apply bal | apply bdn | apply bd1 | refine bst ?_ (IsS108.ge HI0.out)) | exact HB.out)) hb); have n3_ := Aside0.mk (hbox); have n4_ := Aside0.mk ((by rw [hg]; exact (keep_size (w := w) (g := g) (row := none) (by repeat (first | (with_reducible first | exact HK.out | apply KeepBut.set_ | apply edn | apply edw | apply eal) | exact HK.out))) : w.heap.size ≤ gb359)); have n5_ := Aside0.mk ((Nat.le_trans HW0.out (by rw [hg]; exact (keep_size (w := w) (g := g) (row := none) (by repeat (first | (with_reducible first | exact HK.out | apply KeepBut.set_ | apply edn | apply edw | apply eal) | exact HK.out))) : w.heap.size ≤ gb359) : w0.heap.size ≤ gb359)); have n6_ := Aside0.mk ((by rw [hg]; exact Nat.ne_of_lt (IsS108.lt (show IsS108 w0 _ g s0_0 s0_1 from by repeat (first | (with_reducible first | exact HI0.out | apply IsS108.alloc | apply IsS108.drewN | apply IsS108.drew | apply IsS108.set_0 | apply IsS108.set_1) | exact HI0.out))) : g ≠ gb359)); have n7_ := Aside0.mk ((by rw [hg]; exact Nat.ne_of_gt (IsS108.lt (show IsS108 w0 _ g s0_0 s0_1 from by repeat (first | (with_reducible first | exact HI0.out | apply IsS108.alloc | apply IsS108.drewN | apply IsS108.drew | apply IsS108.set_0 | apply IsS108.set_1) | exact HI0.out))) : gb359 ≠ g)); clear HI0; clear HK; clear HB; have HI0 := n0_; have HK := n1_; have HB := n2_; have BK359 := n3_; have GW359 := n4_; have GE359 := n5_; have NB0_359 := n6_; have NB359_0 := n7_; clear n0_ n1_ n2_ n3_ n4_ n5_ n6_ n7_; clear hb hbox hg) | ((with_reducible refine gcl (f := 33) rfl ?_); refine gl_ (some 5) rfl rfl Try.func33 (by kernel_rfl) rfl #[.pointer (some ⟨g, 0, none⟩), .int .i64 2] rfl ar_ ?_; (with_reducible refine (codec_In_N.calls g s0_0 s0_1 2 t360 t361 t362 w0 _ ?side1 ?side2 A2.out).mono ?_); (case side1 => repeat (first | (with_reducible first | exact HI0.out | apply IsS108.alloc | apply IsS108.drewN | apply IsS108.drew | apply IsS108.set_0 | apply IsS108.set_1 | refine IsS108.far ?_ NB0_359.out _) | exact HI0.out)); (case side2 => repeat (first | (with_reducible first | exact HB.out | apply bal | apply bdn | apply bd1 | refine bst ?_ (IsS108.ge HI0.out) | refine bst ?_ GE359.out) | exact HB.out)); rintro e w8 ⟨rfl, hi, hb, hk⟩; refine ⟨_, rfl, ?_⟩; have n0_ := Aside0.mk (KeepBut.blk hk (g' := gb359) (o := .cells #[.int .i64 0, .string (⟨#[]⟩ : ByteArray), .int .i64 0] 51 (0, 0)) bk_ NB359_0.out (by simp)); have n1_ := Aside0.mk (KeepBut.trans (by repeat (first | (with_reducible first | exact HK.out | apply KeepBut.set_ | apply edn | apply edw | apply eal | refine keep_far ?_ GW359.out _) | exact HK.out)) hk (.inl rfl)); have n2_ := Aside0.mk (hb); have n3_ := Aside0.mk (hi); clear BK359; clear HK; clear HB; clear HI0; have BK359 := n0_; have HK := n1_; have HB := n2_; have HI0 := n3_; clear n0_ n1_ n2_ n3_; (try clear hb); (try clear hb2); (try clear hk); (try clear hi)) | ((with_reducible refine gcl (f := 35) rfl ?_); refine gl_ (some 7) rfl rfl Try.func35 (by kernel_rfl) rfl #[.pointer (some ⟨g, 0, none⟩), .int .i64 24] rfl ar_ ?_; (with_reducible refine (codec_In_S.calls g t361 t362 24 t363 t364 t365 w0 _ ?side1 ?side2 A3.out).mono ?_); (case side1 => repeat (first | (with_reducible first | exact HI0.out | apply IsS108.alloc | apply IsS108.drewN | apply IsS108.drew | apply IsS108.set_0 | apply IsS108.set_1 | refine IsS108.far ?_ NB0_359.out _) | exact HI0.out)); (case side2 => repeat (first | (with_reducible first | exact HB.out | apply bal | apply bdn | apply bd1 | refine bst ?_ (IsS108.ge HI0.out) | refine bst ?_ GE359.out) | exact HB.out)); rintro e w9 ⟨rfl, hi, hb, hk⟩; refine ⟨_, rfl, ?_⟩; have n0_ := Aside0.mk (KeepBut.blk hk (g' := gb359) (o := .cells #[.int .i64 0, .string (⟨#[]⟩ : ByteArray), .int .i64 0] 51 (0, 0)) bk_ NB359_0.out (by simp)); have n1_ := Aside0.mk (KeepBut.trans (by repeat (first | (with_reducible first | exact HK.out | apply KeepBut.set_ | apply edn | apply edw | apply eal | refine keep_far ?_ GW359.out _) | exact HK.out)) hk (.inl rfl)); have n2_ := Aside0.mk (hb); have n3_ := Aside0.mk (hi); clear BK359; clear HK; clear HB; clear HI0; have BK359 := n0_; have HK := n1_; have HB := n2_; have HI0 := n3_; clear n0_ n1_ n2_ n3_; (try clear hb); (try clear hb2); (try clear hk); (try clear hi)) | ((with_reducible refine gcl (f := 65) rfl ?_); refine gl_ (some 9) rfl rfl Try.func65 (by kernel_rfl) rfl #[.pointer (some ⟨g, 0, none⟩)] rfl ar_ ?_; (with_reducible refine (codec_In_I.calls g t364 t365 t366 t367 t368 w0 _ ?side1 ?side2 A4.out).mono ?_); (case side1 => repeat (first | (with_reducible first | exact HI0.out | apply IsS108.alloc | apply IsS108.drewN | apply IsS108.drew | apply IsS108.set_0 | apply IsS108.set_1 | refine IsS108.far ?_ NB0_359.out _) | exact HI0.out)); (case side2 => repeat (first | (with_reducible first | exact HB.out | apply bal | apply bdn | apply bd1 | refine bst ?_ (IsS108.ge HI0.out) | refine bst ?_ GE359.out) | exact HB.out)); rintro e w10 ⟨rfl, hi, hb, hk⟩; refine ⟨_, rfl, ?_⟩; have n0_ := Aside0.mk (KeepBut.blk hk (g' := gb359) (o := .cells #[.int .i64 0, .string (⟨#[]⟩ : ByteArray), .int .i64 0] 51 (0, 0)) bk_ NB359_0.out (by simp)); have n1_ := Aside0.mk (KeepBut.trans (by repeat (first | (with_reducible first | exact HK.out | apply KeepBut.set_ | apply edn | apply edw | apply eal | refine keep_far ?_ GW359.out _) | exact HK.out)) hk (.inl rfl)); have n2_ := Aside0.mk (hb); have n3_ := Aside0.mk (hi); clear BK359; clear HK; clear HB; clear HI0; have BK359 := n0_; have HK := n1_; have HB := n2_; have HI0 := n3_; clear n0_ n1_ n2_ n3_; (try clear hb); (try clear hb2); (try clear hk); (try clear hi)) | ((with_reducible refine gds (N := 3) rfl ?_); refine bev ?hg (N := 3) ?hd (cs := #[.int .i64 0, .string (⟨#[]⟩ : ByteArray), .int .i64 0]) (t := 51) ?hr ?_; (case hd => rfl); (case hg => rfl); (case hr => first | (go_simp; done) | (go_simp; rfl)); intro gb369 hg w11 hbox hb; have n0_ := Aside0.mk (IsS108.below (by repeat (first | (with_reducible first | exact HI0.out | apply IsS108.alloc | apply IsS108.drewN | apply IsS108.drew | apply IsS108.set_0 | apply IsS108.set_1 | refine IsS108.far ?_ NB0_359.out _) | exact HI0.out)) hb); have n1_ := Aside0.mk (kbl (g := gb359) (o := .cells #[.int .i64 0, .string (⟨#[]⟩ : ByteArray), .int .i64 0] 51 (0, 0)) bk_ hb); have n2_ := Aside0.mk (KeepBut.trans (by repeat (first | (with_reducible first | exact HK.out | apply KeepBut.set_ | apply edn | apply edw | apply eal | refine keep_far ?_ GW359.out _) | exact HK.out)) (KeepBut.of_below hb g none) (.inl rfl)); have n3_ := Aside0.mk (bsp (by repeat (first | (with_reducible first | exact HB.out | apply bal | apply bdn | apply bd1 | refine bst ?_ (IsS108.ge HI0.out) | refine bst ?_ GE359.out) | exact HB.out)) hb); have n4_ := Aside0.mk (hbox); have n5_ := Aside0.mk ((by rw [hg]; exact (keep_size (w := w) (g := g) (row := none) (by repeat (first | (with_reducible first | exact HK.out | apply KeepBut.set_ | apply edn | apply edw | apply eal | refine keep_far ?_ GW359.out _) | exact HK.out))) : w.heap.size ≤ gb369)); have n6_ := Aside0.mk ((Nat.le_trans HW0.out (by rw [hg]; exact (keep_size (w := w) (g := g) (row := none) (by repeat (first | (with_reducible first | exact HK.out | apply KeepBut.set_ | apply edn | apply edw | apply eal | refine keep_far ?_ GW359.out _) | exact HK.out))) : w.heap.size ≤ gb369) : w0.heap.size ≤ gb369)); have n7_ := Aside0.mk ((by rw [hg]; exact Nat.ne_of_lt (blk_lt (g := gb359) (o := .cells #[.int .i64 0, .string (⟨#[]⟩ : ByteArray), .int .i64 0] 51 (0, 0)) bk_) : gb359 ≠ gb369)); have n8_ := Aside0.mk ((by rw [hg]; exact Nat.ne_of_gt (blk_lt (g := gb359) (o := .cells #[.int .i64 0, .string (⟨#[]⟩ : ByteArray), .int .i64 0] 51 (0, 0)) bk_) : gb369 ≠ gb359)); have n9_ := Aside0.mk ((by rw [hg]; exact Nat.ne_of_lt (IsS108.lt (show IsS108 w0 _ g t367 t368 from by repeat (first | (with_reducible first | exact HI0.out | apply IsS108.alloc | apply IsS108.drewN | apply IsS108.drew | apply IsS108.set_0 | apply IsS108.set_1 | refine IsS108.far ?_ NB0_359.out _) | exact HI0.out))) : g ≠ gb369)); have n10_ := Aside0.mk ((by rw [hg]; exact Nat.ne_of_gt (IsS108.lt (show IsS108 w0 _ g t367 t368 from by repeat (first | (with_reducible first | exact HI0.out | apply IsS108.alloc | apply IsS108.drewN | apply IsS108.drew | apply IsS108.set_0 | apply IsS108.set_1 | refine IsS108.far ?_ NB0_359.out _) | exact HI0.out))) : gb369 ≠ g)); clear HI0; clear BK359; clear HK; clear HB; have HI0 := n0_; have BK359 := n1_; have HK := n2_; have HB := n3_; have BK369 := n4_; have GW369 := n5_; have GE369 := n6_; have NB359_369 := n7_; have NB369_359 := n8_; have NB0_369 := n9_; have NB369_0 := n10_; clear n0_ n1_ n2_ n3_ n4_ n5_ n6_ n7_ n8_ n9_ n10_; clear hb hbox hg; have hnb12 := NB369_359.out; have hnc12 := NB359_369.out; have hnb13 := NB369_0.out; have hnc13 := NB0_369.out; have hcz14 := bc3 BK369.out) | ((with_reducible refine gcl (f := 66) rfl ?_); refine gl_ (some 12) rfl rfl Try.func66 (by kernel_rfl) rfl #[.pointer (some ⟨g, 0, none⟩)] rfl ar_ ?_; (with_reducible refine (codec_In_Err.calls g t367 t368 t370 t371 t372 w0 _ ?side1 ?side2 A5.out).mono ?_); (case side1 => repeat (first | (with_reducible first | exact HI0.out | apply IsS108.alloc | apply IsS108.drewN | apply IsS108.drew | apply IsS108.set_0 | apply IsS108.set_1 | refine IsS108.far ?_ NB0_359.out _ | refine IsS108.far ?_ NB0_369.out _) | exact HI0.out)); (case side2 => repeat (first | (with_reducible first | exact HB.out | apply bal | apply bdn | apply bd1 | refine bst ?_ (IsS108.ge HI0.out) | refine bst ?_ GE359.out | refine bst ?_ GE369.out) | exact HB.out)); rintro e w15 ⟨rfl, hi, hb, hk⟩; refine ⟨_, rfl, ?_⟩; have n0_ := Aside0.mk (KeepBut.blk hk (g' := gb359) (o := .cells #[.int .i64 0, .string (⟨#[]⟩ : ByteArray), .int .i64 0] 51 (0, 0)) bk_ NB359_0.out (by simp)); have n1_ := Aside0.mk (KeepBut.blk hk (g' := gb369) (o := .cells #[.int .i64 t360, .string t363, .int .i64 t366] 51 (0, 0)) bk_ NB369_0.out (by simp)); have n2_ := Aside0.mk (KeepBut.trans (by repeat (first | (with_reducible first | exact HK.out | apply KeepBut.set_ | apply edn | apply edw | apply eal | refine keep_far ?_ GW359.out _ | refine keep_far ?_ GW369.out _) | exact HK.out)) hk (.inl rfl)); have n3_ := Aside0.mk (hb); have n4_ := Aside0.mk (hi); clear BK359; clear BK369; clear HK; clear HB; clear HI0; have BK359 := n0_; have BK369 := n1_; have HK := n2_; have HB := n3_; have HI0 := n4_; clear n0_ n1_ n2_ n3_ n4_; (try clear hb); (try clear hb2); (try clear hk); (try clear hi)))
  (try simp only [Act.put, List.setIfInBounds_toArray, List.set_cons_zero, List.set_cons_succ])
  go_cut [] (fun wc => ∃ (kq : Nat) (x1000_5 : ByteArray) (x1001_5 : Int), Aside0 (method_ReadResult.j0 kq x1000_5 x1001_5 t360 t363 t366 = some (r1, r2, r3, r4, r5)) ∧ Aside0 (kq ≤ k) ∧ Aside0 (wc.heap[gb359]? = some (.cells #[.int .i64 0, .string (⟨#[]⟩ : ByteArray), .int .i64 0] 51 (0, 0))) ∧ Aside0 (wc.heap[gb369]? = some (.cells #[.int .i64 t360, .string t363, .int .i64 t366] 51 (0, 0))) ∧ Aside0 (IsS108 w0 wc g x1000_5 x1001_5) ∧ Aside0 (KeepBut w wc g none) ∧ Aside0 (Below w0.heap.size w0 wc))
  case first =>
    have H := HC6.out
    clear HC6
    by_cases c16 : t370 = 0
    rotate_left
    · rw [if_neg c16] at H
      have c16b0 : (t370 == 0) = false := beq_eq_false_iff_ne.mpr c16
      have c16b1 : (t370 != 0) = true := bne_iff_ne.mpr c16
      (first | rw [c16b0] | (simp only [i64_w, i32_w]; rw [c16b0]) | skip)
      have H' := Aside0.mk H
      clear H
      go_wp2
      go_meet
      case rel => exact ⟨_, (t371), (t372), H', ⟨by first | omega | exact Nat.le_refl _⟩, ⟨bk_⟩, ⟨bk_⟩, ⟨by repeat (first | (with_reducible first | exact HI0.out | apply IsS108.alloc | apply IsS108.drewN | apply IsS108.drew | apply IsS108.set_0 | apply IsS108.set_1 | refine IsS108.far ?_ NB0_359.out _ | refine IsS108.far ?_ NB0_369.out _) | exact HI0.out)⟩, ⟨by repeat (first | (with_reducible first | exact HK.out | apply KeepBut.set_ | apply edn | apply edw | apply eal | refine keep_far ?_ GW359.out _ | refine keep_far ?_ GW369.out _) | exact HK.out)⟩, ⟨by repeat (first | (with_reducible first | exact HB.out | apply bal | apply bdn | apply bd1 | refine bst ?_ (IsS108.ge HI0.out) | refine bst ?_ GE359.out | refine bst ?_ GE369.out) | exact HB.out)⟩⟩
    rw [if_pos c16] at H
    have c16b0 : (t370 == 0) = true := beq_iff_eq.mpr c16
    have c16b1 : (t370 != 0) = false := bne_eq_false_iff_eq.mpr c16
    clear c16
    (first | rw [c16b0] | (simp only [i64_w, i32_w]; rw [c16b0]) | skip)
    replace H := Option.bind_eq_some_iff.mp H
    obtain ⟨t373, A170, H⟩ := H
    replace H : ((PL.codec_In_Fail.f t371 t372 t373).bind fun bt374 => (method_ReadResult.j0 k bt374.1 bt374.2 t360 t363 t366)) = some (r1, r2, r3, r4, r5) := H
    have A17 := Aside0.mk A170
    clear A170
    replace H := Option.bind_eq_some_iff.mp H
    obtain ⟨⟨t374, t375⟩, A180, H⟩ := H
    replace H : (method_ReadResult.j0 k t374 t375 t360 t363 t366) = some (r1, r2, r3, r4, r5) := H
    have A18 := Aside0.mk A180
    clear A180
    have H' := Aside0.mk H
    clear H
    have hnb19 := NB369_359.out
    have hnc19 := NB359_369.out
    have hnb20 := NB369_0.out
    have hnc20 := NB0_369.out
    have hcz21 := bc3 BK369.out
    go_wp2_with (first | ((with_reducible refine gcl (f := 55) rfl ?_); refine gl_ (some 16) rfl rfl Try.func55 (by kernel_rfl) rfl #[.agg #[.int .i64 t360, .string t363, .int .i64 t366]] rfl ar_ ?_; (with_reducible refine (method_Result_Check.calls k t360 t363 t366 t373 _ A17.out).mono ?_); rintro e w22 ⟨rfl, hb⟩; refine ⟨_, rfl, ?_⟩; have n0_ := Aside0.mk (IsS108.below (by repeat (first | (with_reducible first | exact HI0.out | apply IsS108.alloc | apply IsS108.drewN | apply IsS108.drew | apply IsS108.set_0 | apply IsS108.set_1 | refine IsS108.far ?_ NB0_359.out _ | refine IsS108.far ?_ NB0_369.out _) | exact HI0.out)) hb); have n1_ := Aside0.mk (kbl (g := gb359) (o := .cells #[.int .i64 0, .string (⟨#[]⟩ : ByteArray), .int .i64 0] 51 (0, 0)) bk_ hb); have n2_ := Aside0.mk (kbl (g := gb369) (o := .cells #[.int .i64 t360, .string t363, .int .i64 t366] 51 (0, 0)) bk_ hb); have n3_ := Aside0.mk (KeepBut.trans (by repeat (first | (with_reducible first | exact HK.out | apply KeepBut.set_ | apply edn | apply edw | apply eal | refine keep_far ?_ GW359.out _ | refine keep_far ?_ GW369.out _) | exact HK.out)) (KeepBut.of_below hb g none) (.inl rfl)); have n4_ := Aside0.mk (bsp (by repeat (first | (with_reducible first | exact HB.out | apply bal | apply bdn | apply bd1 | refine bst ?_ (IsS108.ge HI0.out) | refine bst ?_ GE359.out | refine bst ?_ GE369.out) | exact HB.out)) hb); clear HI0; clear BK359; clear BK369; clear HK; clear HB; have HI0 := n0_; have BK359 := n1_; have BK369 := n2_; have HK := n3_; have HB := n4_; clear n0_ n1_ n2_ n3_ n4_; (try clear hb); (try clear hb2); (try clear hk); (try clear hi)) | ((with_reducible refine gcl (f := 34) rfl ?_); refine gl_ (some 17) rfl rfl Try.func34 (by kernel_rfl) rfl #[.pointer (some ⟨g, 0, none⟩), .int .i64 t373] rfl ar_ ?_; (with_reducible refine (PL.codec_In_Fail.calls g t371 t372 t373 t374 t375 w0 _ ?side1 ?side2 A18.out).mono ?_); (case side1 => repeat (first | (with_reducible first | exact HI0.out | apply IsS108.alloc | apply IsS108.drewN | apply IsS108.drew | apply IsS108.set_0 | apply IsS108.set_1 | refine IsS108.far ?_ NB0_359.out _ | refine IsS108.far ?_ NB0_369.out _) | exact HI0.out)); (case side2 => repeat (first | (with_reducible first | exact HB.out | apply bal | apply bdn | apply bd1 | refine bst ?_ (IsS108.ge HI0.out) | refine bst ?_ GE359.out | refine bst ?_ GE369.out) | exact HB.out)); rintro e w23 ⟨rfl, hi, hb, hk⟩; refine ⟨_, rfl, ?_⟩; have n0_ := Aside0.mk (KeepBut.blk hk (g' := gb359) (o := .cells #[.int .i64 0, .string (⟨#[]⟩ : ByteArray), .int .i64 0] 51 (0, 0)) bk_ NB359_0.out (by simp)); have n1_ := Aside0.mk (KeepBut.blk hk (g' := gb369) (o := .cells #[.int .i64 t360, .string t363, .int .i64 t366] 51 (0, 0)) bk_ NB369_0.out (by simp)); have n2_ := Aside0.mk (KeepBut.trans (by repeat (first | (with_reducible first | exact HK.out | apply KeepBut.set_ | apply edn | apply edw | apply eal | refine keep_far ?_ GW359.out _ | refine keep_far ?_ GW369.out _) | exact HK.out)) hk (.inl rfl)); have n3_ := Aside0.mk (hb); have n4_ := Aside0.mk (hi); clear BK359; clear BK369; clear HK; clear HB; clear HI0; have BK359 := n0_; have BK369 := n1_; have HK := n2_; have HB := n3_; have HI0 := n4_; clear n0_ n1_ n2_ n3_ n4_; (try clear hb); (try clear hb2); (try clear hk); (try clear hi)))
    go_meet
    case rel => exact ⟨_, (t374), (t375), H', ⟨by first | omega | exact Nat.le_refl _⟩, ⟨bk_⟩, ⟨bk_⟩, ⟨by repeat (first | (with_reducible first | exact HI0.out | apply IsS108.alloc | apply IsS108.drewN | apply IsS108.drew | apply IsS108.set_0 | apply IsS108.set_1 | refine IsS108.far ?_ NB0_359.out _ | refine IsS108.far ?_ NB0_369.out _) | exact HI0.out)⟩, ⟨by repeat (first | (with_reducible first | exact HK.out | apply KeepBut.set_ | apply edn | apply edw | apply eal | refine keep_far ?_ GW359.out _ | refine keep_far ?_ GW369.out _) | exact HK.out)⟩, ⟨by repeat (first | (with_reducible first | exact HB.out | apply bal | apply bdn | apply bd1 | refine bst ?_ (IsS108.ge HI0.out) | refine bst ?_ GE359.out | refine bst ?_ GE369.out) | exact HB.out)⟩⟩
  clear HC6
  try clear c1
  try clear c2
  try clear p2
  try clear c3
  try clear c5
  try clear c6
  try clear c12
  try clear c13
  try clear c16
  try clear c16b0
  try clear c16b1
  try clear c19
  try clear c20
  try clear hcz14
  try clear hcz21
  try clear hcz14
  try clear hcz21
  obtain ⟨kq, x1000_5, x1001_5, HA, HJ5, BK359, BK369, HI0, HK, HB⟩ := hcut
  cases kq with
  | zero => exact absurd HA.out (by simp [method_ReadResult.j0])
  | succ kj5 =>
    have H := HA.out
    clear HA
    simp only [method_ReadResult.j0] at H
    replace H := Option.bind_eq_some_iff.mp H
    obtain ⟨⟨t376, t377, t378⟩, A240, H⟩ := H
    replace H : (if t376 = 0 then (some (t360, t363, t366, t377, t378)) else (some (0, (⟨#[]⟩ : ByteArray), 0, t377, t378))) = some (r1, r2, r3, r4, r5) := H
    have A24 := Aside0.mk A240
    clear A240
    have HS25 := Aside0.mk H
    clear H
    go_upto_if 20 with (first | ((with_reducible refine gcl (f := 66) rfl ?_); refine gl_ (some 19) rfl rfl Try.func66 (by kernel_rfl) rfl #[.pointer (some ⟨g, 0, none⟩)] rfl ar_ ?_; (with_reducible refine (codec_In_Err.calls g x1000_5 x1001_5 t376 t377 t378 w0 _ ?side1 ?side2 A24.out).mono ?_); (case side1 => repeat (first | (with_reducible first | exact HI0.out | apply IsS108.alloc | apply IsS108.drewN | apply IsS108.drew | apply IsS108.set_0 | apply IsS108.set_1 | refine IsS108.far ?_ NB0_359.out _ | refine IsS108.far ?_ NB0_369.out _) | exact HI0.out)); (case side2 => repeat (first | (with_reducible first | exact HB.out | apply bal | apply bdn | apply bd1 | refine bst ?_ (IsS108.ge HI0.out) | refine bst ?_ GE359.out | refine bst ?_ GE369.out) | exact HB.out)); rintro e w26 ⟨rfl, hi, hb, hk⟩; refine ⟨_, rfl, ?_⟩; have n0_ := Aside0.mk (KeepBut.blk hk (g' := gb359) (o := .cells #[.int .i64 0, .string (⟨#[]⟩ : ByteArray), .int .i64 0] 51 (0, 0)) bk_ NB359_0.out (by simp)); have n1_ := Aside0.mk (KeepBut.blk hk (g' := gb369) (o := .cells #[.int .i64 t360, .string t363, .int .i64 t366] 51 (0, 0)) bk_ NB369_0.out (by simp)); have n2_ := Aside0.mk (KeepBut.trans (by repeat (first | (with_reducible first | exact HK.out | apply KeepBut.set_ | apply edn | apply edw | apply eal | refine keep_far ?_ GW359.out _ | refine keep_far ?_ GW369.out _) | exact HK.out)) hk (.inl rfl)); have n3_ := Aside0.mk (hb); have n4_ := Aside0.mk (hi); clear BK359; clear BK369; clear HK; clear HB; clear HI0; have BK359 := n0_; have BK369 := n1_; have HK := n2_; have HB := n3_; have HI0 := n4_; clear n0_ n1_ n2_ n3_ n4_; (try clear hb); (try clear hb2); (try clear hk); (try clear hi)))
    (try simp only [Act.put, List.setIfInBounds_toArray, List.set_cons_zero, List.set_cons_succ])
    have H := HS25.out
    clear HS25
    by_cases c27 : t376 = 0
    rotate_left
    · rw [if_neg c27] at H
      have c27b0 : (t376 == 0) = false := beq_eq_false_iff_ne.mpr c27
      have c27b1 : (t376 != 0) = true := bne_iff_ne.mpr c27
      (first | rw [c27b0] | (simp only [i64_w, i32_w]; rw [c27b0]) | skip)
      simp only [Option.some.injEq, Prod.mk.injEq] at H
      obtain ⟨rfl, rfl, rfl, rfl, rfl⟩ := H
      have hnb33 := NB359_369.out
      have hnc33 := NB369_359.out
      have hnb34 := NB359_0.out
      have hnc34 := NB0_359.out
      have hcz35 := bc3 BK359.out
      go_wp2
      refine bodyPost_ret (results_cell_row rfl _ _ gb359 51 #[.int .i64 0, .string (⟨#[]⟩ : ByteArray), .int .i64 0] (0, 0) _ rfl bk_ Try.underlying51 rfl (by kernel_rfl)) rfl ?_
      exact ⟨er_, by repeat (first | (with_reducible first | exact HI0.out | apply IsS108.alloc | apply IsS108.drewN | apply IsS108.drew | apply IsS108.set_0 | apply IsS108.set_1 | refine IsS108.far ?_ NB0_359.out _ | refine IsS108.far ?_ NB0_369.out _) | exact HI0.out), by repeat (first | (with_reducible first | exact HB.out | apply bal | apply bdn | apply bd1 | refine bst ?_ (IsS108.ge HI0.out) | refine bst ?_ GE359.out | refine bst ?_ GE369.out) | exact HB.out), by repeat (first | (with_reducible first | exact HK.out | apply KeepBut.set_ | apply edn | apply edw | apply eal | refine keep_far ?_ GW359.out _ | refine keep_far ?_ GW369.out _) | exact HK.out)⟩
    rw [if_pos c27] at H
    have c27b0 : (t376 == 0) = true := beq_iff_eq.mpr c27
    have c27b1 : (t376 != 0) = false := bne_eq_false_iff_eq.mpr c27
    clear c27
    (first | rw [c27b0] | (simp only [i64_w, i32_w]; rw [c27b0]) | skip)
    simp only [Option.some.injEq, Prod.mk.injEq] at H
    obtain ⟨rfl, rfl, rfl, rfl, rfl⟩ := H
    have hnb28 := NB369_359.out
    have hnc28 := NB359_369.out
    have hnb29 := NB369_0.out
    have hnc29 := NB0_369.out
    have hcz30 := bc3 BK369.out
    have hnb31 := NB359_0.out
    have hnc31 := NB0_359.out
    have hcz32 := bc3 BK359.out
    go_wp2
    refine bodyPost_ret (results_cell_row rfl _ _ gb359 51 #[.int .i64 t360, .string t363, .int .i64 t366] (0, 0) _ rfl bk_ Try.underlying51 rfl (by kernel_rfl)) rfl ?_
    exact ⟨er_, by repeat (first | (with_reducible first | exact HI0.out | apply IsS108.alloc | apply IsS108.drewN | apply IsS108.drew | apply IsS108.set_0 | apply IsS108.set_1 | refine IsS108.far ?_ NB0_359.out _ | refine IsS108.far ?_ NB0_369.out _) | exact HI0.out), by repeat (first | (with_reducible first | exact HB.out | apply bal | apply bdn | apply bd1 | refine bst ?_ (IsS108.ge HI0.out) | refine bst ?_ GE359.out | refine bst ?_ GE369.out) | exact HB.out), by repeat (first | (with_reducible first | exact HK.out | apply KeepBut.set_ | apply edn | apply edw | apply eal | refine keep_far ?_ GW359.out _ | refine keep_far ?_ GW369.out _) | exact HK.out)⟩
def frame_ParseReply.j0 : Nat → ByteArray → Int → Int → Int → Int → ByteArray → Int → Option (Int × Int × Int × ByteArray × Int × Int)
  | 0, _, _, _, _, _, _, _ => none
  | k + 1, x385000, x385001, x392000, x392001, x392002, x392003, x392004 => (codec_In_End.f x385000 x385001).bind fun bt400 => (if bt400.1 = 0 then (some (x392000, x392001, x392002, x392003, x392004, 0)) else (some (0, 0, 0, (⟨#[]⟩ : ByteArray), 0, bt400.1)))
def frame_ParseReply.f (k : Nat) (a0 : ByteArray) : Option (Int × Int × Int × ByteArray × Int × Int) := (frame_open.f k a0).bind fun bt380 => (if bt380.2 = 0 then ((codec_Read.f bt380.1).bind fun bt382 => ((codec_In_N.f bt382.1 bt382.2 19).bind fun bt385 => ((codec_In_N.f bt385.2.1 bt385.2.2 1099511627776).bind fun bt388 => ((codec_In_Len.f bt388.2.1 bt388.2.2).bind fun bt392 => (if bt392.1 > 0 then ((method_ReadResult.f k bt392.2.1 bt392.2.2).bind fun bt395 => (frame_ParseReply.j0 k bt395.2.2.2.1 bt395.2.2.2.2 bt385.1 bt388.1 bt395.1 bt395.2.1 bt395.2.2.1)) else (frame_ParseReply.j0 k bt392.2.1 bt392.2.2 bt385.1 bt388.1 0 (⟨#[]⟩ : ByteArray) 0)))))) else (some (0, 0, 0, (⟨#[]⟩ : ByteArray), 0, bt380.2)))
set_option maxHeartbeats 2000000 in
set_option maxRecDepth 100000 in
theorem frame_ParseReply.calls (k : Nat) (a0 : ByteArray) (r1 : Int) (r2 : Int) (r3 : Int) (r4 : ByteArray) (r5 : Int) (r6 : Int) (w : World) (h : frame_ParseReply.f k a0 = some (r1, r2, r3, r4, r5, r6)) :
    Calls Try.prog 20 #[.string a0] w fun e w' => e = .returned (.tuple #[.agg #[.int .i64 r1, .int .i64 r2, .int .i64 r3, .string r4, .int .i64 r5], .int .i64 r6]) ∧ Below w.heap.size w w' := by
  have hu53 := Try.underlying53
  have hu51 := Try.underlying51
  have HB := Aside0.mk (Below.refl w.heap.size w)
  have H : ((frame_open.f k a0).bind fun bt380 => (if bt380.2 = 0 then ((codec_Read.f bt380.1).bind fun bt382 => ((codec_In_N.f bt382.1 bt382.2 19).bind fun bt385 => ((codec_In_N.f bt385.2.1 bt385.2.2 1099511627776).bind fun bt388 => ((codec_In_Len.f bt388.2.1 bt388.2.2).bind fun bt392 => (if bt392.1 > 0 then ((method_ReadResult.f k bt392.2.1 bt392.2.2).bind fun bt395 => (frame_ParseReply.j0 k bt395.2.2.2.1 bt395.2.2.2.2 bt385.1 bt388.1 bt395.1 bt395.2.1 bt395.2.2.1)) else (frame_ParseReply.j0 k bt392.2.1 bt392.2.2 bt385.1 bt388.1 0 (⟨#[]⟩ : ByteArray) 0)))))) else (some (0, 0, 0, (⟨#[]⟩ : ByteArray), 0, bt380.2)))) = some (r1, r2, r3, r4, r5, r6) := h
  clear h
  replace H := Option.bind_eq_some_iff.mp H
  obtain ⟨⟨t380, t381⟩, A20, H⟩ := H
  replace H : (if t381 = 0 then ((codec_Read.f t380).bind fun bt382 => ((codec_In_N.f bt382.1 bt382.2 19).bind fun bt385 => ((codec_In_N.f bt385.2.1 bt385.2.2 1099511627776).bind fun bt388 => ((codec_In_Len.f bt388.2.1 bt388.2.2).bind fun bt392 => (if bt392.1 > 0 then ((method_ReadResult.f k bt392.2.1 bt392.2.2).bind fun bt395 => (frame_ParseReply.j0 k bt395.2.2.2.1 bt395.2.2.2.2 bt385.1 bt388.1 bt395.1 bt395.2.1 bt395.2.2.1)) else (frame_ParseReply.j0 k bt392.2.1 bt392.2.2 bt385.1 bt388.1 0 (⟨#[]⟩ : ByteArray) 0)))))) else (some (0, 0, 0, (⟨#[]⟩ : ByteArray), 0, t381))) = some (r1, r2, r3, r4, r5, r6) := H
  have A2 := Aside0.mk A20
  clear A20
  have HS3 := Aside0.mk H
  clear H
  go_enter Try.func20, Try.ntmps20
  go_upto_if 15 with (first | ((with_reducible refine gds (N := 2) rfl ?_); refine bev ?hg (N := 2) ?hd (cs := #[.int .i64 0, .int .i64 0, .int .i64 0, .string (⟨#[]⟩ : ByteArray), .int .i64 0]) (t := 53) ?hr ?_; (case hd => rfl); (case hg => rfl); (case hr => first | (go_simp; done) | (go_simp; rfl)); intro gb379 hg w4 hbox hb; have n0_ := Aside0.mk (bsp bl_ hb); have n1_ := Aside0.mk (hbox); have n2_ := Aside0.mk ((by rw [hg]; exact bsz bl_ : w.heap.size ≤ gb379)); have n3_ := Aside0.mk ((by rw [hg]; exact bsz bl_ : w.heap.size ≤ gb379)); clear HB; have HB := n0_; have BK379 := n1_; have GW379 := n2_; have GE379 := n3_; clear n0_ n1_ n2_ n3_; clear hb hbox hg) | ((with_reducible refine gcl (f := 31) rfl ?_); refine gl_ (some 11) rfl rfl Try.func31 (by kernel_rfl) rfl #[.string a0] rfl ar_ ?_; (with_reducible refine (frame_open.calls k a0 t380 t381 _ A2.out).mono ?_); rintro e w5 ⟨rfl, hb⟩; refine ⟨_, rfl, ?_⟩; have n0_ := Aside0.mk (kbl (g := gb379) (o := .cells #[.int .i64 0, .int .i64 0, .int .i64 0, .string (⟨#[]⟩ : ByteArray), .int .i64 0] 53 (0, 0)) bk_ hb); have n1_ := Aside0.mk (bsp bl_ hb); clear BK379; clear HB; have BK379 := n0_; have HB := n1_; clear n0_ n1_; (try clear hb); (try clear hb2); (try clear hk); (try clear hi)))
  (try simp only [Act.put, List.setIfInBounds_toArray, List.set_cons_zero, List.set_cons_succ])
  have H := HS3.out
  clear HS3
  by_cases c6 : t381 = 0
  rotate_left
  · rw [if_neg c6] at H
    have c6b0 : (t381 == 0) = false := beq_eq_false_iff_ne.mpr c6
    have c6b1 : (t381 != 0) = true := bne_iff_ne.mpr c6
    (first | rw [c6b0] | (simp only [i64_w, i32_w]; rw [c6b0]) | skip)
    simp only [Option.some.injEq, Prod.mk.injEq] at H
    obtain ⟨rfl, rfl, rfl, rfl, rfl, rfl⟩ := H
    have hcz38 := bc5 BK379.out
    go_wp2
    refine bodyPost_ret (results_ct rfl _ _ gb379 53 #[.int .i64 0, .int .i64 0, .int .i64 0, .string (⟨#[]⟩ : ByteArray), .int .i64 0] (0, 0) _ rfl bk_ Try.underlying53 rfl (by kernel_rfl)) rfl ?_
    exact ⟨er_, bl_⟩
  rw [if_pos c6] at H
  have c6b0 : (t381 == 0) = true := beq_iff_eq.mpr c6
  have c6b1 : (t381 != 0) = false := bne_eq_false_iff_eq.mpr c6
  clear c6
  (first | rw [c6b0] | (simp only [i64_w, i32_w]; rw [c6b0]) | skip)
  replace H := Option.bind_eq_some_iff.mp H
  obtain ⟨⟨t382, t383⟩, A70, H⟩ := H
  replace H : ((codec_In_N.f t382 t383 19).bind fun bt385 => ((codec_In_N.f bt385.2.1 bt385.2.2 1099511627776).bind fun bt388 => ((codec_In_Len.f bt388.2.1 bt388.2.2).bind fun bt392 => (if bt392.1 > 0 then ((method_ReadResult.f k bt392.2.1 bt392.2.2).bind fun bt395 => (frame_ParseReply.j0 k bt395.2.2.2.1 bt395.2.2.2.2 bt385.1 bt388.1 bt395.1 bt395.2.1 bt395.2.2.1)) else (frame_ParseReply.j0 k bt392.2.1 bt392.2.2 bt385.1 bt388.1 0 (⟨#[]⟩ : ByteArray) 0))))) = some (r1, r2, r3, r4, r5, r6) := H
  have A7 := Aside0.mk A70
  clear A70
  replace H := Option.bind_eq_some_iff.mp H
  obtain ⟨⟨t385, t386, t387⟩, A80, H⟩ := H
  replace H : ((codec_In_N.f t386 t387 1099511627776).bind fun bt388 => ((codec_In_Len.f bt388.2.1 bt388.2.2).bind fun bt392 => (if bt392.1 > 0 then ((method_ReadResult.f k bt392.2.1 bt392.2.2).bind fun bt395 => (frame_ParseReply.j0 k bt395.2.2.2.1 bt395.2.2.2.2 t385 bt388.1 bt395.1 bt395.2.1 bt395.2.2.1)) else (frame_ParseReply.j0 k bt392.2.1 bt392.2.2 t385 bt388.1 0 (⟨#[]⟩ : ByteArray) 0)))) = some (r1, r2, r3, r4, r5, r6) := H
  have A8 := Aside0.mk A80
  clear A80
  replace H := Option.bind_eq_some_iff.mp H
  obtain ⟨⟨t388, t389, t390⟩, A90, H⟩ := H
  replace H : ((codec_In_Len.f t389 t390).bind fun bt392 => (if bt392.1 > 0 then ((method_ReadResult.f k bt392.2.1 bt392.2.2).bind fun bt395 => (frame_ParseReply.j0 k bt395.2.2.2.1 bt395.2.2.2.2 t385 t388 bt395.1 bt395.2.1 bt395.2.2.1)) else (frame_ParseReply.j0 k bt392.2.1 bt392.2.2 t385 t388 0 (⟨#[]⟩ : ByteArray) 0))) = some (r1, r2, r3, r4, r5, r6) := H
  have A9 := Aside0.mk A90
  clear A90
  replace H := Option.bind_eq_some_iff.mp H
  obtain ⟨⟨t392, t393, t394⟩, A100, H⟩ := H
  replace H : (if t392 > 0 then ((method_ReadResult.f k t393 t394).bind fun bt395 => (frame_ParseReply.j0 k bt395.2.2.2.1 bt395.2.2.2.2 t385 t388 bt395.1 bt395.2.1 bt395.2.2.1)) else (frame_ParseReply.j0 k t393 t394 t385 t388 0 (⟨#[]⟩ : ByteArray) 0)) = some (r1, r2, r3, r4, r5, r6) := H
  have A10 := Aside0.mk A100
  clear A100
  have HC11 := Aside0.mk H
  clear H
  go_upto_if 27 with (first | ((with_reducible refine gcl (f := 32) rfl ?_); refine gl_ (some 19) rfl rfl Try.func32 (by kernel_rfl) rfl #[.string t380] rfl ar_ ?_; (with_reducible refine (codec_Read.calls t380 t382 t383 w _ ?side1 A7.out).mono ?_); (case side1 => repeat (first | (with_reducible first | exact HB.out | apply bal | apply bdn | apply bd1 | refine bst ?_ GE379.out) | exact HB.out)); rintro e w12 ⟨g384, rfl, hi, hb, hb2⟩; refine ⟨_, rfl, ?_⟩; have n0_ := Aside0.mk (kbl (g := gb379) (o := .cells #[.int .i64 0, .int .i64 0, .int .i64 0, .string (⟨#[]⟩ : ByteArray), .int .i64 0] 53 (0, 0)) bk_ hb2); have n1_ := Aside0.mk (hb); have n2_ := Aside0.mk (hi); have n3_ := Aside0.mk (IsS108.ne_blk hi (kbl (g := gb379) (o := .cells #[.int .i64 0, .int .i64 0, .int .i64 0, .string (⟨#[]⟩ : ByteArray), .int .i64 0] 53 (0, 0)) bk_ hb2) (by decide)); have n4_ := Aside0.mk (Ne.symm (IsS108.ne_blk hi (kbl (g := gb379) (o := .cells #[.int .i64 0, .int .i64 0, .int .i64 0, .string (⟨#[]⟩ : ByteArray), .int .i64 0] 53 (0, 0)) bk_ hb2) (by decide))); clear BK379; clear HB; have BK379 := n0_; have HB := n1_; have HI384 := n2_; have NB384_379 := n3_; have NB379_384 := n4_; clear n0_ n1_ n2_ n3_ n4_; (try clear hb); (try clear hb2); (try clear hk); (try clear hi)) | ((with_reducible refine gcl (f := 33) rfl ?_); refine gl_ (some 21) rfl rfl Try.func33 (by kernel_rfl) rfl #[.pointer (some ⟨g384, 0, none⟩), .int .i64 19] rfl ar_ ?_; (with_reducible refine (codec_In_N.calls g384 t382 t383 19 t385 t386 t387 w _ ?side1 ?side2 A8.out).mono ?_); (case side1 => repeat (first | (with_reducible first | exact HI384.out | apply IsS108.alloc | apply IsS108.drewN | apply IsS108.drew | apply IsS108.set_0 | apply IsS108.set_1 | refine IsS108.far ?_ NB384_379.out _) | exact HI384.out)); (case side2 => repeat (first | (with_reducible first | exact HB.out | apply bal | apply bdn | apply bd1 | refine bst ?_ (IsS108.ge HI384.out) | refine bst ?_ GE379.out) | exact HB.out)); rintro e w13 ⟨rfl, hi, hb, hk⟩; refine ⟨_, rfl, ?_⟩; have n0_ := Aside0.mk (KeepBut.blk hk (g' := gb379) (o := .cells #[.int .i64 0, .int .i64 0, .int .i64 0, .string (⟨#[]⟩ : ByteArray), .int .i64 0] 53 (0, 0)) bk_ NB379_384.out (by simp)); have n1_ := Aside0.mk (hb); have n2_ := Aside0.mk (hi); clear BK379; clear HB; clear HI384; have BK379 := n0_; have HB := n1_; have HI384 := n2_; clear n0_ n1_ n2_; (try clear hb); (try clear hb2); (try clear hk); (try clear hi)) | ((with_reducible refine gcl (f := 33) rfl ?_); refine gl_ (some 23) rfl rfl Try.func33 (by kernel_rfl) rfl #[.pointer (some ⟨g384, 0, none⟩), .int .i64 1099511627776] rfl ar_ ?_; (with_reducible refine (codec_In_N.calls g384 t386 t387 1099511627776 t388 t389 t390 w _ ?side1 ?side2 A9.out).mono ?_); (case side1 => repeat (first | (with_reducible first | exact HI384.out | apply IsS108.alloc | apply IsS108.drewN | apply IsS108.drew | apply IsS108.set_0 | apply IsS108.set_1 | refine IsS108.far ?_ NB384_379.out _) | exact HI384.out)); (case side2 => repeat (first | (with_reducible first | exact HB.out | apply bal | apply bdn | apply bd1 | refine bst ?_ (IsS108.ge HI384.out) | refine bst ?_ GE379.out) | exact HB.out)); rintro e w14 ⟨rfl, hi, hb, hk⟩; refine ⟨_, rfl, ?_⟩; have n0_ := Aside0.mk (KeepBut.blk hk (g' := gb379) (o := .cells #[.int .i64 0, .int .i64 0, .int .i64 0, .string (⟨#[]⟩ : ByteArray), .int .i64 0] 53 (0, 0)) bk_ NB379_384.out (by simp)); have n1_ := Aside0.mk (hb); have n2_ := Aside0.mk (hi); clear BK379; clear HB; clear HI384; have BK379 := n0_; have HB := n1_; have HI384 := n2_; clear n0_ n1_ n2_; (try clear hb); (try clear hb2); (try clear hk); (try clear hi)) | ((with_reducible refine gds (N := 7) rfl ?_); refine bev ?hg (N := 7) ?hd (cs := #[.int .i64 0, .int .i64 0, .int .i64 0, .string (⟨#[]⟩ : ByteArray), .int .i64 0]) (t := 53) ?hr ?_; (case hd => rfl); (case hg => rfl); (case hr => first | (go_simp; done) | (go_simp; rfl)); intro gb391 hg w15 hbox hb; have n0_ := Aside0.mk (kbl (g := gb379) (o := .cells #[.int .i64 0, .int .i64 0, .int .i64 0, .string (⟨#[]⟩ : ByteArray), .int .i64 0] 53 (0, 0)) bk_ hb); have n1_ := Aside0.mk (IsS108.below (by repeat (first | (with_reducible first | exact HI384.out | apply IsS108.alloc | apply IsS108.drewN | apply IsS108.drew | apply IsS108.set_0 | apply IsS108.set_1 | refine IsS108.far ?_ NB384_379.out _) | exact HI384.out)) hb); have n2_ := Aside0.mk (bsp (by repeat (first | (with_reducible first | exact HB.out | apply bal | apply bdn | apply bd1 | refine bst ?_ (IsS108.ge HI384.out) | refine bst ?_ GE379.out) | exact HB.out)) hb); have n3_ := Aside0.mk (hbox); have n4_ := Aside0.mk ((by rw [hg]; exact (bsz (by repeat (first | (with_reducible first | exact HB.out | apply bal | apply bdn | apply bd1 | refine bst ?_ (IsS108.ge HI384.out) | refine bst ?_ GE379.out) | exact HB.out))) : w.heap.size ≤ gb391)); have n5_ := Aside0.mk ((by rw [hg]; exact (bsz (by repeat (first | (with_reducible first | exact HB.out | apply bal | apply bdn | apply bd1 | refine bst ?_ (IsS108.ge HI384.out) | refine bst ?_ GE379.out) | exact HB.out))) : w.heap.size ≤ gb391)); have n6_ := Aside0.mk ((by rw [hg]; exact Nat.ne_of_lt (blk_lt (g := gb379) (o := .cells #[.int .i64 0, .int .i64 0, .int .i64 0, .string (⟨#[]⟩ : ByteArray), .int .i64 0] 53 (0, 0)) bk_) : gb379 ≠ gb391)); have n7_ := Aside0.mk ((by rw [hg]; exact Nat.ne_of_gt (blk_lt (g := gb379) (o := .cells #[.int .i64 0, .int .i64 0, .int .i64 0, .string (⟨#[]⟩ : ByteArray), .int .i64 0] 53 (0, 0)) bk_) : gb391 ≠ gb379)); have n8_ := Aside0.mk ((by rw [hg]; exact Nat.ne_of_lt (IsS108.lt (show IsS108 w _ g384 t389 t390 from by repeat (first | (with_reducible first | exact HI384.out | apply IsS108.alloc | apply IsS108.drewN | apply IsS108.drew | apply IsS108.set_0 | apply IsS108.set_1 | refine IsS108.far ?_ NB384_379.out _) | exact HI384.out))) : g384 ≠ gb391)); have n9_ := Aside0.mk ((by rw [hg]; exact Nat.ne_of_gt (IsS108.lt (show IsS108 w _ g384 t389 t390 from by repeat (first | (with_reducible first | exact HI384.out | apply IsS108.alloc | apply IsS108.drewN | apply IsS108.drew | apply IsS108.set_0 | apply IsS108.set_1 | refine IsS108.far ?_ NB384_379.out _) | exact HI384.out))) : gb391 ≠ g384)); clear BK379; clear HI384; clear HB; have BK379 := n0_; have HI384 := n1_; have HB := n2_; have BK391 := n3_; have GW391 := n4_; have GE391 := n5_; have NB379_391 := n6_; have NB391_379 := n7_; have NB384_391 := n8_; have NB391_384 := n9_; clear n0_ n1_ n2_ n3_ n4_ n5_ n6_ n7_ n8_ n9_; clear hb hbox hg; have hnb16 := NB391_379.out; have hnc16 := NB379_391.out; have hnb17 := NB391_384.out; have hnc17 := NB384_391.out; have hcz18 := bc5 BK391.out) | ((with_reducible refine gcl (f := 51) rfl ?_); refine gl_ (some 26) rfl rfl Try.func51 (by kernel_rfl) rfl #[.pointer (some ⟨g384, 0, none⟩)] rfl ar_ ?_; (with_reducible refine (codec_In_Len.calls g384 t389 t390 t392 t393 t394 w _ ?side1 ?side2 A10.out).mono ?_); (case side1 => repeat (first | (with_reducible first | exact HI384.out | apply IsS108.alloc | apply IsS108.drewN | apply IsS108.drew | apply IsS108.set_0 | apply IsS108.set_1 | refine IsS108.far ?_ NB384_379.out _ | refine IsS108.far ?_ NB384_391.out _) | exact HI384.out)); (case side2 => repeat (first | (with_reducible first | exact HB.out | apply bal | apply bdn | apply bd1 | refine bst ?_ (IsS108.ge HI384.out) | refine bst ?_ GE379.out | refine bst ?_ GE391.out) | exact HB.out)); rintro e w19 ⟨rfl, hi, hb, hk⟩; refine ⟨_, rfl, ?_⟩; have n0_ := Aside0.mk (KeepBut.blk hk (g' := gb379) (o := .cells #[.int .i64 0, .int .i64 0, .int .i64 0, .string (⟨#[]⟩ : ByteArray), .int .i64 0] 53 (0, 0)) bk_ NB379_384.out (by simp)); have n1_ := Aside0.mk (KeepBut.blk hk (g' := gb391) (o := .cells #[.int .i64 t385, .int .i64 t388, .int .i64 0, .string (⟨#[]⟩ : ByteArray), .int .i64 0] 53 (0, 0)) bk_ NB391_384.out (by simp)); have n2_ := Aside0.mk (hb); have n3_ := Aside0.mk (hi); clear BK379; clear BK391; clear HB; clear HI384; have BK379 := n0_; have BK391 := n1_; have HB := n2_; have HI384 := n3_; clear n0_ n1_ n2_ n3_; (try clear hb); (try clear hb2); (try clear hk); (try clear hi)))
  (try simp only [Act.put, List.setIfInBounds_toArray, List.set_cons_zero, List.set_cons_succ])
  go_cut [] (fun wc => ∃ (kq : Nat) (x385000_10 : ByteArray) (x385001_10 : Int) (x392002_10 : Int) (x392003_10 : ByteArray) (x392004_10 : Int), Aside0 (frame_ParseReply.j0 kq x385000_10 x385001_10 t385 t388 x392002_10 x392003_10 x392004_10 = some (r1, r2, r3, r4, r5, r6)) ∧ Aside0 (kq ≤ k) ∧ Aside0 (wc.heap[gb379]? = some (.cells #[.int .i64 0, .int .i64 0, .int .i64 0, .string (⟨#[]⟩ : ByteArray), .int .i64 0] 53 (0, 0))) ∧ Aside0 (wc.heap[gb391]? = some (.cells #[.int .i64 t385, .int .i64 t388, .int .i64 x392002_10, .string x392003_10, .int .i64 x392004_10] 53 (0, 0))) ∧ Aside0 (IsS108 w wc g384 x385000_10 x385001_10) ∧ Aside0 (Below w.heap.size w wc))
  case first =>
    have H := HC11.out
    clear HC11
    by_cases c20 : t392 > 0
    rotate_left
    · rw [if_neg c20] at H
      have c20b0 : decide (0 < t392) = false := decide_eq_false c20
      clear c20
      (first | rw [c20b0] | (simp only [i64_w, i32_w]; rw [c20b0]) | skip)
      have H' := Aside0.mk H
      clear H
      go_wp2
      go_meet
      case rel => exact ⟨_, (t393), (t394), (0), ((⟨#[]⟩ : ByteArray)), (0), H', ⟨by first | omega | exact Nat.le_refl _⟩, ⟨bk_⟩, ⟨bk_⟩, ⟨by repeat (first | (with_reducible first | exact HI384.out | apply IsS108.alloc | apply IsS108.drewN | apply IsS108.drew | apply IsS108.set_0 | apply IsS108.set_1 | refine IsS108.far ?_ NB384_379.out _ | refine IsS108.far ?_ NB384_391.out _) | exact HI384.out)⟩, ⟨by repeat (first | (with_reducible first | exact HB.out | apply bal | apply bdn | apply bd1 | refine bst ?_ (IsS108.ge HI384.out) | refine bst ?_ GE379.out | refine bst ?_ GE391.out) | exact HB.out)⟩⟩
    rw [if_pos c20] at H
    have c20b0 : decide (0 < t392) = true := decide_eq_true c20
    clear c20
    (first | rw [c20b0] | (simp only [i64_w, i32_w]; rw [c20b0]) | skip)
    replace H := Option.bind_eq_some_iff.mp H
    obtain ⟨⟨t395, t396, t397, t398, t399⟩, A210, H⟩ := H
    replace H : (frame_ParseReply.j0 k t398 t399 t385 t388 t395 t396 t397) = some (r1, r2, r3, r4, r5, r6) := H
    have A21 := Aside0.mk A210
    clear A210
    have H' := Aside0.mk H
    clear H
    go_wp2_with (first | ((with_reducible refine gcl (f := 52) rfl ?_); refine gl_ (some 29) rfl rfl Try.func52 (by kernel_rfl) rfl #[.pointer (some ⟨g384, 0, none⟩)] rfl ar_ ?_; (with_reducible refine (method_ReadResult.calls k g384 t393 t394 t395 t396 t397 t398 t399 w _ ?side1 ?side2 A21.out).mono ?_); (case side1 => repeat (first | (with_reducible first | exact HI384.out | apply IsS108.alloc | apply IsS108.drewN | apply IsS108.drew | apply IsS108.set_0 | apply IsS108.set_1 | refine IsS108.far ?_ NB384_379.out _ | refine IsS108.far ?_ NB384_391.out _) | exact HI384.out)); (case side2 => repeat (first | (with_reducible first | exact HB.out | apply bal | apply bdn | apply bd1 | refine bst ?_ (IsS108.ge HI384.out) | refine bst ?_ GE379.out | refine bst ?_ GE391.out) | exact HB.out)); rintro e w22 ⟨rfl, hi, hb, hk⟩; refine ⟨_, rfl, ?_⟩; have n0_ := Aside0.mk (KeepBut.blk hk (g' := gb379) (o := .cells #[.int .i64 0, .int .i64 0, .int .i64 0, .string (⟨#[]⟩ : ByteArray), .int .i64 0] 53 (0, 0)) bk_ NB379_384.out (by simp)); have n1_ := Aside0.mk (KeepBut.blk hk (g' := gb391) (o := .cells #[.int .i64 t385, .int .i64 t388, .int .i64 0, .string (⟨#[]⟩ : ByteArray), .int .i64 0] 53 (0, 0)) bk_ NB391_384.out (by simp)); have n2_ := Aside0.mk (hb); have n3_ := Aside0.mk (hi); clear BK379; clear BK391; clear HB; clear HI384; have BK379 := n0_; have BK391 := n1_; have HB := n2_; have HI384 := n3_; clear n0_ n1_ n2_ n3_; (try clear hb); (try clear hb2); (try clear hk); (try clear hi); have hnb23 := NB391_379.out; have hnc23 := NB379_391.out; have hnb24 := NB391_384.out; have hnc24 := NB384_391.out; have hcz25 := bc5 BK391.out))
    go_meet
    case rel => exact ⟨_, (t398), (t399), (t395), (t396), (t397), H', ⟨by first | omega | exact Nat.le_refl _⟩, ⟨bk_⟩, ⟨bk_⟩, ⟨by repeat (first | (with_reducible first | exact HI384.out | apply IsS108.alloc | apply IsS108.drewN | apply IsS108.drew | apply IsS108.set_0 | apply IsS108.set_1 | refine IsS108.far ?_ NB384_379.out _ | refine IsS108.far ?_ NB384_391.out _) | exact HI384.out)⟩, ⟨by repeat (first | (with_reducible first | exact HB.out | apply bal | apply bdn | apply bd1 | refine bst ?_ (IsS108.ge HI384.out) | refine bst ?_ GE379.out | refine bst ?_ GE391.out) | exact HB.out)⟩⟩
  clear HC11
  try clear c1
  try clear c2
  try clear p2
  try clear c3
  try clear c5
  try clear c6
  try clear c6b0
  try clear c6b1
  try clear c16
  try clear c17
  try clear c20
  try clear c20b0
  try clear c23
  try clear c24
  try clear hcz18
  try clear hcz25
  try clear hcz18
  try clear hcz25
  obtain ⟨kq, x385000_10, x385001_10, x392002_10, x392003_10, x392004_10, HA, HJ10, BK379, BK391, HI384, HB⟩ := hcut
  cases kq with
  | zero => exact absurd HA.out (by simp [frame_ParseReply.j0])
  | succ kj10 =>
    have H := HA.out
    clear HA
    simp only [frame_ParseReply.j0] at H
    replace H := Option.bind_eq_some_iff.mp H
    obtain ⟨⟨t400, t401, t402⟩, A260, H⟩ := H
    replace H : (if t400 = 0 then (some (t385, t388, x392002_10, x392003_10, x392004_10, 0)) else (some (0, 0, 0, (⟨#[]⟩ : ByteArray), 0, t400))) = some (r1, r2, r3, r4, r5, r6) := H
    have A26 := Aside0.mk A260
    clear A260
    have HS27 := Aside0.mk H
    clear H
    go_upto_if 34 with (first | ((with_reducible refine gcl (f := 37) rfl ?_); refine gl_ (some 32) rfl rfl Try.func37 (by kernel_rfl) rfl #[.pointer (some ⟨g384, 0, none⟩)] rfl ar_ ?_; (with_reducible refine (codec_In_End.calls g384 x385000_10 x385001_10 t400 t401 t402 w _ ?side1 ?side2 A26.out).mono ?_); (case side1 => repeat (first | (with_reducible first | exact HI384.out | apply IsS108.alloc | apply IsS108.drewN | apply IsS108.drew | apply IsS108.set_0 | apply IsS108.set_1 | refine IsS108.far ?_ NB384_379.out _ | refine IsS108.far ?_ NB384_391.out _) | exact HI384.out)); (case side2 => repeat (first | (with_reducible first | exact HB.out | apply bal | apply bdn | apply bd1 | refine bst ?_ (IsS108.ge HI384.out) | refine bst ?_ GE379.out | refine bst ?_ GE391.out) | exact HB.out)); rintro e w28 ⟨rfl, hi, hb, hk⟩; refine ⟨_, rfl, ?_⟩; have n0_ := Aside0.mk (KeepBut.blk hk (g' := gb379) (o := .cells #[.int .i64 0, .int .i64 0, .int .i64 0, .string (⟨#[]⟩ : ByteArray), .int .i64 0] 53 (0, 0)) bk_ NB379_384.out (by simp)); have n1_ := Aside0.mk (KeepBut.blk hk (g' := gb391) (o := .cells #[.int .i64 t385, .int .i64 t388, .int .i64 x392002_10, .string x392003_10, .int .i64 x392004_10] 53 (0, 0)) bk_ NB391_384.out (by simp)); have n2_ := Aside0.mk (hb); have n3_ := Aside0.mk (hi); clear BK379; clear BK391; clear HB; clear HI384; have BK379 := n0_; have BK391 := n1_; have HB := n2_; have HI384 := n3_; clear n0_ n1_ n2_ n3_; (try clear hb); (try clear hb2); (try clear hk); (try clear hi)))
    (try simp only [Act.put, List.setIfInBounds_toArray, List.set_cons_zero, List.set_cons_succ])
    have H := HS27.out
    clear HS27
    by_cases c29 : t400 = 0
    rotate_left
    · rw [if_neg c29] at H
      have c29b0 : (t400 == 0) = false := beq_eq_false_iff_ne.mpr c29
      have c29b1 : (t400 != 0) = true := bne_iff_ne.mpr c29
      (first | rw [c29b0] | (simp only [i64_w, i32_w]; rw [c29b0]) | skip)
      simp only [Option.some.injEq, Prod.mk.injEq] at H
      obtain ⟨rfl, rfl, rfl, rfl, rfl, rfl⟩ := H
      have hnb35 := NB379_391.out
      have hnc35 := NB391_379.out
      have hnb36 := NB379_384.out
      have hnc36 := NB384_379.out
      have hcz37 := bc5 BK379.out
      go_wp2
      refine bodyPost_ret (results_ct rfl _ _ gb379 53 #[.int .i64 0, .int .i64 0, .int .i64 0, .string (⟨#[]⟩ : ByteArray), .int .i64 0] (0, 0) _ rfl bk_ Try.underlying53 rfl (by kernel_rfl)) rfl ?_
      exact ⟨er_, by repeat (first | (with_reducible first | exact HB.out | apply bal | apply bdn | apply bd1 | refine bst ?_ (IsS108.ge HI384.out) | refine bst ?_ GE379.out | refine bst ?_ GE391.out) | exact HB.out)⟩
    rw [if_pos c29] at H
    have c29b0 : (t400 == 0) = true := beq_iff_eq.mpr c29
    have c29b1 : (t400 != 0) = false := bne_eq_false_iff_eq.mpr c29
    clear c29
    (first | rw [c29b0] | (simp only [i64_w, i32_w]; rw [c29b0]) | skip)
    simp only [Option.some.injEq, Prod.mk.injEq] at H
    obtain ⟨rfl, rfl, rfl, rfl, rfl, rfl⟩ := H
    have hnb30 := NB391_379.out
    have hnc30 := NB379_391.out
    have hnb31 := NB391_384.out
    have hnc31 := NB384_391.out
    have hcz32 := bc5 BK391.out
    have hnb33 := NB379_384.out
    have hnc33 := NB384_379.out
    have hcz34 := bc5 BK379.out
    go_wp2
    refine bodyPost_ret (results_ct rfl _ _ gb379 53 #[.int .i64 t385, .int .i64 t388, .int .i64 x392002_10, .string x392003_10, .int .i64 x392004_10] (0, 0) _ rfl bk_ Try.underlying53 rfl (by kernel_rfl)) rfl ?_
    exact ⟨er_, by repeat (first | (with_reducible first | exact HB.out | apply bal | apply bdn | apply bd1 | refine bst ?_ (IsS108.ge HI384.out) | refine bst ?_ GE379.out | refine bst ?_ GE391.out) | exact HB.out)⟩
def armoireref12_CheckResult.j0 : Nat → Bool → Int → ByteArray → Int → Option (Int)
  | 0, _, _, _, _ => none
  | k + 1, x10, x404000, x404001, x404002 => if x10 = true then (some 6) else (if (x404001.size : Int) > 24 then (some 3) else (if x404001.toList = ([] : List UInt8) then (some 0) else (if x404002 = 0 then (some 0) else (some 2))))
def armoireref12_CheckResult.f (k : Nat) (a0_0 : Int) (a0_1 : ByteArray) (a0_2 : Int) : Option (Int) := if a0_0 = 1 then (armoireref12_CheckResult.j0 k false a0_0 a0_1 a0_2) else (armoireref12_CheckResult.j0 k (a0_0 != 2) a0_0 a0_1 a0_2)
set_option maxHeartbeats 2000000 in
set_option maxRecDepth 100000 in
theorem armoireref12_CheckResult.calls (k : Nat) (a0_0 : Int) (a0_1 : ByteArray) (a0_2 : Int) (r : Int) (w : World) (h : armoireref12_CheckResult.f k a0_0 a0_1 a0_2 = some r) :
    Calls Try.prog 56 #[.agg #[.int .i64 a0_0, .string a0_1, .int .i64 a0_2]] w fun e w' => e = .returned (.int .i64 r) ∧ Below w.heap.size w w' := by
  have hu56 := Try.underlying56
  have HB := Aside0.mk (Below.refl w.heap.size w)
  have H : (if a0_0 = 1 then (armoireref12_CheckResult.j0 k false a0_0 a0_1 a0_2) else (armoireref12_CheckResult.j0 k (a0_0 != 2) a0_0 a0_1 a0_2)) = some r := h
  clear h
  have HC2 := Aside0.mk H
  clear H
  go_enter Try.func56, Try.ntmps56
  go_upto_region 1 with (first | ((with_reducible refine gds (N := 1) rfl ?_); refine bev ?hg (N := 1) ?hd (cs := #[.int .i64 a0_0, .string a0_1, .int .i64 a0_2]) (t := 56) ?hr ?_; (case hd => rfl); (case hg => rfl); (case hr => first | (go_simp; done) | (go_simp; rfl)); intro gb403 hg w3 hbox hb; have n0_ := Aside0.mk (bsp bl_ hb); have n1_ := Aside0.mk (hbox); have n2_ := Aside0.mk ((by rw [hg]; exact bsz bl_ : w.heap.size ≤ gb403)); have n3_ := Aside0.mk ((by rw [hg]; exact bsz bl_ : w.heap.size ≤ gb403)); clear HB; have HB := n0_; have BK403 := n1_; have GW403 := n2_; have GE403 := n3_; clear n0_ n1_ n2_ n3_; clear hb hbox hg))
  (try simp only [Act.put, List.setIfInBounds_toArray, List.set_cons_zero, List.set_cons_succ])
  go_cut [10] (fun v10 wc => ∃ (kq : Nat) (x10_1 : Bool), v10 = .bool x10_1 ∧ Aside0 (armoireref12_CheckResult.j0 kq x10_1 a0_0 a0_1 a0_2 = some r) ∧ Aside0 (kq ≤ k) ∧ Aside0 (wc.heap[gb403]? = some (.cells #[.int .i64 a0_0, .string a0_1, .int .i64 a0_2] 56 (0, 0))) ∧ Aside0 (Below w.heap.size w wc))
  case first =>
    have H := HC2.out
    clear HC2
    by_cases c4 : a0_0 = 1
    rotate_left
    · rw [if_neg c4] at H
      have c4b0 : (a0_0 == 1) = false := beq_eq_false_iff_ne.mpr c4
      have c4b1 : (a0_0 != 1) = true := bne_iff_ne.mpr c4
      (first | rw [c4b0] | (simp only [i64_w, i32_w]; rw [c4b0]) | skip)
      have H' := Aside0.mk H
      clear H
      have hcz6 := bc3 BK403.out
      go_wp2
      go_meet
      case rel => exact ⟨_, ((a0_0 != 2)), (by first | rfl | (simp; done) | (simp [*]; done) | exact emp1_ _ | exact (emp1_ _).symm | exact emp2_ _ | exact (emp2_ _).symm), H', ⟨by first | omega | exact Nat.le_refl _⟩, ⟨bk_⟩, ⟨bl_⟩⟩
    rw [if_pos c4] at H
    have c4b0 : (a0_0 == 1) = true := beq_iff_eq.mpr c4
    have c4b1 : (a0_0 != 1) = false := bne_eq_false_iff_eq.mpr c4
    clear c4
    (first | rw [c4b0] | (simp only [i64_w, i32_w]; rw [c4b0]) | skip)
    have H' := Aside0.mk H
    clear H
    have hcz5 := bc3 BK403.out
    go_wp2
    go_meet
    case rel => exact ⟨_, (false), (by first | rfl | (simp; done) | (simp [*]; done) | exact emp1_ _ | exact (emp1_ _).symm | exact emp2_ _ | exact (emp2_ _).symm), H', ⟨by first | omega | exact Nat.le_refl _⟩, ⟨bk_⟩, ⟨bl_⟩⟩
  clear HC2
  try clear p2
  try clear c4
  try clear c4b0
  try clear c4b1
  try clear c5
  try clear hcz5
  try clear hcz6
  try clear hcz5
  try clear hcz6
  obtain ⟨kq, x10_1, rfl, HA, HJ1, BK403, HB⟩ := hcut
  cases kq with
  | zero => exact absurd HA.out (by simp [armoireref12_CheckResult.j0])
  | succ kj1 =>
    have H := HA.out
    clear HA
    simp only [armoireref12_CheckResult.j0] at H
    by_cases c7 : x10_1 = true
    · subst c7
      have H1 : (some 6) = some r := by rw [if_pos rfl] at H; exact H
      clear H
      have H := H1
      clear H1
      obtain rfl := Option.some.inj H
      go_wp2
      go_ret
      exact ⟨er_, bl_⟩
    replace c7 := Bool.eq_false_iff.mpr c7
    subst c7
    have H1 : (if (a0_1.size : Int) > 24 then (some 3) else (if a0_1.toList = ([] : List UInt8) then (some 0) else (if a0_2 = 0 then (some 0) else (some 2)))) = some r := by rw [if_neg (show ¬ (false = true) by decide)] at H; exact H
    clear H
    have H := H1
    clear H1
    by_cases c8 : (a0_1.size : Int) > 24
    · rw [if_pos c8] at H
      have c8b0 : decide (24 < (a0_1.size : Int)) = true := decide_eq_true c8
      have c8b1 : decide (24 < a0_1.size) = true := decide_eq_true (by omega)
      clear c8
      obtain rfl := Option.some.inj H
      have hcz9 := bc3 BK403.out
      go_wp2
      go_ret
      exact ⟨er_, bl_⟩
    rw [if_neg c8] at H
    have c8b0 : decide (24 < (a0_1.size : Int)) = false := decide_eq_false c8
    have c8b1 : decide (24 < a0_1.size) = false := decide_eq_false (by omega)
    clear c8
    by_cases c10 : a0_1.toList = ([] : List UInt8)
    · rw [if_pos c10] at H
      have c10b0 : (a0_1.toList == ([] : List UInt8)) = true := beq_iff_eq.mpr c10
      have c10b1 : (a0_1.toList != ([] : List UInt8)) = false := bne_eq_false_iff_eq.mpr c10
      (try (have c10b2 : a0_1.toList.isEmpty = true := by simpa using c10))
      clear c10
      obtain rfl := Option.some.inj H
      have hcz11 := bc3 BK403.out
      go_wp2
      go_ret
      exact ⟨er_, bl_⟩
    rw [if_neg c10] at H
    have c10b0 : (a0_1.toList == ([] : List UInt8)) = false := beq_eq_false_iff_ne.mpr c10
    have c10b1 : (a0_1.toList != ([] : List UInt8)) = true := bne_iff_ne.mpr c10
    (try (have c10b2 : a0_1.toList.isEmpty = false := by simpa using c10))
    by_cases c12 : a0_2 = 0
    rotate_left
    · rw [if_neg c12] at H
      have c12b0 : (a0_2 == 0) = false := beq_eq_false_iff_ne.mpr c12
      have c12b1 : (a0_2 != 0) = true := bne_iff_ne.mpr c12
      obtain rfl := Option.some.inj H
      have hcz14 := bc3 BK403.out
      go_wp2
      go_ret
      exact ⟨er_, bl_⟩
    rw [if_pos c12] at H
    have c12b0 : (a0_2 == 0) = true := beq_iff_eq.mpr c12
    have c12b1 : (a0_2 != 0) = false := bne_eq_false_iff_eq.mpr c12
    clear c12
    obtain rfl := Option.some.inj H
    have hcz13 := bc3 BK403.out
    go_wp2
    go_ret
    exact ⟨er_, bl_⟩
end Go.Proofs.Ytkkkmbgflflcnaa.PS

