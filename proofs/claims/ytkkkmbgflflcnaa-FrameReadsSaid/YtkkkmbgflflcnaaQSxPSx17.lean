import Derived.Test.YtkkkmbgflflcnaaQSxPSx6
import Derived.Test.YtkkkmbgflflcnaaQSxPSx11
import Derived.Test.YtkkkmbgflflcnaaQSxPSx12
import Derived.Test.YtkkkmbgflflcnaaQSxPSx13
import Derived.Test.YtkkkmbgflflcnaaQSxPSx14
import Derived.Test.YtkkkmbgflflcnaaQSxPSx16
namespace Go.Proofs.Ytkkkmbgflflcnaa.PS
open Go.Proofs.Ytkkkmbgflflcnaa.PL
open Go.RowKit Go.Proofs.YtkkkmbgflflcnaaW.PrintWords Go.Proofs.YtkkkmbgflflcnaaW.PrintLast Go.Proofs.YtkkkmbgflflcnaaW.PrintMore
attribute [local go_sem] max2_int min2_int max_two min_two max_three min_three max_four min_four
set_option linter.unusedVariables false
set_option linter.unusedSimpArgs false
def armoireref12_ReadResult.j0 : Nat → ByteArray → Int → Int → ByteArray → Int → Option (ByteArray × Int × Int × ByteArray × Int)
  | 0, _, _, _, _, _ => none
  | k + 1, x405000, x405001, x417000, x417001, x417002 => if x405001 = 0 then (some (x405000, x405001, x417000, x417001, x417002)) else (some (x405000, x405001, 0, (⟨#[]⟩ : ByteArray), 0))
def armoireref12_ReadResult.f (k : Nat) (a0_0 : ByteArray) (a0_1 : Int) : Option (ByteArray × Int × Int × ByteArray × Int) := (armoireref02_TakeN.f k a0_0 a0_1 2).bind fun bt407 => ((armoireref02_TakeS.f k bt407.1 bt407.2.1 24).bind fun bt410 => ((armoireref02_TakeI.f k bt410.1 bt410.2.1).bind fun bt413 => (if bt413.2.1 = 0 then ((armoireref12_CheckResult.f k bt407.2.2 bt410.2.2 bt413.2.2).bind fun t417 => ((armoireref02_Fail.f bt413.1 bt413.2.1 t417).bind fun bt418 => (armoireref12_ReadResult.j0 k bt418.1 bt418.2 bt407.2.2 bt410.2.2 bt413.2.2))) else (armoireref12_ReadResult.j0 k bt413.1 bt413.2.1 bt407.2.2 bt410.2.2 bt413.2.2))))
set_option maxHeartbeats 2000000 in
set_option maxRecDepth 100000 in
theorem armoireref12_ReadResult.calls (k : Nat) (a0_0 : ByteArray) (a0_1 : Int) (r1 : ByteArray) (r2 : Int) (r3 : Int) (r4 : ByteArray) (r5 : Int) (w : World) (h : armoireref12_ReadResult.f k a0_0 a0_1 = some (r1, r2, r3, r4, r5)) :
    Calls Try.prog 53 #[.agg #[.string a0_0, .int .i64 a0_1]] w fun e w' => e = .returned (.tuple #[.agg #[.string r1, .int .i64 r2], .agg #[.int .i64 r3, .string r4, .int .i64 r5]]) ∧ Below w.heap.size w w' := by
  have hu88 := Try.underlying88
  have hu56 := Try.underlying56
  have HB := Aside0.mk (Below.refl w.heap.size w)
  have H : ((armoireref02_TakeN.f k a0_0 a0_1 2).bind fun bt407 => ((armoireref02_TakeS.f k bt407.1 bt407.2.1 24).bind fun bt410 => ((armoireref02_TakeI.f k bt410.1 bt410.2.1).bind fun bt413 => (if bt413.2.1 = 0 then ((armoireref12_CheckResult.f k bt407.2.2 bt410.2.2 bt413.2.2).bind fun t417 => ((armoireref02_Fail.f bt413.1 bt413.2.1 t417).bind fun bt418 => (armoireref12_ReadResult.j0 k bt418.1 bt418.2 bt407.2.2 bt410.2.2 bt413.2.2))) else (armoireref12_ReadResult.j0 k bt413.1 bt413.2.1 bt407.2.2 bt410.2.2 bt413.2.2))))) = some (r1, r2, r3, r4, r5) := h
  clear h
  replace H := Option.bind_eq_some_iff.mp H
  obtain ⟨⟨t407, t408, t409⟩, A20, H⟩ := H
  replace H : ((armoireref02_TakeS.f k t407 t408 24).bind fun bt410 => ((armoireref02_TakeI.f k bt410.1 bt410.2.1).bind fun bt413 => (if bt413.2.1 = 0 then ((armoireref12_CheckResult.f k t409 bt410.2.2 bt413.2.2).bind fun t417 => ((armoireref02_Fail.f bt413.1 bt413.2.1 t417).bind fun bt418 => (armoireref12_ReadResult.j0 k bt418.1 bt418.2 t409 bt410.2.2 bt413.2.2))) else (armoireref12_ReadResult.j0 k bt413.1 bt413.2.1 t409 bt410.2.2 bt413.2.2)))) = some (r1, r2, r3, r4, r5) := H
  have A2 := Aside0.mk A20
  clear A20
  replace H := Option.bind_eq_some_iff.mp H
  obtain ⟨⟨t410, t411, t412⟩, A30, H⟩ := H
  replace H : ((armoireref02_TakeI.f k t410 t411).bind fun bt413 => (if bt413.2.1 = 0 then ((armoireref12_CheckResult.f k t409 t412 bt413.2.2).bind fun t417 => ((armoireref02_Fail.f bt413.1 bt413.2.1 t417).bind fun bt418 => (armoireref12_ReadResult.j0 k bt418.1 bt418.2 t409 t412 bt413.2.2))) else (armoireref12_ReadResult.j0 k bt413.1 bt413.2.1 t409 t412 bt413.2.2))) = some (r1, r2, r3, r4, r5) := H
  have A3 := Aside0.mk A30
  clear A30
  replace H := Option.bind_eq_some_iff.mp H
  obtain ⟨⟨t413, t414, t415⟩, A40, H⟩ := H
  replace H : (if t414 = 0 then ((armoireref12_CheckResult.f k t409 t412 t415).bind fun t417 => ((armoireref02_Fail.f t413 t414 t417).bind fun bt418 => (armoireref12_ReadResult.j0 k bt418.1 bt418.2 t409 t412 t415))) else (armoireref12_ReadResult.j0 k t413 t414 t409 t412 t415)) = some (r1, r2, r3, r4, r5) := H
  have A4 := Aside0.mk A40
  clear A40
  have HC5 := Aside0.mk H
  clear H
  go_enter Try.func53, Try.ntmps53
  go_upto_if 29 with (first | ((with_reducible refine gds (N := 1) rfl ?_); refine bev ?hg (N := 1) ?hd (cs := #[.string a0_0, .int .i64 a0_1]) (t := 88) ?hr ?_; (case hd => rfl); (case hg => rfl); (case hr => first | (go_simp; done) | (go_simp; rfl)); intro gb404 hg w6 hbox hb; have n0_ := Aside0.mk (bsp bl_ hb); have n1_ := Aside0.mk (hbox); have n2_ := Aside0.mk ((by rw [hg]; exact bsz bl_ : w.heap.size ≤ gb404)); have n3_ := Aside0.mk ((by rw [hg]; exact bsz bl_ : w.heap.size ≤ gb404)); clear HB; have HB := n0_; have BK404 := n1_; have GW404 := n2_; have GE404 := n3_; clear n0_ n1_ n2_ n3_; clear hb hbox hg) | ((with_reducible refine gds (N := 2) rfl ?_); refine bev ?hg (N := 2) ?hd (cs := #[.string (⟨#[]⟩ : ByteArray), .int .i64 0]) (t := 88) ?hr ?_; (case hd => rfl); (case hg => rfl); (case hr => first | (go_simp; done) | (go_simp; rfl)); intro gb405 hg w7 hbox hb; have n0_ := Aside0.mk (kbl (g := gb404) (o := .cells #[.string a0_0, .int .i64 a0_1] 88 (0, 0)) bk_ hb); have n1_ := Aside0.mk (bsp bl_ hb); have n2_ := Aside0.mk (hbox); have n3_ := Aside0.mk ((by rw [hg]; exact bsz bl_ : w.heap.size ≤ gb405)); have n4_ := Aside0.mk ((by rw [hg]; exact bsz bl_ : w.heap.size ≤ gb405)); have n5_ := Aside0.mk ((by rw [hg]; exact Nat.ne_of_lt (blk_lt (g := gb404) (o := .cells #[.string a0_0, .int .i64 a0_1] 88 (0, 0)) bk_) : gb404 ≠ gb405)); have n6_ := Aside0.mk ((by rw [hg]; exact Nat.ne_of_gt (blk_lt (g := gb404) (o := .cells #[.string a0_0, .int .i64 a0_1] 88 (0, 0)) bk_) : gb405 ≠ gb404)); clear BK404; clear HB; have BK404 := n0_; have HB := n1_; have BK405 := n2_; have GW405 := n3_; have GE405 := n4_; have NB404_405 := n5_; have NB405_404 := n6_; clear n0_ n1_ n2_ n3_ n4_ n5_ n6_; clear hb hbox hg) | ((with_reducible refine gds (N := 3) rfl ?_); refine bev ?hg (N := 3) ?hd (cs := #[.int .i64 0, .string (⟨#[]⟩ : ByteArray), .int .i64 0]) (t := 56) ?hr ?_; (case hd => rfl); (case hg => rfl); (case hr => first | (go_simp; done) | (go_simp; rfl)); intro gb406 hg w8 hbox hb; have n0_ := Aside0.mk (kbl (g := gb404) (o := .cells #[.string a0_0, .int .i64 a0_1] 88 (0, 0)) bk_ hb); have n1_ := Aside0.mk (kbl (g := gb405) (o := .cells #[.string (⟨#[]⟩ : ByteArray), .int .i64 0] 88 (0, 0)) bk_ hb); have n2_ := Aside0.mk (bsp bl_ hb); have n3_ := Aside0.mk (hbox); have n4_ := Aside0.mk ((by rw [hg]; exact bsz bl_ : w.heap.size ≤ gb406)); have n5_ := Aside0.mk ((by rw [hg]; exact bsz bl_ : w.heap.size ≤ gb406)); have n6_ := Aside0.mk ((by rw [hg]; exact Nat.ne_of_lt (blk_lt (g := gb404) (o := .cells #[.string a0_0, .int .i64 a0_1] 88 (0, 0)) bk_) : gb404 ≠ gb406)); have n7_ := Aside0.mk ((by rw [hg]; exact Nat.ne_of_gt (blk_lt (g := gb404) (o := .cells #[.string a0_0, .int .i64 a0_1] 88 (0, 0)) bk_) : gb406 ≠ gb404)); have n8_ := Aside0.mk ((by rw [hg]; exact Nat.ne_of_lt (blk_lt (g := gb405) (o := .cells #[.string (⟨#[]⟩ : ByteArray), .int .i64 0] 88 (0, 0)) bk_) : gb405 ≠ gb406)); have n9_ := Aside0.mk ((by rw [hg]; exact Nat.ne_of_gt (blk_lt (g := gb405) (o := .cells #[.string (⟨#[]⟩ : ByteArray), .int .i64 0] 88 (0, 0)) bk_) : gb406 ≠ gb405)); clear BK404; clear BK405; clear HB; have BK404 := n0_; have BK405 := n1_; have HB := n2_; have BK406 := n3_; have GW406 := n4_; have GE406 := n5_; have NB404_406 := n6_; have NB406_404 := n7_; have NB405_406 := n8_; have NB406_405 := n9_; clear n0_ n1_ n2_ n3_ n4_ n5_ n6_ n7_ n8_ n9_; clear hb hbox hg; have hnb9 := NB404_405.out; have hnc9 := NB405_404.out; have hnb10 := NB404_406.out; have hnc10 := NB406_404.out; have hcz11 := bc2 BK404.out) | ((with_reducible refine gcl (f := 47) rfl ?_); refine gl_ (some 10) rfl rfl Try.func47 (by kernel_rfl) rfl #[.agg #[.string a0_0, .int .i64 a0_1], .int .i64 2] rfl ar_ ?_; (with_reducible refine (armoireref02_TakeN.calls k a0_0 a0_1 2 t407 t408 t409 _ A2.out).mono ?_); rintro e w12 ⟨rfl, hb⟩; refine ⟨_, rfl, ?_⟩; have n0_ := Aside0.mk (kbl (g := gb404) (o := .cells #[.string a0_0, .int .i64 a0_1] 88 (0, 0)) bk_ hb); have n1_ := Aside0.mk (kbl (g := gb405) (o := .cells #[.string (⟨#[]⟩ : ByteArray), .int .i64 0] 88 (0, 0)) bk_ hb); have n2_ := Aside0.mk (kbl (g := gb406) (o := .cells #[.int .i64 0, .string (⟨#[]⟩ : ByteArray), .int .i64 0] 56 (0, 0)) bk_ hb); have n3_ := Aside0.mk (bsp bl_ hb); clear BK404; clear BK405; clear BK406; clear HB; have BK404 := n0_; have BK405 := n1_; have BK406 := n2_; have HB := n3_; clear n0_ n1_ n2_ n3_; (try clear hb); (try clear hb2); (try clear hk); (try clear hi); have hcz13 := bc2 BK404.out) | ((with_reducible refine gcl (f := 48) rfl ?_); refine gl_ (some 15) rfl rfl Try.func48 (by kernel_rfl) rfl #[.agg #[.string t407, .int .i64 t408], .int .i64 24] rfl ar_ ?_; (with_reducible refine (armoireref02_TakeS.calls k t407 t408 24 t410 t411 t412 _ A3.out).mono ?_); rintro e w14 ⟨rfl, hb⟩; refine ⟨_, rfl, ?_⟩; have n0_ := Aside0.mk (kbl (g := gb404) (o := .cells #[.string t407, .int .i64 t408] 88 (0, 0)) bk_ hb); have n1_ := Aside0.mk (kbl (g := gb405) (o := .cells #[.string (⟨#[]⟩ : ByteArray), .int .i64 0] 88 (0, 0)) bk_ hb); have n2_ := Aside0.mk (kbl (g := gb406) (o := .cells #[.int .i64 0, .string (⟨#[]⟩ : ByteArray), .int .i64 0] 56 (0, 0)) bk_ hb); have n3_ := Aside0.mk (bsp bl_ hb); clear BK404; clear BK405; clear BK406; clear HB; have BK404 := n0_; have BK405 := n1_; have BK406 := n2_; have HB := n3_; clear n0_ n1_ n2_ n3_; (try clear hb); (try clear hb2); (try clear hk); (try clear hi); have hcz15 := bc2 BK404.out) | ((with_reducible refine gcl (f := 74) rfl ?_); refine gl_ (some 20) rfl rfl Try.func74 (by kernel_rfl) rfl #[.agg #[.string t410, .int .i64 t411]] rfl ar_ ?_; (with_reducible refine (armoireref02_TakeI.calls k t410 t411 t413 t414 t415 _ A4.out).mono ?_); rintro e w16 ⟨rfl, hb⟩; refine ⟨_, rfl, ?_⟩; have n0_ := Aside0.mk (kbl (g := gb404) (o := .cells #[.string t410, .int .i64 t411] 88 (0, 0)) bk_ hb); have n1_ := Aside0.mk (kbl (g := gb405) (o := .cells #[.string (⟨#[]⟩ : ByteArray), .int .i64 0] 88 (0, 0)) bk_ hb); have n2_ := Aside0.mk (kbl (g := gb406) (o := .cells #[.int .i64 0, .string (⟨#[]⟩ : ByteArray), .int .i64 0] 56 (0, 0)) bk_ hb); have n3_ := Aside0.mk (bsp bl_ hb); clear BK404; clear BK405; clear BK406; clear HB; have BK404 := n0_; have BK405 := n1_; have BK406 := n2_; have HB := n3_; clear n0_ n1_ n2_ n3_; (try clear hb); (try clear hb2); (try clear hk); (try clear hi); have hcz17 := bc2 BK404.out) | ((with_reducible refine gds (N := 7) rfl ?_); refine bev ?hg (N := 7) ?hd (cs := #[.int .i64 0, .string (⟨#[]⟩ : ByteArray), .int .i64 0]) (t := 56) ?hr ?_; (case hd => rfl); (case hg => rfl); (case hr => first | (go_simp; done) | (go_simp; rfl)); intro gb416 hg w18 hbox hb; have n0_ := Aside0.mk (kbl (g := gb404) (o := .cells #[.string t413, .int .i64 t414] 88 (0, 0)) bk_ hb); have n1_ := Aside0.mk (kbl (g := gb405) (o := .cells #[.string (⟨#[]⟩ : ByteArray), .int .i64 0] 88 (0, 0)) bk_ hb); have n2_ := Aside0.mk (kbl (g := gb406) (o := .cells #[.int .i64 0, .string (⟨#[]⟩ : ByteArray), .int .i64 0] 56 (0, 0)) bk_ hb); have n3_ := Aside0.mk (bsp bl_ hb); have n4_ := Aside0.mk (hbox); have n5_ := Aside0.mk ((by rw [hg]; exact bsz bl_ : w.heap.size ≤ gb416)); have n6_ := Aside0.mk ((by rw [hg]; exact bsz bl_ : w.heap.size ≤ gb416)); have n7_ := Aside0.mk ((by rw [hg]; exact Nat.ne_of_lt (blk_lt (g := gb404) (o := .cells #[.string t413, .int .i64 t414] 88 (0, 0)) bk_) : gb404 ≠ gb416)); have n8_ := Aside0.mk ((by rw [hg]; exact Nat.ne_of_gt (blk_lt (g := gb404) (o := .cells #[.string t413, .int .i64 t414] 88 (0, 0)) bk_) : gb416 ≠ gb404)); have n9_ := Aside0.mk ((by rw [hg]; exact Nat.ne_of_lt (blk_lt (g := gb405) (o := .cells #[.string (⟨#[]⟩ : ByteArray), .int .i64 0] 88 (0, 0)) bk_) : gb405 ≠ gb416)); have n10_ := Aside0.mk ((by rw [hg]; exact Nat.ne_of_gt (blk_lt (g := gb405) (o := .cells #[.string (⟨#[]⟩ : ByteArray), .int .i64 0] 88 (0, 0)) bk_) : gb416 ≠ gb405)); have n11_ := Aside0.mk ((by rw [hg]; exact Nat.ne_of_lt (blk_lt (g := gb406) (o := .cells #[.int .i64 0, .string (⟨#[]⟩ : ByteArray), .int .i64 0] 56 (0, 0)) bk_) : gb406 ≠ gb416)); have n12_ := Aside0.mk ((by rw [hg]; exact Nat.ne_of_gt (blk_lt (g := gb406) (o := .cells #[.int .i64 0, .string (⟨#[]⟩ : ByteArray), .int .i64 0] 56 (0, 0)) bk_) : gb416 ≠ gb406)); clear BK404; clear BK405; clear BK406; clear HB; have BK404 := n0_; have BK405 := n1_; have BK406 := n2_; have HB := n3_; have BK416 := n4_; have GW416 := n5_; have GE416 := n6_; have NB404_416 := n7_; have NB416_404 := n8_; have NB405_416 := n9_; have NB416_405 := n10_; have NB406_416 := n11_; have NB416_406 := n12_; clear n0_ n1_ n2_ n3_ n4_ n5_ n6_ n7_ n8_ n9_ n10_ n11_ n12_; clear hb hbox hg; have hnb19 := NB416_404.out; have hnc19 := NB404_416.out; have hnb20 := NB416_405.out; have hnc20 := NB405_416.out; have hnb21 := NB416_406.out; have hnc21 := NB406_416.out; have hcz22 := bc3 BK416.out; have hcz23 := bc2 BK404.out))
  (try simp only [Act.put, List.setIfInBounds_toArray, List.set_cons_zero, List.set_cons_succ])
  go_cut [] (fun wc => ∃ (kq : Nat) (x405000_4 : ByteArray) (x405001_4 : Int), Aside0 (armoireref12_ReadResult.j0 kq x405000_4 x405001_4 t409 t412 t415 = some (r1, r2, r3, r4, r5)) ∧ Aside0 (kq ≤ k) ∧ Aside0 (wc.heap[gb404]? = some (.cells #[.string x405000_4, .int .i64 x405001_4] 88 (0, 0))) ∧ Aside0 (wc.heap[gb405]? = some (.cells #[.string (⟨#[]⟩ : ByteArray), .int .i64 0] 88 (0, 0))) ∧ Aside0 (wc.heap[gb406]? = some (.cells #[.int .i64 0, .string (⟨#[]⟩ : ByteArray), .int .i64 0] 56 (0, 0))) ∧ Aside0 (wc.heap[gb416]? = some (.cells #[.int .i64 t409, .string t412, .int .i64 t415] 56 (0, 0))) ∧ Aside0 (Below w.heap.size w wc))
  case first =>
    have H := HC5.out
    clear HC5
    by_cases c24 : t414 = 0
    rotate_left
    · rw [if_neg c24] at H
      have c24b0 : (t414 == 0) = false := beq_eq_false_iff_ne.mpr c24
      have c24b1 : (t414 != 0) = true := bne_iff_ne.mpr c24
      (first | rw [c24b0] | (simp only [i64_w, i32_w]; rw [c24b0]) | skip)
      have H' := Aside0.mk H
      clear H
      go_wp2
      go_meet
      case rel => exact ⟨_, (t413), (t414), H', ⟨by first | omega | exact Nat.le_refl _⟩, ⟨bk_⟩, ⟨bk_⟩, ⟨bk_⟩, ⟨bk_⟩, ⟨bl_⟩⟩
    rw [if_pos c24] at H
    have c24b0 : (t414 == 0) = true := beq_iff_eq.mpr c24
    have c24b1 : (t414 != 0) = false := bne_eq_false_iff_eq.mpr c24
    clear c24
    (first | rw [c24b0] | (simp only [i64_w, i32_w]; rw [c24b0]) | skip)
    replace H := Option.bind_eq_some_iff.mp H
    obtain ⟨t417, A250, H⟩ := H
    replace H : ((armoireref02_Fail.f t413 t414 t417).bind fun bt418 => (armoireref12_ReadResult.j0 k bt418.1 bt418.2 t409 t412 t415)) = some (r1, r2, r3, r4, r5) := H
    have A25 := Aside0.mk A250
    clear A250
    replace H := Option.bind_eq_some_iff.mp H
    obtain ⟨⟨t418, t419⟩, A260, H⟩ := H
    replace H : (armoireref12_ReadResult.j0 k t418 t419 t409 t412 t415) = some (r1, r2, r3, r4, r5) := H
    have A26 := Aside0.mk A260
    clear A260
    have H' := Aside0.mk H
    clear H
    try go_wp2
    have n0_ : Aside0 ((((w18.setCell ⟨gb416, 0, none⟩ (.int .i64 t409)).setCell ⟨gb416, 1, none⟩ (.string t412)).setCell ⟨gb416, 2, none⟩ (.int .i64 t415)).heap[gb404]? = some (.cells #[.string t413, .int .i64 t414] 88 (0, 0))) := ⟨bk_⟩
    have n1_ : Aside0 ((((w18.setCell ⟨gb416, 0, none⟩ (.int .i64 t409)).setCell ⟨gb416, 1, none⟩ (.string t412)).setCell ⟨gb416, 2, none⟩ (.int .i64 t415)).heap[gb405]? = some (.cells #[.string (⟨#[]⟩ : ByteArray), .int .i64 0] 88 (0, 0))) := ⟨bk_⟩
    have n2_ : Aside0 ((((w18.setCell ⟨gb416, 0, none⟩ (.int .i64 t409)).setCell ⟨gb416, 1, none⟩ (.string t412)).setCell ⟨gb416, 2, none⟩ (.int .i64 t415)).heap[gb406]? = some (.cells #[.int .i64 0, .string (⟨#[]⟩ : ByteArray), .int .i64 0] 56 (0, 0))) := ⟨bk_⟩
    have n3_ : Aside0 ((((w18.setCell ⟨gb416, 0, none⟩ (.int .i64 t409)).setCell ⟨gb416, 1, none⟩ (.string t412)).setCell ⟨gb416, 2, none⟩ (.int .i64 t415)).heap[gb416]? = some (.cells #[.int .i64 t409, .string t412, .int .i64 t415] 56 (0, 0))) := ⟨bk_⟩
    have n4_ : Aside0 (Below w.heap.size w (((w18.setCell ⟨gb416, 0, none⟩ (.int .i64 t409)).setCell ⟨gb416, 1, none⟩ (.string t412)).setCell ⟨gb416, 2, none⟩ (.int .i64 t415))) := ⟨bl_⟩
    (try clear BK404)
    (try clear BK405)
    (try clear BK406)
    (try clear BK416)
    (try clear HB)
    generalize (((w18.setCell ⟨gb416, 0, none⟩ (.int .i64 t409)).setCell ⟨gb416, 1, none⟩ (.string t412)).setCell ⟨gb416, 2, none⟩ (.int .i64 t415)) = w27 at n0_ n1_ n2_ n3_ n4_ ⊢
    have BK404 := n0_
    have BK405 := n1_
    have BK406 := n2_
    have BK416 := n3_
    have HB := n4_
    clear n0_ n1_ n2_ n3_ n4_
    have n0_ := Aside0.mk (kdw BK404.out)
    have n1_ := Aside0.mk (kdw BK405.out)
    have n2_ := Aside0.mk (kdw BK406.out)
    have n3_ := Aside0.mk (kdw BK416.out)
    have n4_ := Aside0.mk (bd1 HB.out)
    clear BK404
    clear BK405
    clear BK406
    clear BK416
    clear HB
    have BK404 := n0_
    have BK405 := n1_
    have BK406 := n2_
    have BK416 := n3_
    have HB := n4_
    clear n0_ n1_ n2_ n3_ n4_
    refine start_ (n := 5) (S := fun w' => w'.cell? ⟨gb404, 0, none⟩ = some (.string t413) ∧ w'.cell? ⟨gb404, 1, none⟩ = some (.int .i64 t414) ∧ w'.cell? ⟨gb416, 0, none⟩ = some (.int .i64 t409) ∧ w'.cell? ⟨gb416, 1, none⟩ = some (.string t412) ∧ w'.cell? ⟨gb416, 2, none⟩ = some (.int .i64 t415)) (ds := [4]) #[false,false,false,false,false] (by kernel_rfl) rfl rfl ⟨(kcl BK404.out 0).trans rfl, (kcl BK404.out 1).trans rfl, (kcl BK416.out 0).trans rfl, (kcl BK416.out 1).trans rfl, (kcl BK416.out 2).trans rfl⟩ (fun hHeld => ?_)
    generalize w27.drew = w28 at BK404 BK405 BK406 BK416 HB hHeld ⊢
    refine take_ (i := 0) (N := some 30) (v := ?_) (a' := ?_) #[true,false,false,false,false] rfl rfl (by kernel_rfl) (fun _ _ _ h => h) (Or.inl ⟨by rfl, ?_⟩) hHeld ?_ ?_
    rotate_left
    · rintro w' ⟨s0, s1, s2, s3, s4⟩
      go_simp
      with_reducible rfl
    rotate_left; (simp only [Act.put, List.setIfInBounds_toArray, List.set_cons_zero, List.set_cons_succ, i64_w, i32_w]; rfl)
    refine take_ (i := 1) (N := some 31) (v := ?_) (a' := ?_) #[true,true,false,false,false] rfl rfl (by kernel_rfl) (fun _ _ _ h => h) (Or.inl ⟨by rfl, ?_⟩) hHeld ?_ ?_
    rotate_left
    · rintro w' ⟨s0, s1, s2, s3, s4⟩
      go_simp
      with_reducible rfl
    rotate_left; (simp only [Act.put, List.setIfInBounds_toArray, List.set_cons_zero, List.set_cons_succ, i64_w, i32_w]; rfl)
    refine one_ (i := 2) (N := some 32) #[true,true,true,false,false] rfl rfl (by kernel_rfl) (by decide) (fun K hK => ?_)
    refine goes_ Try.func56 (by kernel_rfl) rfl #[.agg #[.int .i64 t409, .string t412, .int .i64 t415]] (by rfl) rfl rfl (by (try simp only [List.map_toArray, List.map_cons, List.map_nil]); first | done | rfl | (simp only [List.length_drop, List.length_take]; rfl) | (simp only [Act.eval, Array.getD_eq_getD_getElem?, Option.getD_some, *]; done) | (simp only [Array.mk.injEq, List.cons.injEq, Value.int.injEq, true_and, and_true]; first | omega | (simp [IntKind.wrap, IntKind.bits, IntKind.signed]; omega))) ?_
    with_reducible refine (armoireref12_CheckResult.calls k t409 t412 t415 t417 _ A25.out).mono ?_
    rintro e w29 ⟨rfl, hb⟩
    refine ⟨_, rfl, ?_⟩
    have n0_ := Aside0.mk (kbl (g := gb404) (o := .cells #[.string t413, .int .i64 t414] 88 (0, 0)) bk_ hb)
    have n1_ := Aside0.mk (kbl (g := gb405) (o := .cells #[.string (⟨#[]⟩ : ByteArray), .int .i64 0] 88 (0, 0)) bk_ hb)
    have n2_ := Aside0.mk (kbl (g := gb406) (o := .cells #[.int .i64 0, .string (⟨#[]⟩ : ByteArray), .int .i64 0] 56 (0, 0)) bk_ hb)
    have n3_ := Aside0.mk (kbl (g := gb416) (o := .cells #[.int .i64 t409, .string t412, .int .i64 t415] 56 (0, 0)) bk_ hb)
    have n4_ := Aside0.mk (bsp bl_ hb)
    clear BK404
    clear BK405
    clear BK406
    clear BK416
    clear HB
    have BK404 := n0_
    have BK405 := n1_
    have BK406 := n2_
    have BK416 := n3_
    have HB := n4_
    clear n0_ n1_ n2_ n3_ n4_
    (try clear hb)
    (try clear hb2)
    (try clear hk)
    (try clear hi)
    refine hK.out _ _ ⟨(kcl BK404.out 0).trans rfl, (kcl BK404.out 1).trans rfl, (kcl BK416.out 0).trans rfl, (kcl BK416.out 1).trans rfl, (kcl BK416.out 2).trans rfl⟩ (fun hHeld => ?_)
    clear hK K
    refine norm_ (a' := ?_) ?_ ?_
    rotate_left
    · show Act.put _ (some 32) _ = _
      simp only [Act.put, List.setIfInBounds_toArray, List.set_cons_zero, List.set_cons_succ, i64_w, i32_w]
      rfl
    refine one_ (i := 3) (N := some 33) #[true,true,true,true,false] rfl rfl (by kernel_rfl) (by decide) (fun K hK => ?_)
    refine goes_ Try.func72 (by kernel_rfl) rfl #[.agg #[.string t413, .int .i64 t414], .int .i64 t417] (by rfl) rfl rfl (by (try simp only [List.map_toArray, List.map_cons, List.map_nil]); first | done | rfl | (simp only [List.length_drop, List.length_take]; rfl) | (simp only [Act.eval, Array.getD_eq_getD_getElem?, Option.getD_some, *]; done) | (simp only [Array.mk.injEq, List.cons.injEq, Value.int.injEq, true_and, and_true]; first | omega | (simp [IntKind.wrap, IntKind.bits, IntKind.signed]; omega))) ?_
    with_reducible refine (armoireref02_Fail.calls t413 t414 t417 t418 t419 _ A26.out).mono ?_
    rintro e w30 ⟨rfl, hb⟩
    refine ⟨_, rfl, ?_⟩
    have n0_ := Aside0.mk (kbl (g := gb404) (o := .cells #[.string t413, .int .i64 t414] 88 (0, 0)) bk_ hb)
    have n1_ := Aside0.mk (kbl (g := gb405) (o := .cells #[.string (⟨#[]⟩ : ByteArray), .int .i64 0] 88 (0, 0)) bk_ hb)
    have n2_ := Aside0.mk (kbl (g := gb406) (o := .cells #[.int .i64 0, .string (⟨#[]⟩ : ByteArray), .int .i64 0] 56 (0, 0)) bk_ hb)
    have n3_ := Aside0.mk (kbl (g := gb416) (o := .cells #[.int .i64 t409, .string t412, .int .i64 t415] 56 (0, 0)) bk_ hb)
    have n4_ := Aside0.mk (bsp bl_ hb)
    clear BK404
    clear BK405
    clear BK406
    clear BK416
    clear HB
    have BK404 := n0_
    have BK405 := n1_
    have BK406 := n2_
    have BK416 := n3_
    have HB := n4_
    clear n0_ n1_ n2_ n3_ n4_
    (try clear hb)
    (try clear hb2)
    (try clear hk)
    (try clear hi)
    refine hK.out _ _ ⟨(kcl BK404.out 0).trans rfl, (kcl BK404.out 1).trans rfl, (kcl BK416.out 0).trans rfl, (kcl BK416.out 1).trans rfl, (kcl BK416.out 2).trans rfl⟩ (fun hHeld => ?_)
    clear hK K
    refine norm_ (a' := ?_) ?_ ?_
    rotate_left
    · show Act.put _ (some 33) _ = _
      simp only [Act.put, List.setIfInBounds_toArray, List.set_cons_zero, List.set_cons_succ, i64_w, i32_w]
      rfl
    refine last_ (i := 4) (N := none) #[true,true,true,true,true] rfl rfl (by kernel_rfl) (by decide) (fun K hK => ?_)
    have hs31 : w30.cell? ⟨gb404, 0, none⟩ = some (.string t413) := (kcl BK404.out 0).trans rfl
    have hfs31 := kfr BK404.out 0
    have hns31_1 := NB405_404.out
    have hns31_2 := NB406_404.out
    have hns31_3 := NB416_404.out
    have hms31_1 := NB404_405.out
    have hms31_2 := NB404_406.out
    have hms31_3 := NB404_416.out
    have hs32 : w30.cell? ⟨gb404, 1, none⟩ = some (.int .i64 t414) := (kcl BK404.out 1).trans rfl
    have hfs32 := kfr BK404.out 1
    have hns32_1 := NB405_404.out
    have hns32_2 := NB406_404.out
    have hns32_3 := NB416_404.out
    have hms32_1 := NB404_405.out
    have hms32_2 := NB404_406.out
    have hms32_3 := NB404_416.out
    refine skip_ (w1 := ?_) (by rfl) rfl ?_ ?_
    rotate_left
    · go_simp
      rfl
    refine hK.out _ _ ?_
    clear hK K
    refine done_ (by kernel_rfl) ?_
    try go_wp2
    go_meet
    case rel => exact ⟨_, (t418), (t419), H', ⟨by first | omega | exact Nat.le_refl _⟩, ⟨bk_⟩, ⟨bk_⟩, ⟨bk_⟩, ⟨bk_⟩, ⟨bl_⟩⟩
  clear HC5
  try clear c1
  try clear c2
  try clear p2
  try clear c4
  try clear c5
  try clear c7
  try clear c9
  try clear c10
  try clear c19
  try clear c20
  try clear c21
  try clear c24
  try clear c24b0
  try clear c24b1
  try clear hcz11
  try clear hcz13
  try clear hcz15
  try clear hcz17
  try clear hcz22
  try clear hcz23
  try clear hcz11
  try clear hcz13
  try clear hcz15
  try clear hcz17
  try clear hcz22
  try clear hcz23
  obtain ⟨kq, x405000_4, x405001_4, HA, HJ4, BK404, BK405, BK406, BK416, HB⟩ := hcut
  cases kq with
  | zero => exact absurd HA.out (by simp [armoireref12_ReadResult.j0])
  | succ kj4 =>
    have H := HA.out
    clear HA
    simp only [armoireref12_ReadResult.j0] at H
    by_cases c33 : x405001_4 = 0
    rotate_left
    · rw [if_neg c33] at H
      have c33b0 : (x405001_4 == 0) = false := beq_eq_false_iff_ne.mpr c33
      have c33b1 : (x405001_4 != 0) = true := bne_iff_ne.mpr c33
      simp only [Option.some.injEq, Prod.mk.injEq] at H
      obtain ⟨rfl, rfl, rfl, rfl, rfl⟩ := H
      have hnb44 := NB404_405.out
      have hnc44 := NB405_404.out
      have hnb45 := NB404_406.out
      have hnc45 := NB406_404.out
      have hnb46 := NB404_416.out
      have hnc46 := NB416_404.out
      have hcz47 := bc2 BK404.out
      have hnb48 := NB405_406.out
      have hnc48 := NB406_405.out
      have hnb49 := NB405_416.out
      have hnc49 := NB416_405.out
      have hcz50 := bc2 BK405.out
      have hnb51 := NB406_416.out
      have hnc51 := NB416_406.out
      have hcz52 := bc3 BK406.out
      go_wp2
      refine bodyPost_ret (results_cc rfl _ _ gb405 gb406 88 56 #[.string x405000_4, .int .i64 x405001_4] #[.int .i64 0, .string (⟨#[]⟩ : ByteArray), .int .i64 0] (0, 0) (0, 0) _ _ rfl bk_ Try.underlying88 rfl (by kernel_rfl) rfl bk_ Try.underlying56 rfl (by kernel_rfl)) rfl ?_
      exact ⟨er_, bl_⟩
    rw [if_pos c33] at H
    have c33b0 : (x405001_4 == 0) = true := beq_iff_eq.mpr c33
    have c33b1 : (x405001_4 != 0) = false := bne_eq_false_iff_eq.mpr c33
    clear c33
    simp only [Option.some.injEq, Prod.mk.injEq] at H
    obtain ⟨rfl, rfl, rfl, rfl, rfl⟩ := H
    have hnb34 := NB404_405.out
    have hnc34 := NB405_404.out
    have hnb35 := NB404_406.out
    have hnc35 := NB406_404.out
    have hnb36 := NB404_416.out
    have hnc36 := NB416_404.out
    have hcz37 := bc2 BK404.out
    try go_wp2
    have n0_ := Aside0.mk (kdw BK404.out)
    have n1_ := Aside0.mk (kdw BK405.out)
    have n2_ := Aside0.mk (kdw BK406.out)
    have n3_ := Aside0.mk (kdw BK416.out)
    have n4_ := Aside0.mk (bd1 HB.out)
    clear BK404
    clear BK405
    clear BK406
    clear BK416
    clear HB
    have BK404 := n0_
    have BK405 := n1_
    have BK406 := n2_
    have BK416 := n3_
    have HB := n4_
    clear n0_ n1_ n2_ n3_ n4_
    refine start_ (n := 4) (S := fun w' => w'.cell? ⟨gb404, 0, none⟩ = some (.string x405000_4) ∧ w'.cell? ⟨gb404, 1, none⟩ = some (.int .i64 x405001_4) ∧ w'.cell? ⟨gb416, 0, none⟩ = some (.int .i64 t409) ∧ w'.cell? ⟨gb416, 1, none⟩ = some (.string t412) ∧ w'.cell? ⟨gb416, 2, none⟩ = some (.int .i64 t415)) (ds := []) #[false,false,false,false] (by kernel_rfl) rfl rfl ⟨(kcl BK404.out 0).trans rfl, (kcl BK404.out 1).trans rfl, (kcl BK416.out 0).trans rfl, (kcl BK416.out 1).trans rfl, (kcl BK416.out 2).trans rfl⟩ (fun hHeld => ?_)
    generalize wc.drew = w38 at BK404 BK405 BK406 BK416 HB hHeld ⊢
    refine take_ (i := 0) (N := some 39) (v := ?_) (a' := ?_) #[true,false,false,false] rfl rfl (by kernel_rfl) (fun _ _ _ h => h) (Or.inl ⟨by rfl, ?_⟩) hHeld ?_ ?_
    rotate_left
    · rintro w' ⟨s0, s1, s2, s3, s4⟩
      go_simp
      with_reducible rfl
    rotate_left; (simp only [Act.put, List.setIfInBounds_toArray, List.set_cons_zero, List.set_cons_succ, i64_w, i32_w]; rfl)
    refine take_ (i := 1) (N := some 40) (v := ?_) (a' := ?_) #[true,true,false,false] rfl rfl (by kernel_rfl) (fun _ _ _ h => h) (Or.inl ⟨by rfl, ?_⟩) hHeld ?_ ?_
    rotate_left
    · rintro w' ⟨s0, s1, s2, s3, s4⟩
      go_simp
      with_reducible rfl
    rotate_left; (simp only [Act.put, List.setIfInBounds_toArray, List.set_cons_zero, List.set_cons_succ, i64_w, i32_w]; rfl)
    refine one_ (i := 2) (N := none) #[true,true,true,false] rfl rfl (by kernel_rfl) (by decide) (fun K hK => ?_)
    have hs39 : w38.cell? ⟨gb405, 0, none⟩ = some (.string (⟨#[]⟩ : ByteArray)) := (kcl BK405.out 0).trans rfl
    have hfs39 := kfr BK405.out 0
    have hns39_0 := NB404_405.out
    have hns39_2 := NB406_405.out
    have hns39_3 := NB416_405.out
    have hms39_0 := NB405_404.out
    have hms39_2 := NB405_406.out
    have hms39_3 := NB405_416.out
    have hs40 : w38.cell? ⟨gb405, 1, none⟩ = some (.int .i64 0) := (kcl BK405.out 1).trans rfl
    have hfs40 := kfr BK405.out 1
    have hns40_0 := NB404_405.out
    have hns40_2 := NB406_405.out
    have hns40_3 := NB416_405.out
    have hms40_0 := NB405_404.out
    have hms40_2 := NB405_406.out
    have hms40_3 := NB405_416.out
    refine skip_ (w1 := ?_) (by rfl) rfl ?_ ?_
    rotate_left
    · go_simp
      rfl
    refine hK.out _ _ ⟨((cell_far (p := ⟨gb405, _, none⟩) NB404_405.out _).trans (((cell_far (p := ⟨gb405, _, none⟩) NB404_405.out _).trans (hHeld.1)))), ((cell_far (p := ⟨gb405, _, none⟩) NB404_405.out _).trans (((cell_far (p := ⟨gb405, _, none⟩) NB404_405.out _).trans (hHeld.2.1)))), ((cell_far (p := ⟨gb405, _, none⟩) NB416_405.out _).trans (((cell_far (p := ⟨gb405, _, none⟩) NB416_405.out _).trans (hHeld.2.2.1)))), ((cell_far (p := ⟨gb405, _, none⟩) NB416_405.out _).trans (((cell_far (p := ⟨gb405, _, none⟩) NB416_405.out _).trans (hHeld.2.2.2.1)))), ((cell_far (p := ⟨gb405, _, none⟩) NB416_405.out _).trans (((cell_far (p := ⟨gb405, _, none⟩) NB416_405.out _).trans (hHeld.2.2.2.2))))⟩ (fun hHeld => ?_)
    clear hK K
    refine one_ (i := 3) (N := none) #[true,true,true,true] rfl rfl (by kernel_rfl) (by decide) (fun K hK => ?_)
    have hs41 : w38.cell? ⟨gb406, 0, none⟩ = some (.int .i64 0) := (kcl BK406.out 0).trans rfl
    have hfs41 := kfr BK406.out 0
    have hns41_0 := NB404_406.out
    have hns41_1 := NB405_406.out
    have hns41_3 := NB416_406.out
    have hms41_0 := NB406_404.out
    have hms41_1 := NB406_405.out
    have hms41_3 := NB406_416.out
    have hs42 : w38.cell? ⟨gb406, 1, none⟩ = some (.string (⟨#[]⟩ : ByteArray)) := (kcl BK406.out 1).trans rfl
    have hfs42 := kfr BK406.out 1
    have hns42_0 := NB404_406.out
    have hns42_1 := NB405_406.out
    have hns42_3 := NB416_406.out
    have hms42_0 := NB406_404.out
    have hms42_1 := NB406_405.out
    have hms42_3 := NB406_416.out
    have hs43 : w38.cell? ⟨gb406, 2, none⟩ = some (.int .i64 0) := (kcl BK406.out 2).trans rfl
    have hfs43 := kfr BK406.out 2
    have hns43_0 := NB404_406.out
    have hns43_1 := NB405_406.out
    have hns43_3 := NB416_406.out
    have hms43_0 := NB406_404.out
    have hms43_1 := NB406_405.out
    have hms43_3 := NB406_416.out
    refine skip_ (w1 := ?_) (by rfl) rfl ?_ ?_
    rotate_left
    · go_simp
      rfl
    refine hK.out _ _ ⟨((cell_far (p := ⟨gb406, _, none⟩) NB404_406.out _).trans (((cell_far (p := ⟨gb406, _, none⟩) NB404_406.out _).trans (((cell_far (p := ⟨gb406, _, none⟩) NB404_406.out _).trans (hHeld.1)))))), ((cell_far (p := ⟨gb406, _, none⟩) NB404_406.out _).trans (((cell_far (p := ⟨gb406, _, none⟩) NB404_406.out _).trans (((cell_far (p := ⟨gb406, _, none⟩) NB404_406.out _).trans (hHeld.2.1)))))), ((cell_far (p := ⟨gb406, _, none⟩) NB416_406.out _).trans (((cell_far (p := ⟨gb406, _, none⟩) NB416_406.out _).trans (((cell_far (p := ⟨gb406, _, none⟩) NB416_406.out _).trans (hHeld.2.2.1)))))), ((cell_far (p := ⟨gb406, _, none⟩) NB416_406.out _).trans (((cell_far (p := ⟨gb406, _, none⟩) NB416_406.out _).trans (((cell_far (p := ⟨gb406, _, none⟩) NB416_406.out _).trans (hHeld.2.2.2.1)))))), ((cell_far (p := ⟨gb406, _, none⟩) NB416_406.out _).trans (((cell_far (p := ⟨gb406, _, none⟩) NB416_406.out _).trans (((cell_far (p := ⟨gb406, _, none⟩) NB416_406.out _).trans (hHeld.2.2.2.2))))))⟩ (fun hHeld => ?_)
    clear hK K
    refine done_ (by kernel_rfl) ?_
    try go_wp2
    refine bodyPost_ret (results_cc rfl _ _ gb405 gb406 88 56 #[.string x405000_4, .int .i64 x405001_4] #[.int .i64 t409, .string t412, .int .i64 t415] (0, 0) (0, 0) _ _ rfl bk_ Try.underlying88 rfl (by kernel_rfl) rfl bk_ Try.underlying56 rfl (by kernel_rfl)) rfl ?_
    exact ⟨er_, bl_⟩
def armoireref24_ParseReply.j0 : Nat → ByteArray → Int → Int → Int → Int → ByteArray → Int → Option (Int × Int × Int × ByteArray × Int × Int)
  | 0, _, _, _, _, _, _, _ => none
  | k + 1, x427000, x427001, x431000, x431001, x431002, x431003, x431004 => (armoireref02_End.f x427000 x427001).bind fun t438 => (if t438 = 0 then (some (x431000, x431001, x431002, x431003, x431004, 0)) else ((armoireref02_End.f x427000 x427001).bind fun t439 => (some (0, 0, 0, (⟨#[]⟩ : ByteArray), 0, t439))))
def armoireref24_ParseReply.f (k : Nat) (a0 : ByteArray) : Option (Int × Int × Int × ByteArray × Int × Int) := (armoireref24_Open.f k a0).bind fun bt421 => (if bt421.2 = 0 then ((armoireref02_TakeN.f k bt421.1 0 19).bind fun bt423 => ((armoireref02_TakeN.f k bt423.1 bt423.2.1 1099511627776).bind fun bt427 => (if (bt427.1.size : Int) > 0 then ((armoireref12_ReadResult.f k bt427.1 bt427.2.1).bind fun bt431 => (armoireref24_ParseReply.j0 k bt431.1 bt431.2.1 bt423.2.2 bt427.2.2 bt431.2.2.1 bt431.2.2.2.1 bt431.2.2.2.2)) else (armoireref24_ParseReply.j0 k bt427.1 bt427.2.1 bt423.2.2 bt427.2.2 0 (⟨#[]⟩ : ByteArray) 0)))) else (some (0, 0, 0, (⟨#[]⟩ : ByteArray), 0, bt421.2)))
set_option maxHeartbeats 2000000 in
set_option maxRecDepth 100000 in
theorem armoireref24_ParseReply.calls (k : Nat) (a0 : ByteArray) (r1 : Int) (r2 : Int) (r3 : Int) (r4 : ByteArray) (r5 : Int) (r6 : Int) (w : World) (h : armoireref24_ParseReply.f k a0 = some (r1, r2, r3, r4, r5, r6)) :
    Calls Try.prog 21 #[.string a0] w fun e w' => e = .returned (.tuple #[.agg #[.int .i64 r1, .int .i64 r2, .int .i64 r3, .string r4, .int .i64 r5], .int .i64 r6]) ∧ Below w.heap.size w w' := by
  have hu58 := Try.underlying58
  have hu88 := Try.underlying88
  have hu56 := Try.underlying56
  have HB := Aside0.mk (Below.refl w.heap.size w)
  have H : ((armoireref24_Open.f k a0).bind fun bt421 => (if bt421.2 = 0 then ((armoireref02_TakeN.f k bt421.1 0 19).bind fun bt423 => ((armoireref02_TakeN.f k bt423.1 bt423.2.1 1099511627776).bind fun bt427 => (if (bt427.1.size : Int) > 0 then ((armoireref12_ReadResult.f k bt427.1 bt427.2.1).bind fun bt431 => (armoireref24_ParseReply.j0 k bt431.1 bt431.2.1 bt423.2.2 bt427.2.2 bt431.2.2.1 bt431.2.2.2.1 bt431.2.2.2.2)) else (armoireref24_ParseReply.j0 k bt427.1 bt427.2.1 bt423.2.2 bt427.2.2 0 (⟨#[]⟩ : ByteArray) 0)))) else (some (0, 0, 0, (⟨#[]⟩ : ByteArray), 0, bt421.2)))) = some (r1, r2, r3, r4, r5, r6) := h
  clear h
  replace H := Option.bind_eq_some_iff.mp H
  obtain ⟨⟨t421, t422⟩, A20, H⟩ := H
  replace H : (if t422 = 0 then ((armoireref02_TakeN.f k t421 0 19).bind fun bt423 => ((armoireref02_TakeN.f k bt423.1 bt423.2.1 1099511627776).bind fun bt427 => (if (bt427.1.size : Int) > 0 then ((armoireref12_ReadResult.f k bt427.1 bt427.2.1).bind fun bt431 => (armoireref24_ParseReply.j0 k bt431.1 bt431.2.1 bt423.2.2 bt427.2.2 bt431.2.2.1 bt431.2.2.2.1 bt431.2.2.2.2)) else (armoireref24_ParseReply.j0 k bt427.1 bt427.2.1 bt423.2.2 bt427.2.2 0 (⟨#[]⟩ : ByteArray) 0)))) else (some (0, 0, 0, (⟨#[]⟩ : ByteArray), 0, t422))) = some (r1, r2, r3, r4, r5, r6) := H
  have A2 := Aside0.mk A20
  clear A20
  have HS3 := Aside0.mk H
  clear H
  go_enter Try.func21, Try.ntmps21
  go_upto_if 18 with (first | ((with_reducible refine gds (N := 2) rfl ?_); refine bev ?hg (N := 2) ?hd (cs := #[.int .i64 0, .int .i64 0, .int .i64 0, .string (⟨#[]⟩ : ByteArray), .int .i64 0]) (t := 58) ?hr ?_; (case hd => rfl); (case hg => rfl); (case hr => first | (go_simp; done) | (go_simp; rfl)); intro gb420 hg w4 hbox hb; have n0_ := Aside0.mk (bsp bl_ hb); have n1_ := Aside0.mk (hbox); have n2_ := Aside0.mk ((by rw [hg]; exact bsz bl_ : w.heap.size ≤ gb420)); have n3_ := Aside0.mk ((by rw [hg]; exact bsz bl_ : w.heap.size ≤ gb420)); clear HB; have HB := n0_; have BK420 := n1_; have GW420 := n2_; have GE420 := n3_; clear n0_ n1_ n2_ n3_; clear hb hbox hg) | ((with_reducible refine gcl (f := 46) rfl ?_); refine gl_ (some 14) rfl rfl Try.func46 (by kernel_rfl) rfl #[.string a0] rfl ar_ ?_; (with_reducible refine (armoireref24_Open.calls k a0 t421 t422 _ A2.out).mono ?_); rintro e w5 ⟨rfl, hb⟩; refine ⟨_, rfl, ?_⟩; have n0_ := Aside0.mk (kbl (g := gb420) (o := .cells #[.int .i64 0, .int .i64 0, .int .i64 0, .string (⟨#[]⟩ : ByteArray), .int .i64 0] 58 (0, 0)) bk_ hb); have n1_ := Aside0.mk (bsp bl_ hb); clear BK420; clear HB; have BK420 := n0_; have HB := n1_; clear n0_ n1_; (try clear hb); (try clear hb2); (try clear hk); (try clear hi)))
  (try simp only [Act.put, List.setIfInBounds_toArray, List.set_cons_zero, List.set_cons_succ])
  have H := HS3.out
  clear HS3
  by_cases c6 : t422 = 0
  rotate_left
  · rw [if_neg c6] at H
    have c6b0 : (t422 == 0) = false := beq_eq_false_iff_ne.mpr c6
    have c6b1 : (t422 != 0) = true := bne_iff_ne.mpr c6
    (first | rw [c6b0] | (simp only [i64_w, i32_w]; rw [c6b0]) | skip)
    simp only [Option.some.injEq, Prod.mk.injEq] at H
    obtain ⟨rfl, rfl, rfl, rfl, rfl, rfl⟩ := H
    have hcz60 := bc5 BK420.out
    go_wp2
    refine bodyPost_ret (results_ct rfl _ _ gb420 58 #[.int .i64 0, .int .i64 0, .int .i64 0, .string (⟨#[]⟩ : ByteArray), .int .i64 0] (0, 0) _ rfl bk_ Try.underlying58 rfl (by kernel_rfl)) rfl ?_
    exact ⟨er_, bl_⟩
  rw [if_pos c6] at H
  have c6b0 : (t422 == 0) = true := beq_iff_eq.mpr c6
  have c6b1 : (t422 != 0) = false := bne_eq_false_iff_eq.mpr c6
  clear c6
  (first | rw [c6b0] | (simp only [i64_w, i32_w]; rw [c6b0]) | skip)
  replace H := Option.bind_eq_some_iff.mp H
  obtain ⟨⟨t423, t424, t425⟩, A70, H⟩ := H
  replace H : ((armoireref02_TakeN.f k t423 t424 1099511627776).bind fun bt427 => (if (bt427.1.size : Int) > 0 then ((armoireref12_ReadResult.f k bt427.1 bt427.2.1).bind fun bt431 => (armoireref24_ParseReply.j0 k bt431.1 bt431.2.1 t425 bt427.2.2 bt431.2.2.1 bt431.2.2.2.1 bt431.2.2.2.2)) else (armoireref24_ParseReply.j0 k bt427.1 bt427.2.1 t425 bt427.2.2 0 (⟨#[]⟩ : ByteArray) 0))) = some (r1, r2, r3, r4, r5, r6) := H
  have A7 := Aside0.mk A70
  clear A70
  replace H := Option.bind_eq_some_iff.mp H
  obtain ⟨⟨t427, t428, t429⟩, A80, H⟩ := H
  replace H : (if (t427.size : Int) > 0 then ((armoireref12_ReadResult.f k t427 t428).bind fun bt431 => (armoireref24_ParseReply.j0 k bt431.1 bt431.2.1 t425 t429 bt431.2.2.1 bt431.2.2.2.1 bt431.2.2.2.2)) else (armoireref24_ParseReply.j0 k t427 t428 t425 t429 0 (⟨#[]⟩ : ByteArray) 0)) = some (r1, r2, r3, r4, r5, r6) := H
  have A8 := Aside0.mk A80
  clear A80
  have HC9 := Aside0.mk H
  clear H
  go_upto_if 38 with (first | ((with_reducible refine gcl (f := 47) rfl ?_); refine gl_ (some 24) rfl rfl Try.func47 (by kernel_rfl) rfl #[.agg #[.string t421, .int .i64 0], .int .i64 19] rfl ar_ ?_; (with_reducible refine (armoireref02_TakeN.calls k t421 0 19 t423 t424 t425 _ A7.out).mono ?_); rintro e w10 ⟨rfl, hb⟩; refine ⟨_, rfl, ?_⟩; have n0_ := Aside0.mk (kbl (g := gb420) (o := .cells #[.int .i64 0, .int .i64 0, .int .i64 0, .string (⟨#[]⟩ : ByteArray), .int .i64 0] 58 (0, 0)) bk_ hb); have n1_ := Aside0.mk (bsp bl_ hb); clear BK420; clear HB; have BK420 := n0_; have HB := n1_; clear n0_ n1_; (try clear hb); (try clear hb2); (try clear hk); (try clear hi)) | ((with_reducible refine gds (N := 6) rfl ?_); refine bev ?hg (N := 6) ?hd (cs := #[.string (⟨#[]⟩ : ByteArray), .int .i64 0]) (t := 88) ?hr ?_; (case hd => rfl); (case hg => rfl); (case hr => first | (go_simp; done) | (go_simp; rfl)); intro gb426 hg w11 hbox hb; have n0_ := Aside0.mk (kbl (g := gb420) (o := .cells #[.int .i64 0, .int .i64 0, .int .i64 0, .string (⟨#[]⟩ : ByteArray), .int .i64 0] 58 (0, 0)) bk_ hb); have n1_ := Aside0.mk (bsp bl_ hb); have n2_ := Aside0.mk (hbox); have n3_ := Aside0.mk ((by rw [hg]; exact bsz bl_ : w.heap.size ≤ gb426)); have n4_ := Aside0.mk ((by rw [hg]; exact bsz bl_ : w.heap.size ≤ gb426)); have n5_ := Aside0.mk ((by rw [hg]; exact Nat.ne_of_lt (blk_lt (g := gb420) (o := .cells #[.int .i64 0, .int .i64 0, .int .i64 0, .string (⟨#[]⟩ : ByteArray), .int .i64 0] 58 (0, 0)) bk_) : gb420 ≠ gb426)); have n6_ := Aside0.mk ((by rw [hg]; exact Nat.ne_of_gt (blk_lt (g := gb420) (o := .cells #[.int .i64 0, .int .i64 0, .int .i64 0, .string (⟨#[]⟩ : ByteArray), .int .i64 0] 58 (0, 0)) bk_) : gb426 ≠ gb420)); clear BK420; clear HB; have BK420 := n0_; have HB := n1_; have BK426 := n2_; have GW426 := n3_; have GE426 := n4_; have NB420_426 := n5_; have NB426_420 := n6_; clear n0_ n1_ n2_ n3_ n4_ n5_ n6_; clear hb hbox hg; have hnb12 := NB426_420.out; have hnc12 := NB420_426.out; have hcz13 := bc2 BK426.out) | ((with_reducible refine gcl (f := 47) rfl ?_); refine gl_ (some 29) rfl rfl Try.func47 (by kernel_rfl) rfl #[.agg #[.string t423, .int .i64 t424], .int .i64 1099511627776] rfl ar_ ?_; (with_reducible refine (armoireref02_TakeN.calls k t423 t424 1099511627776 t427 t428 t429 _ A8.out).mono ?_); rintro e w14 ⟨rfl, hb⟩; refine ⟨_, rfl, ?_⟩; have n0_ := Aside0.mk (kbl (g := gb420) (o := .cells #[.int .i64 0, .int .i64 0, .int .i64 0, .string (⟨#[]⟩ : ByteArray), .int .i64 0] 58 (0, 0)) bk_ hb); have n1_ := Aside0.mk (kbl (g := gb426) (o := .cells #[.string t423, .int .i64 t424] 88 (0, 0)) bk_ hb); have n2_ := Aside0.mk (bsp bl_ hb); clear BK420; clear BK426; clear HB; have BK420 := n0_; have BK426 := n1_; have HB := n2_; clear n0_ n1_ n2_; (try clear hb); (try clear hb2); (try clear hk); (try clear hi); have hcz15 := bc2 BK426.out) | ((with_reducible refine gds (N := 9) rfl ?_); refine bev ?hg (N := 9) ?hd (cs := #[.int .i64 0, .int .i64 0, .int .i64 0, .string (⟨#[]⟩ : ByteArray), .int .i64 0]) (t := 58) ?hr ?_; (case hd => rfl); (case hg => rfl); (case hr => first | (go_simp; done) | (go_simp; rfl)); intro gb430 hg w16 hbox hb; have n0_ := Aside0.mk (kbl (g := gb420) (o := .cells #[.int .i64 0, .int .i64 0, .int .i64 0, .string (⟨#[]⟩ : ByteArray), .int .i64 0] 58 (0, 0)) bk_ hb); have n1_ := Aside0.mk (kbl (g := gb426) (o := .cells #[.string t427, .int .i64 t428] 88 (0, 0)) bk_ hb); have n2_ := Aside0.mk (bsp bl_ hb); have n3_ := Aside0.mk (hbox); have n4_ := Aside0.mk ((by rw [hg]; exact bsz bl_ : w.heap.size ≤ gb430)); have n5_ := Aside0.mk ((by rw [hg]; exact bsz bl_ : w.heap.size ≤ gb430)); have n6_ := Aside0.mk ((by rw [hg]; exact Nat.ne_of_lt (blk_lt (g := gb420) (o := .cells #[.int .i64 0, .int .i64 0, .int .i64 0, .string (⟨#[]⟩ : ByteArray), .int .i64 0] 58 (0, 0)) bk_) : gb420 ≠ gb430)); have n7_ := Aside0.mk ((by rw [hg]; exact Nat.ne_of_gt (blk_lt (g := gb420) (o := .cells #[.int .i64 0, .int .i64 0, .int .i64 0, .string (⟨#[]⟩ : ByteArray), .int .i64 0] 58 (0, 0)) bk_) : gb430 ≠ gb420)); have n8_ := Aside0.mk ((by rw [hg]; exact Nat.ne_of_lt (blk_lt (g := gb426) (o := .cells #[.string t427, .int .i64 t428] 88 (0, 0)) bk_) : gb426 ≠ gb430)); have n9_ := Aside0.mk ((by rw [hg]; exact Nat.ne_of_gt (blk_lt (g := gb426) (o := .cells #[.string t427, .int .i64 t428] 88 (0, 0)) bk_) : gb430 ≠ gb426)); clear BK420; clear BK426; clear HB; have BK420 := n0_; have BK426 := n1_; have HB := n2_; have BK430 := n3_; have GW430 := n4_; have GE430 := n5_; have NB420_430 := n6_; have NB430_420 := n7_; have NB426_430 := n8_; have NB430_426 := n9_; clear n0_ n1_ n2_ n3_ n4_ n5_ n6_ n7_ n8_ n9_; clear hb hbox hg; have hnb17 := NB430_420.out; have hnc17 := NB420_430.out; have hnb18 := NB430_426.out; have hnc18 := NB426_430.out; have hcz19 := bc5 BK430.out; have hcz20 := bc2 BK426.out))
  (try simp only [Act.put, List.setIfInBounds_toArray, List.set_cons_zero, List.set_cons_succ])
  go_cut [] (fun wc => ∃ (kq : Nat) (x427000_8 : ByteArray) (x427001_8 : Int) (x431002_8 : Int) (x431003_8 : ByteArray) (x431004_8 : Int), Aside0 (armoireref24_ParseReply.j0 kq x427000_8 x427001_8 t425 t429 x431002_8 x431003_8 x431004_8 = some (r1, r2, r3, r4, r5, r6)) ∧ Aside0 (kq ≤ k) ∧ Aside0 (wc.heap[gb420]? = some (.cells #[.int .i64 0, .int .i64 0, .int .i64 0, .string (⟨#[]⟩ : ByteArray), .int .i64 0] 58 (0, 0))) ∧ Aside0 (wc.heap[gb426]? = some (.cells #[.string x427000_8, .int .i64 x427001_8] 88 (0, 0))) ∧ Aside0 (wc.heap[gb430]? = some (.cells #[.int .i64 t425, .int .i64 t429, .int .i64 x431002_8, .string x431003_8, .int .i64 x431004_8] 58 (0, 0))) ∧ Aside0 (Below w.heap.size w wc))
  case first =>
    have H := HC9.out
    clear HC9
    by_cases c21 : (t427.size : Int) > 0
    rotate_left
    · rw [if_neg c21] at H
      have c21b0 : decide (0 < (t427.size : Int)) = false := decide_eq_false c21
      have c21b1 : decide (0 < t427.size) = false := decide_eq_false (by omega)
      clear c21
      (first | rw [c21b0] | rw [c21b1] | (simp only [i64_w, i32_w]; rw [c21b0]) | (simp only [i64_w, i32_w]; rw [c21b1]) | rw [c21b2] | skip)
      have H' := Aside0.mk H
      clear H
      go_wp2
      go_meet
      case rel => exact ⟨_, (t427), (t428), (0), ((⟨#[]⟩ : ByteArray)), (0), H', ⟨by first | omega | exact Nat.le_refl _⟩, ⟨bk_⟩, ⟨bk_⟩, ⟨bk_⟩, ⟨bl_⟩⟩
    rw [if_pos c21] at H
    have c21b0 : decide (0 < (t427.size : Int)) = true := decide_eq_true c21
    have c21b1 : decide (0 < t427.size) = true := decide_eq_true (by omega)
    clear c21
    (first | rw [c21b0] | rw [c21b1] | (simp only [i64_w, i32_w]; rw [c21b0]) | (simp only [i64_w, i32_w]; rw [c21b1]) | rw [c21b2] | skip)
    replace H := Option.bind_eq_some_iff.mp H
    obtain ⟨⟨t431, t432, t433, t434, t435⟩, A220, H⟩ := H
    replace H : (armoireref24_ParseReply.j0 k t431 t432 t425 t429 t433 t434 t435) = some (r1, r2, r3, r4, r5, r6) := H
    have A22 := Aside0.mk A220
    clear A220
    have H' := Aside0.mk H
    clear H
    have hnb23 := NB426_420.out
    have hnc23 := NB420_426.out
    have hnb24 := NB426_430.out
    have hnc24 := NB430_426.out
    have hcz25 := bc2 BK426.out
    go_wp2_with (first | ((with_reducible refine gcl (f := 53) rfl ?_); refine gl_ (some 41) rfl rfl Try.func53 (by kernel_rfl) rfl #[.agg #[.string t427, .int .i64 t428]] rfl ar_ ?_; (with_reducible refine (armoireref12_ReadResult.calls k t427 t428 t431 t432 t433 t434 t435 _ A22.out).mono ?_); rintro e w26 ⟨rfl, hb⟩; refine ⟨_, rfl, ?_⟩; have n0_ := Aside0.mk (kbl (g := gb420) (o := .cells #[.int .i64 0, .int .i64 0, .int .i64 0, .string (⟨#[]⟩ : ByteArray), .int .i64 0] 58 (0, 0)) bk_ hb); have n1_ := Aside0.mk (kbl (g := gb426) (o := .cells #[.string t427, .int .i64 t428] 88 (0, 0)) bk_ hb); have n2_ := Aside0.mk (kbl (g := gb430) (o := .cells #[.int .i64 t425, .int .i64 t429, .int .i64 0, .string (⟨#[]⟩ : ByteArray), .int .i64 0] 58 (0, 0)) bk_ hb); have n3_ := Aside0.mk (bsp bl_ hb); clear BK420; clear BK426; clear BK430; clear HB; have BK420 := n0_; have BK426 := n1_; have BK430 := n2_; have HB := n3_; clear n0_ n1_ n2_ n3_; (try clear hb); (try clear hb2); (try clear hk); (try clear hi)) | ((with_reducible refine gds (N := 10) rfl ?_); refine bev ?hg (N := 10) ?hd (cs := #[.string (⟨#[]⟩ : ByteArray), .int .i64 0]) (t := 88) ?hr ?_; (case hd => rfl); (case hg => rfl); (case hr => first | (go_simp; done) | (go_simp; rfl)); intro gb436 hg w27 hbox hb; have n0_ := Aside0.mk (kbl (g := gb420) (o := .cells #[.int .i64 0, .int .i64 0, .int .i64 0, .string (⟨#[]⟩ : ByteArray), .int .i64 0] 58 (0, 0)) bk_ hb); have n1_ := Aside0.mk (kbl (g := gb426) (o := .cells #[.string t427, .int .i64 t428] 88 (0, 0)) bk_ hb); have n2_ := Aside0.mk (kbl (g := gb430) (o := .cells #[.int .i64 t425, .int .i64 t429, .int .i64 0, .string (⟨#[]⟩ : ByteArray), .int .i64 0] 58 (0, 0)) bk_ hb); have n3_ := Aside0.mk (bsp bl_ hb); have n4_ := Aside0.mk (hbox); have n5_ := Aside0.mk ((by rw [hg]; exact bsz bl_ : w.heap.size ≤ gb436)); have n6_ := Aside0.mk ((by rw [hg]; exact bsz bl_ : w.heap.size ≤ gb436)); have n7_ := Aside0.mk ((by rw [hg]; exact Nat.ne_of_lt (blk_lt (g := gb420) (o := .cells #[.int .i64 0, .int .i64 0, .int .i64 0, .string (⟨#[]⟩ : ByteArray), .int .i64 0] 58 (0, 0)) bk_) : gb420 ≠ gb436)); have n8_ := Aside0.mk ((by rw [hg]; exact Nat.ne_of_gt (blk_lt (g := gb420) (o := .cells #[.int .i64 0, .int .i64 0, .int .i64 0, .string (⟨#[]⟩ : ByteArray), .int .i64 0] 58 (0, 0)) bk_) : gb436 ≠ gb420)); have n9_ := Aside0.mk ((by rw [hg]; exact Nat.ne_of_lt (blk_lt (g := gb426) (o := .cells #[.string t427, .int .i64 t428] 88 (0, 0)) bk_) : gb426 ≠ gb436)); have n10_ := Aside0.mk ((by rw [hg]; exact Nat.ne_of_gt (blk_lt (g := gb426) (o := .cells #[.string t427, .int .i64 t428] 88 (0, 0)) bk_) : gb436 ≠ gb426)); have n11_ := Aside0.mk ((by rw [hg]; exact Nat.ne_of_lt (blk_lt (g := gb430) (o := .cells #[.int .i64 t425, .int .i64 t429, .int .i64 0, .string (⟨#[]⟩ : ByteArray), .int .i64 0] 58 (0, 0)) bk_) : gb430 ≠ gb436)); have n12_ := Aside0.mk ((by rw [hg]; exact Nat.ne_of_gt (blk_lt (g := gb430) (o := .cells #[.int .i64 t425, .int .i64 t429, .int .i64 0, .string (⟨#[]⟩ : ByteArray), .int .i64 0] 58 (0, 0)) bk_) : gb436 ≠ gb430)); clear BK420; clear BK426; clear BK430; clear HB; have BK420 := n0_; have BK426 := n1_; have BK430 := n2_; have HB := n3_; have BK436 := n4_; have GW436 := n5_; have GE436 := n6_; have NB420_436 := n7_; have NB436_420 := n8_; have NB426_436 := n9_; have NB436_426 := n10_; have NB430_436 := n11_; have NB436_430 := n12_; clear n0_ n1_ n2_ n3_ n4_ n5_ n6_ n7_ n8_ n9_ n10_ n11_ n12_; clear hb hbox hg) | ((with_reducible refine gds (N := 11) rfl ?_); refine bev ?hg (N := 11) ?hd (cs := #[.int .i64 0, .string (⟨#[]⟩ : ByteArray), .int .i64 0]) (t := 56) ?hr ?_; (case hd => rfl); (case hg => rfl); (case hr => first | (go_simp; done) | (go_simp; rfl)); intro gb437 hg w28 hbox hb; have n0_ := Aside0.mk (kbl (g := gb420) (o := .cells #[.int .i64 0, .int .i64 0, .int .i64 0, .string (⟨#[]⟩ : ByteArray), .int .i64 0] 58 (0, 0)) bk_ hb); have n1_ := Aside0.mk (kbl (g := gb426) (o := .cells #[.string t427, .int .i64 t428] 88 (0, 0)) bk_ hb); have n2_ := Aside0.mk (kbl (g := gb430) (o := .cells #[.int .i64 t425, .int .i64 t429, .int .i64 0, .string (⟨#[]⟩ : ByteArray), .int .i64 0] 58 (0, 0)) bk_ hb); have n3_ := Aside0.mk (kbl (g := gb436) (o := .cells #[.string (⟨#[]⟩ : ByteArray), .int .i64 0] 88 (0, 0)) bk_ hb); have n4_ := Aside0.mk (bsp bl_ hb); have n5_ := Aside0.mk (hbox); have n6_ := Aside0.mk ((by rw [hg]; exact bsz bl_ : w.heap.size ≤ gb437)); have n7_ := Aside0.mk ((by rw [hg]; exact bsz bl_ : w.heap.size ≤ gb437)); have n8_ := Aside0.mk ((by rw [hg]; exact Nat.ne_of_lt (blk_lt (g := gb420) (o := .cells #[.int .i64 0, .int .i64 0, .int .i64 0, .string (⟨#[]⟩ : ByteArray), .int .i64 0] 58 (0, 0)) bk_) : gb420 ≠ gb437)); have n9_ := Aside0.mk ((by rw [hg]; exact Nat.ne_of_gt (blk_lt (g := gb420) (o := .cells #[.int .i64 0, .int .i64 0, .int .i64 0, .string (⟨#[]⟩ : ByteArray), .int .i64 0] 58 (0, 0)) bk_) : gb437 ≠ gb420)); have n10_ := Aside0.mk ((by rw [hg]; exact Nat.ne_of_lt (blk_lt (g := gb426) (o := .cells #[.string t427, .int .i64 t428] 88 (0, 0)) bk_) : gb426 ≠ gb437)); have n11_ := Aside0.mk ((by rw [hg]; exact Nat.ne_of_gt (blk_lt (g := gb426) (o := .cells #[.string t427, .int .i64 t428] 88 (0, 0)) bk_) : gb437 ≠ gb426)); have n12_ := Aside0.mk ((by rw [hg]; exact Nat.ne_of_lt (blk_lt (g := gb430) (o := .cells #[.int .i64 t425, .int .i64 t429, .int .i64 0, .string (⟨#[]⟩ : ByteArray), .int .i64 0] 58 (0, 0)) bk_) : gb430 ≠ gb437)); have n13_ := Aside0.mk ((by rw [hg]; exact Nat.ne_of_gt (blk_lt (g := gb430) (o := .cells #[.int .i64 t425, .int .i64 t429, .int .i64 0, .string (⟨#[]⟩ : ByteArray), .int .i64 0] 58 (0, 0)) bk_) : gb437 ≠ gb430)); have n14_ := Aside0.mk ((by rw [hg]; exact Nat.ne_of_lt (blk_lt (g := gb436) (o := .cells #[.string (⟨#[]⟩ : ByteArray), .int .i64 0] 88 (0, 0)) bk_) : gb436 ≠ gb437)); have n15_ := Aside0.mk ((by rw [hg]; exact Nat.ne_of_gt (blk_lt (g := gb436) (o := .cells #[.string (⟨#[]⟩ : ByteArray), .int .i64 0] 88 (0, 0)) bk_) : gb437 ≠ gb436)); clear BK420; clear BK426; clear BK430; clear BK436; clear HB; have BK420 := n0_; have BK426 := n1_; have BK430 := n2_; have BK436 := n3_; have HB := n4_; have BK437 := n5_; have GW437 := n6_; have GE437 := n7_; have NB420_437 := n8_; have NB437_420 := n9_; have NB426_437 := n10_; have NB437_426 := n11_; have NB430_437 := n12_; have NB437_430 := n13_; have NB436_437 := n14_; have NB437_436 := n15_; clear n0_ n1_ n2_ n3_ n4_ n5_ n6_ n7_ n8_ n9_ n10_ n11_ n12_ n13_ n14_ n15_; clear hb hbox hg; have hnb29 := NB436_420.out; have hnc29 := NB420_436.out; have hnb30 := NB436_426.out; have hnc30 := NB426_436.out; have hnb31 := NB436_430.out; have hnc31 := NB430_436.out; have hnb32 := NB436_437.out; have hnc32 := NB437_436.out; have hcz33 := bc2 BK436.out; have hnb34 := NB437_420.out; have hnc34 := NB420_437.out; have hnb35 := NB437_426.out; have hnc35 := NB426_437.out; have hnb36 := NB437_430.out; have hnc36 := NB430_437.out; have hcz37 := bc3 BK437.out; have hcz38 := bc2 BK426.out; have hnb39 := NB430_420.out; have hnc39 := NB420_430.out; have hcz40 := bc5 BK430.out))
    go_meet
    case rel => exact ⟨_, (t431), (t432), (t433), (t434), (t435), H', ⟨by first | omega | exact Nat.le_refl _⟩, ⟨bk_⟩, ⟨bk_⟩, ⟨bk_⟩, ⟨bl_⟩⟩
  clear HC9
  try clear c1
  try clear c2
  try clear p2
  try clear c3
  try clear c4
  try clear c5
  try clear c6
  try clear c6b0
  try clear c6b1
  try clear c12
  try clear c17
  try clear c18
  try clear c21
  try clear c21b0
  try clear c21b1
  try clear c21b2
  try clear c23
  try clear c24
  try clear c29
  try clear c30
  try clear c31
  try clear c32
  try clear c34
  try clear c35
  try clear c36
  try clear c39
  try clear hcz13
  try clear hcz15
  try clear hcz19
  try clear hcz20
  try clear hcz25
  try clear hcz33
  try clear hcz37
  try clear hcz38
  try clear hcz40
  try clear hcz13
  try clear hcz15
  try clear hcz19
  try clear hcz20
  try clear hcz25
  try clear hcz33
  try clear hcz37
  try clear hcz38
  try clear hcz40
  obtain ⟨kq, x427000_8, x427001_8, x431002_8, x431003_8, x431004_8, HA, HJ8, BK420, BK426, BK430, HB⟩ := hcut
  cases kq with
  | zero => exact absurd HA.out (by simp [armoireref24_ParseReply.j0])
  | succ kj8 =>
    have H := HA.out
    clear HA
    simp only [armoireref24_ParseReply.j0] at H
    replace H := Option.bind_eq_some_iff.mp H
    obtain ⟨t438, A410, H⟩ := H
    replace H : (if t438 = 0 then (some (t425, t429, x431002_8, x431003_8, x431004_8, 0)) else ((armoireref02_End.f x427000_8 x427001_8).bind fun t439 => (some (0, 0, 0, (⟨#[]⟩ : ByteArray), 0, t439)))) = some (r1, r2, r3, r4, r5, r6) := H
    have A41 := Aside0.mk A410
    clear A410
    have HS42 := Aside0.mk H
    clear H
    have hnb43 := NB426_420.out
    have hnc43 := NB420_426.out
    have hnb44 := NB426_430.out
    have hnc44 := NB430_426.out
    have hcz45 := bc2 BK426.out
    go_upto_if 49 with (first | ((with_reducible refine gcl (f := 50) rfl ?_); refine gl_ (some 48) rfl rfl Try.func50 (by kernel_rfl) rfl #[.agg #[.string x427000_8, .int .i64 x427001_8]] rfl ar_ ?_; (with_reducible refine (armoireref02_End.calls x427000_8 x427001_8 t438 _ A41.out).mono ?_); rintro e w46 ⟨rfl, hb⟩; refine ⟨_, rfl, ?_⟩; have n0_ := Aside0.mk (kbl (g := gb420) (o := .cells #[.int .i64 0, .int .i64 0, .int .i64 0, .string (⟨#[]⟩ : ByteArray), .int .i64 0] 58 (0, 0)) bk_ hb); have n1_ := Aside0.mk (kbl (g := gb426) (o := .cells #[.string x427000_8, .int .i64 x427001_8] 88 (0, 0)) bk_ hb); have n2_ := Aside0.mk (kbl (g := gb430) (o := .cells #[.int .i64 t425, .int .i64 t429, .int .i64 x431002_8, .string x431003_8, .int .i64 x431004_8] 58 (0, 0)) bk_ hb); have n3_ := Aside0.mk (bsp bl_ hb); clear BK420; clear BK426; clear BK430; clear HB; have BK420 := n0_; have BK426 := n1_; have BK430 := n2_; have HB := n3_; clear n0_ n1_ n2_ n3_; (try clear hb); (try clear hb2); (try clear hk); (try clear hi)))
    (try simp only [Act.put, List.setIfInBounds_toArray, List.set_cons_zero, List.set_cons_succ])
    have H := HS42.out
    clear HS42
    by_cases c47 : t438 = 0
    · rw [if_pos c47] at H
      have c47b0 : (t438 == 0) = true := beq_iff_eq.mpr c47
      have c47b1 : (t438 != 0) = false := bne_eq_false_iff_eq.mpr c47
      clear c47
      (first | rw [c47b0] | (simp only [i64_w, i32_w]; rw [c47b0]) | skip)
      simp only [Option.some.injEq, Prod.mk.injEq] at H
      obtain ⟨rfl, rfl, rfl, rfl, rfl, rfl⟩ := H
      have hnb48 := NB430_420.out
      have hnc48 := NB420_430.out
      have hnb49 := NB430_426.out
      have hnc49 := NB426_430.out
      have hcz50 := bc5 BK430.out
      have hnb51 := NB420_426.out
      have hnc51 := NB426_420.out
      have hcz52 := bc5 BK420.out
      go_wp2
      refine bodyPost_ret (results_ct rfl _ _ gb420 58 #[.int .i64 t425, .int .i64 t429, .int .i64 x431002_8, .string x431003_8, .int .i64 x431004_8] (0, 0) _ rfl bk_ Try.underlying58 rfl (by kernel_rfl)) rfl ?_
      exact ⟨er_, bl_⟩
    rw [if_neg c47] at H
    have c47b0 : (t438 == 0) = false := beq_eq_false_iff_ne.mpr c47
    have c47b1 : (t438 != 0) = true := bne_iff_ne.mpr c47
    (first | rw [c47b0] | (simp only [i64_w, i32_w]; rw [c47b0]) | skip)
    replace H := Option.bind_eq_some_iff.mp H
    obtain ⟨t439, A530, H⟩ := H
    replace H : (some (0, 0, 0, (⟨#[]⟩ : ByteArray), 0, t439)) = some (r1, r2, r3, r4, r5, r6) := H
    have A53 := Aside0.mk A530
    clear A530
    simp only [Option.some.injEq, Prod.mk.injEq] at H
    obtain ⟨rfl, rfl, rfl, rfl, rfl, rfl⟩ := H
    have hnb54 := NB426_420.out
    have hnc54 := NB420_426.out
    have hnb55 := NB426_430.out
    have hnc55 := NB430_426.out
    have hcz56 := bc2 BK426.out
    go_wp2_with (first | ((with_reducible refine gcl (f := 50) rfl ?_); refine gl_ (some 52) rfl rfl Try.func50 (by kernel_rfl) rfl #[.agg #[.string x427000_8, .int .i64 x427001_8]] rfl ar_ ?_; (with_reducible refine (armoireref02_End.calls x427000_8 x427001_8 t439 _ A53.out).mono ?_); rintro e w57 ⟨rfl, hb⟩; refine ⟨_, rfl, ?_⟩; have n0_ := Aside0.mk (kbl (g := gb420) (o := .cells #[.int .i64 0, .int .i64 0, .int .i64 0, .string (⟨#[]⟩ : ByteArray), .int .i64 0] 58 (0, 0)) bk_ hb); have n1_ := Aside0.mk (kbl (g := gb426) (o := .cells #[.string x427000_8, .int .i64 x427001_8] 88 (0, 0)) bk_ hb); have n2_ := Aside0.mk (kbl (g := gb430) (o := .cells #[.int .i64 t425, .int .i64 t429, .int .i64 x431002_8, .string x431003_8, .int .i64 x431004_8] 58 (0, 0)) bk_ hb); have n3_ := Aside0.mk (bsp bl_ hb); clear BK420; clear BK426; clear BK430; clear HB; have BK420 := n0_; have BK426 := n1_; have BK430 := n2_; have HB := n3_; clear n0_ n1_ n2_ n3_; (try clear hb); (try clear hb2); (try clear hk); (try clear hi); have hnb58 := NB420_430.out; have hnc58 := NB430_420.out; have hcz59 := bc5 BK420.out))
    refine bodyPost_ret (results_ct rfl _ _ gb420 58 #[.int .i64 0, .int .i64 0, .int .i64 0, .string (⟨#[]⟩ : ByteArray), .int .i64 0] (0, 0) _ rfl bk_ Try.underlying58 rfl (by kernel_rfl)) rfl ?_
    exact ⟨er_, bl_⟩
end Go.Proofs.Ytkkkmbgflflcnaa.PS

