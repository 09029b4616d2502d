import Derived.Test.YtkkkmbgflflcnaaQSxPSx6
import Derived.Test.YtkkkmbgflflcnaaQSxPSx11
import Derived.Test.YtkkkmbgflflcnaaQSxPSx12
import Derived.Test.YtkkkmbgflflcnaaQSxPSx14
namespace Go.Proofs.Ytkkkmbgflflcnaa.PS
open Go.Proofs.Ytkkkmbgflflcnaa.PL
open Go.RowKit Go.Proofs.YtkkkmbgflflcnaaW.PrintWords Go.Proofs.YtkkkmbgflflcnaaW.PrintLast Go.Proofs.YtkkkmbgflflcnaaW.PrintMore
attribute [local go_sem] max2_int min2_int max_two min_two max_three min_three max_four min_four
set_option linter.unusedVariables false
set_option linter.unusedSimpArgs false
mutual
def armoireref24_Parse.j0 : Nat → Int → Bool → ByteArray → Int → Option (Int × Int × ByteArray × Int × ByteArray × ByteArray × Int × Int)
  | 0, _, _, _, _ => none
  | k + 1, x7, x36, x339000, x339001 => if x36 = true then (some (0, 0, (⟨#[]⟩ : ByteArray), 0, (⟨#[]⟩ : ByteArray), (⟨#[]⟩ : ByteArray), 0, 6)) else (if x7 = 2 then ((armoireref02_TakeS.f k x339000 x339001 16).bind fun bt340 => ((armoireref12_Read.f k bt340.1 bt340.2.1).bind fun bt344 => (armoireref24_Parse.j1 k x7 bt344.1 bt344.2.1 x7 0 bt340.2.2 bt344.2.2.1 bt344.2.2.2.1 bt344.2.2.2.2.1 bt344.2.2.2.2.2))) else (armoireref24_Parse.j1 k x7 x339000 x339001 x7 0 (⟨#[]⟩ : ByteArray) 0 (⟨#[]⟩ : ByteArray) (⟨#[]⟩ : ByteArray) 0))
def armoireref24_Parse.j1 : Nat → Int → ByteArray → Int → Int → Int → ByteArray → Int → ByteArray → ByteArray → Int → Option (Int × Int × ByteArray × Int × ByteArray × ByteArray × Int × Int)
  | 0, _, _, _, _, _, _, _, _, _, _ => none
  | k + 1, x7, x339000, x339001, x340000, x340001, x340002, x340003, x340004, x340005, x340006 => if x7 = 4 then (armoireref24_Parse.j2 k true x339000 x339001 x340000 x340001 x340002 x340003 x340004 x340005 x340006) else (armoireref24_Parse.j2 k (x7 == 7) x339000 x339001 x340000 x340001 x340002 x340003 x340004 x340005 x340006)
def armoireref24_Parse.j2 : Nat → Bool → ByteArray → Int → Int → Int → ByteArray → Int → ByteArray → ByteArray → Int → Option (Int × Int × ByteArray × Int × ByteArray × ByteArray × Int × Int)
  | 0, _, _, _, _, _, _, _, _, _, _ => none
  | k + 1, x62, x339000, x339001, x340000, x340001, x340002, x340003, x340004, x340005, x340006 => if x62 = true then ((armoireref02_TakeN.f k x339000 x339001 1099511627776).bind fun bt352 => (armoireref24_Parse.j3 k bt352.1 bt352.2.1 x340000 bt352.2.2 x340002 x340003 x340004 x340005 x340006)) else (armoireref24_Parse.j3 k x339000 x339001 x340000 x340001 x340002 x340003 x340004 x340005 x340006)
def armoireref24_Parse.j3 : Nat → ByteArray → Int → Int → Int → ByteArray → Int → ByteArray → ByteArray → Int → Option (Int × Int × ByteArray × Int × ByteArray × ByteArray × Int × Int)
  | 0, _, _, _, _, _, _, _, _, _ => none
  | k + 1, x339000, x339001, x340000, x340001, x340002, x340003, x340004, x340005, x340006 => (armoireref02_End.f x339000 x339001).bind fun t356 => (if t356 = 0 then (some (x340000, x340001, x340002, x340003, x340004, x340005, x340006, 0)) else ((armoireref02_End.f x339000 x339001).bind fun t357 => (some (0, 0, (⟨#[]⟩ : ByteArray), 0, (⟨#[]⟩ : ByteArray), (⟨#[]⟩ : ByteArray), 0, t357))))
end
def armoireref24_Parse.f (k : Nat) (a0 : ByteArray) : Option (Int × Int × ByteArray × Int × ByteArray × ByteArray × Int × Int) := (armoireref24_Open.f k a0).bind fun bt333 => (if bt333.2 = 0 then ((armoireref02_TakeN.f k bt333.1 0 7).bind fun bt335 => (if bt335.2.1 = 0 then (armoireref24_Parse.j0 k bt335.2.2 (bt335.2.2 == 0) bt335.1 bt335.2.1) else (armoireref24_Parse.j0 k bt335.2.2 false bt335.1 bt335.2.1))) else (some (0, 0, (⟨#[]⟩ : ByteArray), 0, (⟨#[]⟩ : ByteArray), (⟨#[]⟩ : ByteArray), 0, bt333.2)))
set_option maxHeartbeats 2000000 in
set_option maxRecDepth 100000 in
theorem armoireref24_Parse.calls (k : Nat) (a0 : ByteArray) (r1 : Int) (r2 : Int) (r3 : ByteArray) (r4 : Int) (r5 : ByteArray) (r6 : ByteArray) (r7 : Int) (r8 : Int) (w : World) (h : armoireref24_Parse.f k a0 = some (r1, r2, r3, r4, r5, r6, r7, r8)) :
    Calls Try.prog 19 #[.string a0] w fun e w' => e = .returned (.tuple #[.agg #[.int .i64 r1, .int .i64 r2, .string r3, .int .i64 r4, .string r5, .string r6, .int .i64 r7], .int .i64 r8]) ∧ Below w.heap.size w w' := by
  have hu36 := Try.underlying36
  have hu88 := Try.underlying88
  have hu34 := Try.underlying34
  have HB := Aside0.mk (Below.refl w.heap.size w)
  have H : ((armoireref24_Open.f k a0).bind fun bt333 => (if bt333.2 = 0 then ((armoireref02_TakeN.f k bt333.1 0 7).bind fun bt335 => (if bt335.2.1 = 0 then (armoireref24_Parse.j0 k bt335.2.2 (bt335.2.2 == 0) bt335.1 bt335.2.1) else (armoireref24_Parse.j0 k bt335.2.2 false bt335.1 bt335.2.1))) else (some (0, 0, (⟨#[]⟩ : ByteArray), 0, (⟨#[]⟩ : ByteArray), (⟨#[]⟩ : ByteArray), 0, bt333.2)))) = some (r1, r2, r3, r4, r5, r6, r7, r8) := h
  clear h
  replace H := Option.bind_eq_some_iff.mp H
  obtain ⟨⟨t333, t334⟩, A20, H⟩ := H
  replace H : (if t334 = 0 then ((armoireref02_TakeN.f k t333 0 7).bind fun bt335 => (if bt335.2.1 = 0 then (armoireref24_Parse.j0 k bt335.2.2 (bt335.2.2 == 0) bt335.1 bt335.2.1) else (armoireref24_Parse.j0 k bt335.2.2 false bt335.1 bt335.2.1))) else (some (0, 0, (⟨#[]⟩ : ByteArray), 0, (⟨#[]⟩ : ByteArray), (⟨#[]⟩ : ByteArray), 0, t334))) = some (r1, r2, r3, r4, r5, r6, r7, r8) := H
  have A2 := Aside0.mk A20
  clear A20
  have HS3 := Aside0.mk H
  clear H
  go_enter Try.func19, Try.ntmps19
  go_upto_if 21 with (first | ((with_reducible refine gds (N := 2) rfl ?_); refine bev ?hg (N := 2) ?hd (cs := #[.int .i64 0, .int .i64 0, .string (⟨#[]⟩ : ByteArray), .int .i64 0, .string (⟨#[]⟩ : ByteArray), .string (⟨#[]⟩ : ByteArray), .int .i64 0]) (t := 36) ?hr ?_; (case hd => rfl); (case hg => rfl); (case hr => first | (go_simp; done) | (go_simp; rfl)); intro gb332 hg w4 hbox hb; have n0_ := Aside0.mk (bsp bl_ hb); have n1_ := Aside0.mk (hbox); have n2_ := Aside0.mk ((by rw [hg]; exact bsz bl_ : w.heap.size ≤ gb332)); have n3_ := Aside0.mk ((by rw [hg]; exact bsz bl_ : w.heap.size ≤ gb332)); clear HB; have HB := n0_; have BK332 := n1_; have GW332 := n2_; have GE332 := n3_; clear n0_ n1_ n2_ n3_; clear hb hbox hg) | ((with_reducible refine gcl (f := 46) rfl ?_); refine gl_ (some 17) rfl rfl Try.func46 (by kernel_rfl) rfl #[.string a0] rfl ar_ ?_; (with_reducible refine (armoireref24_Open.calls k a0 t333 t334 _ A2.out).mono ?_); rintro e w5 ⟨rfl, hb⟩; refine ⟨_, rfl, ?_⟩; have n0_ := Aside0.mk (kbl (g := gb332) (o := .cells #[.int .i64 0, .int .i64 0, .string (⟨#[]⟩ : ByteArray), .int .i64 0, .string (⟨#[]⟩ : ByteArray), .string (⟨#[]⟩ : ByteArray), .int .i64 0] 36 (0, 0)) bk_ hb); have n1_ := Aside0.mk (bsp bl_ hb); clear BK332; clear HB; have BK332 := n0_; have HB := n1_; clear n0_ n1_; (try clear hb); (try clear hb2); (try clear hk); (try clear hi)))
  (try simp only [Act.put, List.setIfInBounds_toArray, List.set_cons_zero, List.set_cons_succ])
  have H := HS3.out
  clear HS3
  by_cases c6 : t334 = 0
  rotate_left
  · rw [if_neg c6] at H
    have c6b0 : (t334 == 0) = false := beq_eq_false_iff_ne.mpr c6
    have c6b1 : (t334 != 0) = true := bne_iff_ne.mpr c6
    (first | rw [c6b0] | (simp only [i64_w, i32_w]; rw [c6b0]) | skip)
    simp only [Option.some.injEq, Prod.mk.injEq] at H
    obtain ⟨rfl, rfl, rfl, rfl, rfl, rfl, rfl, rfl⟩ := H
    have hcz91 := bc7 BK332.out
    go_wp2
    refine bodyPost_ret (results_ct rfl _ _ gb332 36 #[.int .i64 0, .int .i64 0, .string (⟨#[]⟩ : ByteArray), .int .i64 0, .string (⟨#[]⟩ : ByteArray), .string (⟨#[]⟩ : ByteArray), .int .i64 0] (0, 0) _ rfl bk_ Try.underlying36 rfl (by kernel_rfl)) rfl ?_
    exact ⟨er_, bl_⟩
  rw [if_pos c6] at H
  have c6b0 : (t334 == 0) = true := beq_iff_eq.mpr c6
  have c6b1 : (t334 != 0) = false := bne_eq_false_iff_eq.mpr c6
  clear c6
  (first | rw [c6b0] | (simp only [i64_w, i32_w]; rw [c6b0]) | skip)
  replace H := Option.bind_eq_some_iff.mp H
  obtain ⟨⟨t335, t336, t337⟩, A70, H⟩ := H
  replace H : (if t336 = 0 then (armoireref24_Parse.j0 k t337 (t337 == 0) t335 t336) else (armoireref24_Parse.j0 k t337 false t335 t336)) = some (r1, r2, r3, r4, r5, r6, r7, r8) := H
  have A7 := Aside0.mk A70
  clear A70
  have HC8 := Aside0.mk H
  clear H
  go_upto_region 5 with (first | ((with_reducible refine gcl (f := 47) rfl ?_); refine gl_ (some 27) rfl rfl Try.func47 (by kernel_rfl) rfl #[.agg #[.string t333, .int .i64 0], .int .i64 7] rfl ar_ ?_; (with_reducible refine (armoireref02_TakeN.calls k t333 0 7 t335 t336 t337 _ A7.out).mono ?_); rintro e w9 ⟨rfl, hb⟩; refine ⟨_, rfl, ?_⟩; have n0_ := Aside0.mk (kbl (g := gb332) (o := .cells #[.int .i64 0, .int .i64 0, .string (⟨#[]⟩ : ByteArray), .int .i64 0, .string (⟨#[]⟩ : ByteArray), .string (⟨#[]⟩ : ByteArray), .int .i64 0] 36 (0, 0)) bk_ hb); have n1_ := Aside0.mk (bsp bl_ hb); clear BK332; clear HB; have BK332 := n0_; have HB := n1_; clear n0_ n1_; (try clear hb); (try clear hb2); (try clear hk); (try clear hi)) | ((with_reducible refine gds (N := 6) rfl ?_); refine bev ?hg (N := 6) ?hd (cs := #[.string (⟨#[]⟩ : ByteArray), .int .i64 0]) (t := 88) ?hr ?_; (case hd => rfl); (case hg => rfl); (case hr => first | (go_simp; done) | (go_simp; rfl)); intro gb338 hg w10 hbox hb; have n0_ := Aside0.mk (kbl (g := gb332) (o := .cells #[.int .i64 0, .int .i64 0, .string (⟨#[]⟩ : ByteArray), .int .i64 0, .string (⟨#[]⟩ : ByteArray), .string (⟨#[]⟩ : ByteArray), .int .i64 0] 36 (0, 0)) bk_ hb); have n1_ := Aside0.mk (bsp bl_ hb); have n2_ := Aside0.mk (hbox); have n3_ := Aside0.mk ((by rw [hg]; exact bsz bl_ : w.heap.size ≤ gb338)); have n4_ := Aside0.mk ((by rw [hg]; exact bsz bl_ : w.heap.size ≤ gb338)); have n5_ := Aside0.mk ((by rw [hg]; exact Nat.ne_of_lt (blk_lt (g := gb332) (o := .cells #[.int .i64 0, .int .i64 0, .string (⟨#[]⟩ : ByteArray), .int .i64 0, .string (⟨#[]⟩ : ByteArray), .string (⟨#[]⟩ : ByteArray), .int .i64 0] 36 (0, 0)) bk_) : gb332 ≠ gb338)); have n6_ := Aside0.mk ((by rw [hg]; exact Nat.ne_of_gt (blk_lt (g := gb332) (o := .cells #[.int .i64 0, .int .i64 0, .string (⟨#[]⟩ : ByteArray), .int .i64 0, .string (⟨#[]⟩ : ByteArray), .string (⟨#[]⟩ : ByteArray), .int .i64 0] 36 (0, 0)) bk_) : gb338 ≠ gb332)); clear BK332; clear HB; have BK332 := n0_; have HB := n1_; have BK338 := n2_; have GW338 := n3_; have GE338 := n4_; have NB332_338 := n5_; have NB338_332 := n6_; clear n0_ n1_ n2_ n3_ n4_ n5_ n6_; clear hb hbox hg; have hnb11 := NB338_332.out; have hnc11 := NB332_338.out; have hcz12 := bc2 BK338.out))
  (try simp only [Act.put, List.setIfInBounds_toArray, List.set_cons_zero, List.set_cons_succ])
  go_cut [36] (fun v36 wc => ∃ (kq : Nat) (x36_7 : Bool), v36 = .bool x36_7 ∧ Aside0 (armoireref24_Parse.j0 kq t337 x36_7 t335 t336 = some (r1, r2, r3, r4, r5, r6, r7, r8)) ∧ Aside0 (kq ≤ k) ∧ Aside0 (wc.heap[gb332]? = some (.cells #[.int .i64 0, .int .i64 0, .string (⟨#[]⟩ : ByteArray), .int .i64 0, .string (⟨#[]⟩ : ByteArray), .string (⟨#[]⟩ : ByteArray), .int .i64 0] 36 (0, 0))) ∧ Aside0 (wc.heap[gb338]? = some (.cells #[.string t335, .int .i64 t336] 88 (0, 0))) ∧ Aside0 (Below w.heap.size w wc))
  case first =>
    have H := HC8.out
    clear HC8
    by_cases c13 : t336 = 0
    rotate_left
    · rw [if_neg c13] at H
      have c13b0 : (t336 == 0) = false := beq_eq_false_iff_ne.mpr c13
      have c13b1 : (t336 != 0) = true := bne_iff_ne.mpr c13
      (first | rw [c13b0] | (simp only [i64_w, i32_w]; rw [c13b0]) | skip)
      have H' := Aside0.mk H
      clear H
      have hnb16 := NB338_332.out
      have hnc16 := NB332_338.out
      have hcz17 := bc2 BK338.out
      go_wp2
      go_meet
      case rel => exact ⟨_, (false), (by first | rfl | (simp; done) | (simp [*]; done) | exact emp1_ _ | exact (emp1_ _).symm | exact emp2_ _ | exact (emp2_ _).symm), H', ⟨by first | omega | exact Nat.le_refl _⟩, ⟨bk_⟩, ⟨bk_⟩, ⟨bl_⟩⟩
    rw [if_pos c13] at H
    have c13b0 : (t336 == 0) = true := beq_iff_eq.mpr c13
    have c13b1 : (t336 != 0) = false := bne_eq_false_iff_eq.mpr c13
    clear c13
    (first | rw [c13b0] | (simp only [i64_w, i32_w]; rw [c13b0]) | skip)
    have H' := Aside0.mk H
    clear H
    have hnb14 := NB338_332.out
    have hnc14 := NB332_338.out
    have hcz15 := bc2 BK338.out
    go_wp2
    go_meet
    case rel => exact ⟨_, ((t337 == 0)), (by first | rfl | (simp; done) | (simp [*]; done) | exact emp1_ _ | exact (emp1_ _).symm | exact emp2_ _ | exact (emp2_ _).symm), H', ⟨by first | omega | exact Nat.le_refl _⟩, ⟨bk_⟩, ⟨bk_⟩, ⟨bl_⟩⟩
  clear HC8
  try clear c1
  try clear p2
  try clear c4
  try clear c6
  try clear c6b0
  try clear c6b1
  try clear c11
  try clear c13
  try clear c13b0
  try clear c13b1
  try clear c14
  try clear c16
  try clear hcz12
  try clear hcz15
  try clear hcz17
  try clear hcz12
  try clear hcz15
  try clear hcz17
  obtain ⟨kq, x36_7, rfl, HA, HJ7, BK332, BK338, HB⟩ := hcut
  cases kq with
  | zero => exact absurd HA.out (by simp [armoireref24_Parse.j0])
  | succ kj7 =>
    have H := HA.out
    clear HA
    simp only [armoireref24_Parse.j0] at H
    by_cases c18 : x36_7 = true
    · subst c18
      have H1 : (some (0, 0, (⟨#[]⟩ : ByteArray), 0, (⟨#[]⟩ : ByteArray), (⟨#[]⟩ : ByteArray), 0, 6)) = some (r1, r2, r3, r4, r5, r6, r7, r8) := by rw [if_pos rfl] at H; exact H
      clear H
      have H := H1
      clear H1
      simp only [Option.some.injEq, Prod.mk.injEq] at H
      obtain ⟨rfl, rfl, rfl, rfl, rfl, rfl, rfl, rfl⟩ := H
      have hnb19 := NB332_338.out
      have hnc19 := NB338_332.out
      have hcz20 := bc7 BK332.out
      go_wp2
      refine bodyPost_ret (results_ct rfl _ _ gb332 36 #[.int .i64 0, .int .i64 0, .string (⟨#[]⟩ : ByteArray), .int .i64 0, .string (⟨#[]⟩ : ByteArray), .string (⟨#[]⟩ : ByteArray), .int .i64 0] (0, 0) _ rfl bk_ Try.underlying36 rfl (by kernel_rfl)) rfl ?_
      exact ⟨er_, bl_⟩
    replace c18 := Bool.eq_false_iff.mpr c18
    subst c18
    have H1 : (if t337 = 2 then ((armoireref02_TakeS.f kj7 t335 t336 16).bind fun bt340 => ((armoireref12_Read.f kj7 bt340.1 bt340.2.1).bind fun bt344 => (armoireref24_Parse.j1 kj7 t337 bt344.1 bt344.2.1 t337 0 bt340.2.2 bt344.2.2.1 bt344.2.2.2.1 bt344.2.2.2.2.1 bt344.2.2.2.2.2))) else (armoireref24_Parse.j1 kj7 t337 t335 t336 t337 0 (⟨#[]⟩ : ByteArray) 0 (⟨#[]⟩ : ByteArray) (⟨#[]⟩ : ByteArray) 0)) = some (r1, r2, r3, r4, r5, r6, r7, r8) := by rw [if_neg (show ¬ (false = true) by decide)] at H; exact H
    clear H
    have H := H1
    clear H1
    have HC21 := Aside0.mk H
    clear H
    go_upto_if 41 with (first | ((with_reducible refine gds (N := 8) rfl ?_); refine bev ?hg (N := 8) ?hd (cs := #[.int .i64 0, .int .i64 0, .string (⟨#[]⟩ : ByteArray), .int .i64 0, .string (⟨#[]⟩ : ByteArray), .string (⟨#[]⟩ : ByteArray), .int .i64 0]) (t := 36) ?hr ?_; (case hd => rfl); (case hg => rfl); (case hr => first | (go_simp; done) | (go_simp; rfl)); intro gb339 hg w22 hbox hb; have n0_ := Aside0.mk (kbl (g := gb332) (o := .cells #[.int .i64 0, .int .i64 0, .string (⟨#[]⟩ : ByteArray), .int .i64 0, .string (⟨#[]⟩ : ByteArray), .string (⟨#[]⟩ : ByteArray), .int .i64 0] 36 (0, 0)) bk_ hb); have n1_ := Aside0.mk (kbl (g := gb338) (o := .cells #[.string t335, .int .i64 t336] 88 (0, 0)) bk_ hb); have n2_ := Aside0.mk (bsp bl_ hb); have n3_ := Aside0.mk (hbox); have n4_ := Aside0.mk ((by rw [hg]; exact bsz bl_ : w.heap.size ≤ gb339)); have n5_ := Aside0.mk ((by rw [hg]; exact bsz bl_ : w.heap.size ≤ gb339)); have n6_ := Aside0.mk ((by rw [hg]; exact Nat.ne_of_lt (blk_lt (g := gb332) (o := .cells #[.int .i64 0, .int .i64 0, .string (⟨#[]⟩ : ByteArray), .int .i64 0, .string (⟨#[]⟩ : ByteArray), .string (⟨#[]⟩ : ByteArray), .int .i64 0] 36 (0, 0)) bk_) : gb332 ≠ gb339)); have n7_ := Aside0.mk ((by rw [hg]; exact Nat.ne_of_gt (blk_lt (g := gb332) (o := .cells #[.int .i64 0, .int .i64 0, .string (⟨#[]⟩ : ByteArray), .int .i64 0, .string (⟨#[]⟩ : ByteArray), .string (⟨#[]⟩ : ByteArray), .int .i64 0] 36 (0, 0)) bk_) : gb339 ≠ gb332)); have n8_ := Aside0.mk ((by rw [hg]; exact Nat.ne_of_lt (blk_lt (g := gb338) (o := .cells #[.string t335, .int .i64 t336] 88 (0, 0)) bk_) : gb338 ≠ gb339)); have n9_ := Aside0.mk ((by rw [hg]; exact Nat.ne_of_gt (blk_lt (g := gb338) (o := .cells #[.string t335, .int .i64 t336] 88 (0, 0)) bk_) : gb339 ≠ gb338)); clear BK332; clear BK338; clear HB; have BK332 := n0_; have BK338 := n1_; have HB := n2_; have BK339 := n3_; have GW339 := n4_; have GE339 := n5_; have NB332_339 := n6_; have NB339_332 := n7_; have NB338_339 := n8_; have NB339_338 := n9_; clear n0_ n1_ n2_ n3_ n4_ n5_ n6_ n7_ n8_ n9_; clear hb hbox hg; have hnb23 := NB339_332.out; have hnc23 := NB332_339.out; have hnb24 := NB339_338.out; have hnc24 := NB338_339.out; have hcz25 := bc7 BK339.out))
    (try simp only [Act.put, List.setIfInBounds_toArray, List.set_cons_zero, List.set_cons_succ])
    go_cut [] (fun wc => ∃ (kq : Nat) (x339000_20 : ByteArray) (x339001_20 : Int) (x340002_20 : ByteArray) (x340003_20 : Int) (x340004_20 : ByteArray) (x340005_20 : ByteArray) (x340006_20 : Int), Aside0 (armoireref24_Parse.j1 kq t337 x339000_20 x339001_20 t337 0 x340002_20 x340003_20 x340004_20 x340005_20 x340006_20 = some (r1, r2, r3, r4, r5, r6, r7, r8)) ∧ Aside0 (kq ≤ kj7) ∧ Aside0 (wc.heap[gb332]? = some (.cells #[.int .i64 0, .int .i64 0, .string (⟨#[]⟩ : ByteArray), .int .i64 0, .string (⟨#[]⟩ : ByteArray), .string (⟨#[]⟩ : ByteArray), .int .i64 0] 36 (0, 0))) ∧ Aside0 (wc.heap[gb338]? = some (.cells #[.string x339000_20, .int .i64 x339001_20] 88 (0, 0))) ∧ Aside0 (wc.heap[gb339]? = some (.cells #[.int .i64 t337, .int .i64 0, .string x340002_20, .int .i64 x340003_20, .string x340004_20, .string x340005_20, .int .i64 x340006_20] 36 (0, 0))) ∧ Aside0 (Below w.heap.size w wc))
    case first =>
      have H := HC21.out
      clear HC21
      by_cases c26 : t337 = 2
      rotate_left
      · rw [if_neg c26] at H
        have c26b0 : (t337 == 2) = false := beq_eq_false_iff_ne.mpr c26
        have c26b1 : (t337 != 2) = true := bne_iff_ne.mpr c26
        (first | rw [c26b0] | (simp only [i64_w, i32_w]; rw [c26b0]) | skip)
        have H' := Aside0.mk H
        clear H
        go_wp2
        go_meet
        case rel => exact ⟨_, (t335), (t336), ((⟨#[]⟩ : ByteArray)), (0), ((⟨#[]⟩ : ByteArray)), ((⟨#[]⟩ : ByteArray)), (0), H', ⟨by have := HJ7.out; first | omega | exact Nat.le_refl _⟩, ⟨bk_⟩, ⟨bk_⟩, ⟨bk_⟩, ⟨bl_⟩⟩
      rw [if_pos c26] at H
      have c26b0 : (t337 == 2) = true := beq_iff_eq.mpr c26
      have c26b1 : (t337 != 2) = false := bne_eq_false_iff_eq.mpr c26
      clear c26
      (first | rw [c26b0] | (simp only [i64_w, i32_w]; rw [c26b0]) | skip)
      replace H := Option.bind_eq_some_iff.mp H
      obtain ⟨⟨t340, t341, t342⟩, A270, H⟩ := H
      replace H : ((armoireref12_Read.f kj7 t340 t341).bind fun bt344 => (armoireref24_Parse.j1 kj7 t337 bt344.1 bt344.2.1 t337 0 t342 bt344.2.2.1 bt344.2.2.2.1 bt344.2.2.2.2.1 bt344.2.2.2.2.2)) = some (r1, r2, r3, r4, r5, r6, r7, r8) := H
      have A27 := Aside0.mk A270
      clear A270
      replace H := Option.bind_eq_some_iff.mp H
      obtain ⟨⟨t344, t345, t346, t347, t348, t349⟩, A280, H⟩ := H
      replace H : (armoireref24_Parse.j1 kj7 t337 t344 t345 t337 0 t342 t346 t347 t348 t349) = some (r1, r2, r3, r4, r5, r6, r7, r8) := H
      have A28 := Aside0.mk A280
      clear A280
      have H' := Aside0.mk H
      clear H
      have hnb29 := NB338_332.out
      have hnc29 := NB332_338.out
      have hnb30 := NB338_339.out
      have hnc30 := NB339_338.out
      have hcz31 := bc2 BK338.out
      go_wp2_with (first | ((with_reducible refine gcl (f := 48) rfl ?_); refine gl_ (some 44) rfl rfl Try.func48 (by kernel_rfl) rfl #[.agg #[.string t335, .int .i64 t336], .int .i64 16] rfl ar_ ?_; (with_reducible refine (armoireref02_TakeS.calls kj7 t335 t336 16 t340 t341 t342 _ A27.out).mono ?_); rintro e w32 ⟨rfl, hb⟩; refine ⟨_, rfl, ?_⟩; have n0_ := Aside0.mk (kbl (g := gb332) (o := .cells #[.int .i64 0, .int .i64 0, .string (⟨#[]⟩ : ByteArray), .int .i64 0, .string (⟨#[]⟩ : ByteArray), .string (⟨#[]⟩ : ByteArray), .int .i64 0] 36 (0, 0)) bk_ hb); have n1_ := Aside0.mk (kbl (g := gb338) (o := .cells #[.string t335, .int .i64 t336] 88 (0, 0)) bk_ hb); have n2_ := Aside0.mk (kbl (g := gb339) (o := .cells #[.int .i64 t337, .int .i64 0, .string (⟨#[]⟩ : ByteArray), .int .i64 0, .string (⟨#[]⟩ : ByteArray), .string (⟨#[]⟩ : ByteArray), .int .i64 0] 36 (0, 0)) bk_ hb); have n3_ := Aside0.mk (bsp bl_ hb); clear BK332; clear BK338; clear BK339; clear HB; have BK332 := n0_; have BK338 := n1_; have BK339 := n2_; have HB := n3_; clear n0_ n1_ n2_ n3_; (try clear hb); (try clear hb2); (try clear hk); (try clear hi)) | ((with_reducible refine gds (N := 9) rfl ?_); refine bev ?hg (N := 9) ?hd (cs := #[.string (⟨#[]⟩ : ByteArray), .int .i64 0]) (t := 88) ?hr ?_; (case hd => rfl); (case hg => rfl); (case hr => first | (go_simp; done) | (go_simp; rfl)); intro gb343 hg w33 hbox hb; have n0_ := Aside0.mk (kbl (g := gb332) (o := .cells #[.int .i64 0, .int .i64 0, .string (⟨#[]⟩ : ByteArray), .int .i64 0, .string (⟨#[]⟩ : ByteArray), .string (⟨#[]⟩ : ByteArray), .int .i64 0] 36 (0, 0)) bk_ hb); have n1_ := Aside0.mk (kbl (g := gb338) (o := .cells #[.string t335, .int .i64 t336] 88 (0, 0)) bk_ hb); have n2_ := Aside0.mk (kbl (g := gb339) (o := .cells #[.int .i64 t337, .int .i64 0, .string (⟨#[]⟩ : ByteArray), .int .i64 0, .string (⟨#[]⟩ : ByteArray), .string (⟨#[]⟩ : ByteArray), .int .i64 0] 36 (0, 0)) bk_ hb); have n3_ := Aside0.mk (bsp bl_ hb); have n4_ := Aside0.mk (hbox); have n5_ := Aside0.mk ((by rw [hg]; exact bsz bl_ : w.heap.size ≤ gb343)); have n6_ := Aside0.mk ((by rw [hg]; exact bsz bl_ : w.heap.size ≤ gb343)); have n7_ := Aside0.mk ((by rw [hg]; exact Nat.ne_of_lt (blk_lt (g := gb332) (o := .cells #[.int .i64 0, .int .i64 0, .string (⟨#[]⟩ : ByteArray), .int .i64 0, .string (⟨#[]⟩ : ByteArray), .string (⟨#[]⟩ : ByteArray), .int .i64 0] 36 (0, 0)) bk_) : gb332 ≠ gb343)); have n8_ := Aside0.mk ((by rw [hg]; exact Nat.ne_of_gt (blk_lt (g := gb332) (o := .cells #[.int .i64 0, .int .i64 0, .string (⟨#[]⟩ : ByteArray), .int .i64 0, .string (⟨#[]⟩ : ByteArray), .string (⟨#[]⟩ : ByteArray), .int .i64 0] 36 (0, 0)) bk_) : gb343 ≠ gb332)); have n9_ := Aside0.mk ((by rw [hg]; exact Nat.ne_of_lt (blk_lt (g := gb338) (o := .cells #[.string t335, .int .i64 t336] 88 (0, 0)) bk_) : gb338 ≠ gb343)); have n10_ := Aside0.mk ((by rw [hg]; exact Nat.ne_of_gt (blk_lt (g := gb338) (o := .cells #[.string t335, .int .i64 t336] 88 (0, 0)) bk_) : gb343 ≠ gb338)); have n11_ := Aside0.mk ((by rw [hg]; exact Nat.ne_of_lt (blk_lt (g := gb339) (o := .cells #[.int .i64 t337, .int .i64 0, .string (⟨#[]⟩ : ByteArray), .int .i64 0, .string (⟨#[]⟩ : ByteArray), .string (⟨#[]⟩ : ByteArray), .int .i64 0] 36 (0, 0)) bk_) : gb339 ≠ gb343)); have n12_ := Aside0.mk ((by rw [hg]; exact Nat.ne_of_gt (blk_lt (g := gb339) (o := .cells #[.int .i64 t337, .int .i64 0, .string (⟨#[]⟩ : ByteArray), .int .i64 0, .string (⟨#[]⟩ : ByteArray), .string (⟨#[]⟩ : ByteArray), .int .i64 0] 36 (0, 0)) bk_) : gb343 ≠ gb339)); clear BK332; clear BK338; clear BK339; clear HB; have BK332 := n0_; have BK338 := n1_; have BK339 := n2_; have HB := n3_; have BK343 := n4_; have GW343 := n5_; have GE343 := n6_; have NB332_343 := n7_; have NB343_332 := n8_; have NB338_343 := n9_; have NB343_338 := n10_; have NB339_343 := n11_; have NB343_339 := n12_; clear n0_ n1_ n2_ n3_ n4_ n5_ n6_ n7_ n8_ n9_ n10_ n11_ n12_; clear hb hbox hg; have hnb34 := NB343_332.out; have hnc34 := NB332_343.out; have hnb35 := NB343_338.out; have hnc35 := NB338_343.out; have hnb36 := NB343_339.out; have hnc36 := NB339_343.out; have hcz37 := bc2 BK343.out) | ((with_reducible refine gcl (f := 49) rfl ?_); refine gl_ (some 49) rfl rfl Try.func49 (by kernel_rfl) rfl #[.agg #[.string t340, .int .i64 t341]] rfl ar_ ?_; (with_reducible refine (armoireref12_Read.calls kj7 t340 t341 t344 t345 t346 t347 t348 t349 _ A28.out).mono ?_); rintro e w38 ⟨rfl, hb⟩; refine ⟨_, rfl, ?_⟩; have n0_ := Aside0.mk (kbl (g := gb332) (o := .cells #[.int .i64 0, .int .i64 0, .string (⟨#[]⟩ : ByteArray), .int .i64 0, .string (⟨#[]⟩ : ByteArray), .string (⟨#[]⟩ : ByteArray), .int .i64 0] 36 (0, 0)) bk_ hb); have n1_ := Aside0.mk (kbl (g := gb338) (o := .cells #[.string t335, .int .i64 t336] 88 (0, 0)) bk_ hb); have n2_ := Aside0.mk (kbl (g := gb339) (o := .cells #[.int .i64 t337, .int .i64 0, .string (⟨#[]⟩ : ByteArray), .int .i64 0, .string (⟨#[]⟩ : ByteArray), .string (⟨#[]⟩ : ByteArray), .int .i64 0] 36 (0, 0)) bk_ hb); have n3_ := Aside0.mk (kbl (g := gb343) (o := .cells #[.string t340, .int .i64 t341] 88 (0, 0)) bk_ hb); have n4_ := Aside0.mk (bsp bl_ hb); clear BK332; clear BK338; clear BK339; clear BK343; clear HB; have BK332 := n0_; have BK338 := n1_; have BK339 := n2_; have BK343 := n3_; have HB := n4_; clear n0_ n1_ n2_ n3_ n4_; (try clear hb); (try clear hb2); (try clear hk); (try clear hi)) | ((with_reducible refine gds (N := 11) rfl ?_); refine bev ?hg (N := 11) ?hd (cs := #[.string (⟨#[]⟩ : ByteArray), .int .i64 0]) (t := 88) ?hr ?_; (case hd => rfl); (case hg => rfl); (case hr => first | (go_simp; done) | (go_simp; rfl)); intro gb350 hg w39 hbox hb; have n0_ := Aside0.mk (kbl (g := gb332) (o := .cells #[.int .i64 0, .int .i64 0, .string (⟨#[]⟩ : ByteArray), .int .i64 0, .string (⟨#[]⟩ : ByteArray), .string (⟨#[]⟩ : ByteArray), .int .i64 0] 36 (0, 0)) bk_ hb); have n1_ := Aside0.mk (kbl (g := gb338) (o := .cells #[.string t335, .int .i64 t336] 88 (0, 0)) bk_ hb); have n2_ := Aside0.mk (kbl (g := gb339) (o := .cells #[.int .i64 t337, .int .i64 0, .string (⟨#[]⟩ : ByteArray), .int .i64 0, .string (⟨#[]⟩ : ByteArray), .string (⟨#[]⟩ : ByteArray), .int .i64 0] 36 (0, 0)) bk_ hb); have n3_ := Aside0.mk (kbl (g := gb343) (o := .cells #[.string t340, .int .i64 t341] 88 (0, 0)) bk_ hb); have n4_ := Aside0.mk (bsp bl_ hb); have n5_ := Aside0.mk (hbox); have n6_ := Aside0.mk ((by rw [hg]; exact bsz bl_ : w.heap.size ≤ gb350)); have n7_ := Aside0.mk ((by rw [hg]; exact bsz bl_ : w.heap.size ≤ gb350)); have n8_ := Aside0.mk ((by rw [hg]; exact Nat.ne_of_lt (blk_lt (g := gb332) (o := .cells #[.int .i64 0, .int .i64 0, .string (⟨#[]⟩ : ByteArray), .int .i64 0, .string (⟨#[]⟩ : ByteArray), .string (⟨#[]⟩ : ByteArray), .int .i64 0] 36 (0, 0)) bk_) : gb332 ≠ gb350)); have n9_ := Aside0.mk ((by rw [hg]; exact Nat.ne_of_gt (blk_lt (g := gb332) (o := .cells #[.int .i64 0, .int .i64 0, .string (⟨#[]⟩ : ByteArray), .int .i64 0, .string (⟨#[]⟩ : ByteArray), .string (⟨#[]⟩ : ByteArray), .int .i64 0] 36 (0, 0)) bk_) : gb350 ≠ gb332)); have n10_ := Aside0.mk ((by rw [hg]; exact Nat.ne_of_lt (blk_lt (g := gb338) (o := .cells #[.string t335, .int .i64 t336] 88 (0, 0)) bk_) : gb338 ≠ gb350)); have n11_ := Aside0.mk ((by rw [hg]; exact Nat.ne_of_gt (blk_lt (g := gb338) (o := .cells #[.string t335, .int .i64 t336] 88 (0, 0)) bk_) : gb350 ≠ gb338)); have n12_ := Aside0.mk ((by rw [hg]; exact Nat.ne_of_lt (blk_lt (g := gb339) (o := .cells #[.int .i64 t337, .int .i64 0, .string (⟨#[]⟩ : ByteArray), .int .i64 0, .string (⟨#[]⟩ : ByteArray), .string (⟨#[]⟩ : ByteArray), .int .i64 0] 36 (0, 0)) bk_) : gb339 ≠ gb350)); have n13_ := Aside0.mk ((by rw [hg]; exact Nat.ne_of_gt (blk_lt (g := gb339) (o := .cells #[.int .i64 t337, .int .i64 0, .string (⟨#[]⟩ : ByteArray), .int .i64 0, .string (⟨#[]⟩ : ByteArray), .string (⟨#[]⟩ : ByteArray), .int .i64 0] 36 (0, 0)) bk_) : gb350 ≠ gb339)); have n14_ := Aside0.mk ((by rw [hg]; exact Nat.ne_of_lt (blk_lt (g := gb343) (o := .cells #[.string t340, .int .i64 t341] 88 (0, 0)) bk_) : gb343 ≠ gb350)); have n15_ := Aside0.mk ((by rw [hg]; exact Nat.ne_of_gt (blk_lt (g := gb343) (o := .cells #[.string t340, .int .i64 t341] 88 (0, 0)) bk_) : gb350 ≠ gb343)); clear BK332; clear BK338; clear BK339; clear BK343; clear HB; have BK332 := n0_; have BK338 := n1_; have BK339 := n2_; have BK343 := n3_; have HB := n4_; have BK350 := n5_; have GW350 := n6_; have GE350 := n7_; have NB332_350 := n8_; have NB350_332 := n9_; have NB338_350 := n10_; have NB350_338 := n11_; have NB339_350 := n12_; have NB350_339 := n13_; have NB343_350 := n14_; have NB350_343 := n15_; clear n0_ n1_ n2_ n3_ n4_ n5_ n6_ n7_ n8_ n9_ n10_ n11_ n12_ n13_ n14_ n15_; clear hb hbox hg) | ((with_reducible refine gds (N := 12) rfl ?_); refine bev ?hg (N := 12) ?hd (cs := #[.int .i64 0, .string (⟨#[]⟩ : ByteArray), .string (⟨#[]⟩ : ByteArray), .int .i64 0]) (t := 34) ?hr ?_; (case hd => rfl); (case hg => rfl); (case hr => first | (go_simp; done) | (go_simp; rfl)); intro gb351 hg w40 hbox hb; have n0_ := Aside0.mk (kbl (g := gb332) (o := .cells #[.int .i64 0, .int .i64 0, .string (⟨#[]⟩ : ByteArray), .int .i64 0, .string (⟨#[]⟩ : ByteArray), .string (⟨#[]⟩ : ByteArray), .int .i64 0] 36 (0, 0)) bk_ hb); have n1_ := Aside0.mk (kbl (g := gb338) (o := .cells #[.string t335, .int .i64 t336] 88 (0, 0)) bk_ hb); have n2_ := Aside0.mk (kbl (g := gb339) (o := .cells #[.int .i64 t337, .int .i64 0, .string (⟨#[]⟩ : ByteArray), .int .i64 0, .string (⟨#[]⟩ : ByteArray), .string (⟨#[]⟩ : ByteArray), .int .i64 0] 36 (0, 0)) bk_ hb); have n3_ := Aside0.mk (kbl (g := gb343) (o := .cells #[.string t340, .int .i64 t341] 88 (0, 0)) bk_ hb); have n4_ := Aside0.mk (kbl (g := gb350) (o := .cells #[.string (⟨#[]⟩ : ByteArray), .int .i64 0] 88 (0, 0)) bk_ hb); have n5_ := Aside0.mk (bsp bl_ hb); have n6_ := Aside0.mk (hbox); have n7_ := Aside0.mk ((by rw [hg]; exact bsz bl_ : w.heap.size ≤ gb351)); have n8_ := Aside0.mk ((by rw [hg]; exact bsz bl_ : w.heap.size ≤ gb351)); have n9_ := Aside0.mk ((by rw [hg]; exact Nat.ne_of_lt (blk_lt (g := gb332) (o := .cells #[.int .i64 0, .int .i64 0, .string (⟨#[]⟩ : ByteArray), .int .i64 0, .string (⟨#[]⟩ : ByteArray), .string (⟨#[]⟩ : ByteArray), .int .i64 0] 36 (0, 0)) bk_) : gb332 ≠ gb351)); have n10_ := Aside0.mk ((by rw [hg]; exact Nat.ne_of_gt (blk_lt (g := gb332) (o := .cells #[.int .i64 0, .int .i64 0, .string (⟨#[]⟩ : ByteArray), .int .i64 0, .string (⟨#[]⟩ : ByteArray), .string (⟨#[]⟩ : ByteArray), .int .i64 0] 36 (0, 0)) bk_) : gb351 ≠ gb332)); have n11_ := Aside0.mk ((by rw [hg]; exact Nat.ne_of_lt (blk_lt (g := gb338) (o := .cells #[.string t335, .int .i64 t336] 88 (0, 0)) bk_) : gb338 ≠ gb351)); have n12_ := Aside0.mk ((by rw [hg]; exact Nat.ne_of_gt (blk_lt (g := gb338) (o := .cells #[.string t335, .int .i64 t336] 88 (0, 0)) bk_) : gb351 ≠ gb338)); have n13_ := Aside0.mk ((by rw [hg]; exact Nat.ne_of_lt (blk_lt (g := gb339) (o := .cells #[.int .i64 t337, .int .i64 0, .string (⟨#[]⟩ : ByteArray), .int .i64 0, .string (⟨#[]⟩ : ByteArray), .string (⟨#[]⟩ : ByteArray), .int .i64 0] 36 (0, 0)) bk_) : gb339 ≠ gb351)); have n14_ := Aside0.mk ((by rw [hg]; exact Nat.ne_of_gt (blk_lt (g := gb339) (o := .cells #[.int .i64 t337, .int .i64 0, .string (⟨#[]⟩ : ByteArray), .int .i64 0, .string (⟨#[]⟩ : ByteArray), .string (⟨#[]⟩ : ByteArray), .int .i64 0] 36 (0, 0)) bk_) : gb351 ≠ gb339)); have n15_ := Aside0.mk ((by rw [hg]; exact Nat.ne_of_lt (blk_lt (g := gb343) (o := .cells #[.string t340, .int .i64 t341] 88 (0, 0)) bk_) : gb343 ≠ gb351)); have n16_ := Aside0.mk ((by rw [hg]; exact Nat.ne_of_gt (blk_lt (g := gb343) (o := .cells #[.string t340, .int .i64 t341] 88 (0, 0)) bk_) : gb351 ≠ gb343)); have n17_ := Aside0.mk ((by rw [hg]; exact Nat.ne_of_lt (blk_lt (g := gb350) (o := .cells #[.string (⟨#[]⟩ : ByteArray), .int .i64 0] 88 (0, 0)) bk_) : gb350 ≠ gb351)); have n18_ := Aside0.mk ((by rw [hg]; exact Nat.ne_of_gt (blk_lt (g := gb350) (o := .cells #[.string (⟨#[]⟩ : ByteArray), .int .i64 0] 88 (0, 0)) bk_) : gb351 ≠ gb350)); clear BK332; clear BK338; clear BK339; clear BK343; clear BK350; clear HB; have BK332 := n0_; have BK338 := n1_; have BK339 := n2_; have BK343 := n3_; have BK350 := n4_; have HB := n5_; have BK351 := n6_; have GW351 := n7_; have GE351 := n8_; have NB332_351 := n9_; have NB351_332 := n10_; have NB338_351 := n11_; have NB351_338 := n12_; have NB339_351 := n13_; have NB351_339 := n14_; have NB343_351 := n15_; have NB351_343 := n16_; have NB350_351 := n17_; have NB351_350 := n18_; clear n0_ n1_ n2_ n3_ n4_ n5_ n6_ n7_ n8_ n9_ n10_ n11_ n12_ n13_ n14_ n15_ n16_ n17_ n18_; clear hb hbox hg; have hnb41 := NB350_332.out; have hnc41 := NB332_350.out; have hnb42 := NB350_338.out; have hnc42 := NB338_350.out; have hnb43 := NB350_339.out; have hnc43 := NB339_350.out; have hnb44 := NB350_343.out; have hnc44 := NB343_350.out; have hnb45 := NB350_351.out; have hnc45 := NB351_350.out; have hcz46 := bc2 BK350.out; have hnb47 := NB351_332.out; have hnc47 := NB332_351.out; have hnb48 := NB351_338.out; have hnc48 := NB338_351.out; have hnb49 := NB351_339.out; have hnc49 := NB339_351.out; have hnb50 := NB351_343.out; have hnc50 := NB343_351.out; have hcz51 := bc4 BK351.out; have hcz52 := bc2 BK338.out; have hnb53 := NB339_332.out; have hnc53 := NB332_339.out; have hcz54 := bc7 BK339.out))
      go_meet
      case rel => exact ⟨_, (t344), (t345), (t342), (t346), (t347), (t348), (t349), H', ⟨by have := HJ7.out; first | omega | exact Nat.le_refl _⟩, ⟨bk_⟩, ⟨bk_⟩, ⟨bk_⟩, ⟨bl_⟩⟩
    clear HC21
    try clear c1
    try clear c2
    try clear p2
    try clear c3
    try clear c4
    try clear c5
    try clear c6
    try clear c6b0
    try clear c6b1
    try clear c11
    try clear c13
    try clear c13b0
    try clear c13b1
    try clear c14
    try clear c16
    try clear c18
    try clear c19
    try clear c23
    try clear c24
    try clear c26
    try clear c26b0
    try clear c26b1
    try clear c29
    try clear c30
    try clear c34
    try clear c35
    try clear c36
    try clear c41
    try clear c42
    try clear c43
    try clear c44
    try clear c45
    try clear c46
    try clear c47
    try clear c48
    try clear c49
    try clear c50
    try clear c53
    try clear hcz12
    try clear hcz15
    try clear hcz17
    try clear hcz20
    try clear hcz25
    try clear hcz31
    try clear hcz37
    try clear hcz46
    try clear hcz51
    try clear hcz52
    try clear hcz54
    try clear hcz12
    try clear hcz15
    try clear hcz17
    try clear hcz20
    try clear hcz25
    try clear hcz31
    try clear hcz37
    try clear hcz46
    try clear hcz51
    try clear hcz52
    try clear hcz54
    try clear p2
    obtain ⟨kq, x339000_20, x339001_20, x340002_20, x340003_20, x340004_20, x340005_20, x340006_20, HA, HJ20, BK332, BK338, BK339, HB⟩ := hcut
    cases kq with
    | zero => exact absurd HA.out (by simp [armoireref24_Parse.j1])
    | succ kj20 =>
      have H := HA.out
      clear HA
      simp only [armoireref24_Parse.j1] at H
      have HC55 := Aside0.mk H
      clear H
      go_upto_region 14 with (fail)
      go_cut [62] (fun v62 wc => ∃ (kq : Nat) (x62_54 : Bool), v62 = .bool x62_54 ∧ Aside0 (armoireref24_Parse.j2 kq x62_54 x339000_20 x339001_20 t337 0 x340002_20 x340003_20 x340004_20 x340005_20 x340006_20 = some (r1, r2, r3, r4, r5, r6, r7, r8)) ∧ Aside0 (kq ≤ kj20) ∧ Aside0 (wc.heap[gb332]? = some (.cells #[.int .i64 0, .int .i64 0, .string (⟨#[]⟩ : ByteArray), .int .i64 0, .string (⟨#[]⟩ : ByteArray), .string (⟨#[]⟩ : ByteArray), .int .i64 0] 36 (0, 0))) ∧ Aside0 (wc.heap[gb338]? = some (.cells #[.string x339000_20, .int .i64 x339001_20] 88 (0, 0))) ∧ Aside0 (wc.heap[gb339]? = some (.cells #[.int .i64 t337, .int .i64 0, .string x340002_20, .int .i64 x340003_20, .string x340004_20, .string x340005_20, .int .i64 x340006_20] 36 (0, 0))) ∧ Aside0 (Below w.heap.size w wc))
      case first =>
        have H := HC55.out
        clear HC55
        by_cases c56 : t337 = 4
        rotate_left
        · rw [if_neg c56] at H
          have c56b0 : (t337 == 4) = false := beq_eq_false_iff_ne.mpr c56
          have c56b1 : (t337 != 4) = true := bne_iff_ne.mpr c56
          (first | rw [c56b0] | (simp only [i64_w, i32_w]; rw [c56b0]) | skip)
          have H' := Aside0.mk H
          clear H
          go_wp2
          go_meet
          case rel => exact ⟨_, ((t337 == 7)), (by first | rfl | (simp; done) | (simp [*]; done) | exact emp1_ _ | exact (emp1_ _).symm | exact emp2_ _ | exact (emp2_ _).symm), H', ⟨by have := HJ7.out; have := HJ20.out; first | omega | exact Nat.le_refl _⟩, ⟨bk_⟩, ⟨bk_⟩, ⟨bk_⟩, ⟨bl_⟩⟩
        rw [if_pos c56] at H
        have c56b0 : (t337 == 4) = true := beq_iff_eq.mpr c56
        have c56b1 : (t337 != 4) = false := bne_eq_false_iff_eq.mpr c56
        clear c56
        (first | rw [c56b0] | (simp only [i64_w, i32_w]; rw [c56b0]) | skip)
        have H' := Aside0.mk H
        clear H
        go_wp2
        go_meet
        case rel => exact ⟨_, (true), (by first | rfl | (simp; done) | (simp [*]; done) | exact emp1_ _ | exact (emp1_ _).symm | exact emp2_ _ | exact (emp2_ _).symm), H', ⟨by have := HJ7.out; have := HJ20.out; first | omega | exact Nat.le_refl _⟩, ⟨bk_⟩, ⟨bk_⟩, ⟨bk_⟩, ⟨bl_⟩⟩
      clear HC55
      try clear c1
      try clear c2
      try clear p2
      try clear c3
      try clear c4
      try clear c5
      try clear c6
      try clear c6b0
      try clear c6b1
      try clear c11
      try clear c13
      try clear c13b0
      try clear c13b1
      try clear c14
      try clear c16
      try clear c18
      try clear c19
      try clear c23
      try clear c24
      try clear c26
      try clear c26b0
      try clear c26b1
      try clear c29
      try clear c30
      try clear c34
      try clear c35
      try clear c36
      try clear c41
      try clear c42
      try clear c43
      try clear c44
      try clear c45
      try clear c46
      try clear c47
      try clear c48
      try clear c49
      try clear c50
      try clear c53
      try clear c56
      try clear c56b0
      try clear c56b1
      try clear hcz12
      try clear hcz15
      try clear hcz17
      try clear hcz20
      try clear hcz25
      try clear hcz31
      try clear hcz37
      try clear hcz46
      try clear hcz51
      try clear hcz52
      try clear hcz54
      try clear hcz12
      try clear hcz15
      try clear hcz17
      try clear hcz20
      try clear hcz25
      try clear hcz31
      try clear hcz37
      try clear hcz46
      try clear hcz51
      try clear hcz52
      try clear hcz54
      try clear p2
      obtain ⟨kq, x62_54, rfl, HA, HJ54, BK332, BK338, BK339, HB⟩ := hcut
      cases kq with
      | zero => exact absurd HA.out (by simp [armoireref24_Parse.j2])
      | succ kj54 =>
        have H := HA.out
        clear HA
        simp only [armoireref24_Parse.j2] at H
        have HC57 := Aside0.mk H
        clear H
        go_upto_if 62 with (fail)
        go_cut [] (fun wc => ∃ (kq : Nat) (x339000_56 : ByteArray) (x339001_56 : Int) (x340001_56 : Int), Aside0 (armoireref24_Parse.j3 kq x339000_56 x339001_56 t337 x340001_56 x340002_20 x340003_20 x340004_20 x340005_20 x340006_20 = some (r1, r2, r3, r4, r5, r6, r7, r8)) ∧ Aside0 (kq ≤ kj54) ∧ Aside0 (wc.heap[gb332]? = some (.cells #[.int .i64 0, .int .i64 0, .string (⟨#[]⟩ : ByteArray), .int .i64 0, .string (⟨#[]⟩ : ByteArray), .string (⟨#[]⟩ : ByteArray), .int .i64 0] 36 (0, 0))) ∧ Aside0 (wc.heap[gb338]? = some (.cells #[.string x339000_56, .int .i64 x339001_56] 88 (0, 0))) ∧ Aside0 (wc.heap[gb339]? = some (.cells #[.int .i64 t337, .int .i64 x340001_56, .string x340002_20, .int .i64 x340003_20, .string x340004_20, .string x340005_20, .int .i64 x340006_20] 36 (0, 0))) ∧ Aside0 (Below w.heap.size w wc))
        case first =>
          have H := HC57.out
          clear HC57
          by_cases c58 : x62_54 = true
          rotate_left
          · replace c58 := Bool.eq_false_iff.mpr c58
            subst c58
            have H1 : (armoireref24_Parse.j3 kj54 x339000_20 x339001_20 t337 0 x340002_20 x340003_20 x340004_20 x340005_20 x340006_20) = some (r1, r2, r3, r4, r5, r6, r7, r8) := by rw [if_neg (show ¬ (false = true) by decide)] at H; exact H
            clear H
            have H := H1
            clear H1
            have H' := Aside0.mk H
            clear H
            go_wp2
            go_meet
            case rel => exact ⟨_, (x339000_20), (x339001_20), (0), H', ⟨by have := HJ7.out; have := HJ20.out; have := HJ54.out; first | omega | exact Nat.le_refl _⟩, ⟨bk_⟩, ⟨bk_⟩, ⟨bk_⟩, ⟨bl_⟩⟩
          subst c58
          have H1 : ((armoireref02_TakeN.f kj54 x339000_20 x339001_20 1099511627776).bind fun bt352 => (armoireref24_Parse.j3 kj54 bt352.1 bt352.2.1 t337 bt352.2.2 x340002_20 x340003_20 x340004_20 x340005_20 x340006_20)) = some (r1, r2, r3, r4, r5, r6, r7, r8) := by rw [if_pos rfl] at H; exact H
          clear H
          have H := H1
          clear H1
          replace H := Option.bind_eq_some_iff.mp H
          obtain ⟨⟨t352, t353, t354⟩, A590, H⟩ := H
          replace H : (armoireref24_Parse.j3 kj54 t352 t353 t337 t354 x340002_20 x340003_20 x340004_20 x340005_20 x340006_20) = some (r1, r2, r3, r4, r5, r6, r7, r8) := H
          have A59 := Aside0.mk A590
          clear A590
          have H' := Aside0.mk H
          clear H
          have hnb60 := NB338_332.out
          have hnc60 := NB332_338.out
          have hnb61 := NB338_339.out
          have hnc61 := NB339_338.out
          have hcz62 := bc2 BK338.out
          go_wp2_with (first | ((with_reducible refine gcl (f := 47) rfl ?_); refine gl_ (some 65) rfl rfl Try.func47 (by kernel_rfl) rfl #[.agg #[.string x339000_20, .int .i64 x339001_20], .int .i64 1099511627776] rfl ar_ ?_; (with_reducible refine (armoireref02_TakeN.calls kj54 x339000_20 x339001_20 1099511627776 t352 t353 t354 _ A59.out).mono ?_); rintro e w63 ⟨rfl, hb⟩; refine ⟨_, rfl, ?_⟩; have n0_ := Aside0.mk (kbl (g := gb332) (o := .cells #[.int .i64 0, .int .i64 0, .string (⟨#[]⟩ : ByteArray), .int .i64 0, .string (⟨#[]⟩ : ByteArray), .string (⟨#[]⟩ : ByteArray), .int .i64 0] 36 (0, 0)) bk_ hb); have n1_ := Aside0.mk (kbl (g := gb338) (o := .cells #[.string x339000_20, .int .i64 x339001_20] 88 (0, 0)) bk_ hb); have n2_ := Aside0.mk (kbl (g := gb339) (o := .cells #[.int .i64 t337, .int .i64 0, .string x340002_20, .int .i64 x340003_20, .string x340004_20, .string x340005_20, .int .i64 x340006_20] 36 (0, 0)) bk_ hb); have n3_ := Aside0.mk (bsp bl_ hb); clear BK332; clear BK338; clear BK339; clear HB; have BK332 := n0_; have BK338 := n1_; have BK339 := n2_; have HB := n3_; clear n0_ n1_ n2_ n3_; (try clear hb); (try clear hb2); (try clear hk); (try clear hi)) | ((with_reducible refine gds (N := 13) rfl ?_); refine bev ?hg (N := 13) ?hd (cs := #[.string (⟨#[]⟩ : ByteArray), .int .i64 0]) (t := 88) ?hr ?_; (case hd => rfl); (case hg => rfl); (case hr => first | (go_simp; done) | (go_simp; rfl)); intro gb355 hg w64 hbox hb; have n0_ := Aside0.mk (kbl (g := gb332) (o := .cells #[.int .i64 0, .int .i64 0, .string (⟨#[]⟩ : ByteArray), .int .i64 0, .string (⟨#[]⟩ : ByteArray), .string (⟨#[]⟩ : ByteArray), .int .i64 0] 36 (0, 0)) bk_ hb); have n1_ := Aside0.mk (kbl (g := gb338) (o := .cells #[.string x339000_20, .int .i64 x339001_20] 88 (0, 0)) bk_ hb); have n2_ := Aside0.mk (kbl (g := gb339) (o := .cells #[.int .i64 t337, .int .i64 0, .string x340002_20, .int .i64 x340003_20, .string x340004_20, .string x340005_20, .int .i64 x340006_20] 36 (0, 0)) bk_ hb); have n3_ := Aside0.mk (bsp bl_ hb); have n4_ := Aside0.mk (hbox); have n5_ := Aside0.mk ((by rw [hg]; exact bsz bl_ : w.heap.size ≤ gb355)); have n6_ := Aside0.mk ((by rw [hg]; exact bsz bl_ : w.heap.size ≤ gb355)); have n7_ := Aside0.mk ((by rw [hg]; exact Nat.ne_of_lt (blk_lt (g := gb332) (o := .cells #[.int .i64 0, .int .i64 0, .string (⟨#[]⟩ : ByteArray), .int .i64 0, .string (⟨#[]⟩ : ByteArray), .string (⟨#[]⟩ : ByteArray), .int .i64 0] 36 (0, 0)) bk_) : gb332 ≠ gb355)); have n8_ := Aside0.mk ((by rw [hg]; exact Nat.ne_of_gt (blk_lt (g := gb332) (o := .cells #[.int .i64 0, .int .i64 0, .string (⟨#[]⟩ : ByteArray), .int .i64 0, .string (⟨#[]⟩ : ByteArray), .string (⟨#[]⟩ : ByteArray), .int .i64 0] 36 (0, 0)) bk_) : gb355 ≠ gb332)); have n9_ := Aside0.mk ((by rw [hg]; exact Nat.ne_of_lt (blk_lt (g := gb338) (o := .cells #[.string x339000_20, .int .i64 x339001_20] 88 (0, 0)) bk_) : gb338 ≠ gb355)); have n10_ := Aside0.mk ((by rw [hg]; exact Nat.ne_of_gt (blk_lt (g := gb338) (o := .cells #[.string x339000_20, .int .i64 x339001_20] 88 (0, 0)) bk_) : gb355 ≠ gb338)); have n11_ := Aside0.mk ((by rw [hg]; exact Nat.ne_of_lt (blk_lt (g := gb339) (o := .cells #[.int .i64 t337, .int .i64 0, .string x340002_20, .int .i64 x340003_20, .string x340004_20, .string x340005_20, .int .i64 x340006_20] 36 (0, 0)) bk_) : gb339 ≠ gb355)); have n12_ := Aside0.mk ((by rw [hg]; exact Nat.ne_of_gt (blk_lt (g := gb339) (o := .cells #[.int .i64 t337, .int .i64 0, .string x340002_20, .int .i64 x340003_20, .string x340004_20, .string x340005_20, .int .i64 x340006_20] 36 (0, 0)) bk_) : gb355 ≠ gb339)); clear BK332; clear BK338; clear BK339; clear HB; have BK332 := n0_; have BK338 := n1_; have BK339 := n2_; have HB := n3_; have BK355 := n4_; have GW355 := n5_; have GE355 := n6_; have NB332_355 := n7_; have NB355_332 := n8_; have NB338_355 := n9_; have NB355_338 := n10_; have NB339_355 := n11_; have NB355_339 := n12_; clear n0_ n1_ n2_ n3_ n4_ n5_ n6_ n7_ n8_ n9_ n10_ n11_ n12_; clear hb hbox hg; have hnb65 := NB355_332.out; have hnc65 := NB332_355.out; have hnb66 := NB355_338.out; have hnc66 := NB338_355.out; have hnb67 := NB355_339.out; have hnc67 := NB339_355.out; have hcz68 := bc2 BK355.out; have hcz69 := bc2 BK338.out; have hnb70 := NB339_332.out; have hnc70 := NB332_339.out; have hcz71 := bc7 BK339.out))
          go_meet
          case rel => exact ⟨_, (t352), (t353), (t354), H', ⟨by have := HJ7.out; have := HJ20.out; have := HJ54.out; first | omega | exact Nat.le_refl _⟩, ⟨bk_⟩, ⟨bk_⟩, ⟨bk_⟩, ⟨bl_⟩⟩
        clear HC57
        try clear c1
        try clear c2
        try clear p2
        try clear c3
        try clear c4
        try clear c5
        try clear c6
        try clear c6b0
        try clear c6b1
        try clear c7
        try clear c11
        try clear c13
        try clear c13b0
        try clear c13b1
        try clear c14
        try clear c16
        try clear c18
        try clear c19
        try clear c23
        try clear c24
        try clear c26
        try clear c26b0
        try clear c26b1
        try clear c29
        try clear c30
        try clear c34
        try clear c35
        try clear c36
        try clear c41
        try clear c42
        try clear c43
        try clear c44
        try clear c45
        try clear c46
        try clear c47
        try clear c48
        try clear c49
        try clear c50
        try clear c53
        try clear c56
        try clear c56b0
        try clear c56b1
        try clear c58
        try clear c60
        try clear c61
        try clear c65
        try clear c66
        try clear c67
        try clear c70
        try clear hcz12
        try clear hcz15
        try clear hcz17
        try clear hcz20
        try clear hcz25
        try clear hcz31
        try clear hcz37
        try clear hcz46
        try clear hcz51
        try clear hcz52
        try clear hcz54
        try clear hcz62
        try clear hcz68
        try clear hcz69
        try clear hcz71
        try clear hcz12
        try clear hcz15
        try clear hcz17
        try clear hcz20
        try clear hcz25
        try clear hcz31
        try clear hcz37
        try clear hcz46
        try clear hcz51
        try clear hcz52
        try clear hcz54
        try clear hcz62
        try clear hcz68
        try clear hcz69
        try clear hcz71
        try clear p2
        obtain ⟨kq, x339000_56, x339001_56, x340001_56, HA, HJ56, BK332, BK338, BK339, HB⟩ := hcut
        cases kq with
        | zero => exact absurd HA.out (by simp [armoireref24_Parse.j3])
        | succ kj56 =>
          have H := HA.out
          clear HA
          simp only [armoireref24_Parse.j3] at H
          replace H := Option.bind_eq_some_iff.mp H
          obtain ⟨t356, A720, H⟩ := H
          replace H : (if t356 = 0 then (some (t337, x340001_56, x340002_20, x340003_20, x340004_20, x340005_20, x340006_20, 0)) else ((armoireref02_End.f x339000_56 x339001_56).bind fun t357 => (some (0, 0, (⟨#[]⟩ : ByteArray), 0, (⟨#[]⟩ : ByteArray), (⟨#[]⟩ : ByteArray), 0, t357)))) = some (r1, r2, r3, r4, r5, r6, r7, r8) := H
          have A72 := Aside0.mk A720
          clear A720
          have HS73 := Aside0.mk H
          clear H
          have hnb74 := NB338_332.out
          have hnc74 := NB332_338.out
          have hnb75 := NB338_339.out
          have hnc75 := NB339_338.out
          have hcz76 := bc2 BK338.out
          go_upto_if 73 with (first | ((with_reducible refine gcl (f := 50) rfl ?_); refine gl_ (some 72) rfl rfl Try.func50 (by kernel_rfl) rfl #[.agg #[.string x339000_56, .int .i64 x339001_56]] rfl ar_ ?_; (with_reducible refine (armoireref02_End.calls x339000_56 x339001_56 t356 _ A72.out).mono ?_); rintro e w77 ⟨rfl, hb⟩; refine ⟨_, rfl, ?_⟩; have n0_ := Aside0.mk (kbl (g := gb332) (o := .cells #[.int .i64 0, .int .i64 0, .string (⟨#[]⟩ : ByteArray), .int .i64 0, .string (⟨#[]⟩ : ByteArray), .string (⟨#[]⟩ : ByteArray), .int .i64 0] 36 (0, 0)) bk_ hb); have n1_ := Aside0.mk (kbl (g := gb338) (o := .cells #[.string x339000_56, .int .i64 x339001_56] 88 (0, 0)) bk_ hb); have n2_ := Aside0.mk (kbl (g := gb339) (o := .cells #[.int .i64 t337, .int .i64 x340001_56, .string x340002_20, .int .i64 x340003_20, .string x340004_20, .string x340005_20, .int .i64 x340006_20] 36 (0, 0)) bk_ hb); have n3_ := Aside0.mk (bsp bl_ hb); clear BK332; clear BK338; clear BK339; clear HB; have BK332 := n0_; have BK338 := n1_; have BK339 := n2_; have HB := n3_; clear n0_ n1_ n2_ n3_; (try clear hb); (try clear hb2); (try clear hk); (try clear hi)))
          (try simp only [Act.put, List.setIfInBounds_toArray, List.set_cons_zero, List.set_cons_succ])
          have H := HS73.out
          clear HS73
          by_cases c78 : t356 = 0
          · rw [if_pos c78] at H
            have c78b0 : (t356 == 0) = true := beq_iff_eq.mpr c78
            have c78b1 : (t356 != 0) = false := bne_eq_false_iff_eq.mpr c78
            clear c78
            (first | rw [c78b0] | (simp only [i64_w, i32_w]; rw [c78b0]) | skip)
            simp only [Option.some.injEq, Prod.mk.injEq] at H
            obtain ⟨rfl, rfl, rfl, rfl, rfl, rfl, rfl, rfl⟩ := H
            have hnb79 := NB339_332.out
            have hnc79 := NB332_339.out
            have hnb80 := NB339_338.out
            have hnc80 := NB338_339.out
            have hcz81 := bc7 BK339.out
            have hnb82 := NB332_338.out
            have hnc82 := NB338_332.out
            have hcz83 := bc7 BK332.out
            go_wp2
            refine bodyPost_ret (results_ct rfl _ _ gb332 36 #[.int .i64 t337, .int .i64 x340001_56, .string x340002_20, .int .i64 x340003_20, .string x340004_20, .string x340005_20, .int .i64 x340006_20] (0, 0) _ rfl bk_ Try.underlying36 rfl (by kernel_rfl)) rfl ?_
            exact ⟨er_, bl_⟩
          rw [if_neg c78] at H
          have c78b0 : (t356 == 0) = false := beq_eq_false_iff_ne.mpr c78
          have c78b1 : (t356 != 0) = true := bne_iff_ne.mpr c78
          (first | rw [c78b0] | (simp only [i64_w, i32_w]; rw [c78b0]) | skip)
          replace H := Option.bind_eq_some_iff.mp H
          obtain ⟨t357, A840, H⟩ := H
          replace H : (some (0, 0, (⟨#[]⟩ : ByteArray), 0, (⟨#[]⟩ : ByteArray), (⟨#[]⟩ : ByteArray), 0, t357)) = some (r1, r2, r3, r4, r5, r6, r7, r8) := H
          have A84 := Aside0.mk A840
          clear A840
          simp only [Option.some.injEq, Prod.mk.injEq] at H
          obtain ⟨rfl, rfl, rfl, rfl, rfl, rfl, rfl, rfl⟩ := H
          have hnb85 := NB338_332.out
          have hnc85 := NB332_338.out
          have hnb86 := NB338_339.out
          have hnc86 := NB339_338.out
          have hcz87 := bc2 BK338.out
          go_wp2_with (first | ((with_reducible refine gcl (f := 50) rfl ?_); refine gl_ (some 76) rfl rfl Try.func50 (by kernel_rfl) rfl #[.agg #[.string x339000_56, .int .i64 x339001_56]] rfl ar_ ?_; (with_reducible refine (armoireref02_End.calls x339000_56 x339001_56 t357 _ A84.out).mono ?_); rintro e w88 ⟨rfl, hb⟩; refine ⟨_, rfl, ?_⟩; have n0_ := Aside0.mk (kbl (g := gb332) (o := .cells #[.int .i64 0, .int .i64 0, .string (⟨#[]⟩ : ByteArray), .int .i64 0, .string (⟨#[]⟩ : ByteArray), .string (⟨#[]⟩ : ByteArray), .int .i64 0] 36 (0, 0)) bk_ hb); have n1_ := Aside0.mk (kbl (g := gb338) (o := .cells #[.string x339000_56, .int .i64 x339001_56] 88 (0, 0)) bk_ hb); have n2_ := Aside0.mk (kbl (g := gb339) (o := .cells #[.int .i64 t337, .int .i64 x340001_56, .string x340002_20, .int .i64 x340003_20, .string x340004_20, .string x340005_20, .int .i64 x340006_20] 36 (0, 0)) bk_ hb); have n3_ := Aside0.mk (bsp bl_ hb); clear BK332; clear BK338; clear BK339; clear HB; have BK332 := n0_; have BK338 := n1_; have BK339 := n2_; have HB := n3_; clear n0_ n1_ n2_ n3_; (try clear hb); (try clear hb2); (try clear hk); (try clear hi); have hnb89 := NB332_339.out; have hnc89 := NB339_332.out; have hcz90 := bc7 BK332.out))
          refine bodyPost_ret (results_ct rfl _ _ gb332 36 #[.int .i64 0, .int .i64 0, .string (⟨#[]⟩ : ByteArray), .int .i64 0, .string (⟨#[]⟩ : ByteArray), .string (⟨#[]⟩ : ByteArray), .int .i64 0] (0, 0) _ rfl bk_ Try.underlying36 rfl (by kernel_rfl)) rfl ?_
          exact ⟨er_, bl_⟩
def codec_In_Len.f (s0_0 : ByteArray) (s0_1 : Int) : Option (Int × ByteArray × Int) := some ((s0_0.size : Int), s0_0, s0_1)
set_option maxHeartbeats 2000000 in
set_option maxRecDepth 100000 in
theorem codec_In_Len.calls (g : Nat) (s0_0 : ByteArray) (s0_1 : Int) (r1 : Int) (r2 : ByteArray) (r3 : Int) (w0 w : World) (hI : IsS108 w0 w g s0_0 s0_1) (hB : Below w0.heap.size w0 w) (h : codec_In_Len.f s0_0 s0_1 = some (r1, r2, r3)) :
    Calls Try.prog 51 #[.pointer (some ⟨g, 0, none⟩)] w fun e w' => e = .returned (.int .i64 r1) ∧ IsS108 w0 w' g r2 r3 ∧ Below w0.heap.size w0 w' ∧ KeepBut w w' g none := by
  have HI0 := Aside0.mk hI
  have HK := Aside0.mk (KeepBut.refl w g none)
  have HL := Aside0.mk hB.size
  clear hI
  have HW0 := Aside0.mk hB.size
  have HB := Aside0.mk hB
  clear hB
  have H : (some ((s0_0.size : Int), s0_0, s0_1)) = some (r1, r2, r3) := h
  clear h
  simp only [Option.some.injEq, Prod.mk.injEq] at H
  obtain ⟨rfl, rfl, rfl⟩ := H
  obtain ⟨HGz2, hgz2⟩ := HI0.out
  have hcz2_0 := cellS108_0 HGz2
  have hcz2_1 := cellS108_1 HGz2
  have hfz2_0 := kfr HGz2 0
  have hfz2_1 := kfr HGz2 1
  clear HGz2 hgz2
  go_enter Try.func51, Try.ntmps51
  go_wp2
  go_ret
  exact ⟨er_, by repeat (first | (with_reducible first | exact HI0.out | apply IsS108.alloc | apply IsS108.drewN | apply IsS108.drew | apply IsS108.set_0 | apply IsS108.set_1) | exact HI0.out), by repeat (first | (with_reducible first | exact HB.out | apply bal | apply bdn | apply bd1 | refine bst ?_ (IsS108.ge HI0.out)) | exact HB.out), by repeat (first | (with_reducible first | exact HK.out | apply KeepBut.set_ | apply edn | apply edw | apply eal) | exact HK.out)⟩
def method_Result_Check.j0 : Nat → Bool → Int → ByteArray → Int → Option (Int)
  | 0, _, _, _, _ => none
  | k + 1, x3, x359000, x359001, x359002 => if x3 = true then (some 6) else (if (x359001.size : Int) > 24 then (some 3) else (if x359001.toList = ([] : List UInt8) then (some 0) else (if x359002 = 0 then (some 0) else (some 2))))
def method_Result_Check.f (k : Nat) (a0_0 : Int) (a0_1 : ByteArray) (a0_2 : Int) : Option (Int) := if a0_0 = 1 then (method_Result_Check.j0 k false a0_0 a0_1 a0_2) else (method_Result_Check.j0 k (a0_0 != 2) a0_0 a0_1 a0_2)
set_option maxHeartbeats 2000000 in
set_option maxRecDepth 100000 in
theorem method_Result_Check.calls (k : Nat) (a0_0 : Int) (a0_1 : ByteArray) (a0_2 : Int) (r : Int) (w : World) (h : method_Result_Check.f k a0_0 a0_1 a0_2 = some r) :
    Calls Try.prog 55 #[.agg #[.int .i64 a0_0, .string a0_1, .int .i64 a0_2]] w fun e w' => e = .returned (.int .i64 r) ∧ Below w.heap.size w w' := by
  have hu51 := Try.underlying51
  have HB := Aside0.mk (Below.refl w.heap.size w)
  have H : (if a0_0 = 1 then (method_Result_Check.j0 k false a0_0 a0_1 a0_2) else (method_Result_Check.j0 k (a0_0 != 2) a0_0 a0_1 a0_2)) = some r := h
  clear h
  have HC2 := Aside0.mk H
  clear H
  go_enter Try.func55, Try.ntmps55
  go_upto_region 1 with (first | ((with_reducible refine gds (N := 1) rfl ?_); refine bev ?hg (N := 1) ?hd (cs := #[.int .i64 a0_0, .string a0_1, .int .i64 a0_2]) (t := 51) ?hr ?_; (case hd => rfl); (case hg => rfl); (case hr => first | (go_simp; done) | (go_simp; rfl)); intro gb358 hg w3 hbox hb; have n0_ := Aside0.mk (bsp bl_ hb); have n1_ := Aside0.mk (hbox); have n2_ := Aside0.mk ((by rw [hg]; exact bsz bl_ : w.heap.size ≤ gb358)); have n3_ := Aside0.mk ((by rw [hg]; exact bsz bl_ : w.heap.size ≤ gb358)); clear HB; have HB := n0_; have BK358 := n1_; have GW358 := n2_; have GE358 := n3_; clear n0_ n1_ n2_ n3_; clear hb hbox hg))
  (try simp only [Act.put, List.setIfInBounds_toArray, List.set_cons_zero, List.set_cons_succ])
  go_cut [3] (fun v3 wc => ∃ (kq : Nat) (x3_1 : Bool), v3 = .bool x3_1 ∧ Aside0 (method_Result_Check.j0 kq x3_1 a0_0 a0_1 a0_2 = some r) ∧ Aside0 (kq ≤ k) ∧ Aside0 (wc.heap[gb358]? = some (.cells #[.int .i64 a0_0, .string a0_1, .int .i64 a0_2] 51 (0, 0))) ∧ Aside0 (Below w.heap.size w wc))
  case first =>
    have H := HC2.out
    clear HC2
    by_cases c4 : a0_0 = 1
    rotate_left
    · rw [if_neg c4] at H
      have c4b0 : (a0_0 == 1) = false := beq_eq_false_iff_ne.mpr c4
      have c4b1 : (a0_0 != 1) = true := bne_iff_ne.mpr c4
      (first | rw [c4b0] | (simp only [i64_w, i32_w]; rw [c4b0]) | skip)
      have H' := Aside0.mk H
      clear H
      have hcz6 := bc3 BK358.out
      go_wp2
      go_meet
      case rel => exact ⟨_, ((a0_0 != 2)), (by first | rfl | (simp; done) | (simp [*]; done) | exact emp1_ _ | exact (emp1_ _).symm | exact emp2_ _ | exact (emp2_ _).symm), H', ⟨by first | omega | exact Nat.le_refl _⟩, ⟨bk_⟩, ⟨bl_⟩⟩
    rw [if_pos c4] at H
    have c4b0 : (a0_0 == 1) = true := beq_iff_eq.mpr c4
    have c4b1 : (a0_0 != 1) = false := bne_eq_false_iff_eq.mpr c4
    clear c4
    (first | rw [c4b0] | (simp only [i64_w, i32_w]; rw [c4b0]) | skip)
    have H' := Aside0.mk H
    clear H
    have hcz5 := bc3 BK358.out
    go_wp2
    go_meet
    case rel => exact ⟨_, (false), (by first | rfl | (simp; done) | (simp [*]; done) | exact emp1_ _ | exact (emp1_ _).symm | exact emp2_ _ | exact (emp2_ _).symm), H', ⟨by first | omega | exact Nat.le_refl _⟩, ⟨bk_⟩, ⟨bl_⟩⟩
  clear HC2
  try clear p2
  try clear c4
  try clear c4b0
  try clear c4b1
  try clear c5
  try clear hcz5
  try clear hcz6
  try clear hcz5
  try clear hcz6
  obtain ⟨kq, x3_1, rfl, HA, HJ1, BK358, HB⟩ := hcut
  cases kq with
  | zero => exact absurd HA.out (by simp [method_Result_Check.j0])
  | succ kj1 =>
    have H := HA.out
    clear HA
    simp only [method_Result_Check.j0] at H
    by_cases c7 : x3_1 = true
    · subst c7
      have H1 : (some 6) = some r := by rw [if_pos rfl] at H; exact H
      clear H
      have H := H1
      clear H1
      obtain rfl := Option.some.inj H
      go_wp2
      go_ret
      exact ⟨er_, bl_⟩
    replace c7 := Bool.eq_false_iff.mpr c7
    subst c7
    have H1 : (if (a0_1.size : Int) > 24 then (some 3) else (if a0_1.toList = ([] : List UInt8) then (some 0) else (if a0_2 = 0 then (some 0) else (some 2)))) = some r := by rw [if_neg (show ¬ (false = true) by decide)] at H; exact H
    clear H
    have H := H1
    clear H1
    by_cases c8 : (a0_1.size : Int) > 24
    · rw [if_pos c8] at H
      have c8b0 : decide (24 < (a0_1.size : Int)) = true := decide_eq_true c8
      have c8b1 : decide (24 < a0_1.size) = true := decide_eq_true (by omega)
      clear c8
      obtain rfl := Option.some.inj H
      have hcz9 := bc3 BK358.out
      go_wp2
      go_ret
      exact ⟨er_, bl_⟩
    rw [if_neg c8] at H
    have c8b0 : decide (24 < (a0_1.size : Int)) = false := decide_eq_false c8
    have c8b1 : decide (24 < a0_1.size) = false := decide_eq_false (by omega)
    clear c8
    by_cases c10 : a0_1.toList = ([] : List UInt8)
    · rw [if_pos c10] at H
      have c10b0 : (a0_1.toList == ([] : List UInt8)) = true := beq_iff_eq.mpr c10
      have c10b1 : (a0_1.toList != ([] : List UInt8)) = false := bne_eq_false_iff_eq.mpr c10
      (try (have c10b2 : a0_1.toList.isEmpty = true := by simpa using c10))
      clear c10
      obtain rfl := Option.some.inj H
      have hcz11 := bc3 BK358.out
      go_wp2
      go_ret
      exact ⟨er_, bl_⟩
    rw [if_neg c10] at H
    have c10b0 : (a0_1.toList == ([] : List UInt8)) = false := beq_eq_false_iff_ne.mpr c10
    have c10b1 : (a0_1.toList != ([] : List UInt8)) = true := bne_iff_ne.mpr c10
    (try (have c10b2 : a0_1.toList.isEmpty = false := by simpa using c10))
    by_cases c12 : a0_2 = 0
    rotate_left
    · rw [if_neg c12] at H
      have c12b0 : (a0_2 == 0) = false := beq_eq_false_iff_ne.mpr c12
      have c12b1 : (a0_2 != 0) = true := bne_iff_ne.mpr c12
      obtain rfl := Option.some.inj H
      have hcz14 := bc3 BK358.out
      go_wp2
      go_ret
      exact ⟨er_, bl_⟩
    rw [if_pos c12] at H
    have c12b0 : (a0_2 == 0) = true := beq_iff_eq.mpr c12
    have c12b1 : (a0_2 != 0) = false := bne_eq_false_iff_eq.mpr c12
    clear c12
    obtain rfl := Option.some.inj H
    have hcz13 := bc3 BK358.out
    go_wp2
    go_ret
    exact ⟨er_, bl_⟩
end Go.Proofs.Ytkkkmbgflflcnaa.PS

