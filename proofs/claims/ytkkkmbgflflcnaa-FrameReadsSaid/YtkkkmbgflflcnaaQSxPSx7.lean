import Derived.Test.YtkkkmbgflflcnaaQSxPSx6
namespace Go.Proofs.Ytkkkmbgflflcnaa.PS
open Go.Proofs.Ytkkkmbgflflcnaa.PL
open Go.RowKit Go.Proofs.YtkkkmbgflflcnaaW.PrintWords Go.Proofs.YtkkkmbgflflcnaaW.PrintLast Go.Proofs.YtkkkmbgflflcnaaW.PrintMore
attribute [local go_sem] max2_int min2_int max_two min_two max_three min_three max_four min_four
set_option linter.unusedVariables false
set_option linter.unusedSimpArgs false
theorem eqA24 (d : Nat) (w : World) (x0 y0 : Int) (x1 y1 : ByteArray) (x2 y2 : ByteArray) (x3 y3 : Int) :
    (Op.equalIn (d + 2) 24 (.agg #[.int .i64 x0, .string x1, .string x2, .int .i64 x3]) (.agg #[.int .i64 y0, .string y1, .string y2, .int .i64 y3])).run Try.prog w = .ok (x0 == y0 && (x1.toList == y1.toList && (x2.toList == y2.toList && (x3 == y3)))) w := by
  refine eqA_of Try.underlying24 (by kernel_rfl) ?_
  refine eqf_cons (by rfl) (by go_simp; rfl) (by go_simp; rfl) (by go_simp) ?_
  refine eqf_cons (by rfl) (by go_simp; rfl) (by go_simp; rfl) (by go_simp) ?_
  refine eqf_cons (by rfl) (by go_simp; rfl) (by go_simp; rfl) (by go_simp) ?_
  exact eqf_last (by rfl) (by go_simp; rfl) (by go_simp; rfl) (by go_simp)
end Go.Proofs.Ytkkkmbgflflcnaa.PS

namespace Go.Proofs.Ytkkkmbgflflcnaa.PS
open Go.Proofs.Ytkkkmbgflflcnaa.PL
open Go.RowKit Go.Proofs.YtkkkmbgflflcnaaW.PrintWords Go.Proofs.YtkkkmbgflflcnaaW.PrintLast Go.Proofs.YtkkkmbgflflcnaaW.PrintMore
attribute [local go_sem] max2_int min2_int max_two min_two max_three min_three max_four min_four
set_option linter.unusedVariables false
set_option linter.unusedSimpArgs false
mutual
def method_Call_Check.j0 : Nat → Bool → Int → ByteArray → ByteArray → Int → Int → ByteArray → Bool → Bool → Bool → Option (Int)
  | 0, _, _, _, _, _, _, _, _, _, _ => none
  | k + 1, x11, x111000, x111001, x111002, x111003, x117000, x117001, x117002, x117003, x117004 => if x11 = true then (method_Call_Check.j1 k x11 x111000 x111001 x111002 x111003) else (if x117003 = true then (if x117004 = true then (method_Call_Check.j1 k false x111000 x111001 x111002 x111003) else (method_Call_Check.j1 k (x111003 != 0) x111000 x111001 x111002 x111003)) else (if x111002.toList = ([] : List UInt8) then (if x117004 = true then (method_Call_Check.j1 k false x111000 x111001 x111002 x111003) else (method_Call_Check.j1 k (x111003 != 0) x111000 x111001 x111002 x111003)) else (method_Call_Check.j1 k (x111002.toList != ([] : List UInt8)) x111000 x111001 x111002 x111003)))
def method_Call_Check.j1 : Nat → Bool → Int → ByteArray → ByteArray → Int → Option (Int)
  | 0, _, _, _, _, _ => none
  | k + 1, x11, x111000, x111001, x111002, x111003 => if x11 = true then (some 2) else (if (x111001.size : Int) > 24 then (method_Call_Check.j2 k true x111000 x111001 x111002 x111003) else (method_Call_Check.j2 k (decide ((x111002.size : Int) > 24)) x111000 x111001 x111002 x111003))
def method_Call_Check.j2 : Nat → Bool → Int → ByteArray → ByteArray → Int → Option (Int)
  | 0, _, _, _, _, _ => none
  | k + 1, x36, x111000, x111001, x111002, x111003 => if x36 = true then (some 3) else (if x111000 = 5 then (if x111003 < 1 then (some 4) else (if x111003 > 1048576 then (some 4) else (some 0))) else (if x111000 = 6 then (if x111003 < 1 then (some 4) else (if x111003 > 1048576 then (some 4) else (some 0))) else (some 0)))
end
def method_Call_Check.f (k : Nat) (a0_0 : Int) (a0_1 : ByteArray) (a0_2 : ByteArray) (a0_3 : Int) : Option (Int) := (method_Op_shape.f a0_0).bind fun bt111 => (if bt111.1 = 0 then (some 6) else (if bt111.2.2.1 = true then (method_Call_Check.j0 k false a0_0 a0_1 a0_2 a0_3 bt111.1 bt111.2.1 bt111.2.2.1 bt111.2.2.2.1 bt111.2.2.2.2) else (method_Call_Check.j0 k (a0_1.toList != ([] : List UInt8)) a0_0 a0_1 a0_2 a0_3 bt111.1 bt111.2.1 bt111.2.2.1 bt111.2.2.2.1 bt111.2.2.2.2)))
set_option maxHeartbeats 2000000 in
set_option maxRecDepth 100000 in
theorem method_Call_Check.calls (k : Nat) (a0_0 : Int) (a0_1 : ByteArray) (a0_2 : ByteArray) (a0_3 : Int) (r : Int) (w : World) (h : method_Call_Check.f k a0_0 a0_1 a0_2 a0_3 = some r) :
    Calls Try.prog 28 #[.agg #[.int .i64 a0_0, .string a0_1, .string a0_2, .int .i64 a0_3]] w fun e w' => e = .returned (.int .i64 r) ∧ Below w.heap.size w w' := by
  have hu24 := Try.underlying24
  have hu104 := Try.underlying104
  have HB := Aside0.mk (Below.refl w.heap.size w)
  have H : ((method_Op_shape.f a0_0).bind fun bt111 => (if bt111.1 = 0 then (some 6) else (if bt111.2.2.1 = true then (method_Call_Check.j0 k false a0_0 a0_1 a0_2 a0_3 bt111.1 bt111.2.1 bt111.2.2.1 bt111.2.2.2.1 bt111.2.2.2.2) else (method_Call_Check.j0 k (a0_1.toList != ([] : List UInt8)) a0_0 a0_1 a0_2 a0_3 bt111.1 bt111.2.1 bt111.2.2.1 bt111.2.2.2.1 bt111.2.2.2.2)))) = some r := h
  clear h
  replace H := Option.bind_eq_some_iff.mp H
  obtain ⟨⟨t111, t112, t113, t114, t115⟩, A20, H⟩ := H
  replace H : (if t111 = 0 then (some 6) else (if t113 = true then (method_Call_Check.j0 k false a0_0 a0_1 a0_2 a0_3 t111 t112 t113 t114 t115) else (method_Call_Check.j0 k (a0_1.toList != ([] : List UInt8)) a0_0 a0_1 a0_2 a0_3 t111 t112 t113 t114 t115))) = some r := H
  have A2 := Aside0.mk A20
  clear A20
  have HS3 := Aside0.mk H
  clear H
  go_enter Try.func28, Try.ntmps28
  go_upto_if 7 with (first | ((with_reducible refine gds (N := 1) rfl ?_); (try (refine gate_guard (by rfl) ?_; dsimp only)); refine bev ?hg (N := 1) ?hd (cs := #[.int .i64 a0_0, .string a0_1, .string a0_2, .int .i64 a0_3]) (t := 24) ?hr ?_; (case hd => rfl); (case hg => rfl); (case hr => first | (go_simp; done) | (go_simp; rfl)); intro gb110 hg w4 hbox hb; have n0_ := Aside0.mk (bsp bl_ hb); have n1_ := Aside0.mk (hbox); have n2_ := Aside0.mk ((by rw [hg]; exact bsz bl_ : w.heap.size ≤ gb110)); have n3_ := Aside0.mk ((by rw [hg]; exact bsz bl_ : w.heap.size ≤ gb110)); clear HB; have HB := n0_; have BK110 := n1_; have GW110 := n2_; have GE110 := n3_; clear n0_ n1_ n2_ n3_; clear hb hbox hg; have hcz5 := bc4 BK110.out) | ((with_reducible refine gcl (f := 60) rfl ?_); refine gl_ (some 6) rfl rfl Try.func60 (by kernel_rfl) rfl #[.int .i64 a0_0] rfl ar_ ?_; (with_reducible refine (method_Op_shape.calls a0_0 t111 t112 t113 t114 t115 _ A2.out).mono ?_); rintro e w6 ⟨rfl, hb⟩; refine ⟨_, rfl, ?_⟩; have n0_ := Aside0.mk (kbl (g := gb110) (o := .cells #[.int .i64 a0_0, .string a0_1, .string a0_2, .int .i64 a0_3] 24 (0, 0)) bk_ hb); have n1_ := Aside0.mk (bsp bl_ hb); clear BK110; clear HB; have BK110 := n0_; have HB := n1_; clear n0_ n1_; (try clear hb); (try clear hb2); (try clear hk); (try clear hi)) | ((with_reducible refine gds (N := 3) rfl ?_); (try (refine gate_guard (by rfl) ?_; dsimp only)); refine bev ?hg (N := 3) ?hd (cs := #[.int .i64 0, .string (⟨#[]⟩ : ByteArray), .bool false, .bool false, .bool false]) (t := 104) ?hr ?_; (case hd => rfl); (case hg => rfl); (case hr => first | (go_simp; done) | (go_simp; rfl)); intro gb116 hg w7 hbox hb; have n0_ := Aside0.mk (kbl (g := gb110) (o := .cells #[.int .i64 a0_0, .string a0_1, .string a0_2, .int .i64 a0_3] 24 (0, 0)) bk_ hb); have n1_ := Aside0.mk (bsp bl_ hb); have n2_ := Aside0.mk (hbox); have n3_ := Aside0.mk ((by rw [hg]; exact bsz bl_ : w.heap.size ≤ gb116)); have n4_ := Aside0.mk ((by rw [hg]; exact bsz bl_ : w.heap.size ≤ gb116)); have n5_ := Aside0.mk ((by rw [hg]; exact Nat.ne_of_lt (blk_lt (g := gb110) (o := .cells #[.int .i64 a0_0, .string a0_1, .string a0_2, .int .i64 a0_3] 24 (0, 0)) bk_) : gb110 ≠ gb116)); have n6_ := Aside0.mk ((by rw [hg]; exact Nat.ne_of_gt (blk_lt (g := gb110) (o := .cells #[.int .i64 a0_0, .string a0_1, .string a0_2, .int .i64 a0_3] 24 (0, 0)) bk_) : gb116 ≠ gb110)); clear BK110; clear HB; have BK110 := n0_; have HB := n1_; have BK116 := n2_; have GW116 := n3_; have GE116 := n4_; have NB110_116 := n5_; have NB116_110 := n6_; clear n0_ n1_ n2_ n3_ n4_ n5_ n6_; clear hb hbox hg; have hnb8 := NB116_110.out; have hnc8 := NB110_116.out; have hcz9 := bc5 BK116.out))
  (try simp only [Act.put, List.setIfInBounds_toArray, List.set_cons_zero, List.set_cons_succ])
  have H := HS3.out
  clear HS3
  by_cases c10 : t111 = 0
  · rw [if_pos c10] at H
    have c10b0 : (t111 == 0) = true := beq_iff_eq.mpr c10
    have c10b1 : (t111 != 0) = false := bne_eq_false_iff_eq.mpr c10
    clear c10
    (first | rw [c10b0] | (simp only [i64_w, i32_w]; rw [c10b0]) | skip)
    obtain rfl := Option.some.inj H
    go_wp2
    go_ret
    exact ⟨er_, bl_⟩
  rw [if_neg c10] at H
  have c10b0 : (t111 == 0) = false := beq_eq_false_iff_ne.mpr c10
  have c10b1 : (t111 != 0) = true := bne_iff_ne.mpr c10
  (first | rw [c10b0] | (simp only [i64_w, i32_w]; rw [c10b0]) | skip)
  have HC11 := Aside0.mk H
  clear H
  go_upto_region 4 with (fail)
  go_cut [11] (fun v11 wc => ∃ (kq : Nat) (x11_10 : Bool), v11 = .bool x11_10 ∧ Aside0 (method_Call_Check.j0 kq x11_10 a0_0 a0_1 a0_2 a0_3 t111 t112 t113 t114 t115 = some r) ∧ Aside0 (kq ≤ k) ∧ Aside0 (wc.heap[gb110]? = some (.cells #[.int .i64 a0_0, .string a0_1, .string a0_2, .int .i64 a0_3] 24 (0, 0))) ∧ Aside0 (wc.heap[gb116]? = some (.cells #[.int .i64 t111, .string t112, .bool t113, .bool t114, .bool t115] 104 (0, 0))) ∧ Aside0 (Below w.heap.size w wc))
  case first =>
    have H := HC11.out
    clear HC11
    by_cases c12 : t113 = true
    · subst c12
      have H1 : (method_Call_Check.j0 k false a0_0 a0_1 a0_2 a0_3 t111 t112 true t114 t115) = some r := by rw [if_pos rfl] at H; exact H
      clear H
      have H := H1
      clear H1
      have H' := Aside0.mk H
      clear H
      have hnb13 := NB116_110.out
      have hnc13 := NB110_116.out
      have hcz14 := bc5 BK116.out
      go_wp2
      go_meet
      case rel => exact ⟨_, (false), (by first | rfl | (simp; done) | (simp [*]; done) | exact emp1_ _ | exact (emp1_ _).symm | exact emp2_ _ | exact (emp2_ _).symm), H', ⟨by first | omega | exact Nat.le_refl _⟩, ⟨bk_⟩, ⟨bk_⟩, ⟨bl_⟩⟩
    replace c12 := Bool.eq_false_iff.mpr c12
    subst c12
    have H1 : (method_Call_Check.j0 k (a0_1.toList != ([] : List UInt8)) a0_0 a0_1 a0_2 a0_3 t111 t112 false t114 t115) = some r := by rw [if_neg (show ¬ (false = true) by decide)] at H; exact H
    clear H
    have H := H1
    clear H1
    have H' := Aside0.mk H
    clear H
    have hnb15 := NB116_110.out
    have hnc15 := NB110_116.out
    have hcz16 := bc5 BK116.out
    have hcz17 := bc4 BK110.out
    go_wp2
    go_meet
    case rel => exact ⟨_, ((a0_1.toList != ([] : List UInt8))), (by first | rfl | (simp; done) | (simp [*]; done) | exact emp1_ _ | exact (emp1_ _).symm | exact emp2_ _ | exact (emp2_ _).symm), H', ⟨by first | omega | exact Nat.le_refl _⟩, ⟨bk_⟩, ⟨bk_⟩, ⟨bl_⟩⟩
  clear HC11
  try clear c1
  try clear c2
  try clear p2
  try clear c6
  try clear c8
  try clear c10
  try clear c10b0
  try clear c10b1
  try clear c12
  try clear c13
  try clear c15
  try clear hcz14
  try clear hcz16
  try clear hcz17
  try clear hcz5
  try clear hcz9
  try clear hcz14
  try clear hcz16
  try clear hcz17
  try clear hcz5
  try clear hcz9
  obtain ⟨kq, x11_10, rfl, HA, HJ10, BK110, BK116, HB⟩ := hcut
  cases kq with
  | zero => exact absurd HA.out (by simp [method_Call_Check.j0])
  | succ kj10 =>
    have H := HA.out
    clear HA
    simp only [method_Call_Check.j0] at H
    have HC18 := Aside0.mk H
    clear H
    go_upto_if 11 with (fail)
    go_cut [11] (fun v11 wc => ∃ (kq : Nat) (x11_17 : Bool), v11 = .bool x11_17 ∧ Aside0 (method_Call_Check.j1 kq x11_17 a0_0 a0_1 a0_2 a0_3 = some r) ∧ Aside0 (kq ≤ kj10) ∧ Aside0 (wc.heap[gb110]? = some (.cells #[.int .i64 a0_0, .string a0_1, .string a0_2, .int .i64 a0_3] 24 (0, 0))) ∧ Aside0 (wc.heap[gb116]? = some (.cells #[.int .i64 t111, .string t112, .bool t113, .bool t114, .bool t115] 104 (0, 0))) ∧ Aside0 (Below w.heap.size w wc))
    case first =>
      have H := HC18.out
      clear HC18
      by_cases c19 : x11_10 = true
      · subst c19
        have H1 : (method_Call_Check.j1 kj10 true a0_0 a0_1 a0_2 a0_3) = some r := by rw [if_pos rfl] at H; exact H
        clear H
        have H := H1
        clear H1
        have H' := Aside0.mk H
        clear H
        go_wp2
        go_meet
        case rel => exact ⟨_, (true), (by first | rfl | (simp; done) | (simp [*]; done) | exact emp1_ _ | exact (emp1_ _).symm | exact emp2_ _ | exact (emp2_ _).symm), H', ⟨by have := HJ10.out; first | omega | exact Nat.le_refl _⟩, ⟨bk_⟩, ⟨bk_⟩, ⟨bl_⟩⟩
      replace c19 := Bool.eq_false_iff.mpr c19
      subst c19
      have H1 : (if t114 = true then (if t115 = true then (method_Call_Check.j1 kj10 false a0_0 a0_1 a0_2 a0_3) else (method_Call_Check.j1 kj10 (a0_3 != 0) a0_0 a0_1 a0_2 a0_3)) else (if a0_2.toList = ([] : List UInt8) then (if t115 = true then (method_Call_Check.j1 kj10 false a0_0 a0_1 a0_2 a0_3) else (method_Call_Check.j1 kj10 (a0_3 != 0) a0_0 a0_1 a0_2 a0_3)) else (method_Call_Check.j1 kj10 (a0_2.toList != ([] : List UInt8)) a0_0 a0_1 a0_2 a0_3))) = some r := by rw [if_neg (show ¬ (false = true) by decide)] at H; exact H
      clear H
      have H := H1
      clear H1
      by_cases c20 : t114 = true
      · subst c20
        have H1 : (if t115 = true then (method_Call_Check.j1 kj10 false a0_0 a0_1 a0_2 a0_3) else (method_Call_Check.j1 kj10 (a0_3 != 0) a0_0 a0_1 a0_2 a0_3)) = some r := by rw [if_pos rfl] at H; exact H
        clear H
        have H := H1
        clear H1
        by_cases c21 : t115 = true
        · subst c21
          have H1 : (method_Call_Check.j1 kj10 false a0_0 a0_1 a0_2 a0_3) = some r := by rw [if_pos rfl] at H; exact H
          clear H
          have H := H1
          clear H1
          have H' := Aside0.mk H
          clear H
          have hnb22 := NB116_110.out
          have hnc22 := NB110_116.out
          have hcz23 := bc5 BK116.out
          go_wp2
          go_meet
          case rel => exact ⟨_, (false), (by first | rfl | (simp; done) | (simp [*]; done) | exact emp1_ _ | exact (emp1_ _).symm | exact emp2_ _ | exact (emp2_ _).symm), H', ⟨by have := HJ10.out; first | omega | exact Nat.le_refl _⟩, ⟨bk_⟩, ⟨bk_⟩, ⟨bl_⟩⟩
        replace c21 := Bool.eq_false_iff.mpr c21
        subst c21
        have H1 : (method_Call_Check.j1 kj10 (a0_3 != 0) a0_0 a0_1 a0_2 a0_3) = some r := by rw [if_neg (show ¬ (false = true) by decide)] at H; exact H
        clear H
        have H := H1
        clear H1
        have H' := Aside0.mk H
        clear H
        have hnb24 := NB116_110.out
        have hnc24 := NB110_116.out
        have hcz25 := bc5 BK116.out
        have hcz26 := bc4 BK110.out
        go_wp2
        go_meet
        case rel => exact ⟨_, ((a0_3 != 0)), (by first | rfl | (simp; done) | (simp [*]; done) | exact emp1_ _ | exact (emp1_ _).symm | exact emp2_ _ | exact (emp2_ _).symm), H', ⟨by have := HJ10.out; first | omega | exact Nat.le_refl _⟩, ⟨bk_⟩, ⟨bk_⟩, ⟨bl_⟩⟩
      replace c20 := Bool.eq_false_iff.mpr c20
      subst c20
      have H1 : (if a0_2.toList = ([] : List UInt8) then (if t115 = true then (method_Call_Check.j1 kj10 false a0_0 a0_1 a0_2 a0_3) else (method_Call_Check.j1 kj10 (a0_3 != 0) a0_0 a0_1 a0_2 a0_3)) else (method_Call_Check.j1 kj10 (a0_2.toList != ([] : List UInt8)) a0_0 a0_1 a0_2 a0_3)) = some r := by rw [if_neg (show ¬ (false = true) by decide)] at H; exact H
      clear H
      have H := H1
      clear H1
      by_cases c27 : a0_2.toList = ([] : List UInt8)
      rotate_left
      · rw [if_neg c27] at H
        have c27b0 : (a0_2.toList == ([] : List UInt8)) = false := beq_eq_false_iff_ne.mpr c27
        have c27b1 : (a0_2.toList != ([] : List UInt8)) = true := bne_iff_ne.mpr c27
        (try (have c27b2 : a0_2.toList.isEmpty = false := by simpa using c27))
        (first | rw [c27b0] | rw [c27b1] | (simp only [i64_w, i32_w]; rw [c27b0]) | (simp only [i64_w, i32_w]; rw [c27b1]) | rw [c27b2] | skip)
        have H' := Aside0.mk H
        clear H
        have hnb35 := NB116_110.out
        have hnc35 := NB110_116.out
        have hcz36 := bc5 BK116.out
        have hcz37 := bc4 BK110.out
        go_wp2
        go_meet
        case rel => exact ⟨_, ((a0_2.toList != ([] : List UInt8))), (by first | rfl | (simp; done) | (simp [*]; done) | exact emp1_ _ | exact (emp1_ _).symm | exact emp2_ _ | exact (emp2_ _).symm), H', ⟨by have := HJ10.out; first | omega | exact Nat.le_refl _⟩, ⟨bk_⟩, ⟨bk_⟩, ⟨bl_⟩⟩
      rw [if_pos c27] at H
      have c27b0 : (a0_2.toList == ([] : List UInt8)) = true := beq_iff_eq.mpr c27
      have c27b1 : (a0_2.toList != ([] : List UInt8)) = false := bne_eq_false_iff_eq.mpr c27
      (try (have c27b2 : a0_2.toList.isEmpty = true := by simpa using c27))
      clear c27
      (first | rw [c27b0] | rw [c27b1] | (simp only [i64_w, i32_w]; rw [c27b0]) | (simp only [i64_w, i32_w]; rw [c27b1]) | rw [c27b2] | skip)
      by_cases c28 : t115 = true
      · subst c28
        have H1 : (method_Call_Check.j1 kj10 false a0_0 a0_1 a0_2 a0_3) = some r := by rw [if_pos rfl] at H; exact H
        clear H
        have H := H1
        clear H1
        have H' := Aside0.mk H
        clear H
        have hnb29 := NB116_110.out
        have hnc29 := NB110_116.out
        have hcz30 := bc5 BK116.out
        have hcz31 := bc4 BK110.out
        go_wp2
        go_meet
        case rel => exact ⟨_, (false), (by first | rfl | (simp; done) | (simp [*]; done) | exact emp1_ _ | exact (emp1_ _).symm | exact emp2_ _ | exact (emp2_ _).symm), H', ⟨by have := HJ10.out; first | omega | exact Nat.le_refl _⟩, ⟨bk_⟩, ⟨bk_⟩, ⟨bl_⟩⟩
      replace c28 := Bool.eq_false_iff.mpr c28
      subst c28
      have H1 : (method_Call_Check.j1 kj10 (a0_3 != 0) a0_0 a0_1 a0_2 a0_3) = some r := by rw [if_neg (show ¬ (false = true) by decide)] at H; exact H
      clear H
      have H := H1
      clear H1
      have H' := Aside0.mk H
      clear H
      have hnb32 := NB116_110.out
      have hnc32 := NB110_116.out
      have hcz33 := bc5 BK116.out
      have hcz34 := bc4 BK110.out
      go_wp2
      go_meet
      case rel => exact ⟨_, ((a0_3 != 0)), (by first | rfl | (simp; done) | (simp [*]; done) | exact emp1_ _ | exact (emp1_ _).symm | exact emp2_ _ | exact (emp2_ _).symm), H', ⟨by have := HJ10.out; first | omega | exact Nat.le_refl _⟩, ⟨bk_⟩, ⟨bk_⟩, ⟨bl_⟩⟩
    clear HC18
    try clear c1
    try clear c2
    try clear p2
    try clear c3
    try clear c6
    try clear c8
    try clear c10
    try clear c10b0
    try clear c10b1
    try clear c12
    try clear c13
    try clear c15
    try clear c19
    try clear c20
    try clear c21
    try clear c22
    try clear c24
    try clear c27
    try clear c27b0
    try clear c27b1
    try clear c27b2
    try clear c28
    try clear c29
    try clear c32
    try clear c35
    try clear hcz14
    try clear hcz16
    try clear hcz17
    try clear hcz23
    try clear hcz25
    try clear hcz26
    try clear hcz30
    try clear hcz31
    try clear hcz33
    try clear hcz34
    try clear hcz36
    try clear hcz37
    try clear hcz5
    try clear hcz9
    try clear hcz14
    try clear hcz16
    try clear hcz17
    try clear hcz23
    try clear hcz25
    try clear hcz26
    try clear hcz30
    try clear hcz31
    try clear hcz33
    try clear hcz34
    try clear hcz36
    try clear hcz37
    try clear hcz5
    try clear hcz9
    try clear p2
    obtain ⟨kq, x11_17, rfl, HA, HJ17, BK110, BK116, HB⟩ := hcut
    cases kq with
    | zero => exact absurd HA.out (by simp [method_Call_Check.j1])
    | succ kj17 =>
      have H := HA.out
      clear HA
      simp only [method_Call_Check.j1] at H
      by_cases c38 : x11_17 = true
      · subst c38
        have H1 : (some 2) = some r := by rw [if_pos rfl] at H; exact H
        clear H
        have H := H1
        clear H1
        obtain rfl := Option.some.inj H
        go_wp2
        go_ret
        exact ⟨er_, bl_⟩
      replace c38 := Bool.eq_false_iff.mpr c38
      subst c38
      have H1 : (if (a0_1.size : Int) > 24 then (method_Call_Check.j2 kj17 true a0_0 a0_1 a0_2 a0_3) else (method_Call_Check.j2 kj17 (decide ((a0_2.size : Int) > 24)) a0_0 a0_1 a0_2 a0_3)) = some r := by rw [if_neg (show ¬ (false = true) by decide)] at H; exact H
      clear H
      have H := H1
      clear H1
      have HC39 := Aside0.mk H
      clear H
      go_upto_region 8 with (fail)
      go_cut [36] (fun v36 wc => ∃ (kq : Nat) (x36_38 : Bool), v36 = .bool x36_38 ∧ Aside0 (method_Call_Check.j2 kq x36_38 a0_0 a0_1 a0_2 a0_3 = some r) ∧ Aside0 (kq ≤ kj17) ∧ Aside0 (wc.heap[gb110]? = some (.cells #[.int .i64 a0_0, .string a0_1, .string a0_2, .int .i64 a0_3] 24 (0, 0))) ∧ Aside0 (wc.heap[gb116]? = some (.cells #[.int .i64 t111, .string t112, .bool t113, .bool t114, .bool t115] 104 (0, 0))) ∧ Aside0 (Below w.heap.size w wc))
      case first =>
        have H := HC39.out
        clear HC39
        by_cases c40 : (a0_1.size : Int) > 24
        · rw [if_pos c40] at H
          have c40b0 : decide (24 < (a0_1.size : Int)) = true := decide_eq_true c40
          have c40b1 : decide (24 < a0_1.size) = true := decide_eq_true (by omega)
          clear c40
          (first | rw [c40b0] | rw [c40b1] | (simp only [i64_w, i32_w]; rw [c40b0]) | (simp only [i64_w, i32_w]; rw [c40b1]) | rw [c40b2] | skip)
          have H' := Aside0.mk H
          clear H
          have hnb41 := NB110_116.out
          have hnc41 := NB116_110.out
          have hcz42 := bc4 BK110.out
          go_wp2
          go_meet
          case rel => exact ⟨_, (true), (by first | rfl | (simp; done) | (simp [*]; done) | exact emp1_ _ | exact (emp1_ _).symm | exact emp2_ _ | exact (emp2_ _).symm), H', ⟨by have := HJ10.out; have := HJ17.out; first | omega | exact Nat.le_refl _⟩, ⟨bk_⟩, ⟨bk_⟩, ⟨bl_⟩⟩
        rw [if_neg c40] at H
        have c40b0 : decide (24 < (a0_1.size : Int)) = false := decide_eq_false c40
        have c40b1 : decide (24 < a0_1.size) = false := decide_eq_false (by omega)
        clear c40
        (first | rw [c40b0] | rw [c40b1] | (simp only [i64_w, i32_w]; rw [c40b0]) | (simp only [i64_w, i32_w]; rw [c40b1]) | rw [c40b2] | skip)
        have H' := Aside0.mk H
        clear H
        have hnb43 := NB110_116.out
        have hnc43 := NB116_110.out
        have hcz44 := bc4 BK110.out
        go_wp2
        go_meet
        case rel => exact ⟨_, (decide ((a0_2.size : Int) > 24)), (by first | rfl | (simp; done) | (simp [*]; done) | exact emp1_ _ | exact (emp1_ _).symm | exact emp2_ _ | exact (emp2_ _).symm), H', ⟨by have := HJ10.out; have := HJ17.out; first | omega | exact Nat.le_refl _⟩, ⟨bk_⟩, ⟨bk_⟩, ⟨bl_⟩⟩
      clear HC39
      try clear c1
      try clear c2
      try clear p2
      try clear c3
      try clear c4
      try clear c6
      try clear c8
      try clear c10
      try clear c10b0
      try clear c10b1
      try clear c12
      try clear c13
      try clear c15
      try clear c19
      try clear c20
      try clear c21
      try clear c22
      try clear c24
      try clear c27
      try clear c27b0
      try clear c27b1
      try clear c27b2
      try clear c28
      try clear c29
      try clear c32
      try clear c35
      try clear c38
      try clear c40
      try clear c40b0
      try clear c40b1
      try clear c40b2
      try clear c41
      try clear c43
      try clear hcz14
      try clear hcz16
      try clear hcz17
      try clear hcz23
      try clear hcz25
      try clear hcz26
      try clear hcz30
      try clear hcz31
      try clear hcz33
      try clear hcz34
      try clear hcz36
      try clear hcz37
      try clear hcz42
      try clear hcz44
      try clear hcz5
      try clear hcz9
      try clear hcz14
      try clear hcz16
      try clear hcz17
      try clear hcz23
      try clear hcz25
      try clear hcz26
      try clear hcz30
      try clear hcz31
      try clear hcz33
      try clear hcz34
      try clear hcz36
      try clear hcz37
      try clear hcz42
      try clear hcz44
      try clear hcz5
      try clear hcz9
      try clear p2
      obtain ⟨kq, x36_38, rfl, HA, HJ38, BK110, BK116, HB⟩ := hcut
      cases kq with
      | zero => exact absurd HA.out (by simp [method_Call_Check.j2])
      | succ kj38 =>
        have H := HA.out
        clear HA
        simp only [method_Call_Check.j2] at H
        by_cases c45 : x36_38 = true
        · subst c45
          have H1 : (some 3) = some r := by rw [if_pos rfl] at H; exact H
          clear H
          have H := H1
          clear H1
          obtain rfl := Option.some.inj H
          go_wp2
          go_ret
          exact ⟨er_, bl_⟩
        replace c45 := Bool.eq_false_iff.mpr c45
        subst c45
        have H1 : (if a0_0 = 5 then (if a0_3 < 1 then (some 4) else (if a0_3 > 1048576 then (some 4) else (some 0))) else (if a0_0 = 6 then (if a0_3 < 1 then (some 4) else (if a0_3 > 1048576 then (some 4) else (some 0))) else (some 0))) = some r := by rw [if_neg (show ¬ (false = true) by decide)] at H; exact H
        clear H
        have H := H1
        clear H1
        by_cases c46 : a0_0 = 5
        · rw [if_pos c46] at H
          have c46b0 : (a0_0 == 5) = true := beq_iff_eq.mpr c46
          have c46b1 : (a0_0 != 5) = false := bne_eq_false_iff_eq.mpr c46
          clear c46
          by_cases c47 : a0_3 < 1
          · rw [if_pos c47] at H
            have c47b0 : decide (a0_3 < 1) = true := decide_eq_true c47
            clear c47
            obtain rfl := Option.some.inj H
            have hnb48 := NB110_116.out
            have hnc48 := NB116_110.out
            have hcz49 := bc4 BK110.out
            go_wp2
            go_ret
            exact ⟨er_, bl_⟩
          rw [if_neg c47] at H
          have c47b0 : decide (a0_3 < 1) = false := decide_eq_false c47
          clear c47
          by_cases c50 : a0_3 > 1048576
          · rw [if_pos c50] at H
            have c50b0 : decide (1048576 < a0_3) = true := decide_eq_true c50
            clear c50
            obtain rfl := Option.some.inj H
            have hnb51 := NB110_116.out
            have hnc51 := NB116_110.out
            have hcz52 := bc4 BK110.out
            go_wp2
            go_ret
            exact ⟨er_, bl_⟩
          rw [if_neg c50] at H
          have c50b0 : decide (1048576 < a0_3) = false := decide_eq_false c50
          clear c50
          obtain rfl := Option.some.inj H
          have hnb53 := NB110_116.out
          have hnc53 := NB116_110.out
          have hcz54 := bc4 BK110.out
          go_wp2
          go_ret
          exact ⟨er_, bl_⟩
        rw [if_neg c46] at H
        have c46b0 : (a0_0 == 5) = false := beq_eq_false_iff_ne.mpr c46
        have c46b1 : (a0_0 != 5) = true := bne_iff_ne.mpr c46
        by_cases c55 : a0_0 = 6
        rotate_left
        · rw [if_neg c55] at H
          have c55b0 : (a0_0 == 6) = false := beq_eq_false_iff_ne.mpr c55
          have c55b1 : (a0_0 != 6) = true := bne_iff_ne.mpr c55
          obtain rfl := Option.some.inj H
          have hnb64 := NB110_116.out
          have hnc64 := NB116_110.out
          have hcz65 := bc4 BK110.out
          go_wp2
          go_ret
          exact ⟨er_, bl_⟩
        rw [if_pos c55] at H
        have c55b0 : (a0_0 == 6) = true := beq_iff_eq.mpr c55
        have c55b1 : (a0_0 != 6) = false := bne_eq_false_iff_eq.mpr c55
        clear c55
        by_cases c56 : a0_3 < 1
        · rw [if_pos c56] at H
          have c56b0 : decide (a0_3 < 1) = true := decide_eq_true c56
          clear c56
          obtain rfl := Option.some.inj H
          have hnb57 := NB110_116.out
          have hnc57 := NB116_110.out
          have hcz58 := bc4 BK110.out
          go_wp2
          go_ret
          exact ⟨er_, bl_⟩
        rw [if_neg c56] at H
        have c56b0 : decide (a0_3 < 1) = false := decide_eq_false c56
        clear c56
        by_cases c59 : a0_3 > 1048576
        · rw [if_pos c59] at H
          have c59b0 : decide (1048576 < a0_3) = true := decide_eq_true c59
          clear c59
          obtain rfl := Option.some.inj H
          have hnb60 := NB110_116.out
          have hnc60 := NB116_110.out
          have hcz61 := bc4 BK110.out
          go_wp2
          go_ret
          exact ⟨er_, bl_⟩
        rw [if_neg c59] at H
        have c59b0 : decide (1048576 < a0_3) = false := decide_eq_false c59
        clear c59
        obtain rfl := Option.some.inj H
        have hnb62 := NB110_116.out
        have hnc62 := NB116_110.out
        have hcz63 := bc4 BK110.out
        go_wp2
        go_ret
        exact ⟨er_, bl_⟩
end Go.Proofs.Ytkkkmbgflflcnaa.PS

