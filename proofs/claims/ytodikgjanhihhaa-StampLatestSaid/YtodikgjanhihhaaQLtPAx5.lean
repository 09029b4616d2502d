import Derived.Test.YtodikgjanhihhaaQLtPAx3
import Derived.Test.YtodikgjanhihhaaQLtPAx1
import Derived.Test.YtodikgjanhihhaaQLtPAx4
namespace Go.Proofs.Ytodikgjanhihhaa.PA
open Go.Proofs.Ytodikgjanhihhaa.PL
open Go.RowKit Go.Proofs.YtodikgjanhihhaaW.PrintWords Go.Proofs.YtodikgjanhihhaaW.PrintLast Go.Proofs.YtodikgjanhihhaaW.PrintMore
attribute [local go_sem] max2_int min2_int max_two min_two max_three min_three max_four min_four
set_option linter.unusedVariables false
set_option linter.unusedSimpArgs false
attribute [local go_sem high] eqA23
def armoirelaw04_awake.f (k : Nat)  : Option (Bool) := (stamp_Sector_Text.f k 1 2 (⟨#[]⟩ : ByteArray)).bind fun t170 => ((stamp_Parse.f k t170).bind fun bt171 => (if (t170.size : Int) = 64 then (if 4 ≤ 10 then (if 10 ≤ (t170.size : Int) then (if (t170.extract 4 10).toList = ([1, 1, 1, 2, 0, 0] : List UInt8) then (if (bt171.1 == 1 && (bt171.2.1 == 2 && (bt171.2.2.1.toList == ([] : List UInt8)))) = true then (if bt171.2.2.2 = 0 then ((stamp_Sector_Check.f k 0 0 (⟨#[]⟩ : ByteArray)).bind fun t176 => (some (t176 == 18))) else (some false)) else (some false)) else (some false)) else (none)) else (none)) else (some false)))
set_option maxHeartbeats 2000000 in
set_option maxRecDepth 100000 in
theorem armoirelaw04_awake.calls (k : Nat)  (r : Bool) (w : World) (h : armoirelaw04_awake.f k  = some r) :
    Calls Try.prog 8 #[] w fun e w' => e = .returned (.bool r) ∧ Below w.heap.size w w' := by
  have hu23 := Try.underlying23
  have HB := Aside0.mk (Below.refl w.heap.size w)
  have H : ((stamp_Sector_Text.f k 1 2 (⟨#[]⟩ : ByteArray)).bind fun t170 => ((stamp_Parse.f k t170).bind fun bt171 => (if (t170.size : Int) = 64 then (if 4 ≤ 10 then (if 10 ≤ (t170.size : Int) then (if (t170.extract 4 10).toList = ([1, 1, 1, 2, 0, 0] : List UInt8) then (if (bt171.1 == 1 && (bt171.2.1 == 2 && (bt171.2.2.1.toList == ([] : List UInt8)))) = true then (if bt171.2.2.2 = 0 then ((stamp_Sector_Check.f k 0 0 (⟨#[]⟩ : ByteArray)).bind fun t176 => (some (t176 == 18))) else (some false)) else (some false)) else (some false)) else (none)) else (none)) else (some false)))) = some r := h
  clear h
  replace H := Option.bind_eq_some_iff.mp H
  obtain ⟨t170, A10, H⟩ := H
  replace H : ((stamp_Parse.f k t170).bind fun bt171 => (if (t170.size : Int) = 64 then (if 4 ≤ 10 then (if 10 ≤ (t170.size : Int) then (if (t170.extract 4 10).toList = ([1, 1, 1, 2, 0, 0] : List UInt8) then (if (bt171.1 == 1 && (bt171.2.1 == 2 && (bt171.2.2.1.toList == ([] : List UInt8)))) = true then (if bt171.2.2.2 = 0 then ((stamp_Sector_Check.f k 0 0 (⟨#[]⟩ : ByteArray)).bind fun t176 => (some (t176 == 18))) else (some false)) else (some false)) else (some false)) else (none)) else (none)) else (some false))) = some r := H
  have A1 := Aside0.mk A10
  clear A10
  replace H := Option.bind_eq_some_iff.mp H
  obtain ⟨⟨t171, t172, t173, t174⟩, A20, H⟩ := H
  replace H : (if (t170.size : Int) = 64 then (if 4 ≤ 10 then (if 10 ≤ (t170.size : Int) then (if (t170.extract 4 10).toList = ([1, 1, 1, 2, 0, 0] : List UInt8) then (if (t171 == 1 && (t172 == 2 && (t173.toList == ([] : List UInt8)))) = true then (if t174 = 0 then ((stamp_Sector_Check.f k 0 0 (⟨#[]⟩ : ByteArray)).bind fun t176 => (some (t176 == 18))) else (some false)) else (some false)) else (some false)) else (none)) else (none)) else (some false)) = some r := H
  have A2 := Aside0.mk A20
  clear A20
  by_cases c3 : (t170.size : Int) = 64
  rotate_left
  · rw [if_neg c3] at H
    have c3b0 : ((t170.size : Int) == 64) = false := beq_eq_false_iff_ne.mpr c3
    have c3b1 : ((t170.size : Int) != 64) = true := bne_iff_ne.mpr c3
    obtain rfl := Option.some.inj H
    go_enter Try.func8, Try.ntmps8
    go_wp2_with (first | ((with_reducible refine gds (N := 1) rfl ?_); refine bev ?hg (N := 1) ?hd (cs := #[.int .i64 0, .int .u8 0, .string (⟨#[]⟩ : ByteArray)]) (t := 23) ?hr ?_; (case hd => rfl); (case hg => rfl); (case hr => first | (go_simp; done) | (go_simp; rfl)); intro gb169 hg w42 hbox hb; have n0_ := Aside0.mk (bsp bl_ hb); have n1_ := Aside0.mk (hbox); have n2_ := Aside0.mk ((by rw [hg]; exact bsz bl_ : w.heap.size ≤ gb169)); have n3_ := Aside0.mk ((by rw [hg]; exact bsz bl_ : w.heap.size ≤ gb169)); clear HB; have HB := n0_; have BK169 := n1_; have GW169 := n2_; have GE169 := n3_; clear n0_ n1_ n2_ n3_; clear hb hbox hg; have hcz43 := bc3 BK169.out) | ((with_reducible refine gcl (f := 13) rfl ?_); refine gl_ (some 7) rfl rfl Try.func13 (by kernel_rfl) rfl #[.agg #[.int .i64 1, .int .u8 2, .string (⟨#[]⟩ : ByteArray)]] rfl ar_ ?_; (with_reducible refine (stamp_Sector_Text.calls k 1 2 (⟨#[]⟩ : ByteArray) t170 _ A1.out).mono ?_); rintro e w44 ⟨rfl, hb⟩; refine ⟨_, rfl, ?_⟩; have n0_ := Aside0.mk (kbl (g := gb169) (o := .cells #[.int .i64 1, .int .u8 2, .string (⟨#[]⟩ : ByteArray)] 23 (0, 0)) bk_ hb); have n1_ := Aside0.mk (bsp bl_ hb); clear BK169; clear HB; have BK169 := n0_; have HB := n1_; clear n0_ n1_; (try clear hb); (try clear hb2); (try clear hk); (try clear hi)) | ((with_reducible refine gcl (f := 12) rfl ?_); refine gl_ (some 10) rfl rfl Try.func12 (by kernel_rfl) rfl #[.string t170] rfl ar_ ?_; (with_reducible refine (stamp_Parse.calls k t170 t171 t172 t173 t174 _ A2.out).mono ?_); rintro e w45 ⟨rfl, hb⟩; refine ⟨_, rfl, ?_⟩; have n0_ := Aside0.mk (kbl (g := gb169) (o := .cells #[.int .i64 1, .int .u8 2, .string (⟨#[]⟩ : ByteArray)] 23 (0, 0)) bk_ hb); have n1_ := Aside0.mk (bsp bl_ hb); clear BK169; clear HB; have BK169 := n0_; have HB := n1_; clear n0_ n1_; (try clear hb); (try clear hb2); (try clear hk); (try clear hi)) | ((with_reducible refine gds (N := 3) rfl ?_); refine bev ?hg (N := 3) ?hd (cs := #[.int .i64 0, .int .u8 0, .string (⟨#[]⟩ : ByteArray)]) (t := 23) ?hr ?_; (case hd => rfl); (case hg => rfl); (case hr => first | (go_simp; done) | (go_simp; rfl)); intro gb175 hg w46 hbox hb; have n0_ := Aside0.mk (kbl (g := gb169) (o := .cells #[.int .i64 1, .int .u8 2, .string (⟨#[]⟩ : ByteArray)] 23 (0, 0)) bk_ hb); have n1_ := Aside0.mk (bsp bl_ hb); have n2_ := Aside0.mk (hbox); have n3_ := Aside0.mk ((by rw [hg]; exact bsz bl_ : w.heap.size ≤ gb175)); have n4_ := Aside0.mk ((by rw [hg]; exact bsz bl_ : w.heap.size ≤ gb175)); have n5_ := Aside0.mk ((by rw [hg]; exact Nat.ne_of_lt (blk_lt (g := gb169) (o := .cells #[.int .i64 1, .int .u8 2, .string (⟨#[]⟩ : ByteArray)] 23 (0, 0)) bk_) : gb169 ≠ gb175)); have n6_ := Aside0.mk ((by rw [hg]; exact Nat.ne_of_gt (blk_lt (g := gb169) (o := .cells #[.int .i64 1, .int .u8 2, .string (⟨#[]⟩ : ByteArray)] 23 (0, 0)) bk_) : gb175 ≠ gb169)); clear BK169; clear HB; have BK169 := n0_; have HB := n1_; have BK175 := n2_; have GW175 := n3_; have GE175 := n4_; have NB169_175 := n5_; have NB175_169 := n6_; clear n0_ n1_ n2_ n3_ n4_ n5_ n6_; clear hb hbox hg; have hnb47 := NB175_169.out; have hnc47 := NB169_175.out; have hcz48 := bc3 BK175.out))
    go_ret
    exact ⟨er_, bl_⟩
  rw [if_pos c3] at H
  have c3b0 : ((t170.size : Int) == 64) = true := beq_iff_eq.mpr c3
  have c3b1 : ((t170.size : Int) != 64) = false := bne_eq_false_iff_eq.mpr c3
  clear c3
  by_cases c4 : 4 ≤ 10
  rotate_left
  · rw [if_neg c4] at H
    exact absurd H (by simp)
  rw [if_pos c4] at H
  have c4b0 := eq_true c4
  have c4b1 : decide (4 ≤ 10) = true := decide_eq_true c4
  clear c4
  by_cases c5 : 10 ≤ (t170.size : Int)
  rotate_left
  · rw [if_neg c5] at H
    exact absurd H (by simp)
  rw [if_pos c5] at H
  have c5b0 := eq_true c5
  have c5b1 : decide (10 ≤ (t170.size : Int)) = true := decide_eq_true c5
  clear c5
  by_cases c6 : (t170.extract 4 10).toList = ([1, 1, 1, 2, 0, 0] : List UInt8)
  rotate_left
  · rw [if_neg c6] at H
    have c6b0 : ((t170.extract 4 10).toList == ([1, 1, 1, 2, 0, 0] : List UInt8)) = false := beq_eq_false_iff_ne.mpr c6
    have c6b1 : ((t170.extract 4 10).toList != ([1, 1, 1, 2, 0, 0] : List UInt8)) = true := bne_iff_ne.mpr c6
    obtain rfl := Option.some.inj H
    go_enter Try.func8, Try.ntmps8
    go_wp2_with (first | ((with_reducible refine gds (N := 1) rfl ?_); refine bev ?hg (N := 1) ?hd (cs := #[.int .i64 0, .int .u8 0, .string (⟨#[]⟩ : ByteArray)]) (t := 23) ?hr ?_; (case hd => rfl); (case hg => rfl); (case hr => first | (go_simp; done) | (go_simp; rfl)); intro gb169 hg w35 hbox hb; have n0_ := Aside0.mk (bsp bl_ hb); have n1_ := Aside0.mk (hbox); have n2_ := Aside0.mk ((by rw [hg]; exact bsz bl_ : w.heap.size ≤ gb169)); have n3_ := Aside0.mk ((by rw [hg]; exact bsz bl_ : w.heap.size ≤ gb169)); clear HB; have HB := n0_; have BK169 := n1_; have GW169 := n2_; have GE169 := n3_; clear n0_ n1_ n2_ n3_; clear hb hbox hg; have hcz36 := bc3 BK169.out) | ((with_reducible refine gcl (f := 13) rfl ?_); refine gl_ (some 7) rfl rfl Try.func13 (by kernel_rfl) rfl #[.agg #[.int .i64 1, .int .u8 2, .string (⟨#[]⟩ : ByteArray)]] rfl ar_ ?_; (with_reducible refine (stamp_Sector_Text.calls k 1 2 (⟨#[]⟩ : ByteArray) t170 _ A1.out).mono ?_); rintro e w37 ⟨rfl, hb⟩; refine ⟨_, rfl, ?_⟩; have n0_ := Aside0.mk (kbl (g := gb169) (o := .cells #[.int .i64 1, .int .u8 2, .string (⟨#[]⟩ : ByteArray)] 23 (0, 0)) bk_ hb); have n1_ := Aside0.mk (bsp bl_ hb); clear BK169; clear HB; have BK169 := n0_; have HB := n1_; clear n0_ n1_; (try clear hb); (try clear hb2); (try clear hk); (try clear hi)) | ((with_reducible refine gcl (f := 12) rfl ?_); refine gl_ (some 10) rfl rfl Try.func12 (by kernel_rfl) rfl #[.string t170] rfl ar_ ?_; (with_reducible refine (stamp_Parse.calls k t170 t171 t172 t173 t174 _ A2.out).mono ?_); rintro e w38 ⟨rfl, hb⟩; refine ⟨_, rfl, ?_⟩; have n0_ := Aside0.mk (kbl (g := gb169) (o := .cells #[.int .i64 1, .int .u8 2, .string (⟨#[]⟩ : ByteArray)] 23 (0, 0)) bk_ hb); have n1_ := Aside0.mk (bsp bl_ hb); clear BK169; clear HB; have BK169 := n0_; have HB := n1_; clear n0_ n1_; (try clear hb); (try clear hb2); (try clear hk); (try clear hi)) | ((with_reducible refine gds (N := 3) rfl ?_); refine bev ?hg (N := 3) ?hd (cs := #[.int .i64 0, .int .u8 0, .string (⟨#[]⟩ : ByteArray)]) (t := 23) ?hr ?_; (case hd => rfl); (case hg => rfl); (case hr => first | (go_simp; done) | (go_simp; rfl)); intro gb175 hg w39 hbox hb; have n0_ := Aside0.mk (kbl (g := gb169) (o := .cells #[.int .i64 1, .int .u8 2, .string (⟨#[]⟩ : ByteArray)] 23 (0, 0)) bk_ hb); have n1_ := Aside0.mk (bsp bl_ hb); have n2_ := Aside0.mk (hbox); have n3_ := Aside0.mk ((by rw [hg]; exact bsz bl_ : w.heap.size ≤ gb175)); have n4_ := Aside0.mk ((by rw [hg]; exact bsz bl_ : w.heap.size ≤ gb175)); have n5_ := Aside0.mk ((by rw [hg]; exact Nat.ne_of_lt (blk_lt (g := gb169) (o := .cells #[.int .i64 1, .int .u8 2, .string (⟨#[]⟩ : ByteArray)] 23 (0, 0)) bk_) : gb169 ≠ gb175)); have n6_ := Aside0.mk ((by rw [hg]; exact Nat.ne_of_gt (blk_lt (g := gb169) (o := .cells #[.int .i64 1, .int .u8 2, .string (⟨#[]⟩ : ByteArray)] 23 (0, 0)) bk_) : gb175 ≠ gb169)); clear BK169; clear HB; have BK169 := n0_; have HB := n1_; have BK175 := n2_; have GW175 := n3_; have GE175 := n4_; have NB169_175 := n5_; have NB175_169 := n6_; clear n0_ n1_ n2_ n3_ n4_ n5_ n6_; clear hb hbox hg; have hnb40 := NB175_169.out; have hnc40 := NB169_175.out; have hcz41 := bc3 BK175.out))
    go_ret
    exact ⟨er_, bl_⟩
  rw [if_pos c6] at H
  have c6b0 : ((t170.extract 4 10).toList == ([1, 1, 1, 2, 0, 0] : List UInt8)) = true := beq_iff_eq.mpr c6
  have c6b1 : ((t170.extract 4 10).toList != ([1, 1, 1, 2, 0, 0] : List UInt8)) = false := bne_eq_false_iff_eq.mpr c6
  clear c6
  by_cases c7 : (t171 == 1 && (t172 == 2 && (t173.toList == ([] : List UInt8)))) = true
  rotate_left
  · rw [if_neg c7] at H
    have c7b0 : (t171 == 1 && (t172 == 2 && (t173.toList == ([] : List UInt8)))) = false := by simpa using c7
    (try (have c7b1 : decide (t171 = 1 && (t172 == 2 && (t173.toList == ([] : List UInt8)))) = false := by simpa using c7))
    (try (have c7b2 : (t171 == 1 && (t172 == 2 && (t173.toList == ([] : List UInt8)))) = false := by simpa using c7))
    (try (have c7b3 : ¬ (t171 = 1 && (t172 == 2 && (t173.toList == ([] : List UInt8)))) := by simpa using c7))
    (try (have c7b4 : (t171 == 1 && (t172 == 2 && t173.toList.isEmpty)) = false := by simpa using c7))
    clear c7
    obtain rfl := Option.some.inj H
    go_enter Try.func8, Try.ntmps8
    go_wp2_with (first | ((with_reducible refine gds (N := 1) rfl ?_); refine bev ?hg (N := 1) ?hd (cs := #[.int .i64 0, .int .u8 0, .string (⟨#[]⟩ : ByteArray)]) (t := 23) ?hr ?_; (case hd => rfl); (case hg => rfl); (case hr => first | (go_simp; done) | (go_simp; rfl)); intro gb169 hg w27 hbox hb; have n0_ := Aside0.mk (bsp bl_ hb); have n1_ := Aside0.mk (hbox); have n2_ := Aside0.mk ((by rw [hg]; exact bsz bl_ : w.heap.size ≤ gb169)); have n3_ := Aside0.mk ((by rw [hg]; exact bsz bl_ : w.heap.size ≤ gb169)); clear HB; have HB := n0_; have BK169 := n1_; have GW169 := n2_; have GE169 := n3_; clear n0_ n1_ n2_ n3_; clear hb hbox hg; have hcz28 := bc3 BK169.out) | ((with_reducible refine gcl (f := 13) rfl ?_); refine gl_ (some 7) rfl rfl Try.func13 (by kernel_rfl) rfl #[.agg #[.int .i64 1, .int .u8 2, .string (⟨#[]⟩ : ByteArray)]] rfl ar_ ?_; (with_reducible refine (stamp_Sector_Text.calls k 1 2 (⟨#[]⟩ : ByteArray) t170 _ A1.out).mono ?_); rintro e w29 ⟨rfl, hb⟩; refine ⟨_, rfl, ?_⟩; have n0_ := Aside0.mk (kbl (g := gb169) (o := .cells #[.int .i64 1, .int .u8 2, .string (⟨#[]⟩ : ByteArray)] 23 (0, 0)) bk_ hb); have n1_ := Aside0.mk (bsp bl_ hb); clear BK169; clear HB; have BK169 := n0_; have HB := n1_; clear n0_ n1_; (try clear hb); (try clear hb2); (try clear hk); (try clear hi)) | ((with_reducible refine gcl (f := 12) rfl ?_); refine gl_ (some 10) rfl rfl Try.func12 (by kernel_rfl) rfl #[.string t170] rfl ar_ ?_; (with_reducible refine (stamp_Parse.calls k t170 t171 t172 t173 t174 _ A2.out).mono ?_); rintro e w30 ⟨rfl, hb⟩; refine ⟨_, rfl, ?_⟩; have n0_ := Aside0.mk (kbl (g := gb169) (o := .cells #[.int .i64 1, .int .u8 2, .string (⟨#[]⟩ : ByteArray)] 23 (0, 0)) bk_ hb); have n1_ := Aside0.mk (bsp bl_ hb); clear BK169; clear HB; have BK169 := n0_; have HB := n1_; clear n0_ n1_; (try clear hb); (try clear hb2); (try clear hk); (try clear hi)) | ((with_reducible refine gds (N := 3) rfl ?_); refine bev ?hg (N := 3) ?hd (cs := #[.int .i64 0, .int .u8 0, .string (⟨#[]⟩ : ByteArray)]) (t := 23) ?hr ?_; (case hd => rfl); (case hg => rfl); (case hr => first | (go_simp; done) | (go_simp; rfl)); intro gb175 hg w31 hbox hb; have n0_ := Aside0.mk (kbl (g := gb169) (o := .cells #[.int .i64 1, .int .u8 2, .string (⟨#[]⟩ : ByteArray)] 23 (0, 0)) bk_ hb); have n1_ := Aside0.mk (bsp bl_ hb); have n2_ := Aside0.mk (hbox); have n3_ := Aside0.mk ((by rw [hg]; exact bsz bl_ : w.heap.size ≤ gb175)); have n4_ := Aside0.mk ((by rw [hg]; exact bsz bl_ : w.heap.size ≤ gb175)); have n5_ := Aside0.mk ((by rw [hg]; exact Nat.ne_of_lt (blk_lt (g := gb169) (o := .cells #[.int .i64 1, .int .u8 2, .string (⟨#[]⟩ : ByteArray)] 23 (0, 0)) bk_) : gb169 ≠ gb175)); have n6_ := Aside0.mk ((by rw [hg]; exact Nat.ne_of_gt (blk_lt (g := gb169) (o := .cells #[.int .i64 1, .int .u8 2, .string (⟨#[]⟩ : ByteArray)] 23 (0, 0)) bk_) : gb175 ≠ gb169)); clear BK169; clear HB; have BK169 := n0_; have HB := n1_; have BK175 := n2_; have GW175 := n3_; have GE175 := n4_; have NB169_175 := n5_; have NB175_169 := n6_; clear n0_ n1_ n2_ n3_ n4_ n5_ n6_; clear hb hbox hg; have hnb32 := NB175_169.out; have hnc32 := NB169_175.out; have hcz33 := bc3 BK175.out; have hcz34 := bc3 BK169.out))
    go_ret
    exact ⟨er_, bl_⟩
  rw [if_pos c7] at H
  have c7b0 : (t171 == 1 && (t172 == 2 && (t173.toList == ([] : List UInt8)))) = true := c7
  (try (have c7b1 : decide (t171 = 1 && (t172 == 2 && (t173.toList == ([] : List UInt8)))) = true := by simpa using c7))
  (try (have c7b2 : (t171 == 1 && (t172 == 2 && (t173.toList == ([] : List UInt8)))) = true := by simpa using c7))
  (try (have c7b3 : (t171 == 1 && (t172 == 2 && t173.toList.isEmpty)) = true := by simpa using c7))
  clear c7
  by_cases c8 : t174 = 0
  rotate_left
  · rw [if_neg c8] at H
    have c8b0 : (t174 == 0) = false := beq_eq_false_iff_ne.mpr c8
    have c8b1 : (t174 != 0) = true := bne_iff_ne.mpr c8
    obtain rfl := Option.some.inj H
    go_enter Try.func8, Try.ntmps8
    go_wp2_with (first | ((with_reducible refine gds (N := 1) rfl ?_); refine bev ?hg (N := 1) ?hd (cs := #[.int .i64 0, .int .u8 0, .string (⟨#[]⟩ : ByteArray)]) (t := 23) ?hr ?_; (case hd => rfl); (case hg => rfl); (case hr => first | (go_simp; done) | (go_simp; rfl)); intro gb169 hg w19 hbox hb; have n0_ := Aside0.mk (bsp bl_ hb); have n1_ := Aside0.mk (hbox); have n2_ := Aside0.mk ((by rw [hg]; exact bsz bl_ : w.heap.size ≤ gb169)); have n3_ := Aside0.mk ((by rw [hg]; exact bsz bl_ : w.heap.size ≤ gb169)); clear HB; have HB := n0_; have BK169 := n1_; have GW169 := n2_; have GE169 := n3_; clear n0_ n1_ n2_ n3_; clear hb hbox hg; have hcz20 := bc3 BK169.out) | ((with_reducible refine gcl (f := 13) rfl ?_); refine gl_ (some 7) rfl rfl Try.func13 (by kernel_rfl) rfl #[.agg #[.int .i64 1, .int .u8 2, .string (⟨#[]⟩ : ByteArray)]] rfl ar_ ?_; (with_reducible refine (stamp_Sector_Text.calls k 1 2 (⟨#[]⟩ : ByteArray) t170 _ A1.out).mono ?_); rintro e w21 ⟨rfl, hb⟩; refine ⟨_, rfl, ?_⟩; have n0_ := Aside0.mk (kbl (g := gb169) (o := .cells #[.int .i64 1, .int .u8 2, .string (⟨#[]⟩ : ByteArray)] 23 (0, 0)) bk_ hb); have n1_ := Aside0.mk (bsp bl_ hb); clear BK169; clear HB; have BK169 := n0_; have HB := n1_; clear n0_ n1_; (try clear hb); (try clear hb2); (try clear hk); (try clear hi)) | ((with_reducible refine gcl (f := 12) rfl ?_); refine gl_ (some 10) rfl rfl Try.func12 (by kernel_rfl) rfl #[.string t170] rfl ar_ ?_; (with_reducible refine (stamp_Parse.calls k t170 t171 t172 t173 t174 _ A2.out).mono ?_); rintro e w22 ⟨rfl, hb⟩; refine ⟨_, rfl, ?_⟩; have n0_ := Aside0.mk (kbl (g := gb169) (o := .cells #[.int .i64 1, .int .u8 2, .string (⟨#[]⟩ : ByteArray)] 23 (0, 0)) bk_ hb); have n1_ := Aside0.mk (bsp bl_ hb); clear BK169; clear HB; have BK169 := n0_; have HB := n1_; clear n0_ n1_; (try clear hb); (try clear hb2); (try clear hk); (try clear hi)) | ((with_reducible refine gds (N := 3) rfl ?_); refine bev ?hg (N := 3) ?hd (cs := #[.int .i64 0, .int .u8 0, .string (⟨#[]⟩ : ByteArray)]) (t := 23) ?hr ?_; (case hd => rfl); (case hg => rfl); (case hr => first | (go_simp; done) | (go_simp; rfl)); intro gb175 hg w23 hbox hb; have n0_ := Aside0.mk (kbl (g := gb169) (o := .cells #[.int .i64 1, .int .u8 2, .string (⟨#[]⟩ : ByteArray)] 23 (0, 0)) bk_ hb); have n1_ := Aside0.mk (bsp bl_ hb); have n2_ := Aside0.mk (hbox); have n3_ := Aside0.mk ((by rw [hg]; exact bsz bl_ : w.heap.size ≤ gb175)); have n4_ := Aside0.mk ((by rw [hg]; exact bsz bl_ : w.heap.size ≤ gb175)); have n5_ := Aside0.mk ((by rw [hg]; exact Nat.ne_of_lt (blk_lt (g := gb169) (o := .cells #[.int .i64 1, .int .u8 2, .string (⟨#[]⟩ : ByteArray)] 23 (0, 0)) bk_) : gb169 ≠ gb175)); have n6_ := Aside0.mk ((by rw [hg]; exact Nat.ne_of_gt (blk_lt (g := gb169) (o := .cells #[.int .i64 1, .int .u8 2, .string (⟨#[]⟩ : ByteArray)] 23 (0, 0)) bk_) : gb175 ≠ gb169)); clear BK169; clear HB; have BK169 := n0_; have HB := n1_; have BK175 := n2_; have GW175 := n3_; have GE175 := n4_; have NB169_175 := n5_; have NB175_169 := n6_; clear n0_ n1_ n2_ n3_ n4_ n5_ n6_; clear hb hbox hg; have hnb24 := NB175_169.out; have hnc24 := NB169_175.out; have hcz25 := bc3 BK175.out; have hcz26 := bc3 BK169.out))
    go_ret
    exact ⟨er_, bl_⟩
  rw [if_pos c8] at H
  have c8b0 : (t174 == 0) = true := beq_iff_eq.mpr c8
  have c8b1 : (t174 != 0) = false := bne_eq_false_iff_eq.mpr c8
  clear c8
  replace H := Option.bind_eq_some_iff.mp H
  obtain ⟨t176, A90, H⟩ := H
  replace H : (some (t176 == 18)) = some r := H
  have A9 := Aside0.mk A90
  clear A90
  obtain rfl := Option.some.inj H
  go_enter Try.func8, Try.ntmps8
  go_wp2_with (first | ((with_reducible refine gds (N := 1) rfl ?_); refine bev ?hg (N := 1) ?hd (cs := #[.int .i64 0, .int .u8 0, .string (⟨#[]⟩ : ByteArray)]) (t := 23) ?hr ?_; (case hd => rfl); (case hg => rfl); (case hr => first | (go_simp; done) | (go_simp; rfl)); intro gb169 hg w10 hbox hb; have n0_ := Aside0.mk (bsp bl_ hb); have n1_ := Aside0.mk (hbox); have n2_ := Aside0.mk ((by rw [hg]; exact bsz bl_ : w.heap.size ≤ gb169)); have n3_ := Aside0.mk ((by rw [hg]; exact bsz bl_ : w.heap.size ≤ gb169)); clear HB; have HB := n0_; have BK169 := n1_; have GW169 := n2_; have GE169 := n3_; clear n0_ n1_ n2_ n3_; clear hb hbox hg; have hcz11 := bc3 BK169.out) | ((with_reducible refine gcl (f := 13) rfl ?_); refine gl_ (some 7) rfl rfl Try.func13 (by kernel_rfl) rfl #[.agg #[.int .i64 1, .int .u8 2, .string (⟨#[]⟩ : ByteArray)]] rfl ar_ ?_; (with_reducible refine (stamp_Sector_Text.calls k 1 2 (⟨#[]⟩ : ByteArray) t170 _ A1.out).mono ?_); rintro e w12 ⟨rfl, hb⟩; refine ⟨_, rfl, ?_⟩; have n0_ := Aside0.mk (kbl (g := gb169) (o := .cells #[.int .i64 1, .int .u8 2, .string (⟨#[]⟩ : ByteArray)] 23 (0, 0)) bk_ hb); have n1_ := Aside0.mk (bsp bl_ hb); clear BK169; clear HB; have BK169 := n0_; have HB := n1_; clear n0_ n1_; (try clear hb); (try clear hb2); (try clear hk); (try clear hi)) | ((with_reducible refine gcl (f := 12) rfl ?_); refine gl_ (some 10) rfl rfl Try.func12 (by kernel_rfl) rfl #[.string t170] rfl ar_ ?_; (with_reducible refine (stamp_Parse.calls k t170 t171 t172 t173 t174 _ A2.out).mono ?_); rintro e w13 ⟨rfl, hb⟩; refine ⟨_, rfl, ?_⟩; have n0_ := Aside0.mk (kbl (g := gb169) (o := .cells #[.int .i64 1, .int .u8 2, .string (⟨#[]⟩ : ByteArray)] 23 (0, 0)) bk_ hb); have n1_ := Aside0.mk (bsp bl_ hb); clear BK169; clear HB; have BK169 := n0_; have HB := n1_; clear n0_ n1_; (try clear hb); (try clear hb2); (try clear hk); (try clear hi)) | ((with_reducible refine gds (N := 3) rfl ?_); refine bev ?hg (N := 3) ?hd (cs := #[.int .i64 0, .int .u8 0, .string (⟨#[]⟩ : ByteArray)]) (t := 23) ?hr ?_; (case hd => rfl); (case hg => rfl); (case hr => first | (go_simp; done) | (go_simp; rfl)); intro gb175 hg w14 hbox hb; have n0_ := Aside0.mk (kbl (g := gb169) (o := .cells #[.int .i64 1, .int .u8 2, .string (⟨#[]⟩ : ByteArray)] 23 (0, 0)) bk_ hb); have n1_ := Aside0.mk (bsp bl_ hb); have n2_ := Aside0.mk (hbox); have n3_ := Aside0.mk ((by rw [hg]; exact bsz bl_ : w.heap.size ≤ gb175)); have n4_ := Aside0.mk ((by rw [hg]; exact bsz bl_ : w.heap.size ≤ gb175)); have n5_ := Aside0.mk ((by rw [hg]; exact Nat.ne_of_lt (blk_lt (g := gb169) (o := .cells #[.int .i64 1, .int .u8 2, .string (⟨#[]⟩ : ByteArray)] 23 (0, 0)) bk_) : gb169 ≠ gb175)); have n6_ := Aside0.mk ((by rw [hg]; exact Nat.ne_of_gt (blk_lt (g := gb169) (o := .cells #[.int .i64 1, .int .u8 2, .string (⟨#[]⟩ : ByteArray)] 23 (0, 0)) bk_) : gb175 ≠ gb169)); clear BK169; clear HB; have BK169 := n0_; have HB := n1_; have BK175 := n2_; have GW175 := n3_; have GE175 := n4_; have NB169_175 := n5_; have NB175_169 := n6_; clear n0_ n1_ n2_ n3_ n4_ n5_ n6_; clear hb hbox hg; have hnb15 := NB175_169.out; have hnc15 := NB169_175.out; have hcz16 := bc3 BK175.out; have hcz17 := bc3 BK169.out) | (go_at_call 9; (with_reducible refine (stamp_Sector_Check.calls k 0 0 (⟨#[]⟩ : ByteArray) t176 _ A9.out).mono ?_); rintro e w18 ⟨rfl, hb⟩; have n0_ := Aside0.mk (kbl (g := gb169) (o := .cells #[.int .i64 1, .int .u8 2, .string (⟨#[]⟩ : ByteArray)] 23 (0, 0)) bk_ hb); have n1_ := Aside0.mk (kbl (g := gb175) (o := .cells #[.int .i64 t171, .int .u8 t172, .string t173] 23 (0, 0)) bk_ hb); have n2_ := Aside0.mk (bsp bl_ hb); clear BK169; clear BK175; clear HB; have BK169 := n0_; have BK175 := n1_; have HB := n2_; clear n0_ n1_ n2_; (try clear hb); (try clear hb2); (try clear hk); (try clear hi)))
  go_ret
  exact ⟨er_, bl_⟩
def armoireref04_Check.j0 : Nat → Bool → Int → Int → ByteArray → Option (Int)
  | 0, _, _, _, _ => none
  | k + 1, x10, x178000, x178001, x178002 => if x10 = true then (some 18) else (if (x178002.size : Int) > 44 then (some 3) else (some 0))
def armoireref04_Check.f (k : Nat) (a0_0 : Int) (a0_1 : Int) (a0_2 : ByteArray) : Option (Int) := if a0_0 < 1 then (armoireref04_Check.j0 k true a0_0 a0_1 a0_2) else (armoireref04_Check.j0 k (decide (a0_0 > 1099511627776)) a0_0 a0_1 a0_2)
set_option maxHeartbeats 2000000 in
set_option maxRecDepth 100000 in
theorem armoireref04_Check.calls (k : Nat) (a0_0 : Int) (a0_1 : Int) (a0_2 : ByteArray) (r : Int) (w : World) (h : armoireref04_Check.f k a0_0 a0_1 a0_2 = some r) :
    Calls Try.prog 10 #[.agg #[.int .i64 a0_0, .int .i64 a0_1, .string a0_2]] w fun e w' => e = .returned (.int .i64 r) ∧ Below w.heap.size w w' := by
  have hu30 := Try.underlying30
  have HB := Aside0.mk (Below.refl w.heap.size w)
  have H : (if a0_0 < 1 then (armoireref04_Check.j0 k true a0_0 a0_1 a0_2) else (armoireref04_Check.j0 k (decide (a0_0 > 1099511627776)) a0_0 a0_1 a0_2)) = some r := h
  clear h
  have HC2 := Aside0.mk H
  clear H
  go_enter Try.func10, Try.ntmps10
  go_upto_region 1 with (first | ((with_reducible refine gds (N := 1) rfl ?_); refine bev ?hg (N := 1) ?hd (cs := #[.int .i64 a0_0, .int .i64 a0_1, .string a0_2]) (t := 30) ?hr ?_; (case hd => rfl); (case hg => rfl); (case hr => first | (go_simp; done) | (go_simp; rfl)); intro gb177 hg w3 hbox hb; have n0_ := Aside0.mk (bsp bl_ hb); have n1_ := Aside0.mk (hbox); have n2_ := Aside0.mk ((by rw [hg]; exact bsz bl_ : w.heap.size ≤ gb177)); have n3_ := Aside0.mk ((by rw [hg]; exact bsz bl_ : w.heap.size ≤ gb177)); clear HB; have HB := n0_; have BK177 := n1_; have GW177 := n2_; have GE177 := n3_; clear n0_ n1_ n2_ n3_; clear hb hbox hg))
  (try simp only [Act.put, List.setIfInBounds_toArray, List.set_cons_zero, List.set_cons_succ])
  go_cut [10] (fun v10 wc => ∃ (kq : Nat) (x10_1 : Bool), v10 = .bool x10_1 ∧ Aside0 (armoireref04_Check.j0 kq x10_1 a0_0 a0_1 a0_2 = some r) ∧ Aside0 (kq ≤ k) ∧ Aside0 (wc.heap[gb177]? = some (.cells #[.int .i64 a0_0, .int .i64 a0_1, .string a0_2] 30 (0, 0))) ∧ Aside0 (Below w.heap.size w wc))
  case first =>
    have H := HC2.out
    clear HC2
    by_cases c4 : a0_0 < 1
    · rw [if_pos c4] at H
      have c4b0 : decide (a0_0 < 1) = true := decide_eq_true c4
      clear c4
      (first | rw [c4b0] | (simp only [i64_w, i32_w]; rw [c4b0]) | skip)
      have H' := Aside0.mk H
      clear H
      have hcz5 := bc3 BK177.out
      go_wp2
      go_meet
      case rel => exact ⟨_, (true), (by first | rfl | (simp; done) | (simp [*]; done) | exact emp1_ _ | exact (emp1_ _).symm | exact emp2_ _ | exact (emp2_ _).symm), H', ⟨by first | omega | exact Nat.le_refl _⟩, ⟨bk_⟩, ⟨bl_⟩⟩
    rw [if_neg c4] at H
    have c4b0 : decide (a0_0 < 1) = false := decide_eq_false c4
    clear c4
    (first | rw [c4b0] | (simp only [i64_w, i32_w]; rw [c4b0]) | skip)
    have H' := Aside0.mk H
    clear H
    have hcz6 := bc3 BK177.out
    go_wp2
    go_meet
    case rel => exact ⟨_, (decide (a0_0 > 1099511627776)), (by first | rfl | (simp; done) | (simp [*]; done) | exact emp1_ _ | exact (emp1_ _).symm | exact emp2_ _ | exact (emp2_ _).symm), H', ⟨by first | omega | exact Nat.le_refl _⟩, ⟨bk_⟩, ⟨bl_⟩⟩
  clear HC2
  try clear c1
  try clear p2
  try clear c4
  try clear c4b0
  try clear hcz5
  try clear hcz6
  try clear hcz5
  try clear hcz6
  obtain ⟨kq, x10_1, rfl, HA, HJ1, BK177, HB⟩ := hcut
  cases kq with
  | zero => exact absurd HA.out (by simp [armoireref04_Check.j0])
  | succ kj1 =>
    have H := HA.out
    clear HA
    simp only [armoireref04_Check.j0] at H
    by_cases c7 : x10_1 = true
    · subst c7
      have H1 : (some 18) = some r := by rw [if_pos rfl] at H; exact H
      clear H
      have H := H1
      clear H1
      obtain rfl := Option.some.inj H
      go_wp2
      go_ret
      exact ⟨er_, bl_⟩
    replace c7 := Bool.eq_false_iff.mpr c7
    subst c7
    have H1 : (if (a0_2.size : Int) > 44 then (some 3) else (some 0)) = some r := by rw [if_neg (show ¬ (false = true) by decide)] at H; exact H
    clear H
    have H := H1
    clear H1
    by_cases c8 : (a0_2.size : Int) > 44
    · rw [if_pos c8] at H
      have c8b0 : decide (44 < (a0_2.size : Int)) = true := decide_eq_true c8
      have c8b1 : decide (44 < a0_2.size) = true := decide_eq_true (by omega)
      clear c8
      obtain rfl := Option.some.inj H
      have hcz9 := bc3 BK177.out
      go_wp2
      go_ret
      exact ⟨er_, bl_⟩
    rw [if_neg c8] at H
    have c8b0 : decide (44 < (a0_2.size : Int)) = false := decide_eq_false c8
    have c8b1 : decide (44 < a0_2.size) = false := decide_eq_false (by omega)
    clear c8
    obtain rfl := Option.some.inj H
    have hcz10 := bc3 BK177.out
    go_wp2
    go_ret
    exact ⟨er_, bl_⟩
def armoirelaw04_Told.f (a0_0 : Int) (a0_1 : Int) (a0_2 : ByteArray) : Option (Int × Int × ByteArray) := some (a0_0, wrap64 (a0_1), a0_2)
set_option maxHeartbeats 2000000 in
set_option maxRecDepth 100000 in
theorem armoirelaw04_Told.calls (a0_0 : Int) (a0_1 : Int) (a0_2 : ByteArray) (r1 : Int) (r2 : Int) (r3 : ByteArray) (w : World) (h : armoirelaw04_Told.f a0_0 a0_1 a0_2 = some (r1, r2, r3)) :
    Calls Try.prog 11 #[.agg #[.int .i64 a0_0, .int .u8 a0_1, .string a0_2]] w fun e w' => e = .returned (.agg #[.int .i64 r1, .int .i64 r2, .string r3]) ∧ Below w.heap.size w w' := by
  have hu23 := Try.underlying23
  have hu30 := Try.underlying30
  have HB := Aside0.mk (Below.refl w.heap.size w)
  have H : (some (a0_0, wrap64 (a0_1), a0_2)) = some (r1, r2, r3) := h
  clear h
  simp only [Option.some.injEq, Prod.mk.injEq] at H
  obtain ⟨rfl, rfl, rfl⟩ := H
  go_enter Try.func11, Try.ntmps11
  go_wp2_with (first | ((with_reducible refine gds (N := 1) rfl ?_); refine bev ?hg (N := 1) ?hd (cs := #[.int .i64 a0_0, .int .u8 a0_1, .string a0_2]) (t := 23) ?hr ?_; (case hd => rfl); (case hg => rfl); (case hr => first | (go_simp; done) | (go_simp; rfl)); intro gb178 hg w2 hbox hb; have n0_ := Aside0.mk (bsp bl_ hb); have n1_ := Aside0.mk (hbox); have n2_ := Aside0.mk ((by rw [hg]; exact bsz bl_ : w.heap.size ≤ gb178)); have n3_ := Aside0.mk ((by rw [hg]; exact bsz bl_ : w.heap.size ≤ gb178)); clear HB; have HB := n0_; have BK178 := n1_; have GW178 := n2_; have GE178 := n3_; clear n0_ n1_ n2_ n3_; clear hb hbox hg) | ((with_reducible refine gds (N := 2) rfl ?_); refine bev ?hg (N := 2) ?hd (cs := #[.int .i64 0, .int .i64 0, .string (⟨#[]⟩ : ByteArray)]) (t := 30) ?hr ?_; (case hd => rfl); (case hg => rfl); (case hr => first | (go_simp; done) | (go_simp; rfl)); intro gb179 hg w3 hbox hb; have n0_ := Aside0.mk (kbl (g := gb178) (o := .cells #[.int .i64 a0_0, .int .u8 a0_1, .string a0_2] 23 (0, 0)) bk_ hb); have n1_ := Aside0.mk (bsp bl_ hb); have n2_ := Aside0.mk (hbox); have n3_ := Aside0.mk ((by rw [hg]; exact bsz bl_ : w.heap.size ≤ gb179)); have n4_ := Aside0.mk ((by rw [hg]; exact bsz bl_ : w.heap.size ≤ gb179)); have n5_ := Aside0.mk ((by rw [hg]; exact Nat.ne_of_lt (blk_lt (g := gb178) (o := .cells #[.int .i64 a0_0, .int .u8 a0_1, .string a0_2] 23 (0, 0)) bk_) : gb178 ≠ gb179)); have n6_ := Aside0.mk ((by rw [hg]; exact Nat.ne_of_gt (blk_lt (g := gb178) (o := .cells #[.int .i64 a0_0, .int .u8 a0_1, .string a0_2] 23 (0, 0)) bk_) : gb179 ≠ gb178)); clear BK178; clear HB; have BK178 := n0_; have HB := n1_; have BK179 := n2_; have GW179 := n3_; have GE179 := n4_; have NB178_179 := n5_; have NB179_178 := n6_; clear n0_ n1_ n2_ n3_ n4_ n5_ n6_; clear hb hbox hg; have hnb4 := NB178_179.out; have hnc4 := NB179_178.out; have hcz5 := bc3 BK178.out; have hcz6 := bc3 BK179.out))
  refine bodyPost_ret (results_cell_row rfl _ _ gb179 30 #[.int .i64 a0_0, .int .i64 (wrap64 (a0_1)), .string a0_2] (0, 0) _ rfl bk_ Try.underlying30 rfl (by kernel_rfl)) rfl ?_
  exact ⟨er_, bl_⟩
end Go.Proofs.Ytodikgjanhihhaa.PA

