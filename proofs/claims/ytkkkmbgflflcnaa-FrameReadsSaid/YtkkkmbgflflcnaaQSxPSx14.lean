import Derived.Test.YtkkkmbgflflcnaaQSxPSx6
import Derived.Test.YtkkkmbgflflcnaaQSxPSx12
import Derived.Test.YtkkkmbgflflcnaaQSxPSx13
namespace Go.Proofs.Ytkkkmbgflflcnaa.PS
open Go.Proofs.Ytkkkmbgflflcnaa.PL
open Go.RowKit Go.Proofs.YtkkkmbgflflcnaaW.PrintWords Go.Proofs.YtkkkmbgflflcnaaW.PrintLast Go.Proofs.YtkkkmbgflflcnaaW.PrintMore
attribute [local go_sem] max2_int min2_int max_two min_two max_three min_three max_four min_four
set_option linter.unusedVariables false
set_option linter.unusedSimpArgs false
def armoireref12_Read.j0 : Nat → ByteArray → Int → Int → ByteArray → ByteArray → Int → Option (ByteArray × Int × Int × ByteArray × ByteArray × Int)
  | 0, _, _, _, _, _, _ => none
  | k + 1, x313000, x313001, x328000, x328001, x328002, x328003 => if x313001 = 0 then (some (x313000, x313001, x328000, x328001, x328002, x328003)) else (some (x313000, x313001, 0, (⟨#[]⟩ : ByteArray), (⟨#[]⟩ : ByteArray), 0))
def armoireref12_Read.f (k : Nat) (a0_0 : ByteArray) (a0_1 : Int) : Option (ByteArray × Int × Int × ByteArray × ByteArray × Int) := (armoireref02_TakeN.f k a0_0 a0_1 17).bind fun bt315 => ((armoireref02_TakeS.f k bt315.1 bt315.2.1 24).bind fun bt318 => ((armoireref02_TakeS.f k bt318.1 bt318.2.1 24).bind fun bt321 => ((armoireref02_TakeI.f k bt321.1 bt321.2.1).bind fun bt324 => (if bt324.2.1 = 0 then ((armoireref12_Check.f k bt315.2.2 bt318.2.2 bt321.2.2 bt324.2.2).bind fun t328 => ((armoireref02_Fail.f bt324.1 bt324.2.1 t328).bind fun bt329 => (armoireref12_Read.j0 k bt329.1 bt329.2 bt315.2.2 bt318.2.2 bt321.2.2 bt324.2.2))) else (armoireref12_Read.j0 k bt324.1 bt324.2.1 bt315.2.2 bt318.2.2 bt321.2.2 bt324.2.2)))))
set_option maxHeartbeats 2000000 in
set_option maxRecDepth 100000 in
theorem armoireref12_Read.calls (k : Nat) (a0_0 : ByteArray) (a0_1 : Int) (r1 : ByteArray) (r2 : Int) (r3 : Int) (r4 : ByteArray) (r5 : ByteArray) (r6 : Int) (w : World) (h : armoireref12_Read.f k a0_0 a0_1 = some (r1, r2, r3, r4, r5, r6)) :
    Calls Try.prog 49 #[.agg #[.string a0_0, .int .i64 a0_1]] w fun e w' => e = .returned (.tuple #[.agg #[.string r1, .int .i64 r2], .agg #[.int .i64 r3, .string r4, .string r5, .int .i64 r6]]) ∧ Below w.heap.size w w' := by
  have hu88 := Try.underlying88
  have hu34 := Try.underlying34
  have HB := Aside0.mk (Below.refl w.heap.size w)
  have H : ((armoireref02_TakeN.f k a0_0 a0_1 17).bind fun bt315 => ((armoireref02_TakeS.f k bt315.1 bt315.2.1 24).bind fun bt318 => ((armoireref02_TakeS.f k bt318.1 bt318.2.1 24).bind fun bt321 => ((armoireref02_TakeI.f k bt321.1 bt321.2.1).bind fun bt324 => (if bt324.2.1 = 0 then ((armoireref12_Check.f k bt315.2.2 bt318.2.2 bt321.2.2 bt324.2.2).bind fun t328 => ((armoireref02_Fail.f bt324.1 bt324.2.1 t328).bind fun bt329 => (armoireref12_Read.j0 k bt329.1 bt329.2 bt315.2.2 bt318.2.2 bt321.2.2 bt324.2.2))) else (armoireref12_Read.j0 k bt324.1 bt324.2.1 bt315.2.2 bt318.2.2 bt321.2.2 bt324.2.2)))))) = some (r1, r2, r3, r4, r5, r6) := h
  clear h
  replace H := Option.bind_eq_some_iff.mp H
  obtain ⟨⟨t315, t316, t317⟩, A20, H⟩ := H
  replace H : ((armoireref02_TakeS.f k t315 t316 24).bind fun bt318 => ((armoireref02_TakeS.f k bt318.1 bt318.2.1 24).bind fun bt321 => ((armoireref02_TakeI.f k bt321.1 bt321.2.1).bind fun bt324 => (if bt324.2.1 = 0 then ((armoireref12_Check.f k t317 bt318.2.2 bt321.2.2 bt324.2.2).bind fun t328 => ((armoireref02_Fail.f bt324.1 bt324.2.1 t328).bind fun bt329 => (armoireref12_Read.j0 k bt329.1 bt329.2 t317 bt318.2.2 bt321.2.2 bt324.2.2))) else (armoireref12_Read.j0 k bt324.1 bt324.2.1 t317 bt318.2.2 bt321.2.2 bt324.2.2))))) = some (r1, r2, r3, r4, r5, r6) := H
  have A2 := Aside0.mk A20
  clear A20
  replace H := Option.bind_eq_some_iff.mp H
  obtain ⟨⟨t318, t319, t320⟩, A30, H⟩ := H
  replace H : ((armoireref02_TakeS.f k t318 t319 24).bind fun bt321 => ((armoireref02_TakeI.f k bt321.1 bt321.2.1).bind fun bt324 => (if bt324.2.1 = 0 then ((armoireref12_Check.f k t317 t320 bt321.2.2 bt324.2.2).bind fun t328 => ((armoireref02_Fail.f bt324.1 bt324.2.1 t328).bind fun bt329 => (armoireref12_Read.j0 k bt329.1 bt329.2 t317 t320 bt321.2.2 bt324.2.2))) else (armoireref12_Read.j0 k bt324.1 bt324.2.1 t317 t320 bt321.2.2 bt324.2.2)))) = some (r1, r2, r3, r4, r5, r6) := H
  have A3 := Aside0.mk A30
  clear A30
  replace H := Option.bind_eq_some_iff.mp H
  obtain ⟨⟨t321, t322, t323⟩, A40, H⟩ := H
  replace H : ((armoireref02_TakeI.f k t321 t322).bind fun bt324 => (if bt324.2.1 = 0 then ((armoireref12_Check.f k t317 t320 t323 bt324.2.2).bind fun t328 => ((armoireref02_Fail.f bt324.1 bt324.2.1 t328).bind fun bt329 => (armoireref12_Read.j0 k bt329.1 bt329.2 t317 t320 t323 bt324.2.2))) else (armoireref12_Read.j0 k bt324.1 bt324.2.1 t317 t320 t323 bt324.2.2))) = some (r1, r2, r3, r4, r5, r6) := H
  have A4 := Aside0.mk A40
  clear A40
  replace H := Option.bind_eq_some_iff.mp H
  obtain ⟨⟨t324, t325, t326⟩, A50, H⟩ := H
  replace H : (if t325 = 0 then ((armoireref12_Check.f k t317 t320 t323 t326).bind fun t328 => ((armoireref02_Fail.f t324 t325 t328).bind fun bt329 => (armoireref12_Read.j0 k bt329.1 bt329.2 t317 t320 t323 t326))) else (armoireref12_Read.j0 k t324 t325 t317 t320 t323 t326)) = some (r1, r2, r3, r4, r5, r6) := H
  have A5 := Aside0.mk A50
  clear A50
  have HC6 := Aside0.mk H
  clear H
  go_enter Try.func49, Try.ntmps49
  go_upto_if 36 with (first | ((with_reducible refine gds (N := 1) rfl ?_); refine bev ?hg (N := 1) ?hd (cs := #[.string a0_0, .int .i64 a0_1]) (t := 88) ?hr ?_; (case hd => rfl); (case hg => rfl); (case hr => first | (go_simp; done) | (go_simp; rfl)); intro gb312 hg w7 hbox hb; have n0_ := Aside0.mk (bsp bl_ hb); have n1_ := Aside0.mk (hbox); have n2_ := Aside0.mk ((by rw [hg]; exact bsz bl_ : w.heap.size ≤ gb312)); have n3_ := Aside0.mk ((by rw [hg]; exact bsz bl_ : w.heap.size ≤ gb312)); clear HB; have HB := n0_; have BK312 := n1_; have GW312 := n2_; have GE312 := n3_; clear n0_ n1_ n2_ n3_; clear hb hbox hg) | ((with_reducible refine gds (N := 2) rfl ?_); refine bev ?hg (N := 2) ?hd (cs := #[.string (⟨#[]⟩ : ByteArray), .int .i64 0]) (t := 88) ?hr ?_; (case hd => rfl); (case hg => rfl); (case hr => first | (go_simp; done) | (go_simp; rfl)); intro gb313 hg w8 hbox hb; have n0_ := Aside0.mk (kbl (g := gb312) (o := .cells #[.string a0_0, .int .i64 a0_1] 88 (0, 0)) bk_ hb); have n1_ := Aside0.mk (bsp bl_ hb); have n2_ := Aside0.mk (hbox); have n3_ := Aside0.mk ((by rw [hg]; exact bsz bl_ : w.heap.size ≤ gb313)); have n4_ := Aside0.mk ((by rw [hg]; exact bsz bl_ : w.heap.size ≤ gb313)); have n5_ := Aside0.mk ((by rw [hg]; exact Nat.ne_of_lt (blk_lt (g := gb312) (o := .cells #[.string a0_0, .int .i64 a0_1] 88 (0, 0)) bk_) : gb312 ≠ gb313)); have n6_ := Aside0.mk ((by rw [hg]; exact Nat.ne_of_gt (blk_lt (g := gb312) (o := .cells #[.string a0_0, .int .i64 a0_1] 88 (0, 0)) bk_) : gb313 ≠ gb312)); clear BK312; clear HB; have BK312 := n0_; have HB := n1_; have BK313 := n2_; have GW313 := n3_; have GE313 := n4_; have NB312_313 := n5_; have NB313_312 := n6_; clear n0_ n1_ n2_ n3_ n4_ n5_ n6_; clear hb hbox hg) | ((with_reducible refine gds (N := 3) rfl ?_); refine bev ?hg (N := 3) ?hd (cs := #[.int .i64 0, .string (⟨#[]⟩ : ByteArray), .string (⟨#[]⟩ : ByteArray), .int .i64 0]) (t := 34) ?hr ?_; (case hd => rfl); (case hg => rfl); (case hr => first | (go_simp; done) | (go_simp; rfl)); intro gb314 hg w9 hbox hb; have n0_ := Aside0.mk (kbl (g := gb312) (o := .cells #[.string a0_0, .int .i64 a0_1] 88 (0, 0)) bk_ hb); have n1_ := Aside0.mk (kbl (g := gb313) (o := .cells #[.string (⟨#[]⟩ : ByteArray), .int .i64 0] 88 (0, 0)) bk_ hb); have n2_ := Aside0.mk (bsp bl_ hb); have n3_ := Aside0.mk (hbox); have n4_ := Aside0.mk ((by rw [hg]; exact bsz bl_ : w.heap.size ≤ gb314)); have n5_ := Aside0.mk ((by rw [hg]; exact bsz bl_ : w.heap.size ≤ gb314)); have n6_ := Aside0.mk ((by rw [hg]; exact Nat.ne_of_lt (blk_lt (g := gb312) (o := .cells #[.string a0_0, .int .i64 a0_1] 88 (0, 0)) bk_) : gb312 ≠ gb314)); have n7_ := Aside0.mk ((by rw [hg]; exact Nat.ne_of_gt (blk_lt (g := gb312) (o := .cells #[.string a0_0, .int .i64 a0_1] 88 (0, 0)) bk_) : gb314 ≠ gb312)); have n8_ := Aside0.mk ((by rw [hg]; exact Nat.ne_of_lt (blk_lt (g := gb313) (o := .cells #[.string (⟨#[]⟩ : ByteArray), .int .i64 0] 88 (0, 0)) bk_) : gb313 ≠ gb314)); have n9_ := Aside0.mk ((by rw [hg]; exact Nat.ne_of_gt (blk_lt (g := gb313) (o := .cells #[.string (⟨#[]⟩ : ByteArray), .int .i64 0] 88 (0, 0)) bk_) : gb314 ≠ gb313)); clear BK312; clear BK313; clear HB; have BK312 := n0_; have BK313 := n1_; have HB := n2_; have BK314 := n3_; have GW314 := n4_; have GE314 := n5_; have NB312_314 := n6_; have NB314_312 := n7_; have NB313_314 := n8_; have NB314_313 := n9_; clear n0_ n1_ n2_ n3_ n4_ n5_ n6_ n7_ n8_ n9_; clear hb hbox hg; have hnb10 := NB312_313.out; have hnc10 := NB313_312.out; have hnb11 := NB312_314.out; have hnc11 := NB314_312.out; have hcz12 := bc2 BK312.out) | ((with_reducible refine gcl (f := 47) rfl ?_); refine gl_ (some 11) rfl rfl Try.func47 (by kernel_rfl) rfl #[.agg #[.string a0_0, .int .i64 a0_1], .int .i64 17] rfl ar_ ?_; (with_reducible refine (armoireref02_TakeN.calls k a0_0 a0_1 17 t315 t316 t317 _ A2.out).mono ?_); rintro e w13 ⟨rfl, hb⟩; refine ⟨_, rfl, ?_⟩; have n0_ := Aside0.mk (kbl (g := gb312) (o := .cells #[.string a0_0, .int .i64 a0_1] 88 (0, 0)) bk_ hb); have n1_ := Aside0.mk (kbl (g := gb313) (o := .cells #[.string (⟨#[]⟩ : ByteArray), .int .i64 0] 88 (0, 0)) bk_ hb); have n2_ := Aside0.mk (kbl (g := gb314) (o := .cells #[.int .i64 0, .string (⟨#[]⟩ : ByteArray), .string (⟨#[]⟩ : ByteArray), .int .i64 0] 34 (0, 0)) bk_ hb); have n3_ := Aside0.mk (bsp bl_ hb); clear BK312; clear BK313; clear BK314; clear HB; have BK312 := n0_; have BK313 := n1_; have BK314 := n2_; have HB := n3_; clear n0_ n1_ n2_ n3_; (try clear hb); (try clear hb2); (try clear hk); (try clear hi); have hcz14 := bc2 BK312.out) | ((with_reducible refine gcl (f := 48) rfl ?_); refine gl_ (some 16) rfl rfl Try.func48 (by kernel_rfl) rfl #[.agg #[.string t315, .int .i64 t316], .int .i64 24] rfl ar_ ?_; (with_reducible refine (armoireref02_TakeS.calls k t315 t316 24 t318 t319 t320 _ A3.out).mono ?_); rintro e w15 ⟨rfl, hb⟩; refine ⟨_, rfl, ?_⟩; have n0_ := Aside0.mk (kbl (g := gb312) (o := .cells #[.string t315, .int .i64 t316] 88 (0, 0)) bk_ hb); have n1_ := Aside0.mk (kbl (g := gb313) (o := .cells #[.string (⟨#[]⟩ : ByteArray), .int .i64 0] 88 (0, 0)) bk_ hb); have n2_ := Aside0.mk (kbl (g := gb314) (o := .cells #[.int .i64 0, .string (⟨#[]⟩ : ByteArray), .string (⟨#[]⟩ : ByteArray), .int .i64 0] 34 (0, 0)) bk_ hb); have n3_ := Aside0.mk (bsp bl_ hb); clear BK312; clear BK313; clear BK314; clear HB; have BK312 := n0_; have BK313 := n1_; have BK314 := n2_; have HB := n3_; clear n0_ n1_ n2_ n3_; (try clear hb); (try clear hb2); (try clear hk); (try clear hi); have hcz16 := bc2 BK312.out) | ((with_reducible refine gcl (f := 48) rfl ?_); refine gl_ (some 21) rfl rfl Try.func48 (by kernel_rfl) rfl #[.agg #[.string t318, .int .i64 t319], .int .i64 24] rfl ar_ ?_; (with_reducible refine (armoireref02_TakeS.calls k t318 t319 24 t321 t322 t323 _ A4.out).mono ?_); rintro e w17 ⟨rfl, hb⟩; refine ⟨_, rfl, ?_⟩; have n0_ := Aside0.mk (kbl (g := gb312) (o := .cells #[.string t318, .int .i64 t319] 88 (0, 0)) bk_ hb); have n1_ := Aside0.mk (kbl (g := gb313) (o := .cells #[.string (⟨#[]⟩ : ByteArray), .int .i64 0] 88 (0, 0)) bk_ hb); have n2_ := Aside0.mk (kbl (g := gb314) (o := .cells #[.int .i64 0, .string (⟨#[]⟩ : ByteArray), .string (⟨#[]⟩ : ByteArray), .int .i64 0] 34 (0, 0)) bk_ hb); have n3_ := Aside0.mk (bsp bl_ hb); clear BK312; clear BK313; clear BK314; clear HB; have BK312 := n0_; have BK313 := n1_; have BK314 := n2_; have HB := n3_; clear n0_ n1_ n2_ n3_; (try clear hb); (try clear hb2); (try clear hk); (try clear hi); have hcz18 := bc2 BK312.out) | ((with_reducible refine gcl (f := 74) rfl ?_); refine gl_ (some 26) rfl rfl Try.func74 (by kernel_rfl) rfl #[.agg #[.string t321, .int .i64 t322]] rfl ar_ ?_; (with_reducible refine (armoireref02_TakeI.calls k t321 t322 t324 t325 t326 _ A5.out).mono ?_); rintro e w19 ⟨rfl, hb⟩; refine ⟨_, rfl, ?_⟩; have n0_ := Aside0.mk (kbl (g := gb312) (o := .cells #[.string t321, .int .i64 t322] 88 (0, 0)) bk_ hb); have n1_ := Aside0.mk (kbl (g := gb313) (o := .cells #[.string (⟨#[]⟩ : ByteArray), .int .i64 0] 88 (0, 0)) bk_ hb); have n2_ := Aside0.mk (kbl (g := gb314) (o := .cells #[.int .i64 0, .string (⟨#[]⟩ : ByteArray), .string (⟨#[]⟩ : ByteArray), .int .i64 0] 34 (0, 0)) bk_ hb); have n3_ := Aside0.mk (bsp bl_ hb); clear BK312; clear BK313; clear BK314; clear HB; have BK312 := n0_; have BK313 := n1_; have BK314 := n2_; have HB := n3_; clear n0_ n1_ n2_ n3_; (try clear hb); (try clear hb2); (try clear hk); (try clear hi); have hcz20 := bc2 BK312.out) | ((with_reducible refine gds (N := 8) rfl ?_); refine bev ?hg (N := 8) ?hd (cs := #[.int .i64 0, .string (⟨#[]⟩ : ByteArray), .string (⟨#[]⟩ : ByteArray), .int .i64 0]) (t := 34) ?hr ?_; (case hd => rfl); (case hg => rfl); (case hr => first | (go_simp; done) | (go_simp; rfl)); intro gb327 hg w21 hbox hb; have n0_ := Aside0.mk (kbl (g := gb312) (o := .cells #[.string t324, .int .i64 t325] 88 (0, 0)) bk_ hb); have n1_ := Aside0.mk (kbl (g := gb313) (o := .cells #[.string (⟨#[]⟩ : ByteArray), .int .i64 0] 88 (0, 0)) bk_ hb); have n2_ := Aside0.mk (kbl (g := gb314) (o := .cells #[.int .i64 0, .string (⟨#[]⟩ : ByteArray), .string (⟨#[]⟩ : ByteArray), .int .i64 0] 34 (0, 0)) bk_ hb); have n3_ := Aside0.mk (bsp bl_ hb); have n4_ := Aside0.mk (hbox); have n5_ := Aside0.mk ((by rw [hg]; exact bsz bl_ : w.heap.size ≤ gb327)); have n6_ := Aside0.mk ((by rw [hg]; exact bsz bl_ : w.heap.size ≤ gb327)); have n7_ := Aside0.mk ((by rw [hg]; exact Nat.ne_of_lt (blk_lt (g := gb312) (o := .cells #[.string t324, .int .i64 t325] 88 (0, 0)) bk_) : gb312 ≠ gb327)); have n8_ := Aside0.mk ((by rw [hg]; exact Nat.ne_of_gt (blk_lt (g := gb312) (o := .cells #[.string t324, .int .i64 t325] 88 (0, 0)) bk_) : gb327 ≠ gb312)); have n9_ := Aside0.mk ((by rw [hg]; exact Nat.ne_of_lt (blk_lt (g := gb313) (o := .cells #[.string (⟨#[]⟩ : ByteArray), .int .i64 0] 88 (0, 0)) bk_) : gb313 ≠ gb327)); have n10_ := Aside0.mk ((by rw [hg]; exact Nat.ne_of_gt (blk_lt (g := gb313) (o := .cells #[.string (⟨#[]⟩ : ByteArray), .int .i64 0] 88 (0, 0)) bk_) : gb327 ≠ gb313)); have n11_ := Aside0.mk ((by rw [hg]; exact Nat.ne_of_lt (blk_lt (g := gb314) (o := .cells #[.int .i64 0, .string (⟨#[]⟩ : ByteArray), .string (⟨#[]⟩ : ByteArray), .int .i64 0] 34 (0, 0)) bk_) : gb314 ≠ gb327)); have n12_ := Aside0.mk ((by rw [hg]; exact Nat.ne_of_gt (blk_lt (g := gb314) (o := .cells #[.int .i64 0, .string (⟨#[]⟩ : ByteArray), .string (⟨#[]⟩ : ByteArray), .int .i64 0] 34 (0, 0)) bk_) : gb327 ≠ gb314)); clear BK312; clear BK313; clear BK314; clear HB; have BK312 := n0_; have BK313 := n1_; have BK314 := n2_; have HB := n3_; have BK327 := n4_; have GW327 := n5_; have GE327 := n6_; have NB312_327 := n7_; have NB327_312 := n8_; have NB313_327 := n9_; have NB327_313 := n10_; have NB314_327 := n11_; have NB327_314 := n12_; clear n0_ n1_ n2_ n3_ n4_ n5_ n6_ n7_ n8_ n9_ n10_ n11_ n12_; clear hb hbox hg; have hnb22 := NB327_312.out; have hnc22 := NB312_327.out; have hnb23 := NB327_313.out; have hnc23 := NB313_327.out; have hnb24 := NB327_314.out; have hnc24 := NB314_327.out; have hcz25 := bc4 BK327.out; have hcz26 := bc2 BK312.out))
  (try simp only [Act.put, List.setIfInBounds_toArray, List.set_cons_zero, List.set_cons_succ])
  go_cut [] (fun wc => ∃ (kq : Nat) (x313000_5 : ByteArray) (x313001_5 : Int), Aside0 (armoireref12_Read.j0 kq x313000_5 x313001_5 t317 t320 t323 t326 = some (r1, r2, r3, r4, r5, r6)) ∧ Aside0 (kq ≤ k) ∧ Aside0 (wc.heap[gb312]? = some (.cells #[.string x313000_5, .int .i64 x313001_5] 88 (0, 0))) ∧ Aside0 (wc.heap[gb313]? = some (.cells #[.string (⟨#[]⟩ : ByteArray), .int .i64 0] 88 (0, 0))) ∧ Aside0 (wc.heap[gb314]? = some (.cells #[.int .i64 0, .string (⟨#[]⟩ : ByteArray), .string (⟨#[]⟩ : ByteArray), .int .i64 0] 34 (0, 0))) ∧ Aside0 (wc.heap[gb327]? = some (.cells #[.int .i64 t317, .string t320, .string t323, .int .i64 t326] 34 (0, 0))) ∧ Aside0 (Below w.heap.size w wc))
  case first =>
    have H := HC6.out
    clear HC6
    by_cases c27 : t325 = 0
    rotate_left
    · rw [if_neg c27] at H
      have c27b0 : (t325 == 0) = false := beq_eq_false_iff_ne.mpr c27
      have c27b1 : (t325 != 0) = true := bne_iff_ne.mpr c27
      (first | rw [c27b0] | (simp only [i64_w, i32_w]; rw [c27b0]) | skip)
      have H' := Aside0.mk H
      clear H
      go_wp2
      go_meet
      case rel => exact ⟨_, (t324), (t325), H', ⟨by first | omega | exact Nat.le_refl _⟩, ⟨bk_⟩, ⟨bk_⟩, ⟨bk_⟩, ⟨bk_⟩, ⟨bl_⟩⟩
    rw [if_pos c27] at H
    have c27b0 : (t325 == 0) = true := beq_iff_eq.mpr c27
    have c27b1 : (t325 != 0) = false := bne_eq_false_iff_eq.mpr c27
    clear c27
    (first | rw [c27b0] | (simp only [i64_w, i32_w]; rw [c27b0]) | skip)
    replace H := Option.bind_eq_some_iff.mp H
    obtain ⟨t328, A280, H⟩ := H
    replace H : ((armoireref02_Fail.f t324 t325 t328).bind fun bt329 => (armoireref12_Read.j0 k bt329.1 bt329.2 t317 t320 t323 t326)) = some (r1, r2, r3, r4, r5, r6) := H
    have A28 := Aside0.mk A280
    clear A280
    replace H := Option.bind_eq_some_iff.mp H
    obtain ⟨⟨t329, t330⟩, A290, H⟩ := H
    replace H : (armoireref12_Read.j0 k t329 t330 t317 t320 t323 t326) = some (r1, r2, r3, r4, r5, r6) := H
    have A29 := Aside0.mk A290
    clear A290
    have H' := Aside0.mk H
    clear H
    try go_wp2
    have n0_ : Aside0 (((((w21.setCell ⟨gb327, 0, none⟩ (.int .i64 t317)).setCell ⟨gb327, 1, none⟩ (.string t320)).setCell ⟨gb327, 2, none⟩ (.string t323)).setCell ⟨gb327, 3, none⟩ (.int .i64 t326)).heap[gb312]? = some (.cells #[.string t324, .int .i64 t325] 88 (0, 0))) := ⟨bk_⟩
    have n1_ : Aside0 (((((w21.setCell ⟨gb327, 0, none⟩ (.int .i64 t317)).setCell ⟨gb327, 1, none⟩ (.string t320)).setCell ⟨gb327, 2, none⟩ (.string t323)).setCell ⟨gb327, 3, none⟩ (.int .i64 t326)).heap[gb313]? = some (.cells #[.string (⟨#[]⟩ : ByteArray), .int .i64 0] 88 (0, 0))) := ⟨bk_⟩
    have n2_ : Aside0 (((((w21.setCell ⟨gb327, 0, none⟩ (.int .i64 t317)).setCell ⟨gb327, 1, none⟩ (.string t320)).setCell ⟨gb327, 2, none⟩ (.string t323)).setCell ⟨gb327, 3, none⟩ (.int .i64 t326)).heap[gb314]? = some (.cells #[.int .i64 0, .string (⟨#[]⟩ : ByteArray), .string (⟨#[]⟩ : ByteArray), .int .i64 0] 34 (0, 0))) := ⟨bk_⟩
    have n3_ : Aside0 (((((w21.setCell ⟨gb327, 0, none⟩ (.int .i64 t317)).setCell ⟨gb327, 1, none⟩ (.string t320)).setCell ⟨gb327, 2, none⟩ (.string t323)).setCell ⟨gb327, 3, none⟩ (.int .i64 t326)).heap[gb327]? = some (.cells #[.int .i64 t317, .string t320, .string t323, .int .i64 t326] 34 (0, 0))) := ⟨bk_⟩
    have n4_ : Aside0 (Below w.heap.size w ((((w21.setCell ⟨gb327, 0, none⟩ (.int .i64 t317)).setCell ⟨gb327, 1, none⟩ (.string t320)).setCell ⟨gb327, 2, none⟩ (.string t323)).setCell ⟨gb327, 3, none⟩ (.int .i64 t326))) := ⟨bl_⟩
    (try clear BK312)
    (try clear BK313)
    (try clear BK314)
    (try clear BK327)
    (try clear HB)
    generalize ((((w21.setCell ⟨gb327, 0, none⟩ (.int .i64 t317)).setCell ⟨gb327, 1, none⟩ (.string t320)).setCell ⟨gb327, 2, none⟩ (.string t323)).setCell ⟨gb327, 3, none⟩ (.int .i64 t326)) = w30 at n0_ n1_ n2_ n3_ n4_ ⊢
    have BK312 := n0_
    have BK313 := n1_
    have BK314 := n2_
    have BK327 := n3_
    have HB := n4_
    clear n0_ n1_ n2_ n3_ n4_
    have n0_ := Aside0.mk (kdw BK312.out)
    have n1_ := Aside0.mk (kdw BK313.out)
    have n2_ := Aside0.mk (kdw BK314.out)
    have n3_ := Aside0.mk (kdw BK327.out)
    have n4_ := Aside0.mk (bd1 HB.out)
    clear BK312
    clear BK313
    clear BK314
    clear BK327
    clear HB
    have BK312 := n0_
    have BK313 := n1_
    have BK314 := n2_
    have BK327 := n3_
    have HB := n4_
    clear n0_ n1_ n2_ n3_ n4_
    refine start_ (n := 5) (S := fun w' => w'.cell? ⟨gb312, 0, none⟩ = some (.string t324) ∧ w'.cell? ⟨gb312, 1, none⟩ = some (.int .i64 t325) ∧ w'.cell? ⟨gb327, 0, none⟩ = some (.int .i64 t317) ∧ w'.cell? ⟨gb327, 1, none⟩ = some (.string t320) ∧ w'.cell? ⟨gb327, 2, none⟩ = some (.string t323) ∧ w'.cell? ⟨gb327, 3, none⟩ = some (.int .i64 t326)) (ds := [4]) #[false,false,false,false,false] (by kernel_rfl) rfl rfl ⟨(kcl BK312.out 0).trans rfl, (kcl BK312.out 1).trans rfl, (kcl BK327.out 0).trans rfl, (kcl BK327.out 1).trans rfl, (kcl BK327.out 2).trans rfl, (kcl BK327.out 3).trans rfl⟩ (fun hHeld => ?_)
    generalize w30.drew = w31 at BK312 BK313 BK314 BK327 HB hHeld ⊢
    refine take_ (i := 0) (N := some 37) (v := ?_) (a' := ?_) #[true,false,false,false,false] rfl rfl (by kernel_rfl) (fun _ _ _ h => h) (Or.inl ⟨by rfl, ?_⟩) hHeld ?_ ?_
    rotate_left
    · rintro w' ⟨s0, s1, s2, s3, s4, s5⟩
      go_simp
      with_reducible rfl
    rotate_left; (simp only [Act.put, List.setIfInBounds_toArray, List.set_cons_zero, List.set_cons_succ, i64_w, i32_w]; rfl)
    refine take_ (i := 1) (N := some 38) (v := ?_) (a' := ?_) #[true,true,false,false,false] rfl rfl (by kernel_rfl) (fun _ _ _ h => h) (Or.inl ⟨by rfl, ?_⟩) hHeld ?_ ?_
    rotate_left
    · rintro w' ⟨s0, s1, s2, s3, s4, s5⟩
      go_simp
      with_reducible rfl
    rotate_left; (simp only [Act.put, List.setIfInBounds_toArray, List.set_cons_zero, List.set_cons_succ, i64_w, i32_w]; rfl)
    refine one_ (i := 2) (N := some 39) #[true,true,true,false,false] rfl rfl (by kernel_rfl) (by decide) (fun K hK => ?_)
    refine goes_ Try.func29 (by kernel_rfl) rfl #[.agg #[.int .i64 t317, .string t320, .string t323, .int .i64 t326]] (by rfl) rfl rfl (by (try simp only [List.map_toArray, List.map_cons, List.map_nil]); first | done | rfl | (simp only [List.length_drop, List.length_take]; rfl) | (simp only [Act.eval, Array.getD_eq_getD_getElem?, Option.getD_some, *]; done) | (simp only [Array.mk.injEq, List.cons.injEq, Value.int.injEq, true_and, and_true]; first | omega | (simp [IntKind.wrap, IntKind.bits, IntKind.signed]; omega))) ?_
    with_reducible refine (armoireref12_Check.calls k t317 t320 t323 t326 t328 _ A28.out).mono ?_
    rintro e w32 ⟨rfl, hb⟩
    refine ⟨_, rfl, ?_⟩
    have n0_ := Aside0.mk (kbl (g := gb312) (o := .cells #[.string t324, .int .i64 t325] 88 (0, 0)) bk_ hb)
    have n1_ := Aside0.mk (kbl (g := gb313) (o := .cells #[.string (⟨#[]⟩ : ByteArray), .int .i64 0] 88 (0, 0)) bk_ hb)
    have n2_ := Aside0.mk (kbl (g := gb314) (o := .cells #[.int .i64 0, .string (⟨#[]⟩ : ByteArray), .string (⟨#[]⟩ : ByteArray), .int .i64 0] 34 (0, 0)) bk_ hb)
    have n3_ := Aside0.mk (kbl (g := gb327) (o := .cells #[.int .i64 t317, .string t320, .string t323, .int .i64 t326] 34 (0, 0)) bk_ hb)
    have n4_ := Aside0.mk (bsp bl_ hb)
    clear BK312
    clear BK313
    clear BK314
    clear BK327
    clear HB
    have BK312 := n0_
    have BK313 := n1_
    have BK314 := n2_
    have BK327 := n3_
    have HB := n4_
    clear n0_ n1_ n2_ n3_ n4_
    (try clear hb)
    (try clear hb2)
    (try clear hk)
    (try clear hi)
    refine hK.out _ _ ⟨(kcl BK312.out 0).trans rfl, (kcl BK312.out 1).trans rfl, (kcl BK327.out 0).trans rfl, (kcl BK327.out 1).trans rfl, (kcl BK327.out 2).trans rfl, (kcl BK327.out 3).trans rfl⟩ (fun hHeld => ?_)
    clear hK K
    refine norm_ (a' := ?_) ?_ ?_
    rotate_left
    · show Act.put _ (some 39) _ = _
      simp only [Act.put, List.setIfInBounds_toArray, List.set_cons_zero, List.set_cons_succ, i64_w, i32_w]
      rfl
    refine one_ (i := 3) (N := some 40) #[true,true,true,true,false] rfl rfl (by kernel_rfl) (by decide) (fun K hK => ?_)
    refine goes_ Try.func72 (by kernel_rfl) rfl #[.agg #[.string t324, .int .i64 t325], .int .i64 t328] (by rfl) rfl rfl (by (try simp only [List.map_toArray, List.map_cons, List.map_nil]); first | done | rfl | (simp only [List.length_drop, List.length_take]; rfl) | (simp only [Act.eval, Array.getD_eq_getD_getElem?, Option.getD_some, *]; done) | (simp only [Array.mk.injEq, List.cons.injEq, Value.int.injEq, true_and, and_true]; first | omega | (simp [IntKind.wrap, IntKind.bits, IntKind.signed]; omega))) ?_
    with_reducible refine (armoireref02_Fail.calls t324 t325 t328 t329 t330 _ A29.out).mono ?_
    rintro e w33 ⟨rfl, hb⟩
    refine ⟨_, rfl, ?_⟩
    have n0_ := Aside0.mk (kbl (g := gb312) (o := .cells #[.string t324, .int .i64 t325] 88 (0, 0)) bk_ hb)
    have n1_ := Aside0.mk (kbl (g := gb313) (o := .cells #[.string (⟨#[]⟩ : ByteArray), .int .i64 0] 88 (0, 0)) bk_ hb)
    have n2_ := Aside0.mk (kbl (g := gb314) (o := .cells #[.int .i64 0, .string (⟨#[]⟩ : ByteArray), .string (⟨#[]⟩ : ByteArray), .int .i64 0] 34 (0, 0)) bk_ hb)
    have n3_ := Aside0.mk (kbl (g := gb327) (o := .cells #[.int .i64 t317, .string t320, .string t323, .int .i64 t326] 34 (0, 0)) bk_ hb)
    have n4_ := Aside0.mk (bsp bl_ hb)
    clear BK312
    clear BK313
    clear BK314
    clear BK327
    clear HB
    have BK312 := n0_
    have BK313 := n1_
    have BK314 := n2_
    have BK327 := n3_
    have HB := n4_
    clear n0_ n1_ n2_ n3_ n4_
    (try clear hb)
    (try clear hb2)
    (try clear hk)
    (try clear hi)
    refine hK.out _ _ ⟨(kcl BK312.out 0).trans rfl, (kcl BK312.out 1).trans rfl, (kcl BK327.out 0).trans rfl, (kcl BK327.out 1).trans rfl, (kcl BK327.out 2).trans rfl, (kcl BK327.out 3).trans rfl⟩ (fun hHeld => ?_)
    clear hK K
    refine norm_ (a' := ?_) ?_ ?_
    rotate_left
    · show Act.put _ (some 40) _ = _
      simp only [Act.put, List.setIfInBounds_toArray, List.set_cons_zero, List.set_cons_succ, i64_w, i32_w]
      rfl
    refine last_ (i := 4) (N := none) #[true,true,true,true,true] rfl rfl (by kernel_rfl) (by decide) (fun K hK => ?_)
    have hs34 : w33.cell? ⟨gb312, 0, none⟩ = some (.string t324) := (kcl BK312.out 0).trans rfl
    have hfs34 := kfr BK312.out 0
    have hns34_1 := NB313_312.out
    have hns34_2 := NB314_312.out
    have hns34_3 := NB327_312.out
    have hms34_1 := NB312_313.out
    have hms34_2 := NB312_314.out
    have hms34_3 := NB312_327.out
    have hs35 : w33.cell? ⟨gb312, 1, none⟩ = some (.int .i64 t325) := (kcl BK312.out 1).trans rfl
    have hfs35 := kfr BK312.out 1
    have hns35_1 := NB313_312.out
    have hns35_2 := NB314_312.out
    have hns35_3 := NB327_312.out
    have hms35_1 := NB312_313.out
    have hms35_2 := NB312_314.out
    have hms35_3 := NB312_327.out
    refine skip_ (w1 := ?_) (by rfl) rfl ?_ ?_
    rotate_left
    · go_simp
      rfl
    refine hK.out _ _ ?_
    clear hK K
    refine done_ (by kernel_rfl) ?_
    try go_wp2
    go_meet
    case rel => exact ⟨_, (t329), (t330), H', ⟨by first | omega | exact Nat.le_refl _⟩, ⟨bk_⟩, ⟨bk_⟩, ⟨bk_⟩, ⟨bk_⟩, ⟨bl_⟩⟩
  clear HC6
  try clear c1
  try clear c2
  try clear p2
  try clear c4
  try clear c7
  try clear c10
  try clear c11
  try clear c22
  try clear c23
  try clear c24
  try clear c27
  try clear c27b0
  try clear c27b1
  try clear c29
  try clear hcz12
  try clear hcz14
  try clear hcz16
  try clear hcz18
  try clear hcz20
  try clear hcz25
  try clear hcz26
  try clear hcz12
  try clear hcz14
  try clear hcz16
  try clear hcz18
  try clear hcz20
  try clear hcz25
  try clear hcz26
  obtain ⟨kq, x313000_5, x313001_5, HA, HJ5, BK312, BK313, BK314, BK327, HB⟩ := hcut
  cases kq with
  | zero => exact absurd HA.out (by simp [armoireref12_Read.j0])
  | succ kj5 =>
    have H := HA.out
    clear HA
    simp only [armoireref12_Read.j0] at H
    by_cases c36 : x313001_5 = 0
    rotate_left
    · rw [if_neg c36] at H
      have c36b0 : (x313001_5 == 0) = false := beq_eq_false_iff_ne.mpr c36
      have c36b1 : (x313001_5 != 0) = true := bne_iff_ne.mpr c36
      simp only [Option.some.injEq, Prod.mk.injEq] at H
      obtain ⟨rfl, rfl, rfl, rfl, rfl, rfl⟩ := H
      have hnb48 := NB312_313.out
      have hnc48 := NB313_312.out
      have hnb49 := NB312_314.out
      have hnc49 := NB314_312.out
      have hnb50 := NB312_327.out
      have hnc50 := NB327_312.out
      have hcz51 := bc2 BK312.out
      have hnb52 := NB313_314.out
      have hnc52 := NB314_313.out
      have hnb53 := NB313_327.out
      have hnc53 := NB327_313.out
      have hcz54 := bc2 BK313.out
      have hnb55 := NB314_327.out
      have hnc55 := NB327_314.out
      have hcz56 := bc4 BK314.out
      go_wp2
      refine bodyPost_ret (results_cc rfl _ _ gb313 gb314 88 34 #[.string x313000_5, .int .i64 x313001_5] #[.int .i64 0, .string (⟨#[]⟩ : ByteArray), .string (⟨#[]⟩ : ByteArray), .int .i64 0] (0, 0) (0, 0) _ _ rfl bk_ Try.underlying88 rfl (by kernel_rfl) rfl bk_ Try.underlying34 rfl (by kernel_rfl)) rfl ?_
      exact ⟨er_, bl_⟩
    rw [if_pos c36] at H
    have c36b0 : (x313001_5 == 0) = true := beq_iff_eq.mpr c36
    have c36b1 : (x313001_5 != 0) = false := bne_eq_false_iff_eq.mpr c36
    clear c36
    simp only [Option.some.injEq, Prod.mk.injEq] at H
    obtain ⟨rfl, rfl, rfl, rfl, rfl, rfl⟩ := H
    have hnb37 := NB312_313.out
    have hnc37 := NB313_312.out
    have hnb38 := NB312_314.out
    have hnc38 := NB314_312.out
    have hnb39 := NB312_327.out
    have hnc39 := NB327_312.out
    have hcz40 := bc2 BK312.out
    try go_wp2
    have n0_ := Aside0.mk (kdw BK312.out)
    have n1_ := Aside0.mk (kdw BK313.out)
    have n2_ := Aside0.mk (kdw BK314.out)
    have n3_ := Aside0.mk (kdw BK327.out)
    have n4_ := Aside0.mk (bd1 HB.out)
    clear BK312
    clear BK313
    clear BK314
    clear BK327
    clear HB
    have BK312 := n0_
    have BK313 := n1_
    have BK314 := n2_
    have BK327 := n3_
    have HB := n4_
    clear n0_ n1_ n2_ n3_ n4_
    refine start_ (n := 4) (S := fun w' => w'.cell? ⟨gb312, 0, none⟩ = some (.string x313000_5) ∧ w'.cell? ⟨gb312, 1, none⟩ = some (.int .i64 x313001_5) ∧ w'.cell? ⟨gb327, 0, none⟩ = some (.int .i64 t317) ∧ w'.cell? ⟨gb327, 1, none⟩ = some (.string t320) ∧ w'.cell? ⟨gb327, 2, none⟩ = some (.string t323) ∧ w'.cell? ⟨gb327, 3, none⟩ = some (.int .i64 t326)) (ds := []) #[false,false,false,false] (by kernel_rfl) rfl rfl ⟨(kcl BK312.out 0).trans rfl, (kcl BK312.out 1).trans rfl, (kcl BK327.out 0).trans rfl, (kcl BK327.out 1).trans rfl, (kcl BK327.out 2).trans rfl, (kcl BK327.out 3).trans rfl⟩ (fun hHeld => ?_)
    generalize wc.drew = w41 at BK312 BK313 BK314 BK327 HB hHeld ⊢
    refine take_ (i := 0) (N := some 46) (v := ?_) (a' := ?_) #[true,false,false,false] rfl rfl (by kernel_rfl) (fun _ _ _ h => h) (Or.inl ⟨by rfl, ?_⟩) hHeld ?_ ?_
    rotate_left
    · rintro w' ⟨s0, s1, s2, s3, s4, s5⟩
      go_simp
      with_reducible rfl
    rotate_left; (simp only [Act.put, List.setIfInBounds_toArray, List.set_cons_zero, List.set_cons_succ, i64_w, i32_w]; rfl)
    refine take_ (i := 1) (N := some 47) (v := ?_) (a' := ?_) #[true,true,false,false] rfl rfl (by kernel_rfl) (fun _ _ _ h => h) (Or.inl ⟨by rfl, ?_⟩) hHeld ?_ ?_
    rotate_left
    · rintro w' ⟨s0, s1, s2, s3, s4, s5⟩
      go_simp
      with_reducible rfl
    rotate_left; (simp only [Act.put, List.setIfInBounds_toArray, List.set_cons_zero, List.set_cons_succ, i64_w, i32_w]; rfl)
    refine one_ (i := 2) (N := none) #[true,true,true,false] rfl rfl (by kernel_rfl) (by decide) (fun K hK => ?_)
    have hs42 : w41.cell? ⟨gb313, 0, none⟩ = some (.string (⟨#[]⟩ : ByteArray)) := (kcl BK313.out 0).trans rfl
    have hfs42 := kfr BK313.out 0
    have hns42_0 := NB312_313.out
    have hns42_2 := NB314_313.out
    have hns42_3 := NB327_313.out
    have hms42_0 := NB313_312.out
    have hms42_2 := NB313_314.out
    have hms42_3 := NB313_327.out
    have hs43 : w41.cell? ⟨gb313, 1, none⟩ = some (.int .i64 0) := (kcl BK313.out 1).trans rfl
    have hfs43 := kfr BK313.out 1
    have hns43_0 := NB312_313.out
    have hns43_2 := NB314_313.out
    have hns43_3 := NB327_313.out
    have hms43_0 := NB313_312.out
    have hms43_2 := NB313_314.out
    have hms43_3 := NB313_327.out
    refine skip_ (w1 := ?_) (by rfl) rfl ?_ ?_
    rotate_left
    · go_simp
      rfl
    refine hK.out _ _ ⟨((cell_far (p := ⟨gb313, _, none⟩) NB312_313.out _).trans (((cell_far (p := ⟨gb313, _, none⟩) NB312_313.out _).trans (hHeld.1)))), ((cell_far (p := ⟨gb313, _, none⟩) NB312_313.out _).trans (((cell_far (p := ⟨gb313, _, none⟩) NB312_313.out _).trans (hHeld.2.1)))), ((cell_far (p := ⟨gb313, _, none⟩) NB327_313.out _).trans (((cell_far (p := ⟨gb313, _, none⟩) NB327_313.out _).trans (hHeld.2.2.1)))), ((cell_far (p := ⟨gb313, _, none⟩) NB327_313.out _).trans (((cell_far (p := ⟨gb313, _, none⟩) NB327_313.out _).trans (hHeld.2.2.2.1)))), ((cell_far (p := ⟨gb313, _, none⟩) NB327_313.out _).trans (((cell_far (p := ⟨gb313, _, none⟩) NB327_313.out _).trans (hHeld.2.2.2.2.1)))), ((cell_far (p := ⟨gb313, _, none⟩) NB327_313.out _).trans (((cell_far (p := ⟨gb313, _, none⟩) NB327_313.out _).trans (hHeld.2.2.2.2.2))))⟩ (fun hHeld => ?_)
    clear hK K
    refine one_ (i := 3) (N := none) #[true,true,true,true] rfl rfl (by kernel_rfl) (by decide) (fun K hK => ?_)
    have hs44 : w41.cell? ⟨gb314, 0, none⟩ = some (.int .i64 0) := (kcl BK314.out 0).trans rfl
    have hfs44 := kfr BK314.out 0
    have hns44_0 := NB312_314.out
    have hns44_1 := NB313_314.out
    have hns44_3 := NB327_314.out
    have hms44_0 := NB314_312.out
    have hms44_1 := NB314_313.out
    have hms44_3 := NB314_327.out
    have hs45 : w41.cell? ⟨gb314, 1, none⟩ = some (.string (⟨#[]⟩ : ByteArray)) := (kcl BK314.out 1).trans rfl
    have hfs45 := kfr BK314.out 1
    have hns45_0 := NB312_314.out
    have hns45_1 := NB313_314.out
    have hns45_3 := NB327_314.out
    have hms45_0 := NB314_312.out
    have hms45_1 := NB314_313.out
    have hms45_3 := NB314_327.out
    have hs46 : w41.cell? ⟨gb314, 2, none⟩ = some (.string (⟨#[]⟩ : ByteArray)) := (kcl BK314.out 2).trans rfl
    have hfs46 := kfr BK314.out 2
    have hns46_0 := NB312_314.out
    have hns46_1 := NB313_314.out
    have hns46_3 := NB327_314.out
    have hms46_0 := NB314_312.out
    have hms46_1 := NB314_313.out
    have hms46_3 := NB314_327.out
    have hs47 : w41.cell? ⟨gb314, 3, none⟩ = some (.int .i64 0) := (kcl BK314.out 3).trans rfl
    have hfs47 := kfr BK314.out 3
    have hns47_0 := NB312_314.out
    have hns47_1 := NB313_314.out
    have hns47_3 := NB327_314.out
    have hms47_0 := NB314_312.out
    have hms47_1 := NB314_313.out
    have hms47_3 := NB314_327.out
    refine skip_ (w1 := ?_) (by rfl) rfl ?_ ?_
    rotate_left
    · go_simp
      rfl
    refine hK.out _ _ ⟨((cell_far (p := ⟨gb314, _, none⟩) NB312_314.out _).trans (((cell_far (p := ⟨gb314, _, none⟩) NB312_314.out _).trans (((cell_far (p := ⟨gb314, _, none⟩) NB312_314.out _).trans (((cell_far (p := ⟨gb314, _, none⟩) NB312_314.out _).trans (hHeld.1)))))))), ((cell_far (p := ⟨gb314, _, none⟩) NB312_314.out _).trans (((cell_far (p := ⟨gb314, _, none⟩) NB312_314.out _).trans (((cell_far (p := ⟨gb314, _, none⟩) NB312_314.out _).trans (((cell_far (p := ⟨gb314, _, none⟩) NB312_314.out _).trans (hHeld.2.1)))))))), ((cell_far (p := ⟨gb314, _, none⟩) NB327_314.out _).trans (((cell_far (p := ⟨gb314, _, none⟩) NB327_314.out _).trans (((cell_far (p := ⟨gb314, _, none⟩) NB327_314.out _).trans (((cell_far (p := ⟨gb314, _, none⟩) NB327_314.out _).trans (hHeld.2.2.1)))))))), ((cell_far (p := ⟨gb314, _, none⟩) NB327_314.out _).trans (((cell_far (p := ⟨gb314, _, none⟩) NB327_314.out _).trans (((cell_far (p := ⟨gb314, _, none⟩) NB327_314.out _).trans (((cell_far (p := ⟨gb314, _, none⟩) NB327_314.out _).trans (hHeld.2.2.2.1)))))))), ((cell_far (p := ⟨gb314, _, none⟩) NB327_314.out _).trans (((cell_far (p := ⟨gb314, _, none⟩) NB327_314.out _).trans (((cell_far (p := ⟨gb314, _, none⟩) NB327_314.out _).trans (((cell_far (p := ⟨gb314, _, none⟩) NB327_314.out _).trans (hHeld.2.2.2.2.1)))))))), ((cell_far (p := ⟨gb314, _, none⟩) NB327_314.out _).trans (((cell_far (p := ⟨gb314, _, none⟩) NB327_314.out _).trans (((cell_far (p := ⟨gb314, _, none⟩) NB327_314.out _).trans (((cell_far (p := ⟨gb314, _, none⟩) NB327_314.out _).trans (hHeld.2.2.2.2.2))))))))⟩ (fun hHeld => ?_)
    clear hK K
    refine done_ (by kernel_rfl) ?_
    try go_wp2
    refine bodyPost_ret (results_cc rfl _ _ gb313 gb314 88 34 #[.string x313000_5, .int .i64 x313001_5] #[.int .i64 t317, .string t320, .string t323, .int .i64 t326] (0, 0) (0, 0) _ _ rfl bk_ Try.underlying88 rfl (by kernel_rfl) rfl bk_ Try.underlying34 rfl (by kernel_rfl)) rfl ?_
    exact ⟨er_, bl_⟩
def armoireref02_End.f (a0_0 : ByteArray) (a0_1 : Int) : Option (Int) := if a0_1 = 0 then (if a0_0.toList = ([] : List UInt8) then (some a0_1) else (some 2)) else (some a0_1)
set_option maxHeartbeats 2000000 in
set_option maxRecDepth 100000 in
theorem armoireref02_End.calls (a0_0 : ByteArray) (a0_1 : Int) (r : Int) (w : World) (h : armoireref02_End.f a0_0 a0_1 = some r) :
    Calls Try.prog 50 #[.agg #[.string a0_0, .int .i64 a0_1]] w fun e w' => e = .returned (.int .i64 r) ∧ Below w.heap.size w w' := by
  have hu88 := Try.underlying88
  have HB := Aside0.mk (Below.refl w.heap.size w)
  have H : (if a0_1 = 0 then (if a0_0.toList = ([] : List UInt8) then (some a0_1) else (some 2)) else (some a0_1)) = some r := h
  clear h
  by_cases c2 : a0_1 = 0
  rotate_left
  · rw [if_neg c2] at H
    have c2b0 : (a0_1 == 0) = false := beq_eq_false_iff_ne.mpr c2
    have c2b1 : (a0_1 != 0) = true := bne_iff_ne.mpr c2
    obtain rfl := Option.some.inj H
    go_enter Try.func50, Try.ntmps50
    go_wp2_with (first | ((with_reducible refine gds (N := 1) rfl ?_); refine bev ?hg (N := 1) ?hd (cs := #[.string a0_0, .int .i64 a0_1]) (t := 88) ?hr ?_; (case hd => rfl); (case hg => rfl); (case hr => first | (go_simp; done) | (go_simp; rfl)); intro gb331 hg w8 hbox hb; have n0_ := Aside0.mk (bsp bl_ hb); have n1_ := Aside0.mk (hbox); have n2_ := Aside0.mk ((by rw [hg]; exact bsz bl_ : w.heap.size ≤ gb331)); have n3_ := Aside0.mk ((by rw [hg]; exact bsz bl_ : w.heap.size ≤ gb331)); clear HB; have HB := n0_; have BK331 := n1_; have GW331 := n2_; have GE331 := n3_; clear n0_ n1_ n2_ n3_; clear hb hbox hg; have hcz9 := bc2 BK331.out))
    go_ret
    exact ⟨er_, bl_⟩
  rw [if_pos c2] at H
  have c2b0 : (a0_1 == 0) = true := beq_iff_eq.mpr c2
  have c2b1 : (a0_1 != 0) = false := bne_eq_false_iff_eq.mpr c2
  clear c2
  have HS3 := Aside0.mk H
  clear H
  go_enter Try.func50, Try.ntmps50
  go_upto_if 10 with (first | ((with_reducible refine gds (N := 1) rfl ?_); refine bev ?hg (N := 1) ?hd (cs := #[.string a0_0, .int .i64 a0_1]) (t := 88) ?hr ?_; (case hd => rfl); (case hg => rfl); (case hr => first | (go_simp; done) | (go_simp; rfl)); intro gb331 hg w4 hbox hb; have n0_ := Aside0.mk (bsp bl_ hb); have n1_ := Aside0.mk (hbox); have n2_ := Aside0.mk ((by rw [hg]; exact bsz bl_ : w.heap.size ≤ gb331)); have n3_ := Aside0.mk ((by rw [hg]; exact bsz bl_ : w.heap.size ≤ gb331)); clear HB; have HB := n0_; have BK331 := n1_; have GW331 := n2_; have GE331 := n3_; clear n0_ n1_ n2_ n3_; clear hb hbox hg; have hcz5 := bc2 BK331.out))
  (try simp only [Act.put, List.setIfInBounds_toArray, List.set_cons_zero, List.set_cons_succ])
  have H := HS3.out
  clear HS3
  by_cases c6 : a0_0.toList = ([] : List UInt8)
  rotate_left
  · rw [if_neg c6] at H
    have c6b0 : (a0_0.toList == ([] : List UInt8)) = false := beq_eq_false_iff_ne.mpr c6
    have c6b1 : (a0_0.toList != ([] : List UInt8)) = true := bne_iff_ne.mpr c6
    (try (have c6b2 : a0_0.toList.isEmpty = false := by simpa using c6))
    (first | rw [c6b0] | rw [c6b1] | (simp only [i64_w, i32_w]; rw [c6b0]) | (simp only [i64_w, i32_w]; rw [c6b1]) | rw [c6b2] | skip)
    obtain rfl := Option.some.inj H
    go_wp2
    go_ret
    exact ⟨er_, bl_⟩
  rw [if_pos c6] at H
  have c6b0 : (a0_0.toList == ([] : List UInt8)) = true := beq_iff_eq.mpr c6
  have c6b1 : (a0_0.toList != ([] : List UInt8)) = false := bne_eq_false_iff_eq.mpr c6
  (try (have c6b2 : a0_0.toList.isEmpty = true := by simpa using c6))
  clear c6
  (first | rw [c6b0] | rw [c6b1] | (simp only [i64_w, i32_w]; rw [c6b0]) | (simp only [i64_w, i32_w]; rw [c6b1]) | rw [c6b2] | skip)
  obtain rfl := Option.some.inj H
  have hcz7 := bc2 BK331.out
  go_wp2
  go_ret
  exact ⟨er_, bl_⟩
end Go.Proofs.Ytkkkmbgflflcnaa.PS

