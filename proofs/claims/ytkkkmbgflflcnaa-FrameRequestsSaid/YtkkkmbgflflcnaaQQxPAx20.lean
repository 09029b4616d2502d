import Derived.Test.YtkkkmbgflflcnaaQQxPAx2
import Derived.Test.YtkkkmbgflflcnaaQQxPAx8
import Derived.Test.YtkkkmbgflflcnaaQQxPAx11
import Derived.Test.YtkkkmbgflflcnaaQQxPAx13
import Derived.Test.YtkkkmbgflflcnaaQQxPAx14
import Derived.Test.YtkkkmbgflflcnaaQQxPAx3
import Derived.Test.YtkkkmbgflflcnaaQQxPAx17
import Derived.Test.YtkkkmbgflflcnaaQQxPAx18
import Derived.Test.YtkkkmbgflflcnaaQQxPAx19
namespace Go.Proofs.Ytkkkmbgflflcnaa.PA
open Go.Proofs.Ytkkkmbgflflcnaa.PL
open Go.RowKit Go.Proofs.YtkkkmbgflflcnaaW.PrintWords Go.Proofs.YtkkkmbgflflcnaaW.PrintLast Go.Proofs.YtkkkmbgflflcnaaW.PrintMore
attribute [local go_sem] max2_int min2_int max_two min_two max_three min_three max_four min_four
set_option linter.unusedVariables false
set_option linter.unusedSimpArgs false
attribute [local go_sem high] eqA26
mutual
def armoirelaw24_FrameRequests.j0 : Nat → Bool → Int → Int → ByteArray → Int → ByteArray → ByteArray → Int → Option (Bool)
  | 0, _, _, _, _, _, _, _, _ => none
  | k + 1, x1, x329000, x329001, x329002, x329003, x329004, x329005, x329006 => (armoirelaw24_awake.f k).bind fun t339 => (if t339 = true then ((frame_Request_Check.f k x329000 x329001 x329002 x329003 x329004 x329005 x329006).bind fun t340 => ((armoirelaw24_Told.f x329000 x329001 x329002 x329003 x329004 x329005 x329006).bind fun bt341 => ((armoireref24_Check.f k bt341.1 bt341.2.1 bt341.2.2.1 bt341.2.2.2.1 bt341.2.2.2.2.1 bt341.2.2.2.2.2.1 bt341.2.2.2.2.2.2).bind fun t348 => (if t340 = t348 then (if x1 = true then ((frame_Request_Check.f k x329000 x329001 x329002 x329003 x329004 x329005 x329006).bind fun t349 => (armoirelaw24_FrameRequests.j1 k (t349 != 0) x329000 x329001 x329002 x329003 x329004 x329005 x329006)) else (armoirelaw24_FrameRequests.j1 k false x329000 x329001 x329002 x329003 x329004 x329005 x329006)) else (armoirelaw24_FrameRequests.j1 k true x329000 x329001 x329002 x329003 x329004 x329005 x329006))))) else (armoirelaw24_FrameRequests.j1 k true x329000 x329001 x329002 x329003 x329004 x329005 x329006))
def armoirelaw24_FrameRequests.j1 : Nat → Bool → Int → Int → ByteArray → Int → ByteArray → ByteArray → Int → Option (Bool)
  | 0, _, _, _, _, _, _, _, _ => none
  | k + 1, x43, x329000, x329001, x329002, x329003, x329004, x329005, x329006 => if x43 = true then (some false) else ((frame_Request_Check.f k x329000 x329001 x329002 x329003 x329004 x329005 x329006).bind fun t350 => (if t350 = 0 then ((frame_Request_Text.f k x329000 x329001 x329002 x329003 x329004 x329005 x329006).bind fun t351 => ((frame_ParseRequest.f k t351).bind fun bt352 => ((frame_Request_Text.f k x329000 x329001 x329002 x329003 x329004 x329005 x329006).bind fun t361 => ((armoirelaw24_Told.f x329000 x329001 x329002 x329003 x329004 x329005 x329006).bind fun bt362 => ((armoireref24_Text.f k bt362.1 bt362.2.1 bt362.2.2.1 bt362.2.2.2.1 bt362.2.2.2.2.1 bt362.2.2.2.2.2.1 bt362.2.2.2.2.2.2).bind fun t369 => (if t361.toList = t369.toList then (if (bt352.1 == x329000 && (bt352.2.1 == x329001 && (bt352.2.2.1.toList == x329002.toList && ((bt352.2.2.2.1 == x329003 && (bt352.2.2.2.2.1.toList == x329004.toList && (bt352.2.2.2.2.2.1.toList == x329005.toList && (bt352.2.2.2.2.2.2.1 == x329006)))))))) = true then (armoirelaw24_FrameRequests.j2 k (bt352.2.2.2.2.2.2.2 == 0)) else (armoirelaw24_FrameRequests.j2 k false)) else (armoirelaw24_FrameRequests.j2 k false))))))) else (some true)))
def armoirelaw24_FrameRequests.j2 : Nat → Bool → Option (Bool)
  | 0, _ => none
  | k + 1, x4 => some x4
end
def armoirelaw24_FrameRequests.f (k : Nat) (a0_0 : Int) (a0_1 : Int) (a0_2 : ByteArray) (a0_3 : Int) (a0_4 : ByteArray) (a0_5 : ByteArray) (a0_6 : Int) (a1 : Bool) : Option (Bool) := (armoirelaw01_Cut.f a0_2 20).bind fun t329 => ((armoirelaw01_Cut.f a0_4 28).bind fun t330 => ((armoirelaw01_Cut.f a0_5 28).bind fun t331 => (if a1 = true then ((armoirelaw24_Tidy.f k a0_0 a0_1 t329 a0_3 t330 t331 a0_6).bind fun bt332 => (armoirelaw24_FrameRequests.j0 k a1 bt332.1 bt332.2.1 bt332.2.2.1 bt332.2.2.2.1 bt332.2.2.2.2.1 bt332.2.2.2.2.2.1 bt332.2.2.2.2.2.2)) else (armoirelaw24_FrameRequests.j0 k a1 a0_0 a0_1 t329 a0_3 t330 t331 a0_6))))
def armoirelaw24_FrameRequests.T1 : Bool × List (List Nat × List Nat) := (true, [([], []), ([0], [0]), ([1], [1]), ([], []), ([3], [3]), ([4], [4]), ([5, 2], [5]), ([], []), ([7], [7]), ([8], [8]), ([9, 6], [9]), ([0, 1, 2, 3, 4, 5, 7, 8, 9], []), ([11, 2, 10, 0, 1, 2, 3, 4, 5, 7, 8, 9], [2, 11]), ([0, 1, 2, 3, 4, 5, 6, 7, 8, 9, 11, 12], []), ([13, 0, 1, 2, 3, 4, 5, 6, 7, 8, 9, 11, 12], [13]), ([14, 6, 12, 0, 1, 2, 3, 4, 5, 6, 7, 8, 9, 11, 12], [6, 14]), ([0, 1, 2, 3, 4, 5, 6, 7, 8, 9, 10, 11, 12, 13, 14, 15], []), ([16, 0, 1, 2, 3, 4, 5, 6, 7, 8, 9, 10, 11, 12, 13, 14, 15], [16]), ([17, 10, 15, 0, 1, 2, 3, 4, 5, 6, 7, 8, 9, 10, 11, 12, 13, 14, 15], [10, 17])])
def armoirelaw24_FrameRequests.B1 : List Nat := [0, 1, 3, 0, 8, 24, 63, 0, 128, 384, 1023, 959, 4095, 8191, 16383, 32767, 65535, 131071, 262143]
theorem armoirelaw24_FrameRequests.tab1 : rtab .any (opsOf Try.f3 1) = armoirelaw24_FrameRequests.T1 := by kernel_rfl
theorem armoirelaw24_FrameRequests.bits1 : waitsOk armoirelaw24_FrameRequests.T1.2 armoirelaw24_FrameRequests.B1 = true := by kernel_rfl
def armoirelaw24_FrameRequests.T4 : Bool × List (List Nat × List Nat) := (true, [([], []), ([0], [0]), ([1, 0], [1]), ([2], [2]), ([3, 2, 2], [2, 3]), ([2], [2]), ([5, 4, 2], [2, 5]), ([6, 6, 2], [2, 6]), ([4, 7, 2], [2, 4, 7]), ([2, 8], [2, 8]), ([9, 7], [9]), ([10], [10]), ([11, 10, 10], [10, 11]), ([12], [12]), ([13, 12, 12], [12, 13]), ([14, 12], [12, 14]), ([12, 15, 10], [10, 12, 15]), ([10, 16], [10, 16])])
def armoirelaw24_FrameRequests.B4 : List Nat := [0, 1, 3, 7, 15, 7, 63, 127, 255, 511, 1023, 2047, 4095, 8191, 16383, 32767, 65535, 131071]
theorem armoirelaw24_FrameRequests.tab4 : rtab .any (opsOf Try.f3 4) = armoirelaw24_FrameRequests.T4 := by kernel_rfl
theorem armoirelaw24_FrameRequests.bits4 : waitsOk armoirelaw24_FrameRequests.T4.2 armoirelaw24_FrameRequests.B4 = true := by kernel_rfl
def armoirelaw24_FrameRequests.T9 : Bool × List (List Nat × List Nat) := (true, [([], []), ([0], [0]), ([], []), ([2, 1], [2]), ([3, 3], [3]), ([1, 4], [1, 4]), ([5, 4], [5]), ([6], [6]), ([6], [6]), ([7, 8, 6], [6, 7, 8]), ([6, 9], [6, 9]), ([10, 6], [10]), ([11], [11]), ([12, 11], [11, 12]), ([11, 13], [11, 13]), ([14, 11, 0, 1, 2, 3, 4, 5, 6, 7, 8, 9, 10, 11, 12, 13, 14], [14])])
def armoirelaw24_FrameRequests.B9 : List Nat := [0, 1, 0, 7, 15, 31, 63, 127, 127, 511, 1023, 2047, 4095, 8191, 16383, 32767]
theorem armoirelaw24_FrameRequests.tab9 : rtab .any (opsOf Try.f3 9) = armoirelaw24_FrameRequests.T9 := by kernel_rfl
theorem armoirelaw24_FrameRequests.bits9 : waitsOk armoirelaw24_FrameRequests.T9.2 armoirelaw24_FrameRequests.B9 = true := by kernel_rfl
set_option maxHeartbeats 2000000 in
set_option maxRecDepth 100000 in
theorem armoirelaw24_FrameRequests.calls (k : Nat) (a0_0 : Int) (a0_1 : Int) (a0_2 : ByteArray) (a0_3 : Int) (a0_4 : ByteArray) (a0_5 : ByteArray) (a0_6 : Int) (a1 : Bool) (r : Bool) (w : World) (h : armoirelaw24_FrameRequests.f k a0_0 a0_1 a0_2 a0_3 a0_4 a0_5 a0_6 a1 = some r) :
    Calls Try.prog 3 #[.agg #[.int .i64 a0_0, .int .i64 a0_1, .string a0_2, .int .i64 a0_3, .string a0_4, .string a0_5, .int .i64 a0_6], .bool a1] w fun e w' => e = .returned (.bool r) ∧ Below w.heap.size w w' := by
  have hu26 := Try.underlying26
  have HB := Aside0.mk (Below.refl w.heap.size w)
  have H : ((armoirelaw01_Cut.f a0_2 20).bind fun t329 => ((armoirelaw01_Cut.f a0_4 28).bind fun t330 => ((armoirelaw01_Cut.f a0_5 28).bind fun t331 => (if a1 = true then ((armoirelaw24_Tidy.f k a0_0 a0_1 t329 a0_3 t330 t331 a0_6).bind fun bt332 => (armoirelaw24_FrameRequests.j0 k a1 bt332.1 bt332.2.1 bt332.2.2.1 bt332.2.2.2.1 bt332.2.2.2.2.1 bt332.2.2.2.2.2.1 bt332.2.2.2.2.2.2)) else (armoirelaw24_FrameRequests.j0 k a1 a0_0 a0_1 t329 a0_3 t330 t331 a0_6))))) = some r := h
  clear h
  replace H := Option.bind_eq_some_iff.mp H
  obtain ⟨t329, A30, H⟩ := H
  replace H : ((armoirelaw01_Cut.f a0_4 28).bind fun t330 => ((armoirelaw01_Cut.f a0_5 28).bind fun t331 => (if a1 = true then ((armoirelaw24_Tidy.f k a0_0 a0_1 t329 a0_3 t330 t331 a0_6).bind fun bt332 => (armoirelaw24_FrameRequests.j0 k a1 bt332.1 bt332.2.1 bt332.2.2.1 bt332.2.2.2.1 bt332.2.2.2.2.1 bt332.2.2.2.2.2.1 bt332.2.2.2.2.2.2)) else (armoirelaw24_FrameRequests.j0 k a1 a0_0 a0_1 t329 a0_3 t330 t331 a0_6)))) = some r := H
  have A3 := Aside0.mk A30
  clear A30
  replace H := Option.bind_eq_some_iff.mp H
  obtain ⟨t330, A40, H⟩ := H
  replace H : ((armoirelaw01_Cut.f a0_5 28).bind fun t331 => (if a1 = true then ((armoirelaw24_Tidy.f k a0_0 a0_1 t329 a0_3 t330 t331 a0_6).bind fun bt332 => (armoirelaw24_FrameRequests.j0 k a1 bt332.1 bt332.2.1 bt332.2.2.1 bt332.2.2.2.1 bt332.2.2.2.2.1 bt332.2.2.2.2.2.1 bt332.2.2.2.2.2.2)) else (armoirelaw24_FrameRequests.j0 k a1 a0_0 a0_1 t329 a0_3 t330 t331 a0_6))) = some r := H
  have A4 := Aside0.mk A40
  clear A40
  replace H := Option.bind_eq_some_iff.mp H
  obtain ⟨t331, A50, H⟩ := H
  replace H : (if a1 = true then ((armoirelaw24_Tidy.f k a0_0 a0_1 t329 a0_3 t330 t331 a0_6).bind fun bt332 => (armoirelaw24_FrameRequests.j0 k a1 bt332.1 bt332.2.1 bt332.2.2.1 bt332.2.2.2.1 bt332.2.2.2.2.1 bt332.2.2.2.2.2.1 bt332.2.2.2.2.2.2)) else (armoirelaw24_FrameRequests.j0 k a1 a0_0 a0_1 t329 a0_3 t330 t331 a0_6)) = some r := H
  have A5 := Aside0.mk A50
  clear A50
  have HC6 := Aside0.mk H
  clear H
  go_enter Try.func3, Try.ntmps3
  try go_wp2_with (first | ((with_reducible refine gds (N := 2) rfl ?_); refine bev ?hg (N := 2) ?hd (cs := #[.int .i64 a0_0, .int .i64 a0_1, .string a0_2, .int .i64 a0_3, .string a0_4, .string a0_5, .int .i64 a0_6]) (t := 26) ?hr ?_; (case hd => rfl); (case hg => rfl); (case hr => first | (go_simp; done) | (go_simp; rfl)); intro gb328 hg w7 hbox hb; have n0_ := Aside0.mk (bsp (by repeat (first | (with_reducible first | exact HB.out | apply bal | apply bdn | apply bd1) | exact HB.out)) hb); have n1_ := Aside0.mk (hbox); have n2_ := Aside0.mk ((by rw [hg]; exact (bsz (by repeat (first | (with_reducible first | exact HB.out | apply bal | apply bdn | apply bd1) | exact HB.out))) : w.heap.size ≤ gb328)); have n3_ := Aside0.mk ((by rw [hg]; exact (bsz (by repeat (first | (with_reducible first | exact HB.out | apply bal | apply bdn | apply bd1) | exact HB.out))) : w.heap.size ≤ gb328)); clear HB; have HB := n0_; have BK328 := n1_; have GW328 := n2_; have GE328 := n3_; clear n0_ n1_ n2_ n3_; clear hb hbox hg))
  have n0_ := Aside0.mk (kdw BK328.out)
  have n1_ := Aside0.mk (bd1 HB.out)
  clear BK328
  clear HB
  have BK328 := n0_
  have HB := n1_
  clear n0_ n1_
  refine start_ (n := 19) (S := fun w' => w'.cell? ⟨gb328, 0, none⟩ = some (.int .i64 a0_0) ∧ w'.cell? ⟨gb328, 1, none⟩ = some (.int .i64 a0_1) ∧ w'.cell? ⟨gb328, 2, none⟩ = some (.string a0_2) ∧ w'.cell? ⟨gb328, 3, none⟩ = some (.int .i64 a0_3) ∧ w'.cell? ⟨gb328, 4, none⟩ = some (.string a0_4) ∧ w'.cell? ⟨gb328, 5, none⟩ = some (.string a0_5) ∧ w'.cell? ⟨gb328, 6, none⟩ = some (.int .i64 a0_6)) (ds := [12, 15, 18]) #[false,false,false,false,false,false,false,false,false,false,false,false,false,false,false,false,false,false,false] (by kernel_rfl) rfl rfl ⟨(kcl BK328.out 0).trans rfl, (kcl BK328.out 1).trans rfl, (kcl BK328.out 2).trans rfl, (kcl BK328.out 3).trans rfl, (kcl BK328.out 4).trans rfl, (kcl BK328.out 5).trans rfl, (kcl BK328.out 6).trans rfl⟩ (fun hHeld => ?_); refine with_tabW armoirelaw24_FrameRequests.tab1 armoirelaw24_FrameRequests.bits1 (fun HT_ HW_ => ?_)
  generalize w7.drew = w8 at BK328 HB hHeld ⊢
  refine pure_ (i := 0) (N := some 7) (v := ?_) (a' := ?_) (bA 19 1) rfl rfl (any_of HT_.out (by kernel_rfl)) (fun _ _ _ h => h) (Or.inl ⟨by rfl, ?_⟩) ?_ ?_
  rotate_left; (intro w'; go_simp; with_reducible rfl); rotate_left; (simp only [Act.put, List.setIfInBounds_toArray, List.set_cons_zero, List.set_cons_succ, i64_w, i32_w]; rfl)
  refine pure_ (i := 3) (N := some 10) (v := ?_) (a' := ?_) (bA 19 9) rfl rfl (any_of HT_.out (by kernel_rfl)) (fun _ _ _ h => h) (Or.inl ⟨by rfl, ?_⟩) ?_ ?_
  rotate_left; (intro w'; go_simp; with_reducible rfl); rotate_left; (simp only [Act.put, List.setIfInBounds_toArray, List.set_cons_zero, List.set_cons_succ, i64_w, i32_w]; rfl)
  refine pure_ (i := 4) (N := some 11) (v := ?_) (a' := ?_) (bA 19 25) rfl rfl (any_of HT_.out (by kernel_rfl)) (fun _ _ _ h => h) (Or.inl ⟨by rfl, ?_⟩) ?_ ?_
  rotate_left; (intro w'; go_simp; with_reducible rfl); rotate_left; (simp only [Act.put, List.setIfInBounds_toArray, List.set_cons_zero, List.set_cons_succ, i64_w, i32_w]; rfl)
  refine pure_ (i := 7) (N := some 14) (v := ?_) (a' := ?_) (bA 19 153) rfl rfl (any_of HT_.out (by kernel_rfl)) (fun _ _ _ h => h) (Or.inl ⟨by rfl, ?_⟩) ?_ ?_
  rotate_left; (intro w'; go_simp; with_reducible rfl); rotate_left; (simp only [Act.put, List.setIfInBounds_toArray, List.set_cons_zero, List.set_cons_succ, i64_w, i32_w]; rfl)
  refine pure_ (i := 8) (N := some 15) (v := ?_) (a' := ?_) (bA 19 409) rfl rfl (any_of HT_.out (by kernel_rfl)) (fun _ _ _ h => h) (Or.inl ⟨by rfl, ?_⟩) ?_ ?_
  rotate_left; (intro w'; go_simp; with_reducible rfl); rotate_left; (simp only [Act.put, List.setIfInBounds_toArray, List.set_cons_zero, List.set_cons_succ, i64_w, i32_w]; rfl)
  refine take_ (i := 1) (N := some 8) (v := ?_) (a' := ?_) #[true,true,false,true,true,false,false,true,true,false,false,false,false,false,false,false,false,false,false] rfl rfl (tkw HT_.out HW_.out (by kernel_rfl)) (fun _ _ _ h => h) (Or.inl ⟨by rfl, ?_⟩) hHeld ?_ ?_
  rotate_left
  · rintro w' ⟨s0, s1, s2, s3, s4, s5, s6⟩
    go_simp
    with_reducible rfl
  rotate_left; (simp only [Act.put, List.setIfInBounds_toArray, List.set_cons_zero, List.set_cons_succ, i64_w, i32_w]; rfl)
  refine take_ (i := 5) (N := some 12) (v := ?_) (a' := ?_) #[true,true,false,true,true,true,false,true,true,false,false,false,false,false,false,false,false,false,false] rfl rfl (tkw HT_.out HW_.out (by kernel_rfl)) (fun _ _ _ h => h) (Or.inl ⟨by rfl, ?_⟩) hHeld ?_ ?_
  rotate_left
  · rintro w' ⟨s0, s1, s2, s3, s4, s5, s6⟩
    go_simp
    with_reducible rfl
  rotate_left; (simp only [Act.put, List.setIfInBounds_toArray, List.set_cons_zero, List.set_cons_succ, i64_w, i32_w]; rfl)
  refine take_ (i := 9) (N := some 16) (v := ?_) (a' := ?_) #[true,true,false,true,true,true,false,true,true,true,false,false,false,false,false,false,false,false,false] rfl rfl (tkw HT_.out HW_.out (by kernel_rfl)) (fun _ _ _ h => h) (Or.inl ⟨by rfl, ?_⟩) hHeld ?_ ?_
  rotate_left
  · rintro w' ⟨s0, s1, s2, s3, s4, s5, s6⟩
    go_simp
    with_reducible rfl
  rotate_left; (simp only [Act.put, List.setIfInBounds_toArray, List.set_cons_zero, List.set_cons_succ, i64_w, i32_w]; rfl)
  refine one_ (i := 2) (N := some 9) #[true,true,true,true,true,true,false,true,true,true,false,false,false,false,false,false,false,false,false] rfl rfl (one_of HT_.out (by kernel_rfl)) (by decide) (fun K hK => ?_)
  refine goes_ Try.func7 (by kernel_rfl) rfl #[.string a0_2, .int .i64 20] (by rfl) rfl rfl (by (try simp only [List.map_toArray, List.map_cons, List.map_nil]); first | done | rfl | (simp only [List.length_drop, List.length_take]; rfl) | (simp only [Act.eval, Array.getD_eq_getD_getElem?, Option.getD_some, *]; done) | (simp only [Array.mk.injEq, List.cons.injEq, Value.int.injEq, true_and, and_true]; first | omega | (simp [IntKind.wrap, IntKind.bits, IntKind.signed]; omega))) ?_
  with_reducible refine (armoirelaw01_Cut.calls a0_2 20 t329 _ A3.out).mono ?_
  rintro e w' ⟨rfl, ⟨nd, rfl⟩⟩
  refine ⟨_, rfl, ?_⟩
  refine hK.out _ _ ⟨(kcl BK328.out 0).trans rfl, (kcl BK328.out 1).trans rfl, (kcl BK328.out 2).trans rfl, (kcl BK328.out 3).trans rfl, (kcl BK328.out 4).trans rfl, (kcl BK328.out 5).trans rfl, (kcl BK328.out 6).trans rfl⟩ (fun hHeld => ?_)
  clear hK K
  refine norm_ (a' := ?_) ?_ ?_
  rotate_left
  · show Act.put _ (some 9) _ = _
    simp only [Act.put, List.setIfInBounds_toArray, List.set_cons_zero, List.set_cons_succ, i64_w, i32_w]
    rfl
  refine pure_ (i := 11) (N := some 18) (v := ?_) (a' := ?_) (bA 19 3007) rfl rfl (any_of HT_.out (by kernel_rfl)) (fun _ _ _ h => h) (Or.inl ⟨by rfl, ?_⟩) ?_ ?_
  rotate_left; (intro w'; go_simp; with_reducible rfl); rotate_left; (simp only [Act.put, List.setIfInBounds_toArray, List.set_cons_zero, List.set_cons_succ, i64_w, i32_w]; rfl)
  refine one_ (i := 6) (N := some 13) #[true,true,true,true,true,true,true,true,true,true,false,true,false,false,false,false,false,false,false] rfl rfl (one_of HT_.out (by kernel_rfl)) (by decide) (fun K hK => ?_)
  refine goes_ Try.func7 (by kernel_rfl) rfl #[.string a0_4, .int .i64 28] (by rfl) rfl rfl (by (try simp only [List.map_toArray, List.map_cons, List.map_nil]); first | done | rfl | (simp only [List.length_drop, List.length_take]; rfl) | (simp only [Act.eval, Array.getD_eq_getD_getElem?, Option.getD_some, *]; done) | (simp only [Array.mk.injEq, List.cons.injEq, Value.int.injEq, true_and, and_true]; first | omega | (simp [IntKind.wrap, IntKind.bits, IntKind.signed]; omega))) ?_
  with_reducible refine (armoirelaw01_Cut.calls a0_4 28 t330 _ A4.out).mono ?_
  rintro e w' ⟨rfl, ⟨nd, rfl⟩⟩
  refine ⟨_, rfl, ?_⟩
  refine hK.out _ _ ⟨(kcl BK328.out 0).trans rfl, (kcl BK328.out 1).trans rfl, (kcl BK328.out 2).trans rfl, (kcl BK328.out 3).trans rfl, (kcl BK328.out 4).trans rfl, (kcl BK328.out 5).trans rfl, (kcl BK328.out 6).trans rfl⟩ (fun hHeld => ?_)
  clear hK K
  refine norm_ (a' := ?_) ?_ ?_
  rotate_left
  · show Act.put _ (some 13) _ = _
    simp only [Act.put, List.setIfInBounds_toArray, List.set_cons_zero, List.set_cons_succ, i64_w, i32_w]
    rfl
  refine one_ (i := 10) (N := some 17) #[true,true,true,true,true,true,true,true,true,true,true,true,false,false,false,false,false,false,false] rfl rfl (one_of HT_.out (by kernel_rfl)) (by decide) (fun K hK => ?_)
  refine goes_ Try.func7 (by kernel_rfl) rfl #[.string a0_5, .int .i64 28] (by rfl) rfl rfl (by (try simp only [List.map_toArray, List.map_cons, List.map_nil]); first | done | rfl | (simp only [List.length_drop, List.length_take]; rfl) | (simp only [Act.eval, Array.getD_eq_getD_getElem?, Option.getD_some, *]; done) | (simp only [Array.mk.injEq, List.cons.injEq, Value.int.injEq, true_and, and_true]; first | omega | (simp [IntKind.wrap, IntKind.bits, IntKind.signed]; omega))) ?_
  with_reducible refine (armoirelaw01_Cut.calls a0_5 28 t331 _ A5.out).mono ?_
  rintro e w' ⟨rfl, ⟨nd, rfl⟩⟩
  refine ⟨_, rfl, ?_⟩
  refine hK.out _ _ ⟨(kcl BK328.out 0).trans rfl, (kcl BK328.out 1).trans rfl, (kcl BK328.out 2).trans rfl, (kcl BK328.out 3).trans rfl, (kcl BK328.out 4).trans rfl, (kcl BK328.out 5).trans rfl, (kcl BK328.out 6).trans rfl⟩ (fun hHeld => ?_)
  clear hK K
  refine norm_ (a' := ?_) ?_ ?_
  rotate_left
  · show Act.put _ (some 17) _ = _
    simp only [Act.put, List.setIfInBounds_toArray, List.set_cons_zero, List.set_cons_succ, i64_w, i32_w]
    rfl
  refine last_ (i := 12) (N := none) #[true,true,true,true,true,true,true,true,true,true,true,true,true,false,false,false,false,false,false] rfl rfl (one_of HT_.out (by kernel_rfl)) (by decide) (fun K hK => ?_)
  have hs9 : w8.cell? ⟨gb328, 2, none⟩ = some (.string a0_2) := (kcl BK328.out 2).trans rfl
  have hfs9 := kfr BK328.out 2
  refine skip_ (w1 := ?_) (by rfl) rfl ?_ ?_
  rotate_left
  · go_simp
    rfl
  refine hK.out _ _ ?_
  clear hK K
  refine pure_ (i := 13) (N := some 19) (v := ?_) (a' := ?_) (bA 19 16383) rfl rfl (any_of HT_.out (by kernel_rfl)) (fun _ _ _ h => h) (Or.inl ⟨by rfl, ?_⟩) ?_ ?_
  rotate_left; (intro w'; go_simp; with_reducible rfl); rotate_left; (simp only [Act.put, List.setIfInBounds_toArray, List.set_cons_zero, List.set_cons_succ, i64_w, i32_w]; rfl)
  refine pure_ (i := 14) (N := some 20) (v := ?_) (a' := ?_) (bA 19 32767) rfl rfl (any_of HT_.out (by kernel_rfl)) (fun _ _ _ h => h) (Or.inl ⟨by rfl, ?_⟩) ?_ ?_
  rotate_left; (intro w'; go_simp; with_reducible rfl); rotate_left; (simp only [Act.put, List.setIfInBounds_toArray, List.set_cons_zero, List.set_cons_succ, i64_w, i32_w]; rfl)
  refine last_ (i := 15) (N := none) #[true,true,true,true,true,true,true,true,true,true,true,true,true,true,true,true,false,false,false] rfl rfl (one_of HT_.out (by kernel_rfl)) (by decide) (fun K hK => ?_)
  have hs10 : w8.cell? ⟨gb328, 4, none⟩ = some (.string a0_4) := (kcl BK328.out 4).trans rfl
  have hfs10 := kfr BK328.out 4
  refine skip_ (w1 := ?_) (by rfl) rfl ?_ ?_
  rotate_left
  · go_simp
    rfl
  refine hK.out _ _ ?_
  clear hK K
  refine pure_ (i := 16) (N := some 21) (v := ?_) (a' := ?_) (bA 19 131071) rfl rfl (any_of HT_.out (by kernel_rfl)) (fun _ _ _ h => h) (Or.inl ⟨by rfl, ?_⟩) ?_ ?_
  rotate_left; (intro w'; go_simp; with_reducible rfl); rotate_left; (simp only [Act.put, List.setIfInBounds_toArray, List.set_cons_zero, List.set_cons_succ, i64_w, i32_w]; rfl)
  refine pure_ (i := 17) (N := some 22) (v := ?_) (a' := ?_) (bA 19 262143) rfl rfl (any_of HT_.out (by kernel_rfl)) (fun _ _ _ h => h) (Or.inl ⟨by rfl, ?_⟩) ?_ ?_
  rotate_left; (intro w'; go_simp; with_reducible rfl); rotate_left; (simp only [Act.put, List.setIfInBounds_toArray, List.set_cons_zero, List.set_cons_succ, i64_w, i32_w]; rfl)
  refine last_ (i := 18) (N := none) #[true,true,true,true,true,true,true,true,true,true,true,true,true,true,true,true,true,true,true] rfl rfl (one_of HT_.out (by kernel_rfl)) (by decide) (fun K hK => ?_)
  have hs11 : w8.cell? ⟨gb328, 5, none⟩ = some (.string a0_5) := (kcl BK328.out 5).trans rfl
  have hfs11 := kfr BK328.out 5
  refine skip_ (w1 := ?_) (by rfl) rfl ?_ ?_
  rotate_left
  · go_simp
    rfl
  refine hK.out _ _ ?_
  clear hK K
  refine done_ (done_of HT_.out (by kernel_rfl)) ?_
  go_upto_if 23 with (fail)
  go_cut [] (fun wc => ∃ (kq : Nat) (x329000_5 : Int) (x329001_5 : Int) (x329002_5 : ByteArray) (x329003_5 : Int) (x329004_5 : ByteArray) (x329005_5 : ByteArray) (x329006_5 : Int), Aside0 (armoirelaw24_FrameRequests.j0 kq a1 x329000_5 x329001_5 x329002_5 x329003_5 x329004_5 x329005_5 x329006_5 = some r) ∧ Aside0 (kq ≤ k) ∧ Aside0 (wc.heap[gb328]? = some (.cells #[.int .i64 x329000_5, .int .i64 x329001_5, .string x329002_5, .int .i64 x329003_5, .string x329004_5, .string x329005_5, .int .i64 x329006_5] 26 (0, 0))) ∧ Aside0 (Below w.heap.size w wc))
  case first =>
    have H := HC6.out
    clear HC6
    by_cases c12 : a1 = true
    rotate_left
    · replace c12 := Bool.eq_false_iff.mpr c12
      subst c12
      have H1 : (armoirelaw24_FrameRequests.j0 k false a0_0 a0_1 t329 a0_3 t330 t331 a0_6) = some r := by rw [if_neg (show ¬ (false = true) by decide)] at H; exact H
      clear H
      have H := H1
      clear H1
      have H' := Aside0.mk H
      clear H
      go_wp2
      go_meet
      case rel => exact ⟨_, (a0_0), (a0_1), (t329), (a0_3), (t330), (t331), (a0_6), H', ⟨by first | omega | exact Nat.le_refl _⟩, ⟨by (with_reducible repeat (first | refine kdn ?_ _ | refine kdw ?_ | refine kal ?_ _)); refine kpt (cs := #[.int .i64 a0_0, .int .i64 a0_1, .string t329, .int .i64 a0_3, .string t330, .string a0_5, .int .i64 a0_6]) ?_ 5 _ rfl; (with_reducible repeat (first | refine kdn ?_ _ | refine kdw ?_ | refine kal ?_ _)); refine kpt (cs := #[.int .i64 a0_0, .int .i64 a0_1, .string t329, .int .i64 a0_3, .string a0_4, .string a0_5, .int .i64 a0_6]) ?_ 4 _ rfl; (with_reducible repeat (first | refine kdn ?_ _ | refine kdw ?_ | refine kal ?_ _)); refine kpt (cs := #[.int .i64 a0_0, .int .i64 a0_1, .string a0_2, .int .i64 a0_3, .string a0_4, .string a0_5, .int .i64 a0_6]) ?_ 2 _ rfl; (with_reducible repeat (first | refine kdn ?_ _ | refine kdw ?_ | refine kal ?_ _)); exact BK328.out⟩, ⟨by repeat (first | (with_reducible first | exact HB.out | apply bal | apply bdn | apply bd1 | refine bst ?_ GE328.out) | exact HB.out)⟩⟩
    subst c12
    have H1 : ((armoirelaw24_Tidy.f k a0_0 a0_1 t329 a0_3 t330 t331 a0_6).bind fun bt332 => (armoirelaw24_FrameRequests.j0 k true bt332.1 bt332.2.1 bt332.2.2.1 bt332.2.2.2.1 bt332.2.2.2.2.1 bt332.2.2.2.2.2.1 bt332.2.2.2.2.2.2)) = some r := by rw [if_pos rfl] at H; exact H
    clear H
    have H := H1
    clear H1
    replace H := Option.bind_eq_some_iff.mp H
    obtain ⟨⟨t332, t333, t334, t335, t336, t337, t338⟩, A130, H⟩ := H
    replace H : (armoirelaw24_FrameRequests.j0 k true t332 t333 t334 t335 t336 t337 t338) = some r := H
    have A13 := Aside0.mk A130
    clear A130
    have H' := Aside0.mk H
    clear H
    have hcz14_0 : w8.cell? ⟨gb328, 0, none⟩ = some (.int .i64 a0_0) := (kcl BK328.out 0).trans rfl
    have hcz14_1 : w8.cell? ⟨gb328, 1, none⟩ = some (.int .i64 a0_1) := (kcl BK328.out 1).trans rfl
    have hcz14_2 : w8.cell? ⟨gb328, 2, none⟩ = some (.string a0_2) := (kcl BK328.out 2).trans rfl
    have hcz14_3 : w8.cell? ⟨gb328, 3, none⟩ = some (.int .i64 a0_3) := (kcl BK328.out 3).trans rfl
    have hcz14_4 : w8.cell? ⟨gb328, 4, none⟩ = some (.string a0_4) := (kcl BK328.out 4).trans rfl
    have hcz14_5 : w8.cell? ⟨gb328, 5, none⟩ = some (.string a0_5) := (kcl BK328.out 5).trans rfl
    have hcz14_6 : w8.cell? ⟨gb328, 6, none⟩ = some (.int .i64 a0_6) := (kcl BK328.out 6).trans rfl
    have hfz14_0 := kfr BK328.out 0
    have hfz14_1 := kfr BK328.out 1
    have hfz14_2 := kfr BK328.out 2
    have hfz14_3 := kfr BK328.out 3
    have hfz14_4 := kfr BK328.out 4
    have hfz14_5 := kfr BK328.out 5
    have hfz14_6 := kfr BK328.out 6
    go_wp2_with (first | ((with_reducible refine gcl (f := 8) rfl ?_); refine gl_ (some 25) rfl rfl Try.func8 (by kernel_rfl) rfl #[.agg #[.int .i64 a0_0, .int .i64 a0_1, .string t329, .int .i64 a0_3, .string t330, .string t331, .int .i64 a0_6]] rfl (by (try simp only [List.map_toArray, List.map_cons, List.map_nil]); first | done | rfl | (simp only [List.length_drop, List.length_take]; rfl)) ?_; (with_reducible refine (armoirelaw24_Tidy.calls k a0_0 a0_1 t329 a0_3 t330 t331 a0_6 t332 t333 t334 t335 t336 t337 t338 _ A13.out).mono ?_); rintro e w15 ⟨rfl, hb⟩; refine ⟨_, rfl, ?_⟩; have n0_ := Aside0.mk (kbl (g := gb328) (o := .cells #[.int .i64 a0_0, .int .i64 a0_1, .string t329, .int .i64 a0_3, .string t330, .string t331, .int .i64 a0_6] 26 (0, 0)) (by (with_reducible repeat (first | refine kdn ?_ _ | refine kdw ?_ | refine kal ?_ _)); refine kpt (cs := #[.int .i64 a0_0, .int .i64 a0_1, .string t329, .int .i64 a0_3, .string t330, .string a0_5, .int .i64 a0_6]) ?_ 5 _ rfl; (with_reducible repeat (first | refine kdn ?_ _ | refine kdw ?_ | refine kal ?_ _)); refine kpt (cs := #[.int .i64 a0_0, .int .i64 a0_1, .string t329, .int .i64 a0_3, .string a0_4, .string a0_5, .int .i64 a0_6]) ?_ 4 _ rfl; (with_reducible repeat (first | refine kdn ?_ _ | refine kdw ?_ | refine kal ?_ _)); refine kpt (cs := #[.int .i64 a0_0, .int .i64 a0_1, .string a0_2, .int .i64 a0_3, .string a0_4, .string a0_5, .int .i64 a0_6]) ?_ 2 _ rfl; (with_reducible repeat (first | refine kdn ?_ _ | refine kdw ?_ | refine kal ?_ _)); exact BK328.out) hb); have n1_ := Aside0.mk (bsp (by repeat (first | (with_reducible first | exact HB.out | apply bal | apply bdn | apply bd1 | refine bst ?_ GE328.out) | exact HB.out)) hb); clear BK328; clear HB; have BK328 := n0_; have HB := n1_; clear n0_ n1_; (try clear hb); (try clear hb2); (try clear hk); (try clear hi); have hcz16_0 : w15.cell? ⟨gb328, 0, none⟩ = some (.int .i64 a0_0) := (kcl BK328.out 0).trans rfl; have hcz16_1 : w15.cell? ⟨gb328, 1, none⟩ = some (.int .i64 a0_1) := (kcl BK328.out 1).trans rfl; have hcz16_2 : w15.cell? ⟨gb328, 2, none⟩ = some (.string t329) := (kcl BK328.out 2).trans rfl; have hcz16_3 : w15.cell? ⟨gb328, 3, none⟩ = some (.int .i64 a0_3) := (kcl BK328.out 3).trans rfl; have hcz16_4 : w15.cell? ⟨gb328, 4, none⟩ = some (.string t330) := (kcl BK328.out 4).trans rfl; have hcz16_5 : w15.cell? ⟨gb328, 5, none⟩ = some (.string t331) := (kcl BK328.out 5).trans rfl; have hcz16_6 : w15.cell? ⟨gb328, 6, none⟩ = some (.int .i64 a0_6) := (kcl BK328.out 6).trans rfl; have hfz16_0 := kfr BK328.out 0; have hfz16_1 := kfr BK328.out 1; have hfz16_2 := kfr BK328.out 2; have hfz16_3 := kfr BK328.out 3; have hfz16_4 := kfr BK328.out 4; have hfz16_5 := kfr BK328.out 5; have hfz16_6 := kfr BK328.out 6))
    go_meet
    case rel => exact ⟨_, (t332), (t333), (t334), (t335), (t336), (t337), (t338), H', ⟨by first | omega | exact Nat.le_refl _⟩, ⟨by (with_reducible repeat (first | refine kdn ?_ _ | refine kdw ?_ | refine kal ?_ _)); refine kpt (cs := #[.int .i64 t332, .int .i64 t333, .string t334, .int .i64 t335, .string t336, .string t337, .int .i64 a0_6]) ?_ 6 _ rfl; (with_reducible repeat (first | refine kdn ?_ _ | refine kdw ?_ | refine kal ?_ _)); refine kpt (cs := #[.int .i64 t332, .int .i64 t333, .string t334, .int .i64 t335, .string t336, .string t331, .int .i64 a0_6]) ?_ 5 _ rfl; (with_reducible repeat (first | refine kdn ?_ _ | refine kdw ?_ | refine kal ?_ _)); refine kpt (cs := #[.int .i64 t332, .int .i64 t333, .string t334, .int .i64 t335, .string t330, .string t331, .int .i64 a0_6]) ?_ 4 _ rfl; (with_reducible repeat (first | refine kdn ?_ _ | refine kdw ?_ | refine kal ?_ _)); refine kpt (cs := #[.int .i64 t332, .int .i64 t333, .string t334, .int .i64 a0_3, .string t330, .string t331, .int .i64 a0_6]) ?_ 3 _ rfl; (with_reducible repeat (first | refine kdn ?_ _ | refine kdw ?_ | refine kal ?_ _)); refine kpt (cs := #[.int .i64 t332, .int .i64 t333, .string t329, .int .i64 a0_3, .string t330, .string t331, .int .i64 a0_6]) ?_ 2 _ rfl; (with_reducible repeat (first | refine kdn ?_ _ | refine kdw ?_ | refine kal ?_ _)); refine kpt (cs := #[.int .i64 t332, .int .i64 a0_1, .string t329, .int .i64 a0_3, .string t330, .string t331, .int .i64 a0_6]) ?_ 1 _ rfl; (with_reducible repeat (first | refine kdn ?_ _ | refine kdw ?_ | refine kal ?_ _)); refine kpt (cs := #[.int .i64 a0_0, .int .i64 a0_1, .string t329, .int .i64 a0_3, .string t330, .string t331, .int .i64 a0_6]) ?_ 0 _ rfl; (with_reducible repeat (first | refine kdn ?_ _ | refine kdw ?_ | refine kal ?_ _)); exact BK328.out⟩, ⟨by repeat (first | (with_reducible first | exact HB.out | apply bal | apply bdn | apply bd1 | refine bst ?_ GE328.out) | exact HB.out)⟩⟩
  clear HC6
  try clear c1
  try clear p2
  try clear c3
  try clear c7
  try clear c8
  try clear c12
  try clear hcz14_0
  try clear hcz14_1
  try clear hcz14_2
  try clear hcz14_3
  try clear hcz14_4
  try clear hcz14_5
  try clear hcz14_6
  try clear hcz16_0
  try clear hcz16_1
  try clear hcz16_2
  try clear hcz16_3
  try clear hcz16_4
  try clear hcz16_5
  try clear hcz16_6
  try clear hfz14_0
  try clear hfz14_1
  try clear hfz14_2
  try clear hfz14_3
  try clear hfz14_4
  try clear hfz14_5
  try clear hfz14_6
  try clear hfz16_0
  try clear hfz16_1
  try clear hfz16_2
  try clear hfz16_3
  try clear hfz16_4
  try clear hfz16_5
  try clear hfz16_6
  obtain ⟨kq, x329000_5, x329001_5, x329002_5, x329003_5, x329004_5, x329005_5, x329006_5, HA, HJ5, BK328, HB⟩ := hcut
  cases kq with
  | zero => exact absurd HA.out (by simp [armoirelaw24_FrameRequests.j0])
  | succ kj5 =>
    have H := HA.out
    clear HA
    simp only [armoirelaw24_FrameRequests.j0] at H
    have HC17 := Aside0.mk H
    clear H
    go_upto_region 4 with (fail)
    go_cut [43] (fun v43 wc => ∃ (kq : Nat) (x43_16 : Bool), v43 = .bool x43_16 ∧ Aside0 (armoirelaw24_FrameRequests.j1 kq x43_16 x329000_5 x329001_5 x329002_5 x329003_5 x329004_5 x329005_5 x329006_5 = some r) ∧ Aside0 (kq ≤ kj5) ∧ Aside0 (wc.heap[gb328]? = some (.cells #[.int .i64 x329000_5, .int .i64 x329001_5, .string x329002_5, .int .i64 x329003_5, .string x329004_5, .string x329005_5, .int .i64 x329006_5] 26 (0, 0))) ∧ Aside0 (Below w.heap.size w wc))
    case first =>
      have H := HC17.out
      clear HC17
      replace H := Option.bind_eq_some_iff.mp H
      obtain ⟨t339, A180, H⟩ := H
      replace H : (if t339 = true then ((frame_Request_Check.f kj5 x329000_5 x329001_5 x329002_5 x329003_5 x329004_5 x329005_5 x329006_5).bind fun t340 => ((armoirelaw24_Told.f x329000_5 x329001_5 x329002_5 x329003_5 x329004_5 x329005_5 x329006_5).bind fun bt341 => ((armoireref24_Check.f kj5 bt341.1 bt341.2.1 bt341.2.2.1 bt341.2.2.2.1 bt341.2.2.2.2.1 bt341.2.2.2.2.2.1 bt341.2.2.2.2.2.2).bind fun t348 => (if t340 = t348 then (if a1 = true then ((frame_Request_Check.f kj5 x329000_5 x329001_5 x329002_5 x329003_5 x329004_5 x329005_5 x329006_5).bind fun t349 => (armoirelaw24_FrameRequests.j1 kj5 (t349 != 0) x329000_5 x329001_5 x329002_5 x329003_5 x329004_5 x329005_5 x329006_5)) else (armoirelaw24_FrameRequests.j1 kj5 false x329000_5 x329001_5 x329002_5 x329003_5 x329004_5 x329005_5 x329006_5)) else (armoirelaw24_FrameRequests.j1 kj5 true x329000_5 x329001_5 x329002_5 x329003_5 x329004_5 x329005_5 x329006_5))))) else (armoirelaw24_FrameRequests.j1 kj5 true x329000_5 x329001_5 x329002_5 x329003_5 x329004_5 x329005_5 x329006_5)) = some r := H
      have A18 := Aside0.mk A180
      clear A180
      by_cases c19 : t339 = true
      rotate_left
      · replace c19 := Bool.eq_false_iff.mpr c19
        subst c19
        have H1 : (armoirelaw24_FrameRequests.j1 kj5 true x329000_5 x329001_5 x329002_5 x329003_5 x329004_5 x329005_5 x329006_5) = some r := by rw [if_neg (show ¬ (false = true) by decide)] at H; exact H
        clear H
        have H := H1
        clear H1
        have H' := Aside0.mk H
        clear H
        try go_wp2
        have n0_ := Aside0.mk (kdw BK328.out)
        have n1_ := Aside0.mk (bd1 HB.out)
        clear BK328
        clear HB
        have BK328 := n0_
        have HB := n1_
        clear n0_ n1_
        refine start_ (n := 18) (S := fun w' => True) (ds := []) #[false,false,false,false,false,false,false,false,false,false,false,false,false,false,false,false,false,false] (by kernel_rfl) rfl rfl trivial (fun hHeld => ?_); refine with_tabW armoirelaw24_FrameRequests.tab4 armoirelaw24_FrameRequests.bits4 (fun HT_ HW_ => ?_)
        generalize wc.drew = w42 at BK328 HB hHeld ⊢
        refine one_ (i := 0) (N := some 26) #[true,false,false,false,false,false,false,false,false,false,false,false,false,false,false,false,false,false] rfl rfl (one_of HT_.out (by kernel_rfl)) (by decide) (fun K hK => ?_)
        refine goes_ Try.func9 (by kernel_rfl) rfl #[] (by rfl) rfl rfl (by (try simp only [List.map_toArray, List.map_cons, List.map_nil]); first | done | rfl | (simp only [List.length_drop, List.length_take]; rfl) | (simp only [Act.eval, Array.getD_eq_getD_getElem?, Option.getD_some, *]; done) | (simp only [Array.mk.injEq, List.cons.injEq, Value.int.injEq, true_and, and_true]; first | omega | (simp [IntKind.wrap, IntKind.bits, IntKind.signed]; omega))) ?_
        with_reducible refine (armoirelaw24_awake.calls kj5  false _ A18.out).mono ?_
        rintro e w43 ⟨rfl, hb⟩
        refine ⟨_, rfl, ?_⟩
        have n0_ := Aside0.mk (kbl (g := gb328) (o := .cells #[.int .i64 x329000_5, .int .i64 x329001_5, .string x329002_5, .int .i64 x329003_5, .string x329004_5, .string x329005_5, .int .i64 x329006_5] 26 (0, 0)) (by (with_reducible repeat (first | refine kdn ?_ _ | refine kdw ?_ | refine kal ?_ _)); exact BK328.out) hb)
        have n1_ := Aside0.mk (bsp (by repeat (first | (with_reducible first | exact HB.out | apply bal | apply bdn | apply bd1 | refine bst ?_ GE328.out) | exact HB.out)) hb)
        clear BK328
        clear HB
        have BK328 := n0_
        have HB := n1_
        clear n0_ n1_
        (try clear hb)
        (try clear hb2)
        (try clear hk)
        (try clear hi)
        refine hK.out _ _ trivial (fun hHeld => ?_)
        clear hK K
        refine norm_ (a' := ?_) ?_ ?_
        rotate_left
        · show Act.put _ (some 26) _ = _
          simp only [Act.put, List.setIfInBounds_toArray, List.set_cons_zero, List.set_cons_succ, i64_w, i32_w]
          rfl
        refine pure_ (i := 1) (N := some 27) (v := ?_) (a' := ?_) (bA 18 3) rfl rfl (any_of HT_.out (by kernel_rfl)) (fun _ _ _ h => h) (Or.inl ⟨by rfl, ?_⟩) ?_ ?_
        rotate_left; (intro w'; go_simp; with_reducible rfl); rotate_left; (simp only [Act.put, List.setIfInBounds_toArray, List.set_cons_zero, List.set_cons_succ, i64_w, i32_w]; rfl)
        refine pure_ (i := 2) (N := some 28) (v := ?_) (a' := ?_) (bA 18 7) rfl rfl (any_of HT_.out (by kernel_rfl)) (fun _ _ _ h => h) (Or.inl ⟨by rfl, ?_⟩) ?_ ?_
        rotate_left; (intro w'; go_simp; with_reducible rfl); rotate_left; (simp only [Act.put, List.setIfInBounds_toArray, List.set_cons_zero, List.set_cons_succ, i64_w, i32_w]; rfl)
        refine pure_ (i := 3) (N := some 29) (v := undef) (a' := ?_) (bA 18 15) rfl rfl (any_of HT_.out (by kernel_rfl)) (fun _ _ _ h => h) (Or.inr ⟨by rfl, rfl⟩) ?_ ?_
        rotate_left; (simp only [Act.put, List.setIfInBounds_toArray, List.set_cons_zero, List.set_cons_succ, i64_w, i32_w]; rfl)
        refine pure_ (i := 4) (N := some 30) (v := undef) (a' := ?_) (bA 18 31) rfl rfl (any_of HT_.out (by kernel_rfl)) (fun _ _ _ h => h) (Or.inr ⟨by rfl, rfl⟩) ?_ ?_
        rotate_left; (simp only [Act.put, List.setIfInBounds_toArray, List.set_cons_zero, List.set_cons_succ, i64_w, i32_w]; rfl)
        refine pure_ (i := 5) (N := some 31) (v := undef) (a' := ?_) (bA 18 63) rfl rfl (any_of HT_.out (by kernel_rfl)) (fun _ _ _ h => h) (Or.inr ⟨by rfl, rfl⟩) ?_ ?_
        rotate_left; (simp only [Act.put, List.setIfInBounds_toArray, List.set_cons_zero, List.set_cons_succ, i64_w, i32_w]; rfl)
        refine pure_ (i := 6) (N := some 32) (v := undef) (a' := ?_) (bA 18 127) rfl rfl (any_of HT_.out (by kernel_rfl)) (fun _ _ _ h => h) (Or.inr ⟨by rfl, rfl⟩) ?_ ?_
        rotate_left; (simp only [Act.put, List.setIfInBounds_toArray, List.set_cons_zero, List.set_cons_succ, i64_w, i32_w]; rfl)
        refine pure_ (i := 7) (N := some 33) (v := undef) (a' := ?_) (bA 18 255) rfl rfl (any_of HT_.out (by kernel_rfl)) (fun _ _ _ h => h) (Or.inr ⟨by rfl, rfl⟩) ?_ ?_
        rotate_left; (simp only [Act.put, List.setIfInBounds_toArray, List.set_cons_zero, List.set_cons_succ, i64_w, i32_w]; rfl)
        refine pure_ (i := 8) (N := some 34) (v := undef) (a' := ?_) (bA 18 511) rfl rfl (any_of HT_.out (by kernel_rfl)) (fun _ _ _ h => h) (Or.inr ⟨by rfl, rfl⟩) ?_ ?_
        rotate_left; (simp only [Act.put, List.setIfInBounds_toArray, List.set_cons_zero, List.set_cons_succ, i64_w, i32_w]; rfl)
        refine pure_ (i := 9) (N := some 35) (v := ?_) (a' := ?_) (bA 18 1023) rfl rfl (any_of HT_.out (by kernel_rfl)) (fun _ _ _ h => h) (Or.inl ⟨by rfl, ?_⟩) ?_ ?_
        rotate_left; (intro w'; go_simp; with_reducible rfl); rotate_left; (simp only [Act.put, List.setIfInBounds_toArray, List.set_cons_zero, List.set_cons_succ, i64_w, i32_w]; rfl)
        refine pure_ (i := 10) (N := some 36) (v := ?_) (a' := ?_) (bA 18 2047) rfl rfl (any_of HT_.out (by kernel_rfl)) (fun _ _ _ h => h) (Or.inl ⟨by rfl, ?_⟩) ?_ ?_
        rotate_left; (intro w'; go_simp; with_reducible rfl); rotate_left; (simp only [Act.put, List.setIfInBounds_toArray, List.set_cons_zero, List.set_cons_succ, i64_w, i32_w]; rfl)
        refine pure_ (i := 11) (N := some 37) (v := undef) (a' := ?_) (bA 18 4095) rfl rfl (any_of HT_.out (by kernel_rfl)) (fun _ _ _ h => h) (Or.inr ⟨by rfl, rfl⟩) ?_ ?_
        rotate_left; (simp only [Act.put, List.setIfInBounds_toArray, List.set_cons_zero, List.set_cons_succ, i64_w, i32_w]; rfl)
        refine pure_ (i := 12) (N := some 38) (v := undef) (a' := ?_) (bA 18 8191) rfl rfl (any_of HT_.out (by kernel_rfl)) (fun _ _ _ h => h) (Or.inr ⟨by rfl, rfl⟩) ?_ ?_
        rotate_left; (simp only [Act.put, List.setIfInBounds_toArray, List.set_cons_zero, List.set_cons_succ, i64_w, i32_w]; rfl)
        refine pure_ (i := 13) (N := some 39) (v := undef) (a' := ?_) (bA 18 16383) rfl rfl (any_of HT_.out (by kernel_rfl)) (fun _ _ _ h => h) (Or.inr ⟨by rfl, rfl⟩) ?_ ?_
        rotate_left; (simp only [Act.put, List.setIfInBounds_toArray, List.set_cons_zero, List.set_cons_succ, i64_w, i32_w]; rfl)
        refine pure_ (i := 14) (N := some 40) (v := undef) (a' := ?_) (bA 18 32767) rfl rfl (any_of HT_.out (by kernel_rfl)) (fun _ _ _ h => h) (Or.inr ⟨by rfl, rfl⟩) ?_ ?_
        rotate_left; (simp only [Act.put, List.setIfInBounds_toArray, List.set_cons_zero, List.set_cons_succ, i64_w, i32_w]; rfl)
        refine pure_ (i := 15) (N := some 41) (v := undef) (a' := ?_) (bA 18 65535) rfl rfl (any_of HT_.out (by kernel_rfl)) (fun _ _ _ h => h) (Or.inr ⟨by rfl, rfl⟩) ?_ ?_
        rotate_left; (simp only [Act.put, List.setIfInBounds_toArray, List.set_cons_zero, List.set_cons_succ, i64_w, i32_w]; rfl)
        refine pure_ (i := 16) (N := some 42) (v := undef) (a' := ?_) (bA 18 131071) rfl rfl (any_of HT_.out (by kernel_rfl)) (fun _ _ _ h => h) (Or.inr ⟨by rfl, rfl⟩) ?_ ?_
        rotate_left; (simp only [Act.put, List.setIfInBounds_toArray, List.set_cons_zero, List.set_cons_succ, i64_w, i32_w]; rfl)
        refine pure_ (i := 17) (N := some 43) (v := ?_) (a' := ?_) (bA 18 262143) rfl rfl (any_of HT_.out (by kernel_rfl)) (fun _ _ _ h => h) (Or.inl ⟨by rfl, ?_⟩) ?_ ?_
        rotate_left; (intro w'; go_simp; with_reducible rfl); rotate_left; (simp only [Act.put, List.setIfInBounds_toArray, List.set_cons_zero, List.set_cons_succ, i64_w, i32_w]; rfl)
        refine done_ (done_of HT_.out (by kernel_rfl)) ?_
        try go_wp2
        go_meet
        case rel => exact ⟨_, (true), (by first | rfl | (simp; done) | (simp [*]; done) | exact emp1_ _ | exact (emp1_ _).symm | exact emp2_ _ | exact (emp2_ _).symm), H', ⟨by have := HJ5.out; first | omega | exact Nat.le_refl _⟩, ⟨by (with_reducible repeat (first | refine kdn ?_ _ | refine kdw ?_ | refine kal ?_ _)); exact BK328.out⟩, ⟨by repeat (first | (with_reducible first | exact HB.out | apply bal | apply bdn | apply bd1 | refine bst ?_ GE328.out) | exact HB.out)⟩⟩
      subst c19
      have H1 : ((frame_Request_Check.f kj5 x329000_5 x329001_5 x329002_5 x329003_5 x329004_5 x329005_5 x329006_5).bind fun t340 => ((armoirelaw24_Told.f x329000_5 x329001_5 x329002_5 x329003_5 x329004_5 x329005_5 x329006_5).bind fun bt341 => ((armoireref24_Check.f kj5 bt341.1 bt341.2.1 bt341.2.2.1 bt341.2.2.2.1 bt341.2.2.2.2.1 bt341.2.2.2.2.2.1 bt341.2.2.2.2.2.2).bind fun t348 => (if t340 = t348 then (if a1 = true then ((frame_Request_Check.f kj5 x329000_5 x329001_5 x329002_5 x329003_5 x329004_5 x329005_5 x329006_5).bind fun t349 => (armoirelaw24_FrameRequests.j1 kj5 (t349 != 0) x329000_5 x329001_5 x329002_5 x329003_5 x329004_5 x329005_5 x329006_5)) else (armoirelaw24_FrameRequests.j1 kj5 false x329000_5 x329001_5 x329002_5 x329003_5 x329004_5 x329005_5 x329006_5)) else (armoirelaw24_FrameRequests.j1 kj5 true x329000_5 x329001_5 x329002_5 x329003_5 x329004_5 x329005_5 x329006_5))))) = some r := by rw [if_pos rfl] at H; exact H
      clear H
      have H := H1
      clear H1
      replace H := Option.bind_eq_some_iff.mp H
      obtain ⟨t340, A200, H⟩ := H
      replace H : ((armoirelaw24_Told.f x329000_5 x329001_5 x329002_5 x329003_5 x329004_5 x329005_5 x329006_5).bind fun bt341 => ((armoireref24_Check.f kj5 bt341.1 bt341.2.1 bt341.2.2.1 bt341.2.2.2.1 bt341.2.2.2.2.1 bt341.2.2.2.2.2.1 bt341.2.2.2.2.2.2).bind fun t348 => (if t340 = t348 then (if a1 = true then ((frame_Request_Check.f kj5 x329000_5 x329001_5 x329002_5 x329003_5 x329004_5 x329005_5 x329006_5).bind fun t349 => (armoirelaw24_FrameRequests.j1 kj5 (t349 != 0) x329000_5 x329001_5 x329002_5 x329003_5 x329004_5 x329005_5 x329006_5)) else (armoirelaw24_FrameRequests.j1 kj5 false x329000_5 x329001_5 x329002_5 x329003_5 x329004_5 x329005_5 x329006_5)) else (armoirelaw24_FrameRequests.j1 kj5 true x329000_5 x329001_5 x329002_5 x329003_5 x329004_5 x329005_5 x329006_5)))) = some r := H
      have A20 := Aside0.mk A200
      clear A200
      replace H := Option.bind_eq_some_iff.mp H
      obtain ⟨⟨t341, t342, t343, t344, t345, t346, t347⟩, A210, H⟩ := H
      replace H : ((armoireref24_Check.f kj5 t341 t342 t343 t344 t345 t346 t347).bind fun t348 => (if t340 = t348 then (if a1 = true then ((frame_Request_Check.f kj5 x329000_5 x329001_5 x329002_5 x329003_5 x329004_5 x329005_5 x329006_5).bind fun t349 => (armoirelaw24_FrameRequests.j1 kj5 (t349 != 0) x329000_5 x329001_5 x329002_5 x329003_5 x329004_5 x329005_5 x329006_5)) else (armoirelaw24_FrameRequests.j1 kj5 false x329000_5 x329001_5 x329002_5 x329003_5 x329004_5 x329005_5 x329006_5)) else (armoirelaw24_FrameRequests.j1 kj5 true x329000_5 x329001_5 x329002_5 x329003_5 x329004_5 x329005_5 x329006_5))) = some r := H
      have A21 := Aside0.mk A210
      clear A210
      replace H := Option.bind_eq_some_iff.mp H
      obtain ⟨t348, A220, H⟩ := H
      replace H : (if t340 = t348 then (if a1 = true then ((frame_Request_Check.f kj5 x329000_5 x329001_5 x329002_5 x329003_5 x329004_5 x329005_5 x329006_5).bind fun t349 => (armoirelaw24_FrameRequests.j1 kj5 (t349 != 0) x329000_5 x329001_5 x329002_5 x329003_5 x329004_5 x329005_5 x329006_5)) else (armoirelaw24_FrameRequests.j1 kj5 false x329000_5 x329001_5 x329002_5 x329003_5 x329004_5 x329005_5 x329006_5)) else (armoirelaw24_FrameRequests.j1 kj5 true x329000_5 x329001_5 x329002_5 x329003_5 x329004_5 x329005_5 x329006_5)) = some r := H
      have A22 := Aside0.mk A220
      clear A220
      by_cases c23 : t340 = t348
      rotate_left
      · rw [if_neg c23] at H
        have c23b0 : (t340 == t348) = false := beq_eq_false_iff_ne.mpr c23
        have c23b1 : (t340 != t348) = true := bne_iff_ne.mpr c23
        (first | rw [c23b0] | (simp only [i64_w, i32_w]; rw [c23b0]) | skip)
        have H' := Aside0.mk H
        clear H
        try go_wp2
        have n0_ := Aside0.mk (kdw BK328.out)
        have n1_ := Aside0.mk (bd1 HB.out)
        clear BK328
        clear HB
        have BK328 := n0_
        have HB := n1_
        clear n0_ n1_
        refine start_ (n := 18) (S := fun w' => w'.cell? ⟨gb328, 0, none⟩ = some (.int .i64 x329000_5) ∧ w'.cell? ⟨gb328, 1, none⟩ = some (.int .i64 x329001_5) ∧ w'.cell? ⟨gb328, 2, none⟩ = some (.string x329002_5) ∧ w'.cell? ⟨gb328, 3, none⟩ = some (.int .i64 x329003_5) ∧ w'.cell? ⟨gb328, 4, none⟩ = some (.string x329004_5) ∧ w'.cell? ⟨gb328, 5, none⟩ = some (.string x329005_5) ∧ w'.cell? ⟨gb328, 6, none⟩ = some (.int .i64 x329006_5)) (ds := []) #[false,false,false,false,false,false,false,false,false,false,false,false,false,false,false,false,false,false] (by kernel_rfl) rfl rfl ⟨(kcl BK328.out 0).trans rfl, (kcl BK328.out 1).trans rfl, (kcl BK328.out 2).trans rfl, (kcl BK328.out 3).trans rfl, (kcl BK328.out 4).trans rfl, (kcl BK328.out 5).trans rfl, (kcl BK328.out 6).trans rfl⟩ (fun hHeld => ?_); refine with_tabW armoirelaw24_FrameRequests.tab4 armoirelaw24_FrameRequests.bits4 (fun HT_ HW_ => ?_)
        generalize wc.drew = w37 at BK328 HB hHeld ⊢
        refine one_ (i := 0) (N := some 26) #[true,false,false,false,false,false,false,false,false,false,false,false,false,false,false,false,false,false] rfl rfl (one_of HT_.out (by kernel_rfl)) (by decide) (fun K hK => ?_)
        refine goes_ Try.func9 (by kernel_rfl) rfl #[] (by rfl) rfl rfl (by (try simp only [List.map_toArray, List.map_cons, List.map_nil]); first | done | rfl | (simp only [List.length_drop, List.length_take]; rfl) | (simp only [Act.eval, Array.getD_eq_getD_getElem?, Option.getD_some, *]; done) | (simp only [Array.mk.injEq, List.cons.injEq, Value.int.injEq, true_and, and_true]; first | omega | (simp [IntKind.wrap, IntKind.bits, IntKind.signed]; omega))) ?_
        with_reducible refine (armoirelaw24_awake.calls kj5  true _ A18.out).mono ?_
        rintro e w38 ⟨rfl, hb⟩
        refine ⟨_, rfl, ?_⟩
        have n0_ := Aside0.mk (kbl (g := gb328) (o := .cells #[.int .i64 x329000_5, .int .i64 x329001_5, .string x329002_5, .int .i64 x329003_5, .string x329004_5, .string x329005_5, .int .i64 x329006_5] 26 (0, 0)) (by (with_reducible repeat (first | refine kdn ?_ _ | refine kdw ?_ | refine kal ?_ _)); exact BK328.out) hb)
        have n1_ := Aside0.mk (bsp (by repeat (first | (with_reducible first | exact HB.out | apply bal | apply bdn | apply bd1 | refine bst ?_ GE328.out) | exact HB.out)) hb)
        clear BK328
        clear HB
        have BK328 := n0_
        have HB := n1_
        clear n0_ n1_
        (try clear hb)
        (try clear hb2)
        (try clear hk)
        (try clear hi)
        refine hK.out _ _ ⟨(kcl BK328.out 0).trans rfl, (kcl BK328.out 1).trans rfl, (kcl BK328.out 2).trans rfl, (kcl BK328.out 3).trans rfl, (kcl BK328.out 4).trans rfl, (kcl BK328.out 5).trans rfl, (kcl BK328.out 6).trans rfl⟩ (fun hHeld => ?_)
        clear hK K
        refine norm_ (a' := ?_) ?_ ?_
        rotate_left
        · show Act.put _ (some 26) _ = _
          simp only [Act.put, List.setIfInBounds_toArray, List.set_cons_zero, List.set_cons_succ, i64_w, i32_w]
          rfl
        refine pure_ (i := 1) (N := some 27) (v := ?_) (a' := ?_) (bA 18 3) rfl rfl (any_of HT_.out (by kernel_rfl)) (fun _ _ _ h => h) (Or.inl ⟨by rfl, ?_⟩) ?_ ?_
        rotate_left; (intro w'; go_simp; with_reducible rfl); rotate_left; (simp only [Act.put, List.setIfInBounds_toArray, List.set_cons_zero, List.set_cons_succ, i64_w, i32_w]; rfl)
        refine pure_ (i := 2) (N := some 28) (v := ?_) (a' := ?_) (bA 18 7) rfl rfl (any_of HT_.out (by kernel_rfl)) (fun _ _ _ h => h) (Or.inl ⟨by rfl, ?_⟩) ?_ ?_
        rotate_left; (intro w'; go_simp; with_reducible rfl); rotate_left; (simp only [Act.put, List.setIfInBounds_toArray, List.set_cons_zero, List.set_cons_succ, i64_w, i32_w]; rfl)
        refine take_ (i := 3) (N := some 29) (v := ?_) (a' := ?_) #[true,true,true,true,false,false,false,false,false,false,false,false,false,false,false,false,false,false] rfl rfl (tkw HT_.out HW_.out (by kernel_rfl)) (fun _ _ _ h => h) (Or.inl ⟨by rfl, ?_⟩) hHeld ?_ ?_
        rotate_left
        · rintro w' ⟨s0, s1, s2, s3, s4, s5, s6⟩
          go_simp
          with_reducible rfl
        rotate_left; (simp only [Act.put, List.setIfInBounds_toArray, List.set_cons_zero, List.set_cons_succ, i64_w, i32_w]; rfl)
        refine take_ (i := 5) (N := some 31) (v := ?_) (a' := ?_) #[true,true,true,true,false,true,false,false,false,false,false,false,false,false,false,false,false,false] rfl rfl (tkw HT_.out HW_.out (by kernel_rfl)) (fun _ _ _ h => h) (Or.inl ⟨by rfl, ?_⟩) hHeld ?_ ?_
        rotate_left
        · rintro w' ⟨s0, s1, s2, s3, s4, s5, s6⟩
          go_simp
          with_reducible rfl
        rotate_left; (simp only [Act.put, List.setIfInBounds_toArray, List.set_cons_zero, List.set_cons_succ, i64_w, i32_w]; rfl)
        refine one_ (i := 4) (N := some 30) #[true,true,true,true,true,true,false,false,false,false,false,false,false,false,false,false,false,false] rfl rfl (one_of HT_.out (by kernel_rfl)) (by decide) (fun K hK => ?_)
        refine goes_ Try.func10 (by kernel_rfl) rfl #[.agg #[.int .i64 x329000_5, .int .i64 x329001_5, .string x329002_5, .int .i64 x329003_5, .string x329004_5, .string x329005_5, .int .i64 x329006_5]] (by rfl) rfl rfl (by (try simp only [List.map_toArray, List.map_cons, List.map_nil]); first | done | rfl | (simp only [List.length_drop, List.length_take]; rfl) | (simp only [Act.eval, Array.getD_eq_getD_getElem?, Option.getD_some, *]; done) | (simp only [Array.mk.injEq, List.cons.injEq, Value.int.injEq, true_and, and_true]; first | omega | (simp [IntKind.wrap, IntKind.bits, IntKind.signed]; omega))) ?_
        with_reducible refine (frame_Request_Check.calls kj5 x329000_5 x329001_5 x329002_5 x329003_5 x329004_5 x329005_5 x329006_5 t340 _ A20.out).mono ?_
        rintro e w39 ⟨rfl, hb⟩
        refine ⟨_, rfl, ?_⟩
        have n0_ := Aside0.mk (kbl (g := gb328) (o := .cells #[.int .i64 x329000_5, .int .i64 x329001_5, .string x329002_5, .int .i64 x329003_5, .string x329004_5, .string x329005_5, .int .i64 x329006_5] 26 (0, 0)) (by (with_reducible repeat (first | refine kdn ?_ _ | refine kdw ?_ | refine kal ?_ _)); exact BK328.out) hb)
        have n1_ := Aside0.mk (bsp (by repeat (first | (with_reducible first | exact HB.out | apply bal | apply bdn | apply bd1 | refine bst ?_ GE328.out) | exact HB.out)) hb)
        clear BK328
        clear HB
        have BK328 := n0_
        have HB := n1_
        clear n0_ n1_
        (try clear hb)
        (try clear hb2)
        (try clear hk)
        (try clear hi)
        refine hK.out _ _ ⟨(kcl BK328.out 0).trans rfl, (kcl BK328.out 1).trans rfl, (kcl BK328.out 2).trans rfl, (kcl BK328.out 3).trans rfl, (kcl BK328.out 4).trans rfl, (kcl BK328.out 5).trans rfl, (kcl BK328.out 6).trans rfl⟩ (fun hHeld => ?_)
        clear hK K
        refine norm_ (a' := ?_) ?_ ?_
        rotate_left
        · show Act.put _ (some 30) _ = _
          simp only [Act.put, List.setIfInBounds_toArray, List.set_cons_zero, List.set_cons_succ, i64_w, i32_w]
          rfl
        refine one_ (i := 6) (N := some 32) #[true,true,true,true,true,true,true,false,false,false,false,false,false,false,false,false,false,false] rfl rfl (one_of HT_.out (by kernel_rfl)) (by decide) (fun K hK => ?_)
        refine goes_ Try.func12 (by kernel_rfl) rfl #[.agg #[.int .i64 x329000_5, .int .i64 x329001_5, .string x329002_5, .int .i64 x329003_5, .string x329004_5, .string x329005_5, .int .i64 x329006_5]] (by rfl) rfl rfl (by (try simp only [List.map_toArray, List.map_cons, List.map_nil]); first | done | rfl | (simp only [List.length_drop, List.length_take]; rfl) | (simp only [Act.eval, Array.getD_eq_getD_getElem?, Option.getD_some, *]; done) | (simp only [Array.mk.injEq, List.cons.injEq, Value.int.injEq, true_and, and_true]; first | omega | (simp [IntKind.wrap, IntKind.bits, IntKind.signed]; omega))) ?_
        with_reducible refine (armoirelaw24_Told.calls x329000_5 x329001_5 x329002_5 x329003_5 x329004_5 x329005_5 x329006_5 t341 t342 t343 t344 t345 t346 t347 _ A21.out).mono ?_
        rintro e w40 ⟨rfl, hb⟩
        refine ⟨_, rfl, ?_⟩
        have n0_ := Aside0.mk (kbl (g := gb328) (o := .cells #[.int .i64 x329000_5, .int .i64 x329001_5, .string x329002_5, .int .i64 x329003_5, .string x329004_5, .string x329005_5, .int .i64 x329006_5] 26 (0, 0)) (by (with_reducible repeat (first | refine kdn ?_ _ | refine kdw ?_ | refine kal ?_ _)); exact BK328.out) hb)
        have n1_ := Aside0.mk (bsp (by repeat (first | (with_reducible first | exact HB.out | apply bal | apply bdn | apply bd1 | refine bst ?_ GE328.out) | exact HB.out)) hb)
        clear BK328
        clear HB
        have BK328 := n0_
        have HB := n1_
        clear n0_ n1_
        (try clear hb)
        (try clear hb2)
        (try clear hk)
        (try clear hi)
        refine hK.out _ _ ⟨(kcl BK328.out 0).trans rfl, (kcl BK328.out 1).trans rfl, (kcl BK328.out 2).trans rfl, (kcl BK328.out 3).trans rfl, (kcl BK328.out 4).trans rfl, (kcl BK328.out 5).trans rfl, (kcl BK328.out 6).trans rfl⟩ (fun hHeld => ?_)
        clear hK K
        refine norm_ (a' := ?_) ?_ ?_
        rotate_left
        · show Act.put _ (some 32) _ = _
          simp only [Act.put, List.setIfInBounds_toArray, List.set_cons_zero, List.set_cons_succ, i64_w, i32_w]
          rfl
        refine one_ (i := 7) (N := some 33) #[true,true,true,true,true,true,true,true,false,false,false,false,false,false,false,false,false,false] rfl rfl (one_of HT_.out (by kernel_rfl)) (by decide) (fun K hK => ?_)
        refine goes_ Try.func11 (by kernel_rfl) rfl #[.agg #[.int .i64 t341, .int .i64 t342, .string t343, .int .i64 t344, .string t345, .string t346, .int .i64 t347]] (by rfl) rfl rfl (by (try simp only [List.map_toArray, List.map_cons, List.map_nil]); first | done | rfl | (simp only [List.length_drop, List.length_take]; rfl) | (simp only [Act.eval, Array.getD_eq_getD_getElem?, Option.getD_some, *]; done) | (simp only [Array.mk.injEq, List.cons.injEq, Value.int.injEq, true_and, and_true]; first | omega | (simp [IntKind.wrap, IntKind.bits, IntKind.signed]; omega))) ?_
        with_reducible refine (armoireref24_Check.calls kj5 t341 t342 t343 t344 t345 t346 t347 t348 _ A22.out).mono ?_
        rintro e w41 ⟨rfl, hb⟩
        refine ⟨_, rfl, ?_⟩
        have n0_ := Aside0.mk (kbl (g := gb328) (o := .cells #[.int .i64 x329000_5, .int .i64 x329001_5, .string x329002_5, .int .i64 x329003_5, .string x329004_5, .string x329005_5, .int .i64 x329006_5] 26 (0, 0)) (by (with_reducible repeat (first | refine kdn ?_ _ | refine kdw ?_ | refine kal ?_ _)); exact BK328.out) hb)
        have n1_ := Aside0.mk (bsp (by repeat (first | (with_reducible first | exact HB.out | apply bal | apply bdn | apply bd1 | refine bst ?_ GE328.out) | exact HB.out)) hb)
        clear BK328
        clear HB
        have BK328 := n0_
        have HB := n1_
        clear n0_ n1_
        (try clear hb)
        (try clear hb2)
        (try clear hk)
        (try clear hi)
        refine hK.out _ _ ⟨(kcl BK328.out 0).trans rfl, (kcl BK328.out 1).trans rfl, (kcl BK328.out 2).trans rfl, (kcl BK328.out 3).trans rfl, (kcl BK328.out 4).trans rfl, (kcl BK328.out 5).trans rfl, (kcl BK328.out 6).trans rfl⟩ (fun hHeld => ?_)
        clear hK K
        refine norm_ (a' := ?_) ?_ ?_
        rotate_left
        · show Act.put _ (some 33) _ = _
          simp only [Act.put, List.setIfInBounds_toArray, List.set_cons_zero, List.set_cons_succ, i64_w, i32_w]
          rfl
        refine pure_ (i := 8) (N := some 34) (v := ?_) (a' := ?_) (bA 18 511) rfl rfl (any_of HT_.out (by kernel_rfl)) (fun _ _ _ h => h) (Or.inl ⟨by rfl, ?_⟩) ?_ ?_
        rotate_left; (intro w'; go_simp; with_reducible rfl); rotate_left; (simp only [Act.put, List.setIfInBounds_toArray, List.set_cons_zero, List.set_cons_succ, i64_w, i32_w]; rfl)
        refine pure_ (i := 9) (N := some 35) (v := ?_) (a' := ?_) (bA 18 1023) rfl rfl (any_of HT_.out (by kernel_rfl)) (fun _ _ _ h => h) (Or.inl ⟨by rfl, ?_⟩) ?_ ?_
        rotate_left; (intro w'; go_simp; with_reducible rfl); rotate_left; (simp only [Act.put, List.setIfInBounds_toArray, List.set_cons_zero, List.set_cons_succ, i64_w, i32_w]; rfl)
        refine pure_ (i := 10) (N := some 36) (v := ?_) (a' := ?_) (bA 18 2047) rfl rfl (any_of HT_.out (by kernel_rfl)) (fun _ _ _ h => h) (Or.inl ⟨by rfl, ?_⟩) ?_ ?_
        rotate_left; (intro w'; go_simp; with_reducible rfl); rotate_left; (simp only [Act.put, List.setIfInBounds_toArray, List.set_cons_zero, List.set_cons_succ, i64_w, i32_w]; rfl)
        refine pure_ (i := 11) (N := some 37) (v := undef) (a' := ?_) (bA 18 4095) rfl rfl (any_of HT_.out (by kernel_rfl)) (fun _ _ _ h => h) (Or.inr ⟨by rfl, rfl⟩) ?_ ?_
        rotate_left; (simp only [Act.put, List.setIfInBounds_toArray, List.set_cons_zero, List.set_cons_succ, i64_w, i32_w]; rfl)
        refine pure_ (i := 12) (N := some 38) (v := undef) (a' := ?_) (bA 18 8191) rfl rfl (any_of HT_.out (by kernel_rfl)) (fun _ _ _ h => h) (Or.inr ⟨by rfl, rfl⟩) ?_ ?_
        rotate_left; (simp only [Act.put, List.setIfInBounds_toArray, List.set_cons_zero, List.set_cons_succ, i64_w, i32_w]; rfl)
        refine pure_ (i := 13) (N := some 39) (v := undef) (a' := ?_) (bA 18 16383) rfl rfl (any_of HT_.out (by kernel_rfl)) (fun _ _ _ h => h) (Or.inr ⟨by rfl, rfl⟩) ?_ ?_
        rotate_left; (simp only [Act.put, List.setIfInBounds_toArray, List.set_cons_zero, List.set_cons_succ, i64_w, i32_w]; rfl)
        refine pure_ (i := 14) (N := some 40) (v := undef) (a' := ?_) (bA 18 32767) rfl rfl (any_of HT_.out (by kernel_rfl)) (fun _ _ _ h => h) (Or.inr ⟨by rfl, rfl⟩) ?_ ?_
        rotate_left; (simp only [Act.put, List.setIfInBounds_toArray, List.set_cons_zero, List.set_cons_succ, i64_w, i32_w]; rfl)
        refine pure_ (i := 15) (N := some 41) (v := undef) (a' := ?_) (bA 18 65535) rfl rfl (any_of HT_.out (by kernel_rfl)) (fun _ _ _ h => h) (Or.inr ⟨by rfl, rfl⟩) ?_ ?_
        rotate_left; (simp only [Act.put, List.setIfInBounds_toArray, List.set_cons_zero, List.set_cons_succ, i64_w, i32_w]; rfl)
        refine pure_ (i := 16) (N := some 42) (v := undef) (a' := ?_) (bA 18 131071) rfl rfl (any_of HT_.out (by kernel_rfl)) (fun _ _ _ h => h) (Or.inr ⟨by rfl, rfl⟩) ?_ ?_
        rotate_left; (simp only [Act.put, List.setIfInBounds_toArray, List.set_cons_zero, List.set_cons_succ, i64_w, i32_w]; rfl)
        refine pure_ (i := 17) (N := some 43) (v := ?_) (a' := ?_) (bA 18 262143) rfl rfl (any_of HT_.out (by kernel_rfl)) (fun _ _ _ h => h) (Or.inl ⟨by rfl, ?_⟩) ?_ ?_
        rotate_left; (intro w'; go_simp; with_reducible rfl); rotate_left; (simp only [Act.put, List.setIfInBounds_toArray, List.set_cons_zero, List.set_cons_succ, i64_w, i32_w]; rfl)
        refine done_ (done_of HT_.out (by kernel_rfl)) ?_
        try go_wp2
        go_meet
        case rel => exact ⟨_, (true), (by first | rfl | (simp; done) | (simp [*]; done) | exact emp1_ _ | exact (emp1_ _).symm | exact emp2_ _ | exact (emp2_ _).symm), H', ⟨by have := HJ5.out; first | omega | exact Nat.le_refl _⟩, ⟨by (with_reducible repeat (first | refine kdn ?_ _ | refine kdw ?_ | refine kal ?_ _)); exact BK328.out⟩, ⟨by repeat (first | (with_reducible first | exact HB.out | apply bal | apply bdn | apply bd1 | refine bst ?_ GE328.out) | exact HB.out)⟩⟩
      rw [if_pos c23] at H
      have c23b0 : (t340 == t348) = true := beq_iff_eq.mpr c23
      have c23b1 : (t340 != t348) = false := bne_eq_false_iff_eq.mpr c23
      clear c23
      (first | rw [c23b0] | (simp only [i64_w, i32_w]; rw [c23b0]) | skip)
      by_cases c24 : a1 = true
      rotate_left
      · replace c24 := Bool.eq_false_iff.mpr c24
        subst c24
        have H1 : (armoirelaw24_FrameRequests.j1 kj5 false x329000_5 x329001_5 x329002_5 x329003_5 x329004_5 x329005_5 x329006_5) = some r := by rw [if_neg (show ¬ (false = true) by decide)] at H; exact H
        clear H
        have H := H1
        clear H1
        have H' := Aside0.mk H
        clear H
        try go_wp2
        have n0_ := Aside0.mk (kdw BK328.out)
        have n1_ := Aside0.mk (bd1 HB.out)
        clear BK328
        clear HB
        have BK328 := n0_
        have HB := n1_
        clear n0_ n1_
        refine start_ (n := 18) (S := fun w' => w'.cell? ⟨gb328, 0, none⟩ = some (.int .i64 x329000_5) ∧ w'.cell? ⟨gb328, 1, none⟩ = some (.int .i64 x329001_5) ∧ w'.cell? ⟨gb328, 2, none⟩ = some (.string x329002_5) ∧ w'.cell? ⟨gb328, 3, none⟩ = some (.int .i64 x329003_5) ∧ w'.cell? ⟨gb328, 4, none⟩ = some (.string x329004_5) ∧ w'.cell? ⟨gb328, 5, none⟩ = some (.string x329005_5) ∧ w'.cell? ⟨gb328, 6, none⟩ = some (.int .i64 x329006_5)) (ds := []) #[false,false,false,false,false,false,false,false,false,false,false,false,false,false,false,false,false,false] (by kernel_rfl) rfl rfl ⟨(kcl BK328.out 0).trans rfl, (kcl BK328.out 1).trans rfl, (kcl BK328.out 2).trans rfl, (kcl BK328.out 3).trans rfl, (kcl BK328.out 4).trans rfl, (kcl BK328.out 5).trans rfl, (kcl BK328.out 6).trans rfl⟩ (fun hHeld => ?_); refine with_tabW armoirelaw24_FrameRequests.tab4 armoirelaw24_FrameRequests.bits4 (fun HT_ HW_ => ?_)
        generalize wc.drew = w32 at BK328 HB hHeld ⊢
        refine one_ (i := 0) (N := some 26) #[true,false,false,false,false,false,false,false,false,false,false,false,false,false,false,false,false,false] rfl rfl (one_of HT_.out (by kernel_rfl)) (by decide) (fun K hK => ?_)
        refine goes_ Try.func9 (by kernel_rfl) rfl #[] (by rfl) rfl rfl (by (try simp only [List.map_toArray, List.map_cons, List.map_nil]); first | done | rfl | (simp only [List.length_drop, List.length_take]; rfl) | (simp only [Act.eval, Array.getD_eq_getD_getElem?, Option.getD_some, *]; done) | (simp only [Array.mk.injEq, List.cons.injEq, Value.int.injEq, true_and, and_true]; first | omega | (simp [IntKind.wrap, IntKind.bits, IntKind.signed]; omega))) ?_
        with_reducible refine (armoirelaw24_awake.calls kj5  true _ A18.out).mono ?_
        rintro e w33 ⟨rfl, hb⟩
        refine ⟨_, rfl, ?_⟩
        have n0_ := Aside0.mk (kbl (g := gb328) (o := .cells #[.int .i64 x329000_5, .int .i64 x329001_5, .string x329002_5, .int .i64 x329003_5, .string x329004_5, .string x329005_5, .int .i64 x329006_5] 26 (0, 0)) (by (with_reducible repeat (first | refine kdn ?_ _ | refine kdw ?_ | refine kal ?_ _)); exact BK328.out) hb)
        have n1_ := Aside0.mk (bsp (by repeat (first | (with_reducible first | exact HB.out | apply bal | apply bdn | apply bd1 | refine bst ?_ GE328.out) | exact HB.out)) hb)
        clear BK328
        clear HB
        have BK328 := n0_
        have HB := n1_
        clear n0_ n1_
        (try clear hb)
        (try clear hb2)
        (try clear hk)
        (try clear hi)
        refine hK.out _ _ ⟨(kcl BK328.out 0).trans rfl, (kcl BK328.out 1).trans rfl, (kcl BK328.out 2).trans rfl, (kcl BK328.out 3).trans rfl, (kcl BK328.out 4).trans rfl, (kcl BK328.out 5).trans rfl, (kcl BK328.out 6).trans rfl⟩ (fun hHeld => ?_)
        clear hK K
        refine norm_ (a' := ?_) ?_ ?_
        rotate_left
        · show Act.put _ (some 26) _ = _
          simp only [Act.put, List.setIfInBounds_toArray, List.set_cons_zero, List.set_cons_succ, i64_w, i32_w]
          rfl
        refine pure_ (i := 1) (N := some 27) (v := ?_) (a' := ?_) (bA 18 3) rfl rfl (any_of HT_.out (by kernel_rfl)) (fun _ _ _ h => h) (Or.inl ⟨by rfl, ?_⟩) ?_ ?_
        rotate_left; (intro w'; go_simp; with_reducible rfl); rotate_left; (simp only [Act.put, List.setIfInBounds_toArray, List.set_cons_zero, List.set_cons_succ, i64_w, i32_w]; rfl)
        refine pure_ (i := 2) (N := some 28) (v := ?_) (a' := ?_) (bA 18 7) rfl rfl (any_of HT_.out (by kernel_rfl)) (fun _ _ _ h => h) (Or.inl ⟨by rfl, ?_⟩) ?_ ?_
        rotate_left; (intro w'; go_simp; with_reducible rfl); rotate_left; (simp only [Act.put, List.setIfInBounds_toArray, List.set_cons_zero, List.set_cons_succ, i64_w, i32_w]; rfl)
        refine take_ (i := 3) (N := some 29) (v := ?_) (a' := ?_) #[true,true,true,true,false,false,false,false,false,false,false,false,false,false,false,false,false,false] rfl rfl (tkw HT_.out HW_.out (by kernel_rfl)) (fun _ _ _ h => h) (Or.inl ⟨by rfl, ?_⟩) hHeld ?_ ?_
        rotate_left
        · rintro w' ⟨s0, s1, s2, s3, s4, s5, s6⟩
          go_simp
          with_reducible rfl
        rotate_left; (simp only [Act.put, List.setIfInBounds_toArray, List.set_cons_zero, List.set_cons_succ, i64_w, i32_w]; rfl)
        refine take_ (i := 5) (N := some 31) (v := ?_) (a' := ?_) #[true,true,true,true,false,true,false,false,false,false,false,false,false,false,false,false,false,false] rfl rfl (tkw HT_.out HW_.out (by kernel_rfl)) (fun _ _ _ h => h) (Or.inl ⟨by rfl, ?_⟩) hHeld ?_ ?_
        rotate_left
        · rintro w' ⟨s0, s1, s2, s3, s4, s5, s6⟩
          go_simp
          with_reducible rfl
        rotate_left; (simp only [Act.put, List.setIfInBounds_toArray, List.set_cons_zero, List.set_cons_succ, i64_w, i32_w]; rfl)
        refine one_ (i := 4) (N := some 30) #[true,true,true,true,true,true,false,false,false,false,false,false,false,false,false,false,false,false] rfl rfl (one_of HT_.out (by kernel_rfl)) (by decide) (fun K hK => ?_)
        refine goes_ Try.func10 (by kernel_rfl) rfl #[.agg #[.int .i64 x329000_5, .int .i64 x329001_5, .string x329002_5, .int .i64 x329003_5, .string x329004_5, .string x329005_5, .int .i64 x329006_5]] (by rfl) rfl rfl (by (try simp only [List.map_toArray, List.map_cons, List.map_nil]); first | done | rfl | (simp only [List.length_drop, List.length_take]; rfl) | (simp only [Act.eval, Array.getD_eq_getD_getElem?, Option.getD_some, *]; done) | (simp only [Array.mk.injEq, List.cons.injEq, Value.int.injEq, true_and, and_true]; first | omega | (simp [IntKind.wrap, IntKind.bits, IntKind.signed]; omega))) ?_
        with_reducible refine (frame_Request_Check.calls kj5 x329000_5 x329001_5 x329002_5 x329003_5 x329004_5 x329005_5 x329006_5 t340 _ A20.out).mono ?_
        rintro e w34 ⟨rfl, hb⟩
        refine ⟨_, rfl, ?_⟩
        have n0_ := Aside0.mk (kbl (g := gb328) (o := .cells #[.int .i64 x329000_5, .int .i64 x329001_5, .string x329002_5, .int .i64 x329003_5, .string x329004_5, .string x329005_5, .int .i64 x329006_5] 26 (0, 0)) (by (with_reducible repeat (first | refine kdn ?_ _ | refine kdw ?_ | refine kal ?_ _)); exact BK328.out) hb)
        have n1_ := Aside0.mk (bsp (by repeat (first | (with_reducible first | exact HB.out | apply bal | apply bdn | apply bd1 | refine bst ?_ GE328.out) | exact HB.out)) hb)
        clear BK328
        clear HB
        have BK328 := n0_
        have HB := n1_
        clear n0_ n1_
        (try clear hb)
        (try clear hb2)
        (try clear hk)
        (try clear hi)
        refine hK.out _ _ ⟨(kcl BK328.out 0).trans rfl, (kcl BK328.out 1).trans rfl, (kcl BK328.out 2).trans rfl, (kcl BK328.out 3).trans rfl, (kcl BK328.out 4).trans rfl, (kcl BK328.out 5).trans rfl, (kcl BK328.out 6).trans rfl⟩ (fun hHeld => ?_)
        clear hK K
        refine norm_ (a' := ?_) ?_ ?_
        rotate_left
        · show Act.put _ (some 30) _ = _
          simp only [Act.put, List.setIfInBounds_toArray, List.set_cons_zero, List.set_cons_succ, i64_w, i32_w]
          rfl
        refine one_ (i := 6) (N := some 32) #[true,true,true,true,true,true,true,false,false,false,false,false,false,false,false,false,false,false] rfl rfl (one_of HT_.out (by kernel_rfl)) (by decide) (fun K hK => ?_)
        refine goes_ Try.func12 (by kernel_rfl) rfl #[.agg #[.int .i64 x329000_5, .int .i64 x329001_5, .string x329002_5, .int .i64 x329003_5, .string x329004_5, .string x329005_5, .int .i64 x329006_5]] (by rfl) rfl rfl (by (try simp only [List.map_toArray, List.map_cons, List.map_nil]); first | done | rfl | (simp only [List.length_drop, List.length_take]; rfl) | (simp only [Act.eval, Array.getD_eq_getD_getElem?, Option.getD_some, *]; done) | (simp only [Array.mk.injEq, List.cons.injEq, Value.int.injEq, true_and, and_true]; first | omega | (simp [IntKind.wrap, IntKind.bits, IntKind.signed]; omega))) ?_
        with_reducible refine (armoirelaw24_Told.calls x329000_5 x329001_5 x329002_5 x329003_5 x329004_5 x329005_5 x329006_5 t341 t342 t343 t344 t345 t346 t347 _ A21.out).mono ?_
        rintro e w35 ⟨rfl, hb⟩
        refine ⟨_, rfl, ?_⟩
        have n0_ := Aside0.mk (kbl (g := gb328) (o := .cells #[.int .i64 x329000_5, .int .i64 x329001_5, .string x329002_5, .int .i64 x329003_5, .string x329004_5, .string x329005_5, .int .i64 x329006_5] 26 (0, 0)) (by (with_reducible repeat (first | refine kdn ?_ _ | refine kdw ?_ | refine kal ?_ _)); exact BK328.out) hb)
        have n1_ := Aside0.mk (bsp (by repeat (first | (with_reducible first | exact HB.out | apply bal | apply bdn | apply bd1 | refine bst ?_ GE328.out) | exact HB.out)) hb)
        clear BK328
        clear HB
        have BK328 := n0_
        have HB := n1_
        clear n0_ n1_
        (try clear hb)
        (try clear hb2)
        (try clear hk)
        (try clear hi)
        refine hK.out _ _ ⟨(kcl BK328.out 0).trans rfl, (kcl BK328.out 1).trans rfl, (kcl BK328.out 2).trans rfl, (kcl BK328.out 3).trans rfl, (kcl BK328.out 4).trans rfl, (kcl BK328.out 5).trans rfl, (kcl BK328.out 6).trans rfl⟩ (fun hHeld => ?_)
        clear hK K
        refine norm_ (a' := ?_) ?_ ?_
        rotate_left
        · show Act.put _ (some 32) _ = _
          simp only [Act.put, List.setIfInBounds_toArray, List.set_cons_zero, List.set_cons_succ, i64_w, i32_w]
          rfl
        refine one_ (i := 7) (N := some 33) #[true,true,true,true,true,true,true,true,false,false,false,false,false,false,false,false,false,false] rfl rfl (one_of HT_.out (by kernel_rfl)) (by decide) (fun K hK => ?_)
        refine goes_ Try.func11 (by kernel_rfl) rfl #[.agg #[.int .i64 t341, .int .i64 t342, .string t343, .int .i64 t344, .string t345, .string t346, .int .i64 t347]] (by rfl) rfl rfl (by (try simp only [List.map_toArray, List.map_cons, List.map_nil]); first | done | rfl | (simp only [List.length_drop, List.length_take]; rfl) | (simp only [Act.eval, Array.getD_eq_getD_getElem?, Option.getD_some, *]; done) | (simp only [Array.mk.injEq, List.cons.injEq, Value.int.injEq, true_and, and_true]; first | omega | (simp [IntKind.wrap, IntKind.bits, IntKind.signed]; omega))) ?_
        with_reducible refine (armoireref24_Check.calls kj5 t341 t342 t343 t344 t345 t346 t347 t348 _ A22.out).mono ?_
        rintro e w36 ⟨rfl, hb⟩
        refine ⟨_, rfl, ?_⟩
        have n0_ := Aside0.mk (kbl (g := gb328) (o := .cells #[.int .i64 x329000_5, .int .i64 x329001_5, .string x329002_5, .int .i64 x329003_5, .string x329004_5, .string x329005_5, .int .i64 x329006_5] 26 (0, 0)) (by (with_reducible repeat (first | refine kdn ?_ _ | refine kdw ?_ | refine kal ?_ _)); exact BK328.out) hb)
        have n1_ := Aside0.mk (bsp (by repeat (first | (with_reducible first | exact HB.out | apply bal | apply bdn | apply bd1 | refine bst ?_ GE328.out) | exact HB.out)) hb)
        clear BK328
        clear HB
        have BK328 := n0_
        have HB := n1_
        clear n0_ n1_
        (try clear hb)
        (try clear hb2)
        (try clear hk)
        (try clear hi)
        refine hK.out _ _ ⟨(kcl BK328.out 0).trans rfl, (kcl BK328.out 1).trans rfl, (kcl BK328.out 2).trans rfl, (kcl BK328.out 3).trans rfl, (kcl BK328.out 4).trans rfl, (kcl BK328.out 5).trans rfl, (kcl BK328.out 6).trans rfl⟩ (fun hHeld => ?_)
        clear hK K
        refine norm_ (a' := ?_) ?_ ?_
        rotate_left
        · show Act.put _ (some 33) _ = _
          simp only [Act.put, List.setIfInBounds_toArray, List.set_cons_zero, List.set_cons_succ, i64_w, i32_w]
          rfl
        refine pure_ (i := 8) (N := some 34) (v := ?_) (a' := ?_) (bA 18 511) rfl rfl (any_of HT_.out (by kernel_rfl)) (fun _ _ _ h => h) (Or.inl ⟨by rfl, ?_⟩) ?_ ?_
        rotate_left; (intro w'; go_simp; with_reducible rfl); rotate_left; (simp only [Act.put, List.setIfInBounds_toArray, List.set_cons_zero, List.set_cons_succ, i64_w, i32_w]; rfl)
        refine pure_ (i := 9) (N := some 35) (v := ?_) (a' := ?_) (bA 18 1023) rfl rfl (any_of HT_.out (by kernel_rfl)) (fun _ _ _ h => h) (Or.inl ⟨by rfl, ?_⟩) ?_ ?_
        rotate_left; (intro w'; go_simp; with_reducible rfl); rotate_left; (simp only [Act.put, List.setIfInBounds_toArray, List.set_cons_zero, List.set_cons_succ, i64_w, i32_w]; rfl)
        refine pure_ (i := 10) (N := some 36) (v := ?_) (a' := ?_) (bA 18 2047) rfl rfl (any_of HT_.out (by kernel_rfl)) (fun _ _ _ h => h) (Or.inl ⟨by rfl, ?_⟩) ?_ ?_
        rotate_left; (intro w'; go_simp; with_reducible rfl); rotate_left; (simp only [Act.put, List.setIfInBounds_toArray, List.set_cons_zero, List.set_cons_succ, i64_w, i32_w]; rfl)
        refine pure_ (i := 11) (N := some 37) (v := ?_) (a' := ?_) (bA 18 4095) rfl rfl (any_of HT_.out (by kernel_rfl)) (fun _ _ _ h => h) (Or.inl ⟨by rfl, ?_⟩) ?_ ?_
        rotate_left; (intro w'; go_simp; with_reducible rfl); rotate_left; (simp only [Act.put, List.setIfInBounds_toArray, List.set_cons_zero, List.set_cons_succ, i64_w, i32_w]; rfl)
        refine pure_ (i := 12) (N := some 38) (v := ?_) (a' := ?_) (bA 18 8191) rfl rfl (any_of HT_.out (by kernel_rfl)) (fun _ _ _ h => h) (Or.inl ⟨by rfl, ?_⟩) ?_ ?_
        rotate_left; (intro w'; go_simp; with_reducible rfl); rotate_left; (simp only [Act.put, List.setIfInBounds_toArray, List.set_cons_zero, List.set_cons_succ, i64_w, i32_w]; rfl)
        refine pure_ (i := 13) (N := some 39) (v := undef) (a' := ?_) (bA 18 16383) rfl rfl (any_of HT_.out (by kernel_rfl)) (fun _ _ _ h => h) (Or.inr ⟨by rfl, rfl⟩) ?_ ?_
        rotate_left; (simp only [Act.put, List.setIfInBounds_toArray, List.set_cons_zero, List.set_cons_succ, i64_w, i32_w]; rfl)
        refine pure_ (i := 14) (N := some 40) (v := undef) (a' := ?_) (bA 18 32767) rfl rfl (any_of HT_.out (by kernel_rfl)) (fun _ _ _ h => h) (Or.inr ⟨by rfl, rfl⟩) ?_ ?_
        rotate_left; (simp only [Act.put, List.setIfInBounds_toArray, List.set_cons_zero, List.set_cons_succ, i64_w, i32_w]; rfl)
        refine pure_ (i := 15) (N := some 41) (v := undef) (a' := ?_) (bA 18 65535) rfl rfl (any_of HT_.out (by kernel_rfl)) (fun _ _ _ h => h) (Or.inr ⟨by rfl, rfl⟩) ?_ ?_
        rotate_left; (simp only [Act.put, List.setIfInBounds_toArray, List.set_cons_zero, List.set_cons_succ, i64_w, i32_w]; rfl)
        refine pure_ (i := 16) (N := some 42) (v := ?_) (a' := ?_) (bA 18 131071) rfl rfl (any_of HT_.out (by kernel_rfl)) (fun _ _ _ h => h) (Or.inl ⟨by rfl, ?_⟩) ?_ ?_
        rotate_left; (intro w'; go_simp; with_reducible rfl); rotate_left; (simp only [Act.put, List.setIfInBounds_toArray, List.set_cons_zero, List.set_cons_succ, i64_w, i32_w]; rfl)
        refine pure_ (i := 17) (N := some 43) (v := ?_) (a' := ?_) (bA 18 262143) rfl rfl (any_of HT_.out (by kernel_rfl)) (fun _ _ _ h => h) (Or.inl ⟨by rfl, ?_⟩) ?_ ?_
        rotate_left; (intro w'; go_simp; with_reducible rfl); rotate_left; (simp only [Act.put, List.setIfInBounds_toArray, List.set_cons_zero, List.set_cons_succ, i64_w, i32_w]; rfl)
        refine done_ (done_of HT_.out (by kernel_rfl)) ?_
        try go_wp2
        go_meet
        case rel => exact ⟨_, (false), (by first | rfl | (simp; done) | (simp [*]; done) | exact emp1_ _ | exact (emp1_ _).symm | exact emp2_ _ | exact (emp2_ _).symm), H', ⟨by have := HJ5.out; first | omega | exact Nat.le_refl _⟩, ⟨by (with_reducible repeat (first | refine kdn ?_ _ | refine kdw ?_ | refine kal ?_ _)); exact BK328.out⟩, ⟨by repeat (first | (with_reducible first | exact HB.out | apply bal | apply bdn | apply bd1 | refine bst ?_ GE328.out) | exact HB.out)⟩⟩
      subst c24
      have H1 : ((frame_Request_Check.f kj5 x329000_5 x329001_5 x329002_5 x329003_5 x329004_5 x329005_5 x329006_5).bind fun t349 => (armoirelaw24_FrameRequests.j1 kj5 (t349 != 0) x329000_5 x329001_5 x329002_5 x329003_5 x329004_5 x329005_5 x329006_5)) = some r := by rw [if_pos rfl] at H; exact H
      clear H
      have H := H1
      clear H1
      replace H := Option.bind_eq_some_iff.mp H
      obtain ⟨t349, A250, H⟩ := H
      replace H : (armoirelaw24_FrameRequests.j1 kj5 (t349 != 0) x329000_5 x329001_5 x329002_5 x329003_5 x329004_5 x329005_5 x329006_5) = some r := H
      have A25 := Aside0.mk A250
      clear A250
      have H' := Aside0.mk H
      clear H
      try go_wp2
      have n0_ := Aside0.mk (kdw BK328.out)
      have n1_ := Aside0.mk (bd1 HB.out)
      clear BK328
      clear HB
      have BK328 := n0_
      have HB := n1_
      clear n0_ n1_
      refine start_ (n := 18) (S := fun w' => w'.cell? ⟨gb328, 0, none⟩ = some (.int .i64 x329000_5) ∧ w'.cell? ⟨gb328, 1, none⟩ = some (.int .i64 x329001_5) ∧ w'.cell? ⟨gb328, 2, none⟩ = some (.string x329002_5) ∧ w'.cell? ⟨gb328, 3, none⟩ = some (.int .i64 x329003_5) ∧ w'.cell? ⟨gb328, 4, none⟩ = some (.string x329004_5) ∧ w'.cell? ⟨gb328, 5, none⟩ = some (.string x329005_5) ∧ w'.cell? ⟨gb328, 6, none⟩ = some (.int .i64 x329006_5)) (ds := []) #[false,false,false,false,false,false,false,false,false,false,false,false,false,false,false,false,false,false] (by kernel_rfl) rfl rfl ⟨(kcl BK328.out 0).trans rfl, (kcl BK328.out 1).trans rfl, (kcl BK328.out 2).trans rfl, (kcl BK328.out 3).trans rfl, (kcl BK328.out 4).trans rfl, (kcl BK328.out 5).trans rfl, (kcl BK328.out 6).trans rfl⟩ (fun hHeld => ?_); refine with_tabW armoirelaw24_FrameRequests.tab4 armoirelaw24_FrameRequests.bits4 (fun HT_ HW_ => ?_)
      generalize wc.drew = w26 at BK328 HB hHeld ⊢
      refine one_ (i := 0) (N := some 26) #[true,false,false,false,false,false,false,false,false,false,false,false,false,false,false,false,false,false] rfl rfl (one_of HT_.out (by kernel_rfl)) (by decide) (fun K hK => ?_)
      refine goes_ Try.func9 (by kernel_rfl) rfl #[] (by rfl) rfl rfl (by (try simp only [List.map_toArray, List.map_cons, List.map_nil]); first | done | rfl | (simp only [List.length_drop, List.length_take]; rfl) | (simp only [Act.eval, Array.getD_eq_getD_getElem?, Option.getD_some, *]; done) | (simp only [Array.mk.injEq, List.cons.injEq, Value.int.injEq, true_and, and_true]; first | omega | (simp [IntKind.wrap, IntKind.bits, IntKind.signed]; omega))) ?_
      with_reducible refine (armoirelaw24_awake.calls kj5  true _ A18.out).mono ?_
      rintro e w27 ⟨rfl, hb⟩
      refine ⟨_, rfl, ?_⟩
      have n0_ := Aside0.mk (kbl (g := gb328) (o := .cells #[.int .i64 x329000_5, .int .i64 x329001_5, .string x329002_5, .int .i64 x329003_5, .string x329004_5, .string x329005_5, .int .i64 x329006_5] 26 (0, 0)) (by (with_reducible repeat (first | refine kdn ?_ _ | refine kdw ?_ | refine kal ?_ _)); exact BK328.out) hb)
      have n1_ := Aside0.mk (bsp (by repeat (first | (with_reducible first | exact HB.out | apply bal | apply bdn | apply bd1 | refine bst ?_ GE328.out) | exact HB.out)) hb)
      clear BK328
      clear HB
      have BK328 := n0_
      have HB := n1_
      clear n0_ n1_
      (try clear hb)
      (try clear hb2)
      (try clear hk)
      (try clear hi)
      refine hK.out _ _ ⟨(kcl BK328.out 0).trans rfl, (kcl BK328.out 1).trans rfl, (kcl BK328.out 2).trans rfl, (kcl BK328.out 3).trans rfl, (kcl BK328.out 4).trans rfl, (kcl BK328.out 5).trans rfl, (kcl BK328.out 6).trans rfl⟩ (fun hHeld => ?_)
      clear hK K
      refine norm_ (a' := ?_) ?_ ?_
      rotate_left
      · show Act.put _ (some 26) _ = _
        simp only [Act.put, List.setIfInBounds_toArray, List.set_cons_zero, List.set_cons_succ, i64_w, i32_w]
        rfl
      refine pure_ (i := 1) (N := some 27) (v := ?_) (a' := ?_) (bA 18 3) rfl rfl (any_of HT_.out (by kernel_rfl)) (fun _ _ _ h => h) (Or.inl ⟨by rfl, ?_⟩) ?_ ?_
      rotate_left; (intro w'; go_simp; with_reducible rfl); rotate_left; (simp only [Act.put, List.setIfInBounds_toArray, List.set_cons_zero, List.set_cons_succ, i64_w, i32_w]; rfl)
      refine pure_ (i := 2) (N := some 28) (v := ?_) (a' := ?_) (bA 18 7) rfl rfl (any_of HT_.out (by kernel_rfl)) (fun _ _ _ h => h) (Or.inl ⟨by rfl, ?_⟩) ?_ ?_
      rotate_left; (intro w'; go_simp; with_reducible rfl); rotate_left; (simp only [Act.put, List.setIfInBounds_toArray, List.set_cons_zero, List.set_cons_succ, i64_w, i32_w]; rfl)
      refine take_ (i := 3) (N := some 29) (v := ?_) (a' := ?_) #[true,true,true,true,false,false,false,false,false,false,false,false,false,false,false,false,false,false] rfl rfl (tkw HT_.out HW_.out (by kernel_rfl)) (fun _ _ _ h => h) (Or.inl ⟨by rfl, ?_⟩) hHeld ?_ ?_
      rotate_left
      · rintro w' ⟨s0, s1, s2, s3, s4, s5, s6⟩
        go_simp
        with_reducible rfl
      rotate_left; (simp only [Act.put, List.setIfInBounds_toArray, List.set_cons_zero, List.set_cons_succ, i64_w, i32_w]; rfl)
      refine take_ (i := 5) (N := some 31) (v := ?_) (a' := ?_) #[true,true,true,true,false,true,false,false,false,false,false,false,false,false,false,false,false,false] rfl rfl (tkw HT_.out HW_.out (by kernel_rfl)) (fun _ _ _ h => h) (Or.inl ⟨by rfl, ?_⟩) hHeld ?_ ?_
      rotate_left
      · rintro w' ⟨s0, s1, s2, s3, s4, s5, s6⟩
        go_simp
        with_reducible rfl
      rotate_left; (simp only [Act.put, List.setIfInBounds_toArray, List.set_cons_zero, List.set_cons_succ, i64_w, i32_w]; rfl)
      refine one_ (i := 4) (N := some 30) #[true,true,true,true,true,true,false,false,false,false,false,false,false,false,false,false,false,false] rfl rfl (one_of HT_.out (by kernel_rfl)) (by decide) (fun K hK => ?_)
      refine goes_ Try.func10 (by kernel_rfl) rfl #[.agg #[.int .i64 x329000_5, .int .i64 x329001_5, .string x329002_5, .int .i64 x329003_5, .string x329004_5, .string x329005_5, .int .i64 x329006_5]] (by rfl) rfl rfl (by (try simp only [List.map_toArray, List.map_cons, List.map_nil]); first | done | rfl | (simp only [List.length_drop, List.length_take]; rfl) | (simp only [Act.eval, Array.getD_eq_getD_getElem?, Option.getD_some, *]; done) | (simp only [Array.mk.injEq, List.cons.injEq, Value.int.injEq, true_and, and_true]; first | omega | (simp [IntKind.wrap, IntKind.bits, IntKind.signed]; omega))) ?_
      with_reducible refine (frame_Request_Check.calls kj5 x329000_5 x329001_5 x329002_5 x329003_5 x329004_5 x329005_5 x329006_5 t340 _ A20.out).mono ?_
      rintro e w28 ⟨rfl, hb⟩
      refine ⟨_, rfl, ?_⟩
      have n0_ := Aside0.mk (kbl (g := gb328) (o := .cells #[.int .i64 x329000_5, .int .i64 x329001_5, .string x329002_5, .int .i64 x329003_5, .string x329004_5, .string x329005_5, .int .i64 x329006_5] 26 (0, 0)) (by (with_reducible repeat (first | refine kdn ?_ _ | refine kdw ?_ | refine kal ?_ _)); exact BK328.out) hb)
      have n1_ := Aside0.mk (bsp (by repeat (first | (with_reducible first | exact HB.out | apply bal | apply bdn | apply bd1 | refine bst ?_ GE328.out) | exact HB.out)) hb)
      clear BK328
      clear HB
      have BK328 := n0_
      have HB := n1_
      clear n0_ n1_
      (try clear hb)
      (try clear hb2)
      (try clear hk)
      (try clear hi)
      refine hK.out _ _ ⟨(kcl BK328.out 0).trans rfl, (kcl BK328.out 1).trans rfl, (kcl BK328.out 2).trans rfl, (kcl BK328.out 3).trans rfl, (kcl BK328.out 4).trans rfl, (kcl BK328.out 5).trans rfl, (kcl BK328.out 6).trans rfl⟩ (fun hHeld => ?_)
      clear hK K
      refine norm_ (a' := ?_) ?_ ?_
      rotate_left
      · show Act.put _ (some 30) _ = _
        simp only [Act.put, List.setIfInBounds_toArray, List.set_cons_zero, List.set_cons_succ, i64_w, i32_w]
        rfl
      refine one_ (i := 6) (N := some 32) #[true,true,true,true,true,true,true,false,false,false,false,false,false,false,false,false,false,false] rfl rfl (one_of HT_.out (by kernel_rfl)) (by decide) (fun K hK => ?_)
      refine goes_ Try.func12 (by kernel_rfl) rfl #[.agg #[.int .i64 x329000_5, .int .i64 x329001_5, .string x329002_5, .int .i64 x329003_5, .string x329004_5, .string x329005_5, .int .i64 x329006_5]] (by rfl) rfl rfl (by (try simp only [List.map_toArray, List.map_cons, List.map_nil]); first | done | rfl | (simp only [List.length_drop, List.length_take]; rfl) | (simp only [Act.eval, Array.getD_eq_getD_getElem?, Option.getD_some, *]; done) | (simp only [Array.mk.injEq, List.cons.injEq, Value.int.injEq, true_and, and_true]; first | omega | (simp [IntKind.wrap, IntKind.bits, IntKind.signed]; omega))) ?_
      with_reducible refine (armoirelaw24_Told.calls x329000_5 x329001_5 x329002_5 x329003_5 x329004_5 x329005_5 x329006_5 t341 t342 t343 t344 t345 t346 t347 _ A21.out).mono ?_
      rintro e w29 ⟨rfl, hb⟩
      refine ⟨_, rfl, ?_⟩
      have n0_ := Aside0.mk (kbl (g := gb328) (o := .cells #[.int .i64 x329000_5, .int .i64 x329001_5, .string x329002_5, .int .i64 x329003_5, .string x329004_5, .string x329005_5, .int .i64 x329006_5] 26 (0, 0)) (by (with_reducible repeat (first | refine kdn ?_ _ | refine kdw ?_ | refine kal ?_ _)); exact BK328.out) hb)
      have n1_ := Aside0.mk (bsp (by repeat (first | (with_reducible first | exact HB.out | apply bal | apply bdn | apply bd1 | refine bst ?_ GE328.out) | exact HB.out)) hb)
      clear BK328
      clear HB
      have BK328 := n0_
      have HB := n1_
      clear n0_ n1_
      (try clear hb)
      (try clear hb2)
      (try clear hk)
      (try clear hi)
      refine hK.out _ _ ⟨(kcl BK328.out 0).trans rfl, (kcl BK328.out 1).trans rfl, (kcl BK328.out 2).trans rfl, (kcl BK328.out 3).trans rfl, (kcl BK328.out 4).trans rfl, (kcl BK328.out 5).trans rfl, (kcl BK328.out 6).trans rfl⟩ (fun hHeld => ?_)
      clear hK K
      refine norm_ (a' := ?_) ?_ ?_
      rotate_left
      · show Act.put _ (some 32) _ = _
        simp only [Act.put, List.setIfInBounds_toArray, List.set_cons_zero, List.set_cons_succ, i64_w, i32_w]
        rfl
      refine one_ (i := 7) (N := some 33) #[true,true,true,true,true,true,true,true,false,false,false,false,false,false,false,false,false,false] rfl rfl (one_of HT_.out (by kernel_rfl)) (by decide) (fun K hK => ?_)
      refine goes_ Try.func11 (by kernel_rfl) rfl #[.agg #[.int .i64 t341, .int .i64 t342, .string t343, .int .i64 t344, .string t345, .string t346, .int .i64 t347]] (by rfl) rfl rfl (by (try simp only [List.map_toArray, List.map_cons, List.map_nil]); first | done | rfl | (simp only [List.length_drop, List.length_take]; rfl) | (simp only [Act.eval, Array.getD_eq_getD_getElem?, Option.getD_some, *]; done) | (simp only [Array.mk.injEq, List.cons.injEq, Value.int.injEq, true_and, and_true]; first | omega | (simp [IntKind.wrap, IntKind.bits, IntKind.signed]; omega))) ?_
      with_reducible refine (armoireref24_Check.calls kj5 t341 t342 t343 t344 t345 t346 t347 t348 _ A22.out).mono ?_
      rintro e w30 ⟨rfl, hb⟩
      refine ⟨_, rfl, ?_⟩
      have n0_ := Aside0.mk (kbl (g := gb328) (o := .cells #[.int .i64 x329000_5, .int .i64 x329001_5, .string x329002_5, .int .i64 x329003_5, .string x329004_5, .string x329005_5, .int .i64 x329006_5] 26 (0, 0)) (by (with_reducible repeat (first | refine kdn ?_ _ | refine kdw ?_ | refine kal ?_ _)); exact BK328.out) hb)
      have n1_ := Aside0.mk (bsp (by repeat (first | (with_reducible first | exact HB.out | apply bal | apply bdn | apply bd1 | refine bst ?_ GE328.out) | exact HB.out)) hb)
      clear BK328
      clear HB
      have BK328 := n0_
      have HB := n1_
      clear n0_ n1_
      (try clear hb)
      (try clear hb2)
      (try clear hk)
      (try clear hi)
      refine hK.out _ _ ⟨(kcl BK328.out 0).trans rfl, (kcl BK328.out 1).trans rfl, (kcl BK328.out 2).trans rfl, (kcl BK328.out 3).trans rfl, (kcl BK328.out 4).trans rfl, (kcl BK328.out 5).trans rfl, (kcl BK328.out 6).trans rfl⟩ (fun hHeld => ?_)
      clear hK K
      refine norm_ (a' := ?_) ?_ ?_
      rotate_left
      · show Act.put _ (some 33) _ = _
        simp only [Act.put, List.setIfInBounds_toArray, List.set_cons_zero, List.set_cons_succ, i64_w, i32_w]
        rfl
      refine pure_ (i := 8) (N := some 34) (v := ?_) (a' := ?_) (bA 18 511) rfl rfl (any_of HT_.out (by kernel_rfl)) (fun _ _ _ h => h) (Or.inl ⟨by rfl, ?_⟩) ?_ ?_
      rotate_left; (intro w'; go_simp; with_reducible rfl); rotate_left; (simp only [Act.put, List.setIfInBounds_toArray, List.set_cons_zero, List.set_cons_succ, i64_w, i32_w]; rfl)
      refine pure_ (i := 9) (N := some 35) (v := ?_) (a' := ?_) (bA 18 1023) rfl rfl (any_of HT_.out (by kernel_rfl)) (fun _ _ _ h => h) (Or.inl ⟨by rfl, ?_⟩) ?_ ?_
      rotate_left; (intro w'; go_simp; with_reducible rfl); rotate_left; (simp only [Act.put, List.setIfInBounds_toArray, List.set_cons_zero, List.set_cons_succ, i64_w, i32_w]; rfl)
      refine pure_ (i := 10) (N := some 36) (v := ?_) (a' := ?_) (bA 18 2047) rfl rfl (any_of HT_.out (by kernel_rfl)) (fun _ _ _ h => h) (Or.inl ⟨by rfl, ?_⟩) ?_ ?_
      rotate_left; (intro w'; go_simp; with_reducible rfl); rotate_left; (simp only [Act.put, List.setIfInBounds_toArray, List.set_cons_zero, List.set_cons_succ, i64_w, i32_w]; rfl)
      refine pure_ (i := 11) (N := some 37) (v := ?_) (a' := ?_) (bA 18 4095) rfl rfl (any_of HT_.out (by kernel_rfl)) (fun _ _ _ h => h) (Or.inl ⟨by rfl, ?_⟩) ?_ ?_
      rotate_left; (intro w'; go_simp; with_reducible rfl); rotate_left; (simp only [Act.put, List.setIfInBounds_toArray, List.set_cons_zero, List.set_cons_succ, i64_w, i32_w]; rfl)
      refine pure_ (i := 12) (N := some 38) (v := ?_) (a' := ?_) (bA 18 8191) rfl rfl (any_of HT_.out (by kernel_rfl)) (fun _ _ _ h => h) (Or.inl ⟨by rfl, ?_⟩) ?_ ?_
      rotate_left; (intro w'; go_simp; with_reducible rfl); rotate_left; (simp only [Act.put, List.setIfInBounds_toArray, List.set_cons_zero, List.set_cons_succ, i64_w, i32_w]; rfl)
      refine take_ (i := 13) (N := some 39) (v := ?_) (a' := ?_) #[true,true,true,true,true,true,true,true,true,true,true,true,true,true,false,false,false,false] rfl rfl (tkw HT_.out HW_.out (by kernel_rfl)) (fun _ _ _ h => h) (Or.inl ⟨by rfl, ?_⟩) hHeld ?_ ?_
      rotate_left
      · rintro w' ⟨s0, s1, s2, s3, s4, s5, s6⟩
        go_simp
        with_reducible rfl
      rotate_left; (simp only [Act.put, List.setIfInBounds_toArray, List.set_cons_zero, List.set_cons_succ, i64_w, i32_w]; rfl)
      refine one_ (i := 14) (N := some 40) #[true,true,true,true,true,true,true,true,true,true,true,true,true,true,true,false,false,false] rfl rfl (one_of HT_.out (by kernel_rfl)) (by decide) (fun K hK => ?_)
      refine goes_ Try.func10 (by kernel_rfl) rfl #[.agg #[.int .i64 x329000_5, .int .i64 x329001_5, .string x329002_5, .int .i64 x329003_5, .string x329004_5, .string x329005_5, .int .i64 x329006_5]] (by rfl) rfl rfl (by (try simp only [List.map_toArray, List.map_cons, List.map_nil]); first | done | rfl | (simp only [List.length_drop, List.length_take]; rfl) | (simp only [Act.eval, Array.getD_eq_getD_getElem?, Option.getD_some, *]; done) | (simp only [Array.mk.injEq, List.cons.injEq, Value.int.injEq, true_and, and_true]; first | omega | (simp [IntKind.wrap, IntKind.bits, IntKind.signed]; omega))) ?_
      with_reducible refine (frame_Request_Check.calls kj5 x329000_5 x329001_5 x329002_5 x329003_5 x329004_5 x329005_5 x329006_5 t349 _ A25.out).mono ?_
      rintro e w31 ⟨rfl, hb⟩
      refine ⟨_, rfl, ?_⟩
      have n0_ := Aside0.mk (kbl (g := gb328) (o := .cells #[.int .i64 x329000_5, .int .i64 x329001_5, .string x329002_5, .int .i64 x329003_5, .string x329004_5, .string x329005_5, .int .i64 x329006_5] 26 (0, 0)) (by (with_reducible repeat (first | refine kdn ?_ _ | refine kdw ?_ | refine kal ?_ _)); exact BK328.out) hb)
      have n1_ := Aside0.mk (bsp (by repeat (first | (with_reducible first | exact HB.out | apply bal | apply bdn | apply bd1 | refine bst ?_ GE328.out) | exact HB.out)) hb)
      clear BK328
      clear HB
      have BK328 := n0_
      have HB := n1_
      clear n0_ n1_
      (try clear hb)
      (try clear hb2)
      (try clear hk)
      (try clear hi)
      refine hK.out _ _ ⟨(kcl BK328.out 0).trans rfl, (kcl BK328.out 1).trans rfl, (kcl BK328.out 2).trans rfl, (kcl BK328.out 3).trans rfl, (kcl BK328.out 4).trans rfl, (kcl BK328.out 5).trans rfl, (kcl BK328.out 6).trans rfl⟩ (fun hHeld => ?_)
      clear hK K
      refine norm_ (a' := ?_) ?_ ?_
      rotate_left
      · show Act.put _ (some 40) _ = _
        simp only [Act.put, List.setIfInBounds_toArray, List.set_cons_zero, List.set_cons_succ, i64_w, i32_w]
        rfl
      refine pure_ (i := 15) (N := some 41) (v := ?_) (a' := ?_) (bA 18 65535) rfl rfl (any_of HT_.out (by kernel_rfl)) (fun _ _ _ h => h) (Or.inl ⟨by rfl, ?_⟩) ?_ ?_
      rotate_left; (intro w'; go_simp; with_reducible rfl); rotate_left; (simp only [Act.put, List.setIfInBounds_toArray, List.set_cons_zero, List.set_cons_succ, i64_w, i32_w]; rfl)
      refine pure_ (i := 16) (N := some 42) (v := ?_) (a' := ?_) (bA 18 131071) rfl rfl (any_of HT_.out (by kernel_rfl)) (fun _ _ _ h => h) (Or.inl ⟨by rfl, ?_⟩) ?_ ?_
      rotate_left; (intro w'; go_simp; with_reducible rfl); rotate_left; (simp only [Act.put, List.setIfInBounds_toArray, List.set_cons_zero, List.set_cons_succ, i64_w, i32_w]; rfl)
      refine pure_ (i := 17) (N := some 43) (v := ?_) (a' := ?_) (bA 18 262143) rfl rfl (any_of HT_.out (by kernel_rfl)) (fun _ _ _ h => h) (Or.inl ⟨by rfl, ?_⟩) ?_ ?_
      rotate_left; (intro w'; go_simp; with_reducible rfl); rotate_left; (simp only [Act.put, List.setIfInBounds_toArray, List.set_cons_zero, List.set_cons_succ, i64_w, i32_w]; rfl)
      refine done_ (done_of HT_.out (by kernel_rfl)) ?_
      try go_wp2
      go_meet
      case rel => exact ⟨_, ((t349 != 0)), (by first | rfl | (simp; done) | (simp [*]; done) | exact emp1_ _ | exact (emp1_ _).symm | exact emp2_ _ | exact (emp2_ _).symm), H', ⟨by have := HJ5.out; first | omega | exact Nat.le_refl _⟩, ⟨by (with_reducible repeat (first | refine kdn ?_ _ | refine kdw ?_ | refine kal ?_ _)); exact BK328.out⟩, ⟨by repeat (first | (with_reducible first | exact HB.out | apply bal | apply bdn | apply bd1 | refine bst ?_ GE328.out) | exact HB.out)⟩⟩
    clear HC17
    try clear c1
    try clear c2
    try clear p2
    try clear c9
    try clear c10
    try clear c11
    try clear c12
    try clear c19
    try clear c23
    try clear c23b0
    try clear c23b1
    try clear c24
    obtain ⟨kq, x43_16, rfl, HA, HJ16, BK328, HB⟩ := hcut
    cases kq with
    | zero => exact absurd HA.out (by simp [armoirelaw24_FrameRequests.j1])
    | succ kj16 =>
      have H := HA.out
      clear HA
      simp only [armoirelaw24_FrameRequests.j1] at H
      by_cases c44 : x43_16 = true
      · subst c44
        have H1 : (some false) = some r := by rw [if_pos rfl] at H; exact H
        clear H
        have H := H1
        clear H1
        obtain rfl := Option.some.inj H
        go_wp2
        go_ret
        exact ⟨by first | rfl | (simp [errW_none, errW_some] <;> rfl) | (simp [*, errW_none, errW_some] <;> rfl), by repeat (first | (with_reducible first | exact HB.out | apply bal | apply bdn | apply bd1 | refine bst ?_ GE328.out) | exact HB.out)⟩
      replace c44 := Bool.eq_false_iff.mpr c44
      subst c44
      have H1 : ((frame_Request_Check.f kj16 x329000_5 x329001_5 x329002_5 x329003_5 x329004_5 x329005_5 x329006_5).bind fun t350 => (if t350 = 0 then ((frame_Request_Text.f kj16 x329000_5 x329001_5 x329002_5 x329003_5 x329004_5 x329005_5 x329006_5).bind fun t351 => ((frame_ParseRequest.f kj16 t351).bind fun bt352 => ((frame_Request_Text.f kj16 x329000_5 x329001_5 x329002_5 x329003_5 x329004_5 x329005_5 x329006_5).bind fun t361 => ((armoirelaw24_Told.f x329000_5 x329001_5 x329002_5 x329003_5 x329004_5 x329005_5 x329006_5).bind fun bt362 => ((armoireref24_Text.f kj16 bt362.1 bt362.2.1 bt362.2.2.1 bt362.2.2.2.1 bt362.2.2.2.2.1 bt362.2.2.2.2.2.1 bt362.2.2.2.2.2.2).bind fun t369 => (if t361.toList = t369.toList then (if (bt352.1 == x329000_5 && (bt352.2.1 == x329001_5 && (bt352.2.2.1.toList == x329002_5.toList && ((bt352.2.2.2.1 == x329003_5 && (bt352.2.2.2.2.1.toList == x329004_5.toList && (bt352.2.2.2.2.2.1.toList == x329005_5.toList && (bt352.2.2.2.2.2.2.1 == x329006_5)))))))) = true then (armoirelaw24_FrameRequests.j2 kj16 (bt352.2.2.2.2.2.2.2 == 0)) else (armoirelaw24_FrameRequests.j2 kj16 false)) else (armoirelaw24_FrameRequests.j2 kj16 false))))))) else (some true))) = some r := by rw [if_neg (show ¬ (false = true) by decide)] at H; exact H
      clear H
      have H := H1
      clear H1
      replace H := Option.bind_eq_some_iff.mp H
      obtain ⟨t350, A450, H⟩ := H
      replace H : (if t350 = 0 then ((frame_Request_Text.f kj16 x329000_5 x329001_5 x329002_5 x329003_5 x329004_5 x329005_5 x329006_5).bind fun t351 => ((frame_ParseRequest.f kj16 t351).bind fun bt352 => ((frame_Request_Text.f kj16 x329000_5 x329001_5 x329002_5 x329003_5 x329004_5 x329005_5 x329006_5).bind fun t361 => ((armoirelaw24_Told.f x329000_5 x329001_5 x329002_5 x329003_5 x329004_5 x329005_5 x329006_5).bind fun bt362 => ((armoireref24_Text.f kj16 bt362.1 bt362.2.1 bt362.2.2.1 bt362.2.2.2.1 bt362.2.2.2.2.1 bt362.2.2.2.2.2.1 bt362.2.2.2.2.2.2).bind fun t369 => (if t361.toList = t369.toList then (if (bt352.1 == x329000_5 && (bt352.2.1 == x329001_5 && (bt352.2.2.1.toList == x329002_5.toList && ((bt352.2.2.2.1 == x329003_5 && (bt352.2.2.2.2.1.toList == x329004_5.toList && (bt352.2.2.2.2.2.1.toList == x329005_5.toList && (bt352.2.2.2.2.2.2.1 == x329006_5)))))))) = true then (armoirelaw24_FrameRequests.j2 kj16 (bt352.2.2.2.2.2.2.2 == 0)) else (armoirelaw24_FrameRequests.j2 kj16 false)) else (armoirelaw24_FrameRequests.j2 kj16 false))))))) else (some true)) = some r := H
      have A45 := Aside0.mk A450
      clear A450
      by_cases c46 : t350 = 0
      rotate_left
      · rw [if_neg c46] at H
        have c46b0 : (t350 == 0) = false := beq_eq_false_iff_ne.mpr c46
        have c46b1 : (t350 != 0) = true := bne_iff_ne.mpr c46
        obtain rfl := Option.some.inj H
        have hcz78_0 : wc.cell? ⟨gb328, 0, none⟩ = some (.int .i64 x329000_5) := (kcl BK328.out 0).trans rfl
        have hcz78_1 : wc.cell? ⟨gb328, 1, none⟩ = some (.int .i64 x329001_5) := (kcl BK328.out 1).trans rfl
        have hcz78_2 : wc.cell? ⟨gb328, 2, none⟩ = some (.string x329002_5) := (kcl BK328.out 2).trans rfl
        have hcz78_3 : wc.cell? ⟨gb328, 3, none⟩ = some (.int .i64 x329003_5) := (kcl BK328.out 3).trans rfl
        have hcz78_4 : wc.cell? ⟨gb328, 4, none⟩ = some (.string x329004_5) := (kcl BK328.out 4).trans rfl
        have hcz78_5 : wc.cell? ⟨gb328, 5, none⟩ = some (.string x329005_5) := (kcl BK328.out 5).trans rfl
        have hcz78_6 : wc.cell? ⟨gb328, 6, none⟩ = some (.int .i64 x329006_5) := (kcl BK328.out 6).trans rfl
        have hfz78_0 := kfr BK328.out 0
        have hfz78_1 := kfr BK328.out 1
        have hfz78_2 := kfr BK328.out 2
        have hfz78_3 := kfr BK328.out 3
        have hfz78_4 := kfr BK328.out 4
        have hfz78_5 := kfr BK328.out 5
        have hfz78_6 := kfr BK328.out 6
        go_wp2_with (first | ((with_reducible refine gcl (f := 10) rfl ?_); refine gl_ (some 45) rfl rfl Try.func10 (by kernel_rfl) rfl #[.agg #[.int .i64 x329000_5, .int .i64 x329001_5, .string x329002_5, .int .i64 x329003_5, .string x329004_5, .string x329005_5, .int .i64 x329006_5]] rfl (by (try simp only [List.map_toArray, List.map_cons, List.map_nil]); first | done | rfl | (simp only [List.length_drop, List.length_take]; rfl)) ?_; (with_reducible refine (frame_Request_Check.calls kj16 x329000_5 x329001_5 x329002_5 x329003_5 x329004_5 x329005_5 x329006_5 t350 _ A45.out).mono ?_); rintro e w79 ⟨rfl, hb⟩; refine ⟨_, rfl, ?_⟩; have n0_ := Aside0.mk (kbl (g := gb328) (o := .cells #[.int .i64 x329000_5, .int .i64 x329001_5, .string x329002_5, .int .i64 x329003_5, .string x329004_5, .string x329005_5, .int .i64 x329006_5] 26 (0, 0)) (by (with_reducible repeat (first | refine kdn ?_ _ | refine kdw ?_ | refine kal ?_ _)); exact BK328.out) hb); have n1_ := Aside0.mk (bsp (by repeat (first | (with_reducible first | exact HB.out | apply bal | apply bdn | apply bd1 | refine bst ?_ GE328.out) | exact HB.out)) hb); clear BK328; clear HB; have BK328 := n0_; have HB := n1_; clear n0_ n1_; (try clear hb); (try clear hb2); (try clear hk); (try clear hi)))
        go_ret
        exact ⟨by first | rfl | (simp [errW_none, errW_some] <;> rfl) | (simp [*, errW_none, errW_some] <;> rfl), by repeat (first | (with_reducible first | exact HB.out | apply bal | apply bdn | apply bd1 | refine bst ?_ GE328.out) | exact HB.out)⟩
      rw [if_pos c46] at H
      have c46b0 : (t350 == 0) = true := beq_iff_eq.mpr c46
      have c46b1 : (t350 != 0) = false := bne_eq_false_iff_eq.mpr c46
      clear c46
      replace H := Option.bind_eq_some_iff.mp H
      obtain ⟨t351, A470, H⟩ := H
      replace H : ((frame_ParseRequest.f kj16 t351).bind fun bt352 => ((frame_Request_Text.f kj16 x329000_5 x329001_5 x329002_5 x329003_5 x329004_5 x329005_5 x329006_5).bind fun t361 => ((armoirelaw24_Told.f x329000_5 x329001_5 x329002_5 x329003_5 x329004_5 x329005_5 x329006_5).bind fun bt362 => ((armoireref24_Text.f kj16 bt362.1 bt362.2.1 bt362.2.2.1 bt362.2.2.2.1 bt362.2.2.2.2.1 bt362.2.2.2.2.2.1 bt362.2.2.2.2.2.2).bind fun t369 => (if t361.toList = t369.toList then (if (bt352.1 == x329000_5 && (bt352.2.1 == x329001_5 && (bt352.2.2.1.toList == x329002_5.toList && ((bt352.2.2.2.1 == x329003_5 && (bt352.2.2.2.2.1.toList == x329004_5.toList && (bt352.2.2.2.2.2.1.toList == x329005_5.toList && (bt352.2.2.2.2.2.2.1 == x329006_5)))))))) = true then (armoirelaw24_FrameRequests.j2 kj16 (bt352.2.2.2.2.2.2.2 == 0)) else (armoirelaw24_FrameRequests.j2 kj16 false)) else (armoirelaw24_FrameRequests.j2 kj16 false)))))) = some r := H
      have A47 := Aside0.mk A470
      clear A470
      replace H := Option.bind_eq_some_iff.mp H
      obtain ⟨⟨t352, t353, t354, t355, t356, t357, t358, t359⟩, A480, H⟩ := H
      replace H : ((frame_Request_Text.f kj16 x329000_5 x329001_5 x329002_5 x329003_5 x329004_5 x329005_5 x329006_5).bind fun t361 => ((armoirelaw24_Told.f x329000_5 x329001_5 x329002_5 x329003_5 x329004_5 x329005_5 x329006_5).bind fun bt362 => ((armoireref24_Text.f kj16 bt362.1 bt362.2.1 bt362.2.2.1 bt362.2.2.2.1 bt362.2.2.2.2.1 bt362.2.2.2.2.2.1 bt362.2.2.2.2.2.2).bind fun t369 => (if t361.toList = t369.toList then (if (t352 == x329000_5 && (t353 == x329001_5 && (t354.toList == x329002_5.toList && ((t355 == x329003_5 && (t356.toList == x329004_5.toList && (t357.toList == x329005_5.toList && (t358 == x329006_5)))))))) = true then (armoirelaw24_FrameRequests.j2 kj16 (t359 == 0)) else (armoirelaw24_FrameRequests.j2 kj16 false)) else (armoirelaw24_FrameRequests.j2 kj16 false))))) = some r := H
      have A48 := Aside0.mk A480
      clear A480
      have HC49 := Aside0.mk H
      clear H
      have hcz50_0 : wc.cell? ⟨gb328, 0, none⟩ = some (.int .i64 x329000_5) := (kcl BK328.out 0).trans rfl
      have hcz50_1 : wc.cell? ⟨gb328, 1, none⟩ = some (.int .i64 x329001_5) := (kcl BK328.out 1).trans rfl
      have hcz50_2 : wc.cell? ⟨gb328, 2, none⟩ = some (.string x329002_5) := (kcl BK328.out 2).trans rfl
      have hcz50_3 : wc.cell? ⟨gb328, 3, none⟩ = some (.int .i64 x329003_5) := (kcl BK328.out 3).trans rfl
      have hcz50_4 : wc.cell? ⟨gb328, 4, none⟩ = some (.string x329004_5) := (kcl BK328.out 4).trans rfl
      have hcz50_5 : wc.cell? ⟨gb328, 5, none⟩ = some (.string x329005_5) := (kcl BK328.out 5).trans rfl
      have hcz50_6 : wc.cell? ⟨gb328, 6, none⟩ = some (.int .i64 x329006_5) := (kcl BK328.out 6).trans rfl
      have hfz50_0 := kfr BK328.out 0
      have hfz50_1 := kfr BK328.out 1
      have hfz50_2 := kfr BK328.out 2
      have hfz50_3 := kfr BK328.out 3
      have hfz50_4 := kfr BK328.out 4
      have hfz50_5 := kfr BK328.out 5
      have hfz50_6 := kfr BK328.out 6
      go_upto_region 9 with (first | ((with_reducible refine gcl (f := 10) rfl ?_); refine gl_ (some 45) rfl rfl Try.func10 (by kernel_rfl) rfl #[.agg #[.int .i64 x329000_5, .int .i64 x329001_5, .string x329002_5, .int .i64 x329003_5, .string x329004_5, .string x329005_5, .int .i64 x329006_5]] rfl (by (try simp only [List.map_toArray, List.map_cons, List.map_nil]); first | done | rfl | (simp only [List.length_drop, List.length_take]; rfl)) ?_; (with_reducible refine (frame_Request_Check.calls kj16 x329000_5 x329001_5 x329002_5 x329003_5 x329004_5 x329005_5 x329006_5 t350 _ A45.out).mono ?_); rintro e w51 ⟨rfl, hb⟩; refine ⟨_, rfl, ?_⟩; have n0_ := Aside0.mk (kbl (g := gb328) (o := .cells #[.int .i64 x329000_5, .int .i64 x329001_5, .string x329002_5, .int .i64 x329003_5, .string x329004_5, .string x329005_5, .int .i64 x329006_5] 26 (0, 0)) (by (with_reducible repeat (first | refine kdn ?_ _ | refine kdw ?_ | refine kal ?_ _)); exact BK328.out) hb); have n1_ := Aside0.mk (bsp (by repeat (first | (with_reducible first | exact HB.out | apply bal | apply bdn | apply bd1 | refine bst ?_ GE328.out) | exact HB.out)) hb); clear BK328; clear HB; have BK328 := n0_; have HB := n1_; clear n0_ n1_; (try clear hb); (try clear hb2); (try clear hk); (try clear hi); have hcz52_0 : w51.cell? ⟨gb328, 0, none⟩ = some (.int .i64 x329000_5) := (kcl BK328.out 0).trans rfl; have hcz52_1 : w51.cell? ⟨gb328, 1, none⟩ = some (.int .i64 x329001_5) := (kcl BK328.out 1).trans rfl; have hcz52_2 : w51.cell? ⟨gb328, 2, none⟩ = some (.string x329002_5) := (kcl BK328.out 2).trans rfl; have hcz52_3 : w51.cell? ⟨gb328, 3, none⟩ = some (.int .i64 x329003_5) := (kcl BK328.out 3).trans rfl; have hcz52_4 : w51.cell? ⟨gb328, 4, none⟩ = some (.string x329004_5) := (kcl BK328.out 4).trans rfl; have hcz52_5 : w51.cell? ⟨gb328, 5, none⟩ = some (.string x329005_5) := (kcl BK328.out 5).trans rfl; have hcz52_6 : w51.cell? ⟨gb328, 6, none⟩ = some (.int .i64 x329006_5) := (kcl BK328.out 6).trans rfl; have hfz52_0 := kfr BK328.out 0; have hfz52_1 := kfr BK328.out 1; have hfz52_2 := kfr BK328.out 2; have hfz52_3 := kfr BK328.out 3; have hfz52_4 := kfr BK328.out 4; have hfz52_5 := kfr BK328.out 5; have hfz52_6 := kfr BK328.out 6) | ((with_reducible refine gcl (f := 14) rfl ?_); refine gl_ (some 49) rfl rfl Try.func14 (by kernel_rfl) rfl #[.agg #[.int .i64 x329000_5, .int .i64 x329001_5, .string x329002_5, .int .i64 x329003_5, .string x329004_5, .string x329005_5, .int .i64 x329006_5]] rfl (by (try simp only [List.map_toArray, List.map_cons, List.map_nil]); first | done | rfl | (simp only [List.length_drop, List.length_take]; rfl)) ?_; (with_reducible refine (frame_Request_Text.calls kj16 x329000_5 x329001_5 x329002_5 x329003_5 x329004_5 x329005_5 x329006_5 t351 _ A47.out).mono ?_); rintro e w53 ⟨rfl, hb⟩; refine ⟨_, rfl, ?_⟩; have n0_ := Aside0.mk (kbl (g := gb328) (o := .cells #[.int .i64 x329000_5, .int .i64 x329001_5, .string x329002_5, .int .i64 x329003_5, .string x329004_5, .string x329005_5, .int .i64 x329006_5] 26 (0, 0)) (by (with_reducible repeat (first | refine kdn ?_ _ | refine kdw ?_ | refine kal ?_ _)); exact BK328.out) hb); have n1_ := Aside0.mk (bsp (by repeat (first | (with_reducible first | exact HB.out | apply bal | apply bdn | apply bd1 | refine bst ?_ GE328.out) | exact HB.out)) hb); clear BK328; clear HB; have BK328 := n0_; have HB := n1_; clear n0_ n1_; (try clear hb); (try clear hb2); (try clear hk); (try clear hi)) | ((with_reducible refine gcl (f := 13) rfl ?_); refine gl_ (some 50) rfl rfl Try.func13 (by kernel_rfl) rfl #[.string t351] rfl (by (try simp only [List.map_toArray, List.map_cons, List.map_nil]); first | done | rfl | (simp only [List.length_drop, List.length_take]; rfl)) ?_; (with_reducible refine (frame_ParseRequest.calls kj16 t351 t352 t353 t354 t355 t356 t357 t358 t359 _ A48.out).mono ?_); rintro e w54 ⟨rfl, hb⟩; refine ⟨_, rfl, ?_⟩; have n0_ := Aside0.mk (kbl (g := gb328) (o := .cells #[.int .i64 x329000_5, .int .i64 x329001_5, .string x329002_5, .int .i64 x329003_5, .string x329004_5, .string x329005_5, .int .i64 x329006_5] 26 (0, 0)) (by (with_reducible repeat (first | refine kdn ?_ _ | refine kdw ?_ | refine kal ?_ _)); exact BK328.out) hb); have n1_ := Aside0.mk (bsp (by repeat (first | (with_reducible first | exact HB.out | apply bal | apply bdn | apply bd1 | refine bst ?_ GE328.out) | exact HB.out)) hb); clear BK328; clear HB; have BK328 := n0_; have HB := n1_; clear n0_ n1_; (try clear hb); (try clear hb2); (try clear hk); (try clear hi)) | ((with_reducible refine gds (N := 5) rfl ?_); refine bev ?hg (N := 5) ?hd (cs := #[.int .i64 0, .int .i64 0, .string (⟨#[]⟩ : ByteArray), .int .i64 0, .string (⟨#[]⟩ : ByteArray), .string (⟨#[]⟩ : ByteArray), .int .i64 0]) (t := 26) ?hr ?_; (case hd => rfl); (case hg => rfl); (case hr => first | (go_simp; done) | (go_simp; rfl)); intro gb360 hg w55 hbox hb; have n0_ := Aside0.mk (kbl (g := gb328) (o := .cells #[.int .i64 x329000_5, .int .i64 x329001_5, .string x329002_5, .int .i64 x329003_5, .string x329004_5, .string x329005_5, .int .i64 x329006_5] 26 (0, 0)) (by (with_reducible repeat (first | refine kdn ?_ _ | refine kdw ?_ | refine kal ?_ _)); exact BK328.out) hb); have n1_ := Aside0.mk (bsp (by repeat (first | (with_reducible first | exact HB.out | apply bal | apply bdn | apply bd1 | refine bst ?_ GE328.out) | exact HB.out)) hb); have n2_ := Aside0.mk (hbox); have n3_ := Aside0.mk ((by rw [hg]; exact (bsz (by repeat (first | (with_reducible first | exact HB.out | apply bal | apply bdn | apply bd1 | refine bst ?_ GE328.out) | exact HB.out))) : w.heap.size ≤ gb360)); have n4_ := Aside0.mk ((by rw [hg]; exact (bsz (by repeat (first | (with_reducible first | exact HB.out | apply bal | apply bdn | apply bd1 | refine bst ?_ GE328.out) | exact HB.out))) : w.heap.size ≤ gb360)); have n5_ := Aside0.mk ((by rw [hg]; exact Nat.ne_of_lt (blk_lt (g := gb328) (o := .cells #[.int .i64 x329000_5, .int .i64 x329001_5, .string x329002_5, .int .i64 x329003_5, .string x329004_5, .string x329005_5, .int .i64 x329006_5] 26 (0, 0)) (by (with_reducible repeat (first | refine kdn ?_ _ | refine kdw ?_ | refine kal ?_ _)); exact BK328.out)) : gb328 ≠ gb360)); have n6_ := Aside0.mk ((by rw [hg]; exact Nat.ne_of_gt (blk_lt (g := gb328) (o := .cells #[.int .i64 x329000_5, .int .i64 x329001_5, .string x329002_5, .int .i64 x329003_5, .string x329004_5, .string x329005_5, .int .i64 x329006_5] 26 (0, 0)) (by (with_reducible repeat (first | refine kdn ?_ _ | refine kdw ?_ | refine kal ?_ _)); exact BK328.out)) : gb360 ≠ gb328)); clear BK328; clear HB; have BK328 := n0_; have HB := n1_; have BK360 := n2_; have GW360 := n3_; have GE360 := n4_; have NB328_360 := n5_; have NB360_328 := n6_; clear n0_ n1_ n2_ n3_ n4_ n5_ n6_; clear hb hbox hg; have hnb56 := NB360_328.out; have hnc56 := NB328_360.out; have hcz57_0 : w55.cell? ⟨gb360, 0, none⟩ = some (.int .i64 0) := (kcl BK360.out 0).trans rfl; have hcz57_1 : w55.cell? ⟨gb360, 1, none⟩ = some (.int .i64 0) := (kcl BK360.out 1).trans rfl; have hcz57_2 : w55.cell? ⟨gb360, 2, none⟩ = some (.string (⟨#[]⟩ : ByteArray)) := (kcl BK360.out 2).trans rfl; have hcz57_3 : w55.cell? ⟨gb360, 3, none⟩ = some (.int .i64 0) := (kcl BK360.out 3).trans rfl; have hcz57_4 : w55.cell? ⟨gb360, 4, none⟩ = some (.string (⟨#[]⟩ : ByteArray)) := (kcl BK360.out 4).trans rfl; have hcz57_5 : w55.cell? ⟨gb360, 5, none⟩ = some (.string (⟨#[]⟩ : ByteArray)) := (kcl BK360.out 5).trans rfl; have hcz57_6 : w55.cell? ⟨gb360, 6, none⟩ = some (.int .i64 0) := (kcl BK360.out 6).trans rfl; have hfz57_0 := kfr BK360.out 0; have hfz57_1 := kfr BK360.out 1; have hfz57_2 := kfr BK360.out 2; have hfz57_3 := kfr BK360.out 3; have hfz57_4 := kfr BK360.out 4; have hfz57_5 := kfr BK360.out 5; have hfz57_6 := kfr BK360.out 6))
      (try simp only [Act.put, List.setIfInBounds_toArray, List.set_cons_zero, List.set_cons_succ])
      go_cut [4] (fun v4 wc => ∃ (kq : Nat) (x4_48 : Bool), v4 = .bool x4_48 ∧ Aside0 (armoirelaw24_FrameRequests.j2 kq x4_48 = some r) ∧ Aside0 (kq ≤ kj16) ∧ Aside0 (wc.heap[gb328]? = some (.cells #[.int .i64 x329000_5, .int .i64 x329001_5, .string x329002_5, .int .i64 x329003_5, .string x329004_5, .string x329005_5, .int .i64 x329006_5] 26 (0, 0))) ∧ Aside0 (wc.heap[gb360]? = some (.cells #[.int .i64 t352, .int .i64 t353, .string t354, .int .i64 t355, .string t356, .string t357, .int .i64 t358] 26 (0, 0))) ∧ Aside0 (Below w.heap.size w wc))
      case first =>
        have H := HC49.out
        clear HC49
        replace H := Option.bind_eq_some_iff.mp H
        obtain ⟨t361, A580, H⟩ := H
        replace H : ((armoirelaw24_Told.f x329000_5 x329001_5 x329002_5 x329003_5 x329004_5 x329005_5 x329006_5).bind fun bt362 => ((armoireref24_Text.f kj16 bt362.1 bt362.2.1 bt362.2.2.1 bt362.2.2.2.1 bt362.2.2.2.2.1 bt362.2.2.2.2.2.1 bt362.2.2.2.2.2.2).bind fun t369 => (if t361.toList = t369.toList then (if (t352 == x329000_5 && (t353 == x329001_5 && (t354.toList == x329002_5.toList && ((t355 == x329003_5 && (t356.toList == x329004_5.toList && (t357.toList == x329005_5.toList && (t358 == x329006_5)))))))) = true then (armoirelaw24_FrameRequests.j2 kj16 (t359 == 0)) else (armoirelaw24_FrameRequests.j2 kj16 false)) else (armoirelaw24_FrameRequests.j2 kj16 false)))) = some r := H
        have A58 := Aside0.mk A580
        clear A580
        replace H := Option.bind_eq_some_iff.mp H
        obtain ⟨⟨t362, t363, t364, t365, t366, t367, t368⟩, A590, H⟩ := H
        replace H : ((armoireref24_Text.f kj16 t362 t363 t364 t365 t366 t367 t368).bind fun t369 => (if t361.toList = t369.toList then (if (t352 == x329000_5 && (t353 == x329001_5 && (t354.toList == x329002_5.toList && ((t355 == x329003_5 && (t356.toList == x329004_5.toList && (t357.toList == x329005_5.toList && (t358 == x329006_5)))))))) = true then (armoirelaw24_FrameRequests.j2 kj16 (t359 == 0)) else (armoirelaw24_FrameRequests.j2 kj16 false)) else (armoirelaw24_FrameRequests.j2 kj16 false))) = some r := H
        have A59 := Aside0.mk A590
        clear A590
        replace H := Option.bind_eq_some_iff.mp H
        obtain ⟨t369, A600, H⟩ := H
        replace H : (if t361.toList = t369.toList then (if (t352 == x329000_5 && (t353 == x329001_5 && (t354.toList == x329002_5.toList && ((t355 == x329003_5 && (t356.toList == x329004_5.toList && (t357.toList == x329005_5.toList && (t358 == x329006_5)))))))) = true then (armoirelaw24_FrameRequests.j2 kj16 (t359 == 0)) else (armoirelaw24_FrameRequests.j2 kj16 false)) else (armoirelaw24_FrameRequests.j2 kj16 false)) = some r := H
        have A60 := Aside0.mk A600
        clear A600
        by_cases c61 : t361.toList = t369.toList
        rotate_left
        · rw [if_neg c61] at H
          have c61b0 : (t361.toList == t369.toList) = false := beq_eq_false_iff_ne.mpr c61
          have c61b1 : (t361.toList != t369.toList) = true := bne_iff_ne.mpr c61
          (first | rw [c61b0] | (simp only [i64_w, i32_w]; rw [c61b0]) | skip)
          have H' := Aside0.mk H
          clear H
          try go_wp2
          have n0_ : Aside0 ((((((((w55.setCell ⟨gb360, 0, none⟩ (.int .i64 t352)).setCell ⟨gb360, 1, none⟩ (.int .i64 t353)).setCell ⟨gb360, 2, none⟩ (.string t354)).setCell ⟨gb360, 3, none⟩ (.int .i64 t355)).setCell ⟨gb360, 4, none⟩ (.string t356)).setCell ⟨gb360, 5, none⟩ (.string t357)).setCell ⟨gb360, 6, none⟩ (.int .i64 t358)).heap[gb328]? = some (.cells #[.int .i64 x329000_5, .int .i64 x329001_5, .string x329002_5, .int .i64 x329003_5, .string x329004_5, .string x329005_5, .int .i64 x329006_5] 26 (0, 0))) := ⟨by (with_reducible repeat (first | refine kdn ?_ _ | refine kdw ?_ | refine kal ?_ _)); refine blk_far ?_ NB328_360.out _; (with_reducible repeat (first | refine kdn ?_ _ | refine kdw ?_ | refine kal ?_ _)); refine blk_far ?_ NB328_360.out _; (with_reducible repeat (first | refine kdn ?_ _ | refine kdw ?_ | refine kal ?_ _)); refine blk_far ?_ NB328_360.out _; (with_reducible repeat (first | refine kdn ?_ _ | refine kdw ?_ | refine kal ?_ _)); refine blk_far ?_ NB328_360.out _; (with_reducible repeat (first | refine kdn ?_ _ | refine kdw ?_ | refine kal ?_ _)); refine blk_far ?_ NB328_360.out _; (with_reducible repeat (first | refine kdn ?_ _ | refine kdw ?_ | refine kal ?_ _)); refine blk_far ?_ NB328_360.out _; (with_reducible repeat (first | refine kdn ?_ _ | refine kdw ?_ | refine kal ?_ _)); refine blk_far ?_ NB328_360.out _; (with_reducible repeat (first | refine kdn ?_ _ | refine kdw ?_ | refine kal ?_ _)); exact BK328.out⟩
          have n1_ : Aside0 ((((((((w55.setCell ⟨gb360, 0, none⟩ (.int .i64 t352)).setCell ⟨gb360, 1, none⟩ (.int .i64 t353)).setCell ⟨gb360, 2, none⟩ (.string t354)).setCell ⟨gb360, 3, none⟩ (.int .i64 t355)).setCell ⟨gb360, 4, none⟩ (.string t356)).setCell ⟨gb360, 5, none⟩ (.string t357)).setCell ⟨gb360, 6, none⟩ (.int .i64 t358)).heap[gb360]? = some (.cells #[.int .i64 t352, .int .i64 t353, .string t354, .int .i64 t355, .string t356, .string t357, .int .i64 t358] 26 (0, 0))) := ⟨by (with_reducible repeat (first | refine kdn ?_ _ | refine kdw ?_ | refine kal ?_ _)); refine kpt (cs := #[.int .i64 t352, .int .i64 t353, .string t354, .int .i64 t355, .string t356, .string t357, .int .i64 0]) ?_ 6 _ rfl; (with_reducible repeat (first | refine kdn ?_ _ | refine kdw ?_ | refine kal ?_ _)); refine kpt (cs := #[.int .i64 t352, .int .i64 t353, .string t354, .int .i64 t355, .string t356, .string (⟨#[]⟩ : ByteArray), .int .i64 0]) ?_ 5 _ rfl; (with_reducible repeat (first | refine kdn ?_ _ | refine kdw ?_ | refine kal ?_ _)); refine kpt (cs := #[.int .i64 t352, .int .i64 t353, .string t354, .int .i64 t355, .string (⟨#[]⟩ : ByteArray), .string (⟨#[]⟩ : ByteArray), .int .i64 0]) ?_ 4 _ rfl; (with_reducible repeat (first | refine kdn ?_ _ | refine kdw ?_ | refine kal ?_ _)); refine kpt (cs := #[.int .i64 t352, .int .i64 t353, .string t354, .int .i64 0, .string (⟨#[]⟩ : ByteArray), .string (⟨#[]⟩ : ByteArray), .int .i64 0]) ?_ 3 _ rfl; (with_reducible repeat (first | refine kdn ?_ _ | refine kdw ?_ | refine kal ?_ _)); refine kpt (cs := #[.int .i64 t352, .int .i64 t353, .string (⟨#[]⟩ : ByteArray), .int .i64 0, .string (⟨#[]⟩ : ByteArray), .string (⟨#[]⟩ : ByteArray), .int .i64 0]) ?_ 2 _ rfl; (with_reducible repeat (first | refine kdn ?_ _ | refine kdw ?_ | refine kal ?_ _)); refine kpt (cs := #[.int .i64 t352, .int .i64 0, .string (⟨#[]⟩ : ByteArray), .int .i64 0, .string (⟨#[]⟩ : ByteArray), .string (⟨#[]⟩ : ByteArray), .int .i64 0]) ?_ 1 _ rfl; (with_reducible repeat (first | refine kdn ?_ _ | refine kdw ?_ | refine kal ?_ _)); refine kpt (cs := #[.int .i64 0, .int .i64 0, .string (⟨#[]⟩ : ByteArray), .int .i64 0, .string (⟨#[]⟩ : ByteArray), .string (⟨#[]⟩ : ByteArray), .int .i64 0]) ?_ 0 _ rfl; (with_reducible repeat (first | refine kdn ?_ _ | refine kdw ?_ | refine kal ?_ _)); exact BK360.out⟩
          have n2_ : Aside0 (Below w.heap.size w (((((((w55.setCell ⟨gb360, 0, none⟩ (.int .i64 t352)).setCell ⟨gb360, 1, none⟩ (.int .i64 t353)).setCell ⟨gb360, 2, none⟩ (.string t354)).setCell ⟨gb360, 3, none⟩ (.int .i64 t355)).setCell ⟨gb360, 4, none⟩ (.string t356)).setCell ⟨gb360, 5, none⟩ (.string t357)).setCell ⟨gb360, 6, none⟩ (.int .i64 t358))) := ⟨by repeat (first | (with_reducible first | exact HB.out | apply bal | apply bdn | apply bd1 | refine bst ?_ GE328.out | refine bst ?_ GE360.out) | exact HB.out)⟩
          (try clear BK328)
          (try clear BK360)
          (try clear HB)
          generalize (((((((w55.setCell ⟨gb360, 0, none⟩ (.int .i64 t352)).setCell ⟨gb360, 1, none⟩ (.int .i64 t353)).setCell ⟨gb360, 2, none⟩ (.string t354)).setCell ⟨gb360, 3, none⟩ (.int .i64 t355)).setCell ⟨gb360, 4, none⟩ (.string t356)).setCell ⟨gb360, 5, none⟩ (.string t357)).setCell ⟨gb360, 6, none⟩ (.int .i64 t358)) = w73 at n0_ n1_ n2_ ⊢
          have BK328 := n0_
          have BK360 := n1_
          have HB := n2_
          clear n0_ n1_ n2_
          have n0_ := Aside0.mk (kdw BK328.out)
          have n1_ := Aside0.mk (kdw BK360.out)
          have n2_ := Aside0.mk (bd1 HB.out)
          clear BK328
          clear BK360
          clear HB
          have BK328 := n0_
          have BK360 := n1_
          have HB := n2_
          clear n0_ n1_ n2_
          refine start_ (n := 16) (S := fun w' => w'.cell? ⟨gb328, 0, none⟩ = some (.int .i64 x329000_5) ∧ w'.cell? ⟨gb328, 1, none⟩ = some (.int .i64 x329001_5) ∧ w'.cell? ⟨gb328, 2, none⟩ = some (.string x329002_5) ∧ w'.cell? ⟨gb328, 3, none⟩ = some (.int .i64 x329003_5) ∧ w'.cell? ⟨gb328, 4, none⟩ = some (.string x329004_5) ∧ w'.cell? ⟨gb328, 5, none⟩ = some (.string x329005_5) ∧ w'.cell? ⟨gb328, 6, none⟩ = some (.int .i64 x329006_5)) (ds := []) #[false,false,false,false,false,false,false,false,false,false,false,false,false,false,false,false] (by kernel_rfl) rfl rfl ⟨(kcl BK328.out 0).trans rfl, (kcl BK328.out 1).trans rfl, (kcl BK328.out 2).trans rfl, (kcl BK328.out 3).trans rfl, (kcl BK328.out 4).trans rfl, (kcl BK328.out 5).trans rfl, (kcl BK328.out 6).trans rfl⟩ (fun hHeld => ?_); refine with_tabW armoirelaw24_FrameRequests.tab9 armoirelaw24_FrameRequests.bits9 (fun HT_ HW_ => ?_)
          generalize w73.drew = w74 at BK328 BK360 HB hHeld ⊢
          refine take_ (i := 0) (N := some 53) (v := ?_) (a' := ?_) #[true,false,false,false,false,false,false,false,false,false,false,false,false,false,false,false] rfl rfl (tkw HT_.out HW_.out (by kernel_rfl)) (fun _ _ _ h => h) (Or.inl ⟨by rfl, ?_⟩) hHeld ?_ ?_
          rotate_left
          · rintro w' ⟨s0, s1, s2, s3, s4, s5, s6⟩
            go_simp
            with_reducible rfl
          rotate_left; (simp only [Act.put, List.setIfInBounds_toArray, List.set_cons_zero, List.set_cons_succ, i64_w, i32_w]; rfl)
          refine take_ (i := 2) (N := some 55) (v := ?_) (a' := ?_) #[true,false,true,false,false,false,false,false,false,false,false,false,false,false,false,false] rfl rfl (tkw HT_.out HW_.out (by kernel_rfl)) (fun _ _ _ h => h) (Or.inl ⟨by rfl, ?_⟩) hHeld ?_ ?_
          rotate_left
          · rintro w' ⟨s0, s1, s2, s3, s4, s5, s6⟩
            go_simp
            with_reducible rfl
          rotate_left; (simp only [Act.put, List.setIfInBounds_toArray, List.set_cons_zero, List.set_cons_succ, i64_w, i32_w]; rfl)
          refine one_ (i := 1) (N := some 54) #[true,true,true,false,false,false,false,false,false,false,false,false,false,false,false,false] rfl rfl (one_of HT_.out (by kernel_rfl)) (by decide) (fun K hK => ?_)
          refine goes_ Try.func14 (by kernel_rfl) rfl #[.agg #[.int .i64 x329000_5, .int .i64 x329001_5, .string x329002_5, .int .i64 x329003_5, .string x329004_5, .string x329005_5, .int .i64 x329006_5]] (by rfl) rfl rfl (by (try simp only [List.map_toArray, List.map_cons, List.map_nil]); first | done | rfl | (simp only [List.length_drop, List.length_take]; rfl) | (simp only [Act.eval, Array.getD_eq_getD_getElem?, Option.getD_some, *]; done) | (simp only [Array.mk.injEq, List.cons.injEq, Value.int.injEq, true_and, and_true]; first | omega | (simp [IntKind.wrap, IntKind.bits, IntKind.signed]; omega))) ?_
          with_reducible refine (frame_Request_Text.calls kj16 x329000_5 x329001_5 x329002_5 x329003_5 x329004_5 x329005_5 x329006_5 t361 _ A58.out).mono ?_
          rintro e w75 ⟨rfl, hb⟩
          refine ⟨_, rfl, ?_⟩
          have n0_ := Aside0.mk (kbl (g := gb328) (o := .cells #[.int .i64 x329000_5, .int .i64 x329001_5, .string x329002_5, .int .i64 x329003_5, .string x329004_5, .string x329005_5, .int .i64 x329006_5] 26 (0, 0)) (by (with_reducible repeat (first | refine kdn ?_ _ | refine kdw ?_ | refine kal ?_ _)); exact BK328.out) hb)
          have n1_ := Aside0.mk (kbl (g := gb360) (o := .cells #[.int .i64 t352, .int .i64 t353, .string t354, .int .i64 t355, .string t356, .string t357, .int .i64 t358] 26 (0, 0)) (by (with_reducible repeat (first | refine kdn ?_ _ | refine kdw ?_ | refine kal ?_ _)); exact BK360.out) hb)
          have n2_ := Aside0.mk (bsp (by repeat (first | (with_reducible first | exact HB.out | apply bal | apply bdn | apply bd1 | refine bst ?_ GE328.out | refine bst ?_ GE360.out) | exact HB.out)) hb)
          clear BK328
          clear BK360
          clear HB
          have BK328 := n0_
          have BK360 := n1_
          have HB := n2_
          clear n0_ n1_ n2_
          (try clear hb)
          (try clear hb2)
          (try clear hk)
          (try clear hi)
          refine hK.out _ _ ⟨(kcl BK328.out 0).trans rfl, (kcl BK328.out 1).trans rfl, (kcl BK328.out 2).trans rfl, (kcl BK328.out 3).trans rfl, (kcl BK328.out 4).trans rfl, (kcl BK328.out 5).trans rfl, (kcl BK328.out 6).trans rfl⟩ (fun hHeld => ?_)
          clear hK K
          refine norm_ (a' := ?_) ?_ ?_
          rotate_left
          · show Act.put _ (some 54) _ = _
            simp only [Act.put, List.setIfInBounds_toArray, List.set_cons_zero, List.set_cons_succ, i64_w, i32_w]
            rfl
          refine one_ (i := 3) (N := some 56) #[true,true,true,true,false,false,false,false,false,false,false,false,false,false,false,false] rfl rfl (one_of HT_.out (by kernel_rfl)) (by decide) (fun K hK => ?_)
          refine goes_ Try.func12 (by kernel_rfl) rfl #[.agg #[.int .i64 x329000_5, .int .i64 x329001_5, .string x329002_5, .int .i64 x329003_5, .string x329004_5, .string x329005_5, .int .i64 x329006_5]] (by rfl) rfl rfl (by (try simp only [List.map_toArray, List.map_cons, List.map_nil]); first | done | rfl | (simp only [List.length_drop, List.length_take]; rfl) | (simp only [Act.eval, Array.getD_eq_getD_getElem?, Option.getD_some, *]; done) | (simp only [Array.mk.injEq, List.cons.injEq, Value.int.injEq, true_and, and_true]; first | omega | (simp [IntKind.wrap, IntKind.bits, IntKind.signed]; omega))) ?_
          with_reducible refine (armoirelaw24_Told.calls x329000_5 x329001_5 x329002_5 x329003_5 x329004_5 x329005_5 x329006_5 t362 t363 t364 t365 t366 t367 t368 _ A59.out).mono ?_
          rintro e w76 ⟨rfl, hb⟩
          refine ⟨_, rfl, ?_⟩
          have n0_ := Aside0.mk (kbl (g := gb328) (o := .cells #[.int .i64 x329000_5, .int .i64 x329001_5, .string x329002_5, .int .i64 x329003_5, .string x329004_5, .string x329005_5, .int .i64 x329006_5] 26 (0, 0)) (by (with_reducible repeat (first | refine kdn ?_ _ | refine kdw ?_ | refine kal ?_ _)); exact BK328.out) hb)
          have n1_ := Aside0.mk (kbl (g := gb360) (o := .cells #[.int .i64 t352, .int .i64 t353, .string t354, .int .i64 t355, .string t356, .string t357, .int .i64 t358] 26 (0, 0)) (by (with_reducible repeat (first | refine kdn ?_ _ | refine kdw ?_ | refine kal ?_ _)); exact BK360.out) hb)
          have n2_ := Aside0.mk (bsp (by repeat (first | (with_reducible first | exact HB.out | apply bal | apply bdn | apply bd1 | refine bst ?_ GE328.out | refine bst ?_ GE360.out) | exact HB.out)) hb)
          clear BK328
          clear BK360
          clear HB
          have BK328 := n0_
          have BK360 := n1_
          have HB := n2_
          clear n0_ n1_ n2_
          (try clear hb)
          (try clear hb2)
          (try clear hk)
          (try clear hi)
          refine hK.out _ _ ⟨(kcl BK328.out 0).trans rfl, (kcl BK328.out 1).trans rfl, (kcl BK328.out 2).trans rfl, (kcl BK328.out 3).trans rfl, (kcl BK328.out 4).trans rfl, (kcl BK328.out 5).trans rfl, (kcl BK328.out 6).trans rfl⟩ (fun hHeld => ?_)
          clear hK K
          refine norm_ (a' := ?_) ?_ ?_
          rotate_left
          · show Act.put _ (some 56) _ = _
            simp only [Act.put, List.setIfInBounds_toArray, List.set_cons_zero, List.set_cons_succ, i64_w, i32_w]
            rfl
          refine one_ (i := 4) (N := some 57) #[true,true,true,true,true,false,false,false,false,false,false,false,false,false,false,false] rfl rfl (one_of HT_.out (by kernel_rfl)) (by decide) (fun K hK => ?_)
          refine goes_ Try.func15 (by kernel_rfl) rfl #[.agg #[.int .i64 t362, .int .i64 t363, .string t364, .int .i64 t365, .string t366, .string t367, .int .i64 t368]] (by rfl) rfl rfl (by (try simp only [List.map_toArray, List.map_cons, List.map_nil]); first | done | rfl | (simp only [List.length_drop, List.length_take]; rfl) | (simp only [Act.eval, Array.getD_eq_getD_getElem?, Option.getD_some, *]; done) | (simp only [Array.mk.injEq, List.cons.injEq, Value.int.injEq, true_and, and_true]; first | omega | (simp [IntKind.wrap, IntKind.bits, IntKind.signed]; omega))) ?_
          with_reducible refine (armoireref24_Text.calls kj16 t362 t363 t364 t365 t366 t367 t368 t369 _ A60.out).mono ?_
          rintro e w77 ⟨rfl, hb⟩
          refine ⟨_, rfl, ?_⟩
          have n0_ := Aside0.mk (kbl (g := gb328) (o := .cells #[.int .i64 x329000_5, .int .i64 x329001_5, .string x329002_5, .int .i64 x329003_5, .string x329004_5, .string x329005_5, .int .i64 x329006_5] 26 (0, 0)) (by (with_reducible repeat (first | refine kdn ?_ _ | refine kdw ?_ | refine kal ?_ _)); exact BK328.out) hb)
          have n1_ := Aside0.mk (kbl (g := gb360) (o := .cells #[.int .i64 t352, .int .i64 t353, .string t354, .int .i64 t355, .string t356, .string t357, .int .i64 t358] 26 (0, 0)) (by (with_reducible repeat (first | refine kdn ?_ _ | refine kdw ?_ | refine kal ?_ _)); exact BK360.out) hb)
          have n2_ := Aside0.mk (bsp (by repeat (first | (with_reducible first | exact HB.out | apply bal | apply bdn | apply bd1 | refine bst ?_ GE328.out | refine bst ?_ GE360.out) | exact HB.out)) hb)
          clear BK328
          clear BK360
          clear HB
          have BK328 := n0_
          have BK360 := n1_
          have HB := n2_
          clear n0_ n1_ n2_
          (try clear hb)
          (try clear hb2)
          (try clear hk)
          (try clear hi)
          refine hK.out _ _ ⟨(kcl BK328.out 0).trans rfl, (kcl BK328.out 1).trans rfl, (kcl BK328.out 2).trans rfl, (kcl BK328.out 3).trans rfl, (kcl BK328.out 4).trans rfl, (kcl BK328.out 5).trans rfl, (kcl BK328.out 6).trans rfl⟩ (fun hHeld => ?_)
          clear hK K
          refine norm_ (a' := ?_) ?_ ?_
          rotate_left
          · show Act.put _ (some 57) _ = _
            simp only [Act.put, List.setIfInBounds_toArray, List.set_cons_zero, List.set_cons_succ, i64_w, i32_w]
            rfl
          refine pure_ (i := 5) (N := some 58) (v := ?_) (a' := ?_) (bA 16 63) rfl rfl (any_of HT_.out (by kernel_rfl)) (fun _ _ _ h => h) (Or.inl ⟨by rfl, ?_⟩) ?_ ?_
          rotate_left; (intro w'; go_simp; with_reducible rfl); rotate_left; (simp only [Act.put, List.setIfInBounds_toArray, List.set_cons_zero, List.set_cons_succ, i64_w, i32_w]; rfl)
          refine pure_ (i := 6) (N := some 59) (v := ?_) (a' := ?_) (bA 16 127) rfl rfl (any_of HT_.out (by kernel_rfl)) (fun _ _ _ h => h) (Or.inl ⟨by rfl, ?_⟩) ?_ ?_
          rotate_left; (intro w'; go_simp; with_reducible rfl); rotate_left; (simp only [Act.put, List.setIfInBounds_toArray, List.set_cons_zero, List.set_cons_succ, i64_w, i32_w]; rfl)
          refine pure_ (i := 7) (N := some 60) (v := undef) (a' := ?_) (bA 16 255) rfl rfl (any_of HT_.out (by kernel_rfl)) (fun _ _ _ h => h) (Or.inr ⟨by rfl, rfl⟩) ?_ ?_
          rotate_left; (simp only [Act.put, List.setIfInBounds_toArray, List.set_cons_zero, List.set_cons_succ, i64_w, i32_w]; rfl)
          refine pure_ (i := 8) (N := some 61) (v := undef) (a' := ?_) (bA 16 511) rfl rfl (any_of HT_.out (by kernel_rfl)) (fun _ _ _ h => h) (Or.inr ⟨by rfl, rfl⟩) ?_ ?_
          rotate_left; (simp only [Act.put, List.setIfInBounds_toArray, List.set_cons_zero, List.set_cons_succ, i64_w, i32_w]; rfl)
          refine pure_ (i := 9) (N := some 62) (v := undef) (a' := ?_) (bA 16 1023) rfl rfl (any_of HT_.out (by kernel_rfl)) (fun _ _ _ h => h) (Or.inr ⟨by rfl, rfl⟩) ?_ ?_
          rotate_left; (simp only [Act.put, List.setIfInBounds_toArray, List.set_cons_zero, List.set_cons_succ, i64_w, i32_w]; rfl)
          refine pure_ (i := 10) (N := some 63) (v := ?_) (a' := ?_) (bA 16 2047) rfl rfl (any_of HT_.out (by kernel_rfl)) (fun _ _ _ h => h) (Or.inl ⟨by rfl, ?_⟩) ?_ ?_
          rotate_left; (intro w'; go_simp; with_reducible rfl); rotate_left; (simp only [Act.put, List.setIfInBounds_toArray, List.set_cons_zero, List.set_cons_succ, i64_w, i32_w]; rfl)
          refine pure_ (i := 11) (N := some 64) (v := ?_) (a' := ?_) (bA 16 4095) rfl rfl (any_of HT_.out (by kernel_rfl)) (fun _ _ _ h => h) (Or.inl ⟨by rfl, ?_⟩) ?_ ?_
          rotate_left; (intro w'; go_simp; with_reducible rfl); rotate_left; (simp only [Act.put, List.setIfInBounds_toArray, List.set_cons_zero, List.set_cons_succ, i64_w, i32_w]; rfl)
          refine pure_ (i := 12) (N := some 65) (v := undef) (a' := ?_) (bA 16 8191) rfl rfl (any_of HT_.out (by kernel_rfl)) (fun _ _ _ h => h) (Or.inr ⟨by rfl, rfl⟩) ?_ ?_
          rotate_left; (simp only [Act.put, List.setIfInBounds_toArray, List.set_cons_zero, List.set_cons_succ, i64_w, i32_w]; rfl)
          refine pure_ (i := 13) (N := some 66) (v := undef) (a' := ?_) (bA 16 16383) rfl rfl (any_of HT_.out (by kernel_rfl)) (fun _ _ _ h => h) (Or.inr ⟨by rfl, rfl⟩) ?_ ?_
          rotate_left; (simp only [Act.put, List.setIfInBounds_toArray, List.set_cons_zero, List.set_cons_succ, i64_w, i32_w]; rfl)
          refine pure_ (i := 14) (N := some 67) (v := ?_) (a' := ?_) (bA 16 32767) rfl rfl (any_of HT_.out (by kernel_rfl)) (fun _ _ _ h => h) (Or.inl ⟨by rfl, ?_⟩) ?_ ?_
          rotate_left; (intro w'; go_simp; with_reducible rfl); rotate_left; (simp only [Act.put, List.setIfInBounds_toArray, List.set_cons_zero, List.set_cons_succ, i64_w, i32_w]; rfl)
          refine pure_ (i := 15) (N := some 4) (v := ?_) (a' := ?_) (bA 16 65535) rfl rfl (any_of HT_.out (by kernel_rfl)) (fun _ _ _ h => h) (Or.inl ⟨by rfl, ?_⟩) ?_ ?_
          rotate_left; (intro w'; go_simp; with_reducible rfl); rotate_left; (simp only [Act.put, List.setIfInBounds_toArray, List.set_cons_zero, List.set_cons_succ, i64_w, i32_w]; rfl)
          refine done_ (done_of HT_.out (by kernel_rfl)) ?_
          try go_wp2
          go_meet
          case rel => exact ⟨_, (false), (by first | rfl | (simp; done) | (simp [*]; done) | exact emp1_ _ | exact (emp1_ _).symm | exact emp2_ _ | exact (emp2_ _).symm), H', ⟨by have := HJ5.out; have := HJ16.out; first | omega | exact Nat.le_refl _⟩, ⟨by (with_reducible repeat (first | refine kdn ?_ _ | refine kdw ?_ | refine kal ?_ _)); exact BK328.out⟩, ⟨by (with_reducible repeat (first | refine kdn ?_ _ | refine kdw ?_ | refine kal ?_ _)); exact BK360.out⟩, ⟨by repeat (first | (with_reducible first | exact HB.out | apply bal | apply bdn | apply bd1 | refine bst ?_ GE328.out | refine bst ?_ GE360.out) | exact HB.out)⟩⟩
        rw [if_pos c61] at H
        have c61b0 : (t361.toList == t369.toList) = true := beq_iff_eq.mpr c61
        have c61b1 : (t361.toList != t369.toList) = false := bne_eq_false_iff_eq.mpr c61
        clear c61
        (first | rw [c61b0] | (simp only [i64_w, i32_w]; rw [c61b0]) | skip)
        by_cases c62 : (t352 == x329000_5 && (t353 == x329001_5 && (t354.toList == x329002_5.toList && ((t355 == x329003_5 && (t356.toList == x329004_5.toList && (t357.toList == x329005_5.toList && (t358 == x329006_5)))))))) = true
        · rw [if_pos c62] at H
          have c62b0 : (t352 == x329000_5 && (t353 == x329001_5 && (t354.toList == x329002_5.toList && ((t355 == x329003_5 && (t356.toList == x329004_5.toList && (t357.toList == x329005_5.toList && (t358 == x329006_5)))))))) = true := c62
          (try (have c62b1 : decide (t352 = x329000_5 && (t353 == x329001_5 && (t354.toList == x329002_5.toList && ((t355 == x329003_5 && (t356.toList == x329004_5.toList && (t357.toList == x329005_5.toList && (t358 == x329006_5)))))))) = true := by simpa using c62))
          (try (have c62b2 : (t352 == x329000_5 && (t353 == x329001_5 && (t354.toList == x329002_5.toList && ((t355 == x329003_5 && (t356.toList == x329004_5.toList && (t357.toList == x329005_5.toList && (t358 == x329006_5)))))))) = true := by simpa using c62))
          clear c62
          have H' := Aside0.mk H
          clear H
          try go_wp2
          have n0_ : Aside0 ((((((((w55.setCell ⟨gb360, 0, none⟩ (.int .i64 t352)).setCell ⟨gb360, 1, none⟩ (.int .i64 t353)).setCell ⟨gb360, 2, none⟩ (.string t354)).setCell ⟨gb360, 3, none⟩ (.int .i64 t355)).setCell ⟨gb360, 4, none⟩ (.string t356)).setCell ⟨gb360, 5, none⟩ (.string t357)).setCell ⟨gb360, 6, none⟩ (.int .i64 t358)).heap[gb328]? = some (.cells #[.int .i64 x329000_5, .int .i64 x329001_5, .string x329002_5, .int .i64 x329003_5, .string x329004_5, .string x329005_5, .int .i64 x329006_5] 26 (0, 0))) := ⟨by (with_reducible repeat (first | refine kdn ?_ _ | refine kdw ?_ | refine kal ?_ _)); refine blk_far ?_ NB328_360.out _; (with_reducible repeat (first | refine kdn ?_ _ | refine kdw ?_ | refine kal ?_ _)); refine blk_far ?_ NB328_360.out _; (with_reducible repeat (first | refine kdn ?_ _ | refine kdw ?_ | refine kal ?_ _)); refine blk_far ?_ NB328_360.out _; (with_reducible repeat (first | refine kdn ?_ _ | refine kdw ?_ | refine kal ?_ _)); refine blk_far ?_ NB328_360.out _; (with_reducible repeat (first | refine kdn ?_ _ | refine kdw ?_ | refine kal ?_ _)); refine blk_far ?_ NB328_360.out _; (with_reducible repeat (first | refine kdn ?_ _ | refine kdw ?_ | refine kal ?_ _)); refine blk_far ?_ NB328_360.out _; (with_reducible repeat (first | refine kdn ?_ _ | refine kdw ?_ | refine kal ?_ _)); refine blk_far ?_ NB328_360.out _; (with_reducible repeat (first | refine kdn ?_ _ | refine kdw ?_ | refine kal ?_ _)); exact BK328.out⟩
          have n1_ : Aside0 ((((((((w55.setCell ⟨gb360, 0, none⟩ (.int .i64 t352)).setCell ⟨gb360, 1, none⟩ (.int .i64 t353)).setCell ⟨gb360, 2, none⟩ (.string t354)).setCell ⟨gb360, 3, none⟩ (.int .i64 t355)).setCell ⟨gb360, 4, none⟩ (.string t356)).setCell ⟨gb360, 5, none⟩ (.string t357)).setCell ⟨gb360, 6, none⟩ (.int .i64 t358)).heap[gb360]? = some (.cells #[.int .i64 t352, .int .i64 t353, .string t354, .int .i64 t355, .string t356, .string t357, .int .i64 t358] 26 (0, 0))) := ⟨by (with_reducible repeat (first | refine kdn ?_ _ | refine kdw ?_ | refine kal ?_ _)); refine kpt (cs := #[.int .i64 t352, .int .i64 t353, .string t354, .int .i64 t355, .string t356, .string t357, .int .i64 0]) ?_ 6 _ rfl; (with_reducible repeat (first | refine kdn ?_ _ | refine kdw ?_ | refine kal ?_ _)); refine kpt (cs := #[.int .i64 t352, .int .i64 t353, .string t354, .int .i64 t355, .string t356, .string (⟨#[]⟩ : ByteArray), .int .i64 0]) ?_ 5 _ rfl; (with_reducible repeat (first | refine kdn ?_ _ | refine kdw ?_ | refine kal ?_ _)); refine kpt (cs := #[.int .i64 t352, .int .i64 t353, .string t354, .int .i64 t355, .string (⟨#[]⟩ : ByteArray), .string (⟨#[]⟩ : ByteArray), .int .i64 0]) ?_ 4 _ rfl; (with_reducible repeat (first | refine kdn ?_ _ | refine kdw ?_ | refine kal ?_ _)); refine kpt (cs := #[.int .i64 t352, .int .i64 t353, .string t354, .int .i64 0, .string (⟨#[]⟩ : ByteArray), .string (⟨#[]⟩ : ByteArray), .int .i64 0]) ?_ 3 _ rfl; (with_reducible repeat (first | refine kdn ?_ _ | refine kdw ?_ | refine kal ?_ _)); refine kpt (cs := #[.int .i64 t352, .int .i64 t353, .string (⟨#[]⟩ : ByteArray), .int .i64 0, .string (⟨#[]⟩ : ByteArray), .string (⟨#[]⟩ : ByteArray), .int .i64 0]) ?_ 2 _ rfl; (with_reducible repeat (first | refine kdn ?_ _ | refine kdw ?_ | refine kal ?_ _)); refine kpt (cs := #[.int .i64 t352, .int .i64 0, .string (⟨#[]⟩ : ByteArray), .int .i64 0, .string (⟨#[]⟩ : ByteArray), .string (⟨#[]⟩ : ByteArray), .int .i64 0]) ?_ 1 _ rfl; (with_reducible repeat (first | refine kdn ?_ _ | refine kdw ?_ | refine kal ?_ _)); refine kpt (cs := #[.int .i64 0, .int .i64 0, .string (⟨#[]⟩ : ByteArray), .int .i64 0, .string (⟨#[]⟩ : ByteArray), .string (⟨#[]⟩ : ByteArray), .int .i64 0]) ?_ 0 _ rfl; (with_reducible repeat (first | refine kdn ?_ _ | refine kdw ?_ | refine kal ?_ _)); exact BK360.out⟩
          have n2_ : Aside0 (Below w.heap.size w (((((((w55.setCell ⟨gb360, 0, none⟩ (.int .i64 t352)).setCell ⟨gb360, 1, none⟩ (.int .i64 t353)).setCell ⟨gb360, 2, none⟩ (.string t354)).setCell ⟨gb360, 3, none⟩ (.int .i64 t355)).setCell ⟨gb360, 4, none⟩ (.string t356)).setCell ⟨gb360, 5, none⟩ (.string t357)).setCell ⟨gb360, 6, none⟩ (.int .i64 t358))) := ⟨by repeat (first | (with_reducible first | exact HB.out | apply bal | apply bdn | apply bd1 | refine bst ?_ GE328.out | refine bst ?_ GE360.out) | exact HB.out)⟩
          (try clear BK328)
          (try clear BK360)
          (try clear HB)
          generalize (((((((w55.setCell ⟨gb360, 0, none⟩ (.int .i64 t352)).setCell ⟨gb360, 1, none⟩ (.int .i64 t353)).setCell ⟨gb360, 2, none⟩ (.string t354)).setCell ⟨gb360, 3, none⟩ (.int .i64 t355)).setCell ⟨gb360, 4, none⟩ (.string t356)).setCell ⟨gb360, 5, none⟩ (.string t357)).setCell ⟨gb360, 6, none⟩ (.int .i64 t358)) = w63 at n0_ n1_ n2_ ⊢
          have BK328 := n0_
          have BK360 := n1_
          have HB := n2_
          clear n0_ n1_ n2_
          have n0_ := Aside0.mk (kdw BK328.out)
          have n1_ := Aside0.mk (kdw BK360.out)
          have n2_ := Aside0.mk (bd1 HB.out)
          clear BK328
          clear BK360
          clear HB
          have BK328 := n0_
          have BK360 := n1_
          have HB := n2_
          clear n0_ n1_ n2_
          refine start_ (n := 16) (S := fun w' => w'.cell? ⟨gb328, 0, none⟩ = some (.int .i64 x329000_5) ∧ w'.cell? ⟨gb328, 1, none⟩ = some (.int .i64 x329001_5) ∧ w'.cell? ⟨gb328, 2, none⟩ = some (.string x329002_5) ∧ w'.cell? ⟨gb328, 3, none⟩ = some (.int .i64 x329003_5) ∧ w'.cell? ⟨gb328, 4, none⟩ = some (.string x329004_5) ∧ w'.cell? ⟨gb328, 5, none⟩ = some (.string x329005_5) ∧ w'.cell? ⟨gb328, 6, none⟩ = some (.int .i64 x329006_5) ∧ w'.cell? ⟨gb360, 0, none⟩ = some (.int .i64 t352) ∧ w'.cell? ⟨gb360, 1, none⟩ = some (.int .i64 t353) ∧ w'.cell? ⟨gb360, 2, none⟩ = some (.string t354) ∧ w'.cell? ⟨gb360, 3, none⟩ = some (.int .i64 t355) ∧ w'.cell? ⟨gb360, 4, none⟩ = some (.string t356) ∧ w'.cell? ⟨gb360, 5, none⟩ = some (.string t357) ∧ w'.cell? ⟨gb360, 6, none⟩ = some (.int .i64 t358)) (ds := []) #[false,false,false,false,false,false,false,false,false,false,false,false,false,false,false,false] (by kernel_rfl) rfl rfl ⟨(kcl BK328.out 0).trans rfl, (kcl BK328.out 1).trans rfl, (kcl BK328.out 2).trans rfl, (kcl BK328.out 3).trans rfl, (kcl BK328.out 4).trans rfl, (kcl BK328.out 5).trans rfl, (kcl BK328.out 6).trans rfl, (kcl BK360.out 0).trans rfl, (kcl BK360.out 1).trans rfl, (kcl BK360.out 2).trans rfl, (kcl BK360.out 3).trans rfl, (kcl BK360.out 4).trans rfl, (kcl BK360.out 5).trans rfl, (kcl BK360.out 6).trans rfl⟩ (fun hHeld => ?_); refine with_tabW armoirelaw24_FrameRequests.tab9 armoirelaw24_FrameRequests.bits9 (fun HT_ HW_ => ?_)
          generalize w63.drew = w64 at BK328 BK360 HB hHeld ⊢
          refine take_ (i := 0) (N := some 53) (v := ?_) (a' := ?_) #[true,false,false,false,false,false,false,false,false,false,false,false,false,false,false,false] rfl rfl (tkw HT_.out HW_.out (by kernel_rfl)) (fun _ _ _ h => h) (Or.inl ⟨by rfl, ?_⟩) hHeld ?_ ?_
          rotate_left
          · rintro w' ⟨s0, s1, s2, s3, s4, s5, s6, s7, s8, s9, s10, s11, s12, s13⟩
            go_simp
            with_reducible rfl
          rotate_left; (simp only [Act.put, List.setIfInBounds_toArray, List.set_cons_zero, List.set_cons_succ, i64_w, i32_w]; rfl)
          refine take_ (i := 2) (N := some 55) (v := ?_) (a' := ?_) #[true,false,true,false,false,false,false,false,false,false,false,false,false,false,false,false] rfl rfl (tkw HT_.out HW_.out (by kernel_rfl)) (fun _ _ _ h => h) (Or.inl ⟨by rfl, ?_⟩) hHeld ?_ ?_
          rotate_left
          · rintro w' ⟨s0, s1, s2, s3, s4, s5, s6, s7, s8, s9, s10, s11, s12, s13⟩
            go_simp
            with_reducible rfl
          rotate_left; (simp only [Act.put, List.setIfInBounds_toArray, List.set_cons_zero, List.set_cons_succ, i64_w, i32_w]; rfl)
          refine one_ (i := 1) (N := some 54) #[true,true,true,false,false,false,false,false,false,false,false,false,false,false,false,false] rfl rfl (one_of HT_.out (by kernel_rfl)) (by decide) (fun K hK => ?_)
          refine goes_ Try.func14 (by kernel_rfl) rfl #[.agg #[.int .i64 x329000_5, .int .i64 x329001_5, .string x329002_5, .int .i64 x329003_5, .string x329004_5, .string x329005_5, .int .i64 x329006_5]] (by rfl) rfl rfl (by (try simp only [List.map_toArray, List.map_cons, List.map_nil]); first | done | rfl | (simp only [List.length_drop, List.length_take]; rfl) | (simp only [Act.eval, Array.getD_eq_getD_getElem?, Option.getD_some, *]; done) | (simp only [Array.mk.injEq, List.cons.injEq, Value.int.injEq, true_and, and_true]; first | omega | (simp [IntKind.wrap, IntKind.bits, IntKind.signed]; omega))) ?_
          with_reducible refine (frame_Request_Text.calls kj16 x329000_5 x329001_5 x329002_5 x329003_5 x329004_5 x329005_5 x329006_5 t361 _ A58.out).mono ?_
          rintro e w65 ⟨rfl, hb⟩
          refine ⟨_, rfl, ?_⟩
          have n0_ := Aside0.mk (kbl (g := gb328) (o := .cells #[.int .i64 x329000_5, .int .i64 x329001_5, .string x329002_5, .int .i64 x329003_5, .string x329004_5, .string x329005_5, .int .i64 x329006_5] 26 (0, 0)) (by (with_reducible repeat (first | refine kdn ?_ _ | refine kdw ?_ | refine kal ?_ _)); exact BK328.out) hb)
          have n1_ := Aside0.mk (kbl (g := gb360) (o := .cells #[.int .i64 t352, .int .i64 t353, .string t354, .int .i64 t355, .string t356, .string t357, .int .i64 t358] 26 (0, 0)) (by (with_reducible repeat (first | refine kdn ?_ _ | refine kdw ?_ | refine kal ?_ _)); exact BK360.out) hb)
          have n2_ := Aside0.mk (bsp (by repeat (first | (with_reducible first | exact HB.out | apply bal | apply bdn | apply bd1 | refine bst ?_ GE328.out | refine bst ?_ GE360.out) | exact HB.out)) hb)
          clear BK328
          clear BK360
          clear HB
          have BK328 := n0_
          have BK360 := n1_
          have HB := n2_
          clear n0_ n1_ n2_
          (try clear hb)
          (try clear hb2)
          (try clear hk)
          (try clear hi)
          refine hK.out _ _ ⟨(kcl BK328.out 0).trans rfl, (kcl BK328.out 1).trans rfl, (kcl BK328.out 2).trans rfl, (kcl BK328.out 3).trans rfl, (kcl BK328.out 4).trans rfl, (kcl BK328.out 5).trans rfl, (kcl BK328.out 6).trans rfl, (kcl BK360.out 0).trans rfl, (kcl BK360.out 1).trans rfl, (kcl BK360.out 2).trans rfl, (kcl BK360.out 3).trans rfl, (kcl BK360.out 4).trans rfl, (kcl BK360.out 5).trans rfl, (kcl BK360.out 6).trans rfl⟩ (fun hHeld => ?_)
          clear hK K
          refine norm_ (a' := ?_) ?_ ?_
          rotate_left
          · show Act.put _ (some 54) _ = _
            simp only [Act.put, List.setIfInBounds_toArray, List.set_cons_zero, List.set_cons_succ, i64_w, i32_w]
            rfl
          refine one_ (i := 3) (N := some 56) #[true,true,true,true,false,false,false,false,false,false,false,false,false,false,false,false] rfl rfl (one_of HT_.out (by kernel_rfl)) (by decide) (fun K hK => ?_)
          refine goes_ Try.func12 (by kernel_rfl) rfl #[.agg #[.int .i64 x329000_5, .int .i64 x329001_5, .string x329002_5, .int .i64 x329003_5, .string x329004_5, .string x329005_5, .int .i64 x329006_5]] (by rfl) rfl rfl (by (try simp only [List.map_toArray, List.map_cons, List.map_nil]); first | done | rfl | (simp only [List.length_drop, List.length_take]; rfl) | (simp only [Act.eval, Array.getD_eq_getD_getElem?, Option.getD_some, *]; done) | (simp only [Array.mk.injEq, List.cons.injEq, Value.int.injEq, true_and, and_true]; first | omega | (simp [IntKind.wrap, IntKind.bits, IntKind.signed]; omega))) ?_
          with_reducible refine (armoirelaw24_Told.calls x329000_5 x329001_5 x329002_5 x329003_5 x329004_5 x329005_5 x329006_5 t362 t363 t364 t365 t366 t367 t368 _ A59.out).mono ?_
          rintro e w66 ⟨rfl, hb⟩
          refine ⟨_, rfl, ?_⟩
          have n0_ := Aside0.mk (kbl (g := gb328) (o := .cells #[.int .i64 x329000_5, .int .i64 x329001_5, .string x329002_5, .int .i64 x329003_5, .string x329004_5, .string x329005_5, .int .i64 x329006_5] 26 (0, 0)) (by (with_reducible repeat (first | refine kdn ?_ _ | refine kdw ?_ | refine kal ?_ _)); exact BK328.out) hb)
          have n1_ := Aside0.mk (kbl (g := gb360) (o := .cells #[.int .i64 t352, .int .i64 t353, .string t354, .int .i64 t355, .string t356, .string t357, .int .i64 t358] 26 (0, 0)) (by (with_reducible repeat (first | refine kdn ?_ _ | refine kdw ?_ | refine kal ?_ _)); exact BK360.out) hb)
          have n2_ := Aside0.mk (bsp (by repeat (first | (with_reducible first | exact HB.out | apply bal | apply bdn | apply bd1 | refine bst ?_ GE328.out | refine bst ?_ GE360.out) | exact HB.out)) hb)
          clear BK328
          clear BK360
          clear HB
          have BK328 := n0_
          have BK360 := n1_
          have HB := n2_
          clear n0_ n1_ n2_
          (try clear hb)
          (try clear hb2)
          (try clear hk)
          (try clear hi)
          refine hK.out _ _ ⟨(kcl BK328.out 0).trans rfl, (kcl BK328.out 1).trans rfl, (kcl BK328.out 2).trans rfl, (kcl BK328.out 3).trans rfl, (kcl BK328.out 4).trans rfl, (kcl BK328.out 5).trans rfl, (kcl BK328.out 6).trans rfl, (kcl BK360.out 0).trans rfl, (kcl BK360.out 1).trans rfl, (kcl BK360.out 2).trans rfl, (kcl BK360.out 3).trans rfl, (kcl BK360.out 4).trans rfl, (kcl BK360.out 5).trans rfl, (kcl BK360.out 6).trans rfl⟩ (fun hHeld => ?_)
          clear hK K
          refine norm_ (a' := ?_) ?_ ?_
          rotate_left
          · show Act.put _ (some 56) _ = _
            simp only [Act.put, List.setIfInBounds_toArray, List.set_cons_zero, List.set_cons_succ, i64_w, i32_w]
            rfl
          refine one_ (i := 4) (N := some 57) #[true,true,true,true,true,false,false,false,false,false,false,false,false,false,false,false] rfl rfl (one_of HT_.out (by kernel_rfl)) (by decide) (fun K hK => ?_)
          refine goes_ Try.func15 (by kernel_rfl) rfl #[.agg #[.int .i64 t362, .int .i64 t363, .string t364, .int .i64 t365, .string t366, .string t367, .int .i64 t368]] (by rfl) rfl rfl (by (try simp only [List.map_toArray, List.map_cons, List.map_nil]); first | done | rfl | (simp only [List.length_drop, List.length_take]; rfl) | (simp only [Act.eval, Array.getD_eq_getD_getElem?, Option.getD_some, *]; done) | (simp only [Array.mk.injEq, List.cons.injEq, Value.int.injEq, true_and, and_true]; first | omega | (simp [IntKind.wrap, IntKind.bits, IntKind.signed]; omega))) ?_
          with_reducible refine (armoireref24_Text.calls kj16 t362 t363 t364 t365 t366 t367 t368 t369 _ A60.out).mono ?_
          rintro e w67 ⟨rfl, hb⟩
          refine ⟨_, rfl, ?_⟩
          have n0_ := Aside0.mk (kbl (g := gb328) (o := .cells #[.int .i64 x329000_5, .int .i64 x329001_5, .string x329002_5, .int .i64 x329003_5, .string x329004_5, .string x329005_5, .int .i64 x329006_5] 26 (0, 0)) (by (with_reducible repeat (first | refine kdn ?_ _ | refine kdw ?_ | refine kal ?_ _)); exact BK328.out) hb)
          have n1_ := Aside0.mk (kbl (g := gb360) (o := .cells #[.int .i64 t352, .int .i64 t353, .string t354, .int .i64 t355, .string t356, .string t357, .int .i64 t358] 26 (0, 0)) (by (with_reducible repeat (first | refine kdn ?_ _ | refine kdw ?_ | refine kal ?_ _)); exact BK360.out) hb)
          have n2_ := Aside0.mk (bsp (by repeat (first | (with_reducible first | exact HB.out | apply bal | apply bdn | apply bd1 | refine bst ?_ GE328.out | refine bst ?_ GE360.out) | exact HB.out)) hb)
          clear BK328
          clear BK360
          clear HB
          have BK328 := n0_
          have BK360 := n1_
          have HB := n2_
          clear n0_ n1_ n2_
          (try clear hb)
          (try clear hb2)
          (try clear hk)
          (try clear hi)
          refine hK.out _ _ ⟨(kcl BK328.out 0).trans rfl, (kcl BK328.out 1).trans rfl, (kcl BK328.out 2).trans rfl, (kcl BK328.out 3).trans rfl, (kcl BK328.out 4).trans rfl, (kcl BK328.out 5).trans rfl, (kcl BK328.out 6).trans rfl, (kcl BK360.out 0).trans rfl, (kcl BK360.out 1).trans rfl, (kcl BK360.out 2).trans rfl, (kcl BK360.out 3).trans rfl, (kcl BK360.out 4).trans rfl, (kcl BK360.out 5).trans rfl, (kcl BK360.out 6).trans rfl⟩ (fun hHeld => ?_)
          clear hK K
          refine norm_ (a' := ?_) ?_ ?_
          rotate_left
          · show Act.put _ (some 57) _ = _
            simp only [Act.put, List.setIfInBounds_toArray, List.set_cons_zero, List.set_cons_succ, i64_w, i32_w]
            rfl
          refine pure_ (i := 5) (N := some 58) (v := ?_) (a' := ?_) (bA 16 63) rfl rfl (any_of HT_.out (by kernel_rfl)) (fun _ _ _ h => h) (Or.inl ⟨by rfl, ?_⟩) ?_ ?_
          rotate_left; (intro w'; go_simp; with_reducible rfl); rotate_left; (simp only [Act.put, List.setIfInBounds_toArray, List.set_cons_zero, List.set_cons_succ, i64_w, i32_w]; rfl)
          refine pure_ (i := 6) (N := some 59) (v := ?_) (a' := ?_) (bA 16 127) rfl rfl (any_of HT_.out (by kernel_rfl)) (fun _ _ _ h => h) (Or.inl ⟨by rfl, ?_⟩) ?_ ?_
          rotate_left; (intro w'; go_simp; with_reducible rfl); rotate_left; (simp only [Act.put, List.setIfInBounds_toArray, List.set_cons_zero, List.set_cons_succ, i64_w, i32_w]; rfl)
          refine take_ (i := 7) (N := some 60) (v := ?_) (a' := ?_) #[true,true,true,true,true,true,true,true,false,false,false,false,false,false,false,false] rfl rfl (tkw HT_.out HW_.out (by kernel_rfl)) (fun _ _ _ h => h) (Or.inl ⟨by rfl, ?_⟩) hHeld ?_ ?_
          rotate_left
          · rintro w' ⟨s0, s1, s2, s3, s4, s5, s6, s7, s8, s9, s10, s11, s12, s13⟩
            go_simp
            with_reducible rfl
          rotate_left; (simp only [Act.put, List.setIfInBounds_toArray, List.set_cons_zero, List.set_cons_succ, i64_w, i32_w]; rfl)
          refine take_ (i := 8) (N := some 61) (v := ?_) (a' := ?_) #[true,true,true,true,true,true,true,true,true,false,false,false,false,false,false,false] rfl rfl (tkw HT_.out HW_.out (by kernel_rfl)) (fun _ _ _ h => h) (Or.inl ⟨by rfl, ?_⟩) hHeld ?_ ?_
          rotate_left
          · rintro w' ⟨s0, s1, s2, s3, s4, s5, s6, s7, s8, s9, s10, s11, s12, s13⟩
            go_simp
            with_reducible rfl
          rotate_left; (simp only [Act.put, List.setIfInBounds_toArray, List.set_cons_zero, List.set_cons_succ, i64_w, i32_w]; rfl)
          refine pure_ (i := 9) (N := some 62) (v := ?_) (a' := ?_) (bA 16 1023) rfl rfl (any_of HT_.out (by kernel_rfl)) (fun _ _ _ h => h) (Or.inl ⟨by rfl, ?_⟩) ?_ ?_
          rotate_left; (intro w'; go_simp; with_reducible rfl); rotate_left; (simp only [Act.put, List.setIfInBounds_toArray, List.set_cons_zero, List.set_cons_succ, i64_w, i32_w]; rfl)
          refine pure_ (i := 10) (N := some 63) (v := ?_) (a' := ?_) (bA 16 2047) rfl rfl (any_of HT_.out (by kernel_rfl)) (fun _ _ _ h => h) (Or.inl ⟨by rfl, ?_⟩) ?_ ?_
          rotate_left; (intro w'; go_simp; with_reducible rfl); rotate_left; (simp only [Act.put, List.setIfInBounds_toArray, List.set_cons_zero, List.set_cons_succ, i64_w, i32_w]; rfl)
          refine pure_ (i := 11) (N := some 64) (v := ?_) (a' := ?_) (bA 16 4095) rfl rfl (any_of HT_.out (by kernel_rfl)) (fun _ _ _ h => h) (Or.inl ⟨by rfl, ?_⟩) ?_ ?_
          rotate_left; (intro w'; go_simp; with_reducible rfl); rotate_left; (simp only [Act.put, List.setIfInBounds_toArray, List.set_cons_zero, List.set_cons_succ, i64_w, i32_w]; rfl)
          refine pure_ (i := 12) (N := some 65) (v := ?_) (a' := ?_) (bA 16 8191) rfl rfl (any_of HT_.out (by kernel_rfl)) (fun _ _ _ h => h) (Or.inl ⟨by rfl, ?_⟩) ?_ ?_
          rotate_left; (intro w'; go_simp; with_reducible rfl); rotate_left; (simp only [Act.put, List.setIfInBounds_toArray, List.set_cons_zero, List.set_cons_succ, i64_w, i32_w]; rfl)
          refine pure_ (i := 13) (N := some 66) (v := ?_) (a' := ?_) (bA 16 16383) rfl rfl (any_of HT_.out (by kernel_rfl)) (fun _ _ _ h => h) (Or.inl ⟨by rfl, ?_⟩) ?_ ?_
          rotate_left; (intro w'; go_simp; with_reducible rfl); rotate_left; (simp only [Act.put, List.setIfInBounds_toArray, List.set_cons_zero, List.set_cons_succ, i64_w, i32_w]; rfl)
          refine pure_ (i := 14) (N := some 67) (v := ?_) (a' := ?_) (bA 16 32767) rfl rfl (any_of HT_.out (by kernel_rfl)) (fun _ _ _ h => h) (Or.inl ⟨by rfl, ?_⟩) ?_ ?_
          rotate_left; (intro w'; go_simp; with_reducible rfl); rotate_left; (simp only [Act.put, List.setIfInBounds_toArray, List.set_cons_zero, List.set_cons_succ, i64_w, i32_w]; rfl)
          refine pure_ (i := 15) (N := some 4) (v := ?_) (a' := ?_) (bA 16 65535) rfl rfl (any_of HT_.out (by kernel_rfl)) (fun _ _ _ h => h) (Or.inl ⟨by rfl, ?_⟩) ?_ ?_
          rotate_left; (intro w'; go_simp; with_reducible rfl); rotate_left; (simp only [Act.put, List.setIfInBounds_toArray, List.set_cons_zero, List.set_cons_succ, i64_w, i32_w]; rfl)
          refine done_ (done_of HT_.out (by kernel_rfl)) ?_
          try go_wp2
          go_meet
          case rel => exact ⟨_, ((t359 == 0)), (by first | rfl | (simp; done) | (simp [*]; done) | exact emp1_ _ | exact (emp1_ _).symm | exact emp2_ _ | exact (emp2_ _).symm), H', ⟨by have := HJ5.out; have := HJ16.out; first | omega | exact Nat.le_refl _⟩, ⟨by (with_reducible repeat (first | refine kdn ?_ _ | refine kdw ?_ | refine kal ?_ _)); exact BK328.out⟩, ⟨by (with_reducible repeat (first | refine kdn ?_ _ | refine kdw ?_ | refine kal ?_ _)); exact BK360.out⟩, ⟨by repeat (first | (with_reducible first | exact HB.out | apply bal | apply bdn | apply bd1 | refine bst ?_ GE328.out | refine bst ?_ GE360.out) | exact HB.out)⟩⟩
        rw [if_neg c62] at H
        have c62b0 : (t352 == x329000_5 && (t353 == x329001_5 && (t354.toList == x329002_5.toList && ((t355 == x329003_5 && (t356.toList == x329004_5.toList && (t357.toList == x329005_5.toList && (t358 == x329006_5)))))))) = false := by simpa using c62
        (try (have c62b1 : decide (t352 = x329000_5 && (t353 == x329001_5 && (t354.toList == x329002_5.toList && ((t355 == x329003_5 && (t356.toList == x329004_5.toList && (t357.toList == x329005_5.toList && (t358 == x329006_5)))))))) = false := by simpa using c62))
        (try (have c62b2 : (t352 == x329000_5 && (t353 == x329001_5 && (t354.toList == x329002_5.toList && ((t355 == x329003_5 && (t356.toList == x329004_5.toList && (t357.toList == x329005_5.toList && (t358 == x329006_5)))))))) = false := by simpa using c62))
        (try (have c62b3 : ¬ (t352 = x329000_5 && (t353 == x329001_5 && (t354.toList == x329002_5.toList && ((t355 == x329003_5 && (t356.toList == x329004_5.toList && (t357.toList == x329005_5.toList && (t358 == x329006_5)))))))) := by simpa using c62))
        clear c62
        have H' := Aside0.mk H
        clear H
        try go_wp2
        have n0_ : Aside0 ((((((((w55.setCell ⟨gb360, 0, none⟩ (.int .i64 t352)).setCell ⟨gb360, 1, none⟩ (.int .i64 t353)).setCell ⟨gb360, 2, none⟩ (.string t354)).setCell ⟨gb360, 3, none⟩ (.int .i64 t355)).setCell ⟨gb360, 4, none⟩ (.string t356)).setCell ⟨gb360, 5, none⟩ (.string t357)).setCell ⟨gb360, 6, none⟩ (.int .i64 t358)).heap[gb328]? = some (.cells #[.int .i64 x329000_5, .int .i64 x329001_5, .string x329002_5, .int .i64 x329003_5, .string x329004_5, .string x329005_5, .int .i64 x329006_5] 26 (0, 0))) := ⟨by (with_reducible repeat (first | refine kdn ?_ _ | refine kdw ?_ | refine kal ?_ _)); refine blk_far ?_ NB328_360.out _; (with_reducible repeat (first | refine kdn ?_ _ | refine kdw ?_ | refine kal ?_ _)); refine blk_far ?_ NB328_360.out _; (with_reducible repeat (first | refine kdn ?_ _ | refine kdw ?_ | refine kal ?_ _)); refine blk_far ?_ NB328_360.out _; (with_reducible repeat (first | refine kdn ?_ _ | refine kdw ?_ | refine kal ?_ _)); refine blk_far ?_ NB328_360.out _; (with_reducible repeat (first | refine kdn ?_ _ | refine kdw ?_ | refine kal ?_ _)); refine blk_far ?_ NB328_360.out _; (with_reducible repeat (first | refine kdn ?_ _ | refine kdw ?_ | refine kal ?_ _)); refine blk_far ?_ NB328_360.out _; (with_reducible repeat (first | refine kdn ?_ _ | refine kdw ?_ | refine kal ?_ _)); refine blk_far ?_ NB328_360.out _; (with_reducible repeat (first | refine kdn ?_ _ | refine kdw ?_ | refine kal ?_ _)); exact BK328.out⟩
        have n1_ : Aside0 ((((((((w55.setCell ⟨gb360, 0, none⟩ (.int .i64 t352)).setCell ⟨gb360, 1, none⟩ (.int .i64 t353)).setCell ⟨gb360, 2, none⟩ (.string t354)).setCell ⟨gb360, 3, none⟩ (.int .i64 t355)).setCell ⟨gb360, 4, none⟩ (.string t356)).setCell ⟨gb360, 5, none⟩ (.string t357)).setCell ⟨gb360, 6, none⟩ (.int .i64 t358)).heap[gb360]? = some (.cells #[.int .i64 t352, .int .i64 t353, .string t354, .int .i64 t355, .string t356, .string t357, .int .i64 t358] 26 (0, 0))) := ⟨by (with_reducible repeat (first | refine kdn ?_ _ | refine kdw ?_ | refine kal ?_ _)); refine kpt (cs := #[.int .i64 t352, .int .i64 t353, .string t354, .int .i64 t355, .string t356, .string t357, .int .i64 0]) ?_ 6 _ rfl; (with_reducible repeat (first | refine kdn ?_ _ | refine kdw ?_ | refine kal ?_ _)); refine kpt (cs := #[.int .i64 t352, .int .i64 t353, .string t354, .int .i64 t355, .string t356, .string (⟨#[]⟩ : ByteArray), .int .i64 0]) ?_ 5 _ rfl; (with_reducible repeat (first | refine kdn ?_ _ | refine kdw ?_ | refine kal ?_ _)); refine kpt (cs := #[.int .i64 t352, .int .i64 t353, .string t354, .int .i64 t355, .string (⟨#[]⟩ : ByteArray), .string (⟨#[]⟩ : ByteArray), .int .i64 0]) ?_ 4 _ rfl; (with_reducible repeat (first | refine kdn ?_ _ | refine kdw ?_ | refine kal ?_ _)); refine kpt (cs := #[.int .i64 t352, .int .i64 t353, .string t354, .int .i64 0, .string (⟨#[]⟩ : ByteArray), .string (⟨#[]⟩ : ByteArray), .int .i64 0]) ?_ 3 _ rfl; (with_reducible repeat (first | refine kdn ?_ _ | refine kdw ?_ | refine kal ?_ _)); refine kpt (cs := #[.int .i64 t352, .int .i64 t353, .string (⟨#[]⟩ : ByteArray), .int .i64 0, .string (⟨#[]⟩ : ByteArray), .string (⟨#[]⟩ : ByteArray), .int .i64 0]) ?_ 2 _ rfl; (with_reducible repeat (first | refine kdn ?_ _ | refine kdw ?_ | refine kal ?_ _)); refine kpt (cs := #[.int .i64 t352, .int .i64 0, .string (⟨#[]⟩ : ByteArray), .int .i64 0, .string (⟨#[]⟩ : ByteArray), .string (⟨#[]⟩ : ByteArray), .int .i64 0]) ?_ 1 _ rfl; (with_reducible repeat (first | refine kdn ?_ _ | refine kdw ?_ | refine kal ?_ _)); refine kpt (cs := #[.int .i64 0, .int .i64 0, .string (⟨#[]⟩ : ByteArray), .int .i64 0, .string (⟨#[]⟩ : ByteArray), .string (⟨#[]⟩ : ByteArray), .int .i64 0]) ?_ 0 _ rfl; (with_reducible repeat (first | refine kdn ?_ _ | refine kdw ?_ | refine kal ?_ _)); exact BK360.out⟩
        have n2_ : Aside0 (Below w.heap.size w (((((((w55.setCell ⟨gb360, 0, none⟩ (.int .i64 t352)).setCell ⟨gb360, 1, none⟩ (.int .i64 t353)).setCell ⟨gb360, 2, none⟩ (.string t354)).setCell ⟨gb360, 3, none⟩ (.int .i64 t355)).setCell ⟨gb360, 4, none⟩ (.string t356)).setCell ⟨gb360, 5, none⟩ (.string t357)).setCell ⟨gb360, 6, none⟩ (.int .i64 t358))) := ⟨by repeat (first | (with_reducible first | exact HB.out | apply bal | apply bdn | apply bd1 | refine bst ?_ GE328.out | refine bst ?_ GE360.out) | exact HB.out)⟩
        (try clear BK328)
        (try clear BK360)
        (try clear HB)
        generalize (((((((w55.setCell ⟨gb360, 0, none⟩ (.int .i64 t352)).setCell ⟨gb360, 1, none⟩ (.int .i64 t353)).setCell ⟨gb360, 2, none⟩ (.string t354)).setCell ⟨gb360, 3, none⟩ (.int .i64 t355)).setCell ⟨gb360, 4, none⟩ (.string t356)).setCell ⟨gb360, 5, none⟩ (.string t357)).setCell ⟨gb360, 6, none⟩ (.int .i64 t358)) = w68 at n0_ n1_ n2_ ⊢
        have BK328 := n0_
        have BK360 := n1_
        have HB := n2_
        clear n0_ n1_ n2_
        have n0_ := Aside0.mk (kdw BK328.out)
        have n1_ := Aside0.mk (kdw BK360.out)
        have n2_ := Aside0.mk (bd1 HB.out)
        clear BK328
        clear BK360
        clear HB
        have BK328 := n0_
        have BK360 := n1_
        have HB := n2_
        clear n0_ n1_ n2_
        refine start_ (n := 16) (S := fun w' => w'.cell? ⟨gb328, 0, none⟩ = some (.int .i64 x329000_5) ∧ w'.cell? ⟨gb328, 1, none⟩ = some (.int .i64 x329001_5) ∧ w'.cell? ⟨gb328, 2, none⟩ = some (.string x329002_5) ∧ w'.cell? ⟨gb328, 3, none⟩ = some (.int .i64 x329003_5) ∧ w'.cell? ⟨gb328, 4, none⟩ = some (.string x329004_5) ∧ w'.cell? ⟨gb328, 5, none⟩ = some (.string x329005_5) ∧ w'.cell? ⟨gb328, 6, none⟩ = some (.int .i64 x329006_5) ∧ w'.cell? ⟨gb360, 0, none⟩ = some (.int .i64 t352) ∧ w'.cell? ⟨gb360, 1, none⟩ = some (.int .i64 t353) ∧ w'.cell? ⟨gb360, 2, none⟩ = some (.string t354) ∧ w'.cell? ⟨gb360, 3, none⟩ = some (.int .i64 t355) ∧ w'.cell? ⟨gb360, 4, none⟩ = some (.string t356) ∧ w'.cell? ⟨gb360, 5, none⟩ = some (.string t357) ∧ w'.cell? ⟨gb360, 6, none⟩ = some (.int .i64 t358)) (ds := []) #[false,false,false,false,false,false,false,false,false,false,false,false,false,false,false,false] (by kernel_rfl) rfl rfl ⟨(kcl BK328.out 0).trans rfl, (kcl BK328.out 1).trans rfl, (kcl BK328.out 2).trans rfl, (kcl BK328.out 3).trans rfl, (kcl BK328.out 4).trans rfl, (kcl BK328.out 5).trans rfl, (kcl BK328.out 6).trans rfl, (kcl BK360.out 0).trans rfl, (kcl BK360.out 1).trans rfl, (kcl BK360.out 2).trans rfl, (kcl BK360.out 3).trans rfl, (kcl BK360.out 4).trans rfl, (kcl BK360.out 5).trans rfl, (kcl BK360.out 6).trans rfl⟩ (fun hHeld => ?_); refine with_tabW armoirelaw24_FrameRequests.tab9 armoirelaw24_FrameRequests.bits9 (fun HT_ HW_ => ?_)
        generalize w68.drew = w69 at BK328 BK360 HB hHeld ⊢
        refine take_ (i := 0) (N := some 53) (v := ?_) (a' := ?_) #[true,false,false,false,false,false,false,false,false,false,false,false,false,false,false,false] rfl rfl (tkw HT_.out HW_.out (by kernel_rfl)) (fun _ _ _ h => h) (Or.inl ⟨by rfl, ?_⟩) hHeld ?_ ?_
        rotate_left
        · rintro w' ⟨s0, s1, s2, s3, s4, s5, s6, s7, s8, s9, s10, s11, s12, s13⟩
          go_simp
          with_reducible rfl
        rotate_left; (simp only [Act.put, List.setIfInBounds_toArray, List.set_cons_zero, List.set_cons_succ, i64_w, i32_w]; rfl)
        refine take_ (i := 2) (N := some 55) (v := ?_) (a' := ?_) #[true,false,true,false,false,false,false,false,false,false,false,false,false,false,false,false] rfl rfl (tkw HT_.out HW_.out (by kernel_rfl)) (fun _ _ _ h => h) (Or.inl ⟨by rfl, ?_⟩) hHeld ?_ ?_
        rotate_left
        · rintro w' ⟨s0, s1, s2, s3, s4, s5, s6, s7, s8, s9, s10, s11, s12, s13⟩
          go_simp
          with_reducible rfl
        rotate_left; (simp only [Act.put, List.setIfInBounds_toArray, List.set_cons_zero, List.set_cons_succ, i64_w, i32_w]; rfl)
        refine one_ (i := 1) (N := some 54) #[true,true,true,false,false,false,false,false,false,false,false,false,false,false,false,false] rfl rfl (one_of HT_.out (by kernel_rfl)) (by decide) (fun K hK => ?_)
        refine goes_ Try.func14 (by kernel_rfl) rfl #[.agg #[.int .i64 x329000_5, .int .i64 x329001_5, .string x329002_5, .int .i64 x329003_5, .string x329004_5, .string x329005_5, .int .i64 x329006_5]] (by rfl) rfl rfl (by (try simp only [List.map_toArray, List.map_cons, List.map_nil]); first | done | rfl | (simp only [List.length_drop, List.length_take]; rfl) | (simp only [Act.eval, Array.getD_eq_getD_getElem?, Option.getD_some, *]; done) | (simp only [Array.mk.injEq, List.cons.injEq, Value.int.injEq, true_and, and_true]; first | omega | (simp [IntKind.wrap, IntKind.bits, IntKind.signed]; omega))) ?_
        with_reducible refine (frame_Request_Text.calls kj16 x329000_5 x329001_5 x329002_5 x329003_5 x329004_5 x329005_5 x329006_5 t361 _ A58.out).mono ?_
        rintro e w70 ⟨rfl, hb⟩
        refine ⟨_, rfl, ?_⟩
        have n0_ := Aside0.mk (kbl (g := gb328) (o := .cells #[.int .i64 x329000_5, .int .i64 x329001_5, .string x329002_5, .int .i64 x329003_5, .string x329004_5, .string x329005_5, .int .i64 x329006_5] 26 (0, 0)) (by (with_reducible repeat (first | refine kdn ?_ _ | refine kdw ?_ | refine kal ?_ _)); exact BK328.out) hb)
        have n1_ := Aside0.mk (kbl (g := gb360) (o := .cells #[.int .i64 t352, .int .i64 t353, .string t354, .int .i64 t355, .string t356, .string t357, .int .i64 t358] 26 (0, 0)) (by (with_reducible repeat (first | refine kdn ?_ _ | refine kdw ?_ | refine kal ?_ _)); exact BK360.out) hb)
        have n2_ := Aside0.mk (bsp (by repeat (first | (with_reducible first | exact HB.out | apply bal | apply bdn | apply bd1 | refine bst ?_ GE328.out | refine bst ?_ GE360.out) | exact HB.out)) hb)
        clear BK328
        clear BK360
        clear HB
        have BK328 := n0_
        have BK360 := n1_
        have HB := n2_
        clear n0_ n1_ n2_
        (try clear hb)
        (try clear hb2)
        (try clear hk)
        (try clear hi)
        refine hK.out _ _ ⟨(kcl BK328.out 0).trans rfl, (kcl BK328.out 1).trans rfl, (kcl BK328.out 2).trans rfl, (kcl BK328.out 3).trans rfl, (kcl BK328.out 4).trans rfl, (kcl BK328.out 5).trans rfl, (kcl BK328.out 6).trans rfl, (kcl BK360.out 0).trans rfl, (kcl BK360.out 1).trans rfl, (kcl BK360.out 2).trans rfl, (kcl BK360.out 3).trans rfl, (kcl BK360.out 4).trans rfl, (kcl BK360.out 5).trans rfl, (kcl BK360.out 6).trans rfl⟩ (fun hHeld => ?_)
        clear hK K
        refine norm_ (a' := ?_) ?_ ?_
        rotate_left
        · show Act.put _ (some 54) _ = _
          simp only [Act.put, List.setIfInBounds_toArray, List.set_cons_zero, List.set_cons_succ, i64_w, i32_w]
          rfl
        refine one_ (i := 3) (N := some 56) #[true,true,true,true,false,false,false,false,false,false,false,false,false,false,false,false] rfl rfl (one_of HT_.out (by kernel_rfl)) (by decide) (fun K hK => ?_)
        refine goes_ Try.func12 (by kernel_rfl) rfl #[.agg #[.int .i64 x329000_5, .int .i64 x329001_5, .string x329002_5, .int .i64 x329003_5, .string x329004_5, .string x329005_5, .int .i64 x329006_5]] (by rfl) rfl rfl (by (try simp only [List.map_toArray, List.map_cons, List.map_nil]); first | done | rfl | (simp only [List.length_drop, List.length_take]; rfl) | (simp only [Act.eval, Array.getD_eq_getD_getElem?, Option.getD_some, *]; done) | (simp only [Array.mk.injEq, List.cons.injEq, Value.int.injEq, true_and, and_true]; first | omega | (simp [IntKind.wrap, IntKind.bits, IntKind.signed]; omega))) ?_
        with_reducible refine (armoirelaw24_Told.calls x329000_5 x329001_5 x329002_5 x329003_5 x329004_5 x329005_5 x329006_5 t362 t363 t364 t365 t366 t367 t368 _ A59.out).mono ?_
        rintro e w71 ⟨rfl, hb⟩
        refine ⟨_, rfl, ?_⟩
        have n0_ := Aside0.mk (kbl (g := gb328) (o := .cells #[.int .i64 x329000_5, .int .i64 x329001_5, .string x329002_5, .int .i64 x329003_5, .string x329004_5, .string x329005_5, .int .i64 x329006_5] 26 (0, 0)) (by (with_reducible repeat (first | refine kdn ?_ _ | refine kdw ?_ | refine kal ?_ _)); exact BK328.out) hb)
        have n1_ := Aside0.mk (kbl (g := gb360) (o := .cells #[.int .i64 t352, .int .i64 t353, .string t354, .int .i64 t355, .string t356, .string t357, .int .i64 t358] 26 (0, 0)) (by (with_reducible repeat (first | refine kdn ?_ _ | refine kdw ?_ | refine kal ?_ _)); exact BK360.out) hb)
        have n2_ := Aside0.mk (bsp (by repeat (first | (with_reducible first | exact HB.out | apply bal | apply bdn | apply bd1 | refine bst ?_ GE328.out | refine bst ?_ GE360.out) | exact HB.out)) hb)
        clear BK328
        clear BK360
        clear HB
        have BK328 := n0_
        have BK360 := n1_
        have HB := n2_
        clear n0_ n1_ n2_
        (try clear hb)
        (try clear hb2)
        (try clear hk)
        (try clear hi)
        refine hK.out _ _ ⟨(kcl BK328.out 0).trans rfl, (kcl BK328.out 1).trans rfl, (kcl BK328.out 2).trans rfl, (kcl BK328.out 3).trans rfl, (kcl BK328.out 4).trans rfl, (kcl BK328.out 5).trans rfl, (kcl BK328.out 6).trans rfl, (kcl BK360.out 0).trans rfl, (kcl BK360.out 1).trans rfl, (kcl BK360.out 2).trans rfl, (kcl BK360.out 3).trans rfl, (kcl BK360.out 4).trans rfl, (kcl BK360.out 5).trans rfl, (kcl BK360.out 6).trans rfl⟩ (fun hHeld => ?_)
        clear hK K
        refine norm_ (a' := ?_) ?_ ?_
        rotate_left
        · show Act.put _ (some 56) _ = _
          simp only [Act.put, List.setIfInBounds_toArray, List.set_cons_zero, List.set_cons_succ, i64_w, i32_w]
          rfl
        refine one_ (i := 4) (N := some 57) #[true,true,true,true,true,false,false,false,false,false,false,false,false,false,false,false] rfl rfl (one_of HT_.out (by kernel_rfl)) (by decide) (fun K hK => ?_)
        refine goes_ Try.func15 (by kernel_rfl) rfl #[.agg #[.int .i64 t362, .int .i64 t363, .string t364, .int .i64 t365, .string t366, .string t367, .int .i64 t368]] (by rfl) rfl rfl (by (try simp only [List.map_toArray, List.map_cons, List.map_nil]); first | done | rfl | (simp only [List.length_drop, List.length_take]; rfl) | (simp only [Act.eval, Array.getD_eq_getD_getElem?, Option.getD_some, *]; done) | (simp only [Array.mk.injEq, List.cons.injEq, Value.int.injEq, true_and, and_true]; first | omega | (simp [IntKind.wrap, IntKind.bits, IntKind.signed]; omega))) ?_
        with_reducible refine (armoireref24_Text.calls kj16 t362 t363 t364 t365 t366 t367 t368 t369 _ A60.out).mono ?_
        rintro e w72 ⟨rfl, hb⟩
        refine ⟨_, rfl, ?_⟩
        have n0_ := Aside0.mk (kbl (g := gb328) (o := .cells #[.int .i64 x329000_5, .int .i64 x329001_5, .string x329002_5, .int .i64 x329003_5, .string x329004_5, .string x329005_5, .int .i64 x329006_5] 26 (0, 0)) (by (with_reducible repeat (first | refine kdn ?_ _ | refine kdw ?_ | refine kal ?_ _)); exact BK328.out) hb)
        have n1_ := Aside0.mk (kbl (g := gb360) (o := .cells #[.int .i64 t352, .int .i64 t353, .string t354, .int .i64 t355, .string t356, .string t357, .int .i64 t358] 26 (0, 0)) (by (with_reducible repeat (first | refine kdn ?_ _ | refine kdw ?_ | refine kal ?_ _)); exact BK360.out) hb)
        have n2_ := Aside0.mk (bsp (by repeat (first | (with_reducible first | exact HB.out | apply bal | apply bdn | apply bd1 | refine bst ?_ GE328.out | refine bst ?_ GE360.out) | exact HB.out)) hb)
        clear BK328
        clear BK360
        clear HB
        have BK328 := n0_
        have BK360 := n1_
        have HB := n2_
        clear n0_ n1_ n2_
        (try clear hb)
        (try clear hb2)
        (try clear hk)
        (try clear hi)
        refine hK.out _ _ ⟨(kcl BK328.out 0).trans rfl, (kcl BK328.out 1).trans rfl, (kcl BK328.out 2).trans rfl, (kcl BK328.out 3).trans rfl, (kcl BK328.out 4).trans rfl, (kcl BK328.out 5).trans rfl, (kcl BK328.out 6).trans rfl, (kcl BK360.out 0).trans rfl, (kcl BK360.out 1).trans rfl, (kcl BK360.out 2).trans rfl, (kcl BK360.out 3).trans rfl, (kcl BK360.out 4).trans rfl, (kcl BK360.out 5).trans rfl, (kcl BK360.out 6).trans rfl⟩ (fun hHeld => ?_)
        clear hK K
        refine norm_ (a' := ?_) ?_ ?_
        rotate_left
        · show Act.put _ (some 57) _ = _
          simp only [Act.put, List.setIfInBounds_toArray, List.set_cons_zero, List.set_cons_succ, i64_w, i32_w]
          rfl
        refine pure_ (i := 5) (N := some 58) (v := ?_) (a' := ?_) (bA 16 63) rfl rfl (any_of HT_.out (by kernel_rfl)) (fun _ _ _ h => h) (Or.inl ⟨by rfl, ?_⟩) ?_ ?_
        rotate_left; (intro w'; go_simp; with_reducible rfl); rotate_left; (simp only [Act.put, List.setIfInBounds_toArray, List.set_cons_zero, List.set_cons_succ, i64_w, i32_w]; rfl)
        refine pure_ (i := 6) (N := some 59) (v := ?_) (a' := ?_) (bA 16 127) rfl rfl (any_of HT_.out (by kernel_rfl)) (fun _ _ _ h => h) (Or.inl ⟨by rfl, ?_⟩) ?_ ?_
        rotate_left; (intro w'; go_simp; with_reducible rfl); rotate_left; (simp only [Act.put, List.setIfInBounds_toArray, List.set_cons_zero, List.set_cons_succ, i64_w, i32_w]; rfl)
        refine take_ (i := 7) (N := some 60) (v := ?_) (a' := ?_) #[true,true,true,true,true,true,true,true,false,false,false,false,false,false,false,false] rfl rfl (tkw HT_.out HW_.out (by kernel_rfl)) (fun _ _ _ h => h) (Or.inl ⟨by rfl, ?_⟩) hHeld ?_ ?_
        rotate_left
        · rintro w' ⟨s0, s1, s2, s3, s4, s5, s6, s7, s8, s9, s10, s11, s12, s13⟩
          go_simp
          with_reducible rfl
        rotate_left; (simp only [Act.put, List.setIfInBounds_toArray, List.set_cons_zero, List.set_cons_succ, i64_w, i32_w]; rfl)
        refine take_ (i := 8) (N := some 61) (v := ?_) (a' := ?_) #[true,true,true,true,true,true,true,true,true,false,false,false,false,false,false,false] rfl rfl (tkw HT_.out HW_.out (by kernel_rfl)) (fun _ _ _ h => h) (Or.inl ⟨by rfl, ?_⟩) hHeld ?_ ?_
        rotate_left
        · rintro w' ⟨s0, s1, s2, s3, s4, s5, s6, s7, s8, s9, s10, s11, s12, s13⟩
          go_simp
          with_reducible rfl
        rotate_left; (simp only [Act.put, List.setIfInBounds_toArray, List.set_cons_zero, List.set_cons_succ, i64_w, i32_w]; rfl)
        refine pure_ (i := 9) (N := some 62) (v := ?_) (a' := ?_) (bA 16 1023) rfl rfl (any_of HT_.out (by kernel_rfl)) (fun _ _ _ h => h) (Or.inl ⟨by rfl, ?_⟩) ?_ ?_
        rotate_left; (intro w'; go_simp; with_reducible rfl); rotate_left; (simp only [Act.put, List.setIfInBounds_toArray, List.set_cons_zero, List.set_cons_succ, i64_w, i32_w]; rfl)
        refine pure_ (i := 10) (N := some 63) (v := ?_) (a' := ?_) (bA 16 2047) rfl rfl (any_of HT_.out (by kernel_rfl)) (fun _ _ _ h => h) (Or.inl ⟨by rfl, ?_⟩) ?_ ?_
        rotate_left; (intro w'; go_simp; with_reducible rfl); rotate_left; (simp only [Act.put, List.setIfInBounds_toArray, List.set_cons_zero, List.set_cons_succ, i64_w, i32_w]; rfl)
        refine pure_ (i := 11) (N := some 64) (v := ?_) (a' := ?_) (bA 16 4095) rfl rfl (any_of HT_.out (by kernel_rfl)) (fun _ _ _ h => h) (Or.inl ⟨by rfl, ?_⟩) ?_ ?_
        rotate_left; (intro w'; go_simp; with_reducible rfl); rotate_left; (simp only [Act.put, List.setIfInBounds_toArray, List.set_cons_zero, List.set_cons_succ, i64_w, i32_w]; rfl)
        refine pure_ (i := 12) (N := some 65) (v := undef) (a' := ?_) (bA 16 8191) rfl rfl (any_of HT_.out (by kernel_rfl)) (fun _ _ _ h => h) (Or.inr ⟨by rfl, rfl⟩) ?_ ?_
        rotate_left; (simp only [Act.put, List.setIfInBounds_toArray, List.set_cons_zero, List.set_cons_succ, i64_w, i32_w]; rfl)
        refine pure_ (i := 13) (N := some 66) (v := undef) (a' := ?_) (bA 16 16383) rfl rfl (any_of HT_.out (by kernel_rfl)) (fun _ _ _ h => h) (Or.inr ⟨by rfl, rfl⟩) ?_ ?_
        rotate_left; (simp only [Act.put, List.setIfInBounds_toArray, List.set_cons_zero, List.set_cons_succ, i64_w, i32_w]; rfl)
        refine pure_ (i := 14) (N := some 67) (v := ?_) (a' := ?_) (bA 16 32767) rfl rfl (any_of HT_.out (by kernel_rfl)) (fun _ _ _ h => h) (Or.inl ⟨by rfl, ?_⟩) ?_ ?_
        rotate_left; (intro w'; go_simp; with_reducible rfl); rotate_left; (simp only [Act.put, List.setIfInBounds_toArray, List.set_cons_zero, List.set_cons_succ, i64_w, i32_w]; rfl)
        refine pure_ (i := 15) (N := some 4) (v := ?_) (a' := ?_) (bA 16 65535) rfl rfl (any_of HT_.out (by kernel_rfl)) (fun _ _ _ h => h) (Or.inl ⟨by rfl, ?_⟩) ?_ ?_
        rotate_left; (intro w'; go_simp; with_reducible rfl); rotate_left; (simp only [Act.put, List.setIfInBounds_toArray, List.set_cons_zero, List.set_cons_succ, i64_w, i32_w]; rfl)
        refine done_ (done_of HT_.out (by kernel_rfl)) ?_
        try go_wp2
        go_meet
        case rel => exact ⟨_, (false), (by first | rfl | (simp; done) | (simp [*]; done) | exact emp1_ _ | exact (emp1_ _).symm | exact emp2_ _ | exact (emp2_ _).symm), H', ⟨by have := HJ5.out; have := HJ16.out; first | omega | exact Nat.le_refl _⟩, ⟨by (with_reducible repeat (first | refine kdn ?_ _ | refine kdw ?_ | refine kal ?_ _)); exact BK328.out⟩, ⟨by (with_reducible repeat (first | refine kdn ?_ _ | refine kdw ?_ | refine kal ?_ _)); exact BK360.out⟩, ⟨by repeat (first | (with_reducible first | exact HB.out | apply bal | apply bdn | apply bd1 | refine bst ?_ GE328.out | refine bst ?_ GE360.out) | exact HB.out)⟩⟩
      clear HC49
      try clear c1
      try clear p2
      try clear c6
      try clear c12
      try clear c14
      try clear c15
      try clear c61
      try clear c61b0
      try clear c61b1
      try clear c62
      try clear c62b0
      try clear c62b1
      try clear c62b2
      obtain ⟨kq, x4_48, rfl, HA, HJ48, BK328, BK360, HB⟩ := hcut
      cases kq with
      | zero => exact absurd HA.out (by simp [armoirelaw24_FrameRequests.j2])
      | succ kj48 =>
        have H := HA.out
        clear HA
        simp only [armoirelaw24_FrameRequests.j2] at H
        obtain rfl := Option.some.inj H
        go_wp2
        go_ret
        exact ⟨by first | rfl | (simp [errW_none, errW_some] <;> rfl) | (simp [*, errW_none, errW_some] <;> rfl), by repeat (first | (with_reducible first | exact HB.out | apply bal | apply bdn | apply bd1 | refine bst ?_ GE328.out | refine bst ?_ GE360.out) | exact HB.out)⟩
def armoirelaw24_FrameRequests.Pure : Prop := ∀ (a0_0 : Int) (a0_1 : Int) (a0_2 : ByteArray) (a0_3 : Int) (a0_4 : ByteArray) (a0_5 : ByteArray) (a0_6 : Int) (a1 : Bool), ((Lit.int .i64 a0_0).wf = true ∧ (Lit.int .i64 a0_1).wf = true ∧ a0_2.size ≤ maxLen ∧ ((Lit.int .i64 a0_3).wf = true ∧ a0_4.size ≤ maxLen ∧ a0_5.size ≤ maxLen ∧ (Lit.int .i64 a0_6).wf = true)) → ∃ k, armoirelaw24_FrameRequests.f k a0_0 a0_1 a0_2 a0_3 a0_4 a0_5 a0_6 a1 = some true
theorem armoirelaw24_FrameRequests.walk (P : armoirelaw24_FrameRequests.Pure) (a0_0 : Int) (a0_1 : Int) (a0_2 : ByteArray) (a0_3 : Int) (a0_4 : ByteArray) (a0_5 : ByteArray) (a0_6 : Int) (a1 : Bool) (w : World) (w0 : ((Lit.int .i64 a0_0).wf = true ∧ (Lit.int .i64 a0_1).wf = true ∧ a0_2.size ≤ maxLen ∧ ((Lit.int .i64 a0_3).wf = true ∧ a0_4.size ≤ maxLen ∧ a0_5.size ≤ maxLen ∧ (Lit.int .i64 a0_6).wf = true)))  :
    Calls Try.prog 3 #[.agg #[.int .i64 a0_0, .int .i64 a0_1, .string a0_2, .int .i64 a0_3, .string a0_4, .string a0_5, .int .i64 a0_6], .bool a1] w fun e w' => e = .returned (.bool true) ∧ Below w.heap.size w w' := by
  obtain ⟨k, h⟩ := P a0_0 a0_1 a0_2 a0_3 a0_4 a0_5 a0_6 a1 w0
  refine (armoirelaw24_FrameRequests.calls k a0_0 a0_1 a0_2 a0_3 a0_4 a0_5 a0_6 a1 true w h).mono ?_
  rintro e w' ⟨rfl, hd⟩
  exact ⟨rfl, hd⟩
end Go.Proofs.Ytkkkmbgflflcnaa.PA

