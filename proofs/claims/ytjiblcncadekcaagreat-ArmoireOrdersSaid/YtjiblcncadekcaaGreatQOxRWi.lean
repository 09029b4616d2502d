import Derived.Test.YtjiblcncadekcaaGreatQOxRDl
import Derived.Deep.RegionLaw
import Derived.Test.YtjiblcncadekcaaGreatQOxPAx0
namespace Go.Proofs.YtjiblcncadekcaaGreat.PA
set_option linter.unusedSimpArgs false
open Go.RowKit Go.Proofs.YtjiblcncadekcaaGreatW.PrintWords Go.Proofs.YtjiblcncadekcaaGreatW.PrintLast Go.Proofs.YtjiblcncadekcaaGreatW.PrintMore Go.Proofs.YtjiblcncadekcaaGreat Go.Proofs.YtjiblcncadekcaaGreat.PL
attribute [local go_sem] Oper.semAt_some bl_leq
def zRow : S73 := ⟨ByteArray.empty, ByteArray.empty⟩
def insPos (kind : Int) (xs : List S73) (key : ByteArray) : Nat → Nat
  | 0 => 0
  | n + 1 => if kind ≠ 6 ∧ Op.bytesLess key.toList (xs.getD n zRow).f0.toList = true then insPos kind xs key n else n + 1
theorem insPos_le (kind : Int) (xs : List S73) (key : ByteArray) : ∀ n, insPos kind xs key n ≤ n := by
  intro n
  induction n with
  | zero => exact Nat.le_refl _
  | succ n ih => unfold insPos; split <;> omega
def withR (kind : Int) (xs : List S73) (r : S73) : List S73 := xs.take (insPos kind xs r.f0 xs.length) ++ r :: xs.drop (insPos kind xs r.f0 xs.length)
theorem at_Row {w : World} {A : Option Addr} {n : Nat} {xs : List S73} (h : Kd.C k73 w A n xs) (i : Int) (h0 : 0 ≤ i) (h1 : i < n) : ∃ ad, A = some ad ∧ w.cell? (ad.add (i.toNat * 2)) = some (.string (xs.getD i.toNat zRow).f0) ∧ w.cell? ⟨(ad.add (i.toNat * 2)).block, (ad.add (i.toNat * 2)).off + 1, none⟩ = some (.string (xs.getD i.toNat zRow).f1) := by
  obtain ⟨ad, cs, e, _, hK, hc0⟩ := Kd.C_get h zRow i h0 h1
  have hc : ∀ j u, cs[j]? = some u → w.cell? (ad.add (i.toNat * 2 + j)) = some u := hc0
  obtain rfl := k73_open hK
  exact ⟨ad, e, hc 0 _ rfl, by rw [← add_field _ _ 1 (by omega)]; exact hc 1 _ rfl⟩
structure WS (w W : World) (q : Nat) (c1 c2 c3 : Array Value) : Prop where
  below : Below w.heap.size w W
  ge : w.heap.size ≤ q
  b1 : W.heap[q]? = some (.cells c1 24 (0, 0))
  b2 : W.heap[q + 1]? = some (.cells c2 73 (0, 0))
  b3 : W.heap[q + 1 + 1]? = some (.cells c3 24 (0, 0))
theorem WS.step {w W W1 : World} {q : Nat} {c1 c2 c3 : Array Value} (h : WS w W q c1 c2 c3) (hB : Below W.heap.size W W1) : WS w W1 q c1 c2 c3 :=
  ⟨bsp h.below hB, h.ge, kbl h.b1 hB, kbl h.b2 hB, kbl h.b3 hB⟩
theorem WS.grown {w W W1 : World} {q : Nat} {c1 c2 c3 : Array Value} {v : Value} (h : WS w W q c1 c2 c3) (hB : Below w.heap.size w W1) (hG : W.grownBy W1 v.ownBlock) (hv : ∀ k, v.ownBlock = some k → q + 1 + 1 < k) : WS w W1 q c1 c2 c3 :=
  ⟨hB, h.ge, (hG.block q (klt_ h.b1) (fun e => by have := hv q e.symm; omega)).trans h.b1, (hG.block (q + 1) (klt_ h.b2) (fun e => by have := hv _ e.symm; omega)).trans h.b2, (hG.block (q + 1 + 1) (klt_ h.b3) (fun e => by have := hv _ e.symm; omega)).trans h.b3⟩
theorem R_lt {w : World} {base e sz n : Nat} {v : Value} {cs : List Value} (h : w.ownsRow base e sz v n cs) (k : Nat) (hk : v.ownBlock = some k) : k < w.heap.size ∧ base ≤ k := ⟨own_lt h k hk, own_base h k hk⟩
theorem R_ge {w W wz : World} {q base : Nat} {c1 c2 c3 : Array Value} {v : Value} {xs : List S73} (hR : Kd.R k73 73 wz base (fun _ => True) v xs) (hS : WS w W q c1 c2 c3) (hb : W.heap.size ≤ base) : ∀ k, v.ownBlock = some k → q + 1 + 1 < k := fun k hk => by
  obtain ⟨inner, ho⟩ := Kd.R_own hR
  have h1 := own_base ho k hk
  have h2 := klt_ hS.b3
  omega
theorem with_done {w W : World} {q : Nat} {x0 x1 x2 y0 y1 y2 : Value} {c2 : Array Value} {v : Value} {ys : List S73} (a b : Value) (hS : WS w W q #[x0, x1, x2] c2 #[y0, y1, y2]) (hR : Kd.R k73 73 W w.heap.size (fun _ => True) v ys) :
    ((((W.setCell ⟨q, 2, none⟩ v).setCell ⟨q + 1 + 1, 0, none⟩ a).setCell ⟨q + 1 + 1, 1, none⟩ b).setCell ⟨q + 1 + 1, 2, none⟩ v).heap[q + 1 + 1]? = some (.cells #[a, b, v] 24 (0, 0)) ∧ Kd.R k73 73 ((((W.setCell ⟨q, 2, none⟩ v).setCell ⟨q + 1 + 1, 0, none⟩ a).setCell ⟨q + 1 + 1, 1, none⟩ b).setCell ⟨q + 1 + 1, 2, none⟩ v) w.heap.size (fun _ => True) v ys ∧ Below w.heap.size w ((((W.setCell ⟨q, 2, none⟩ v).setCell ⟨q + 1 + 1, 0, none⟩ a).setCell ⟨q + 1 + 1, 1, none⟩ b).setCell ⟨q + 1 + 1, 2, none⟩ v) := by
  have ht : ∀ t, t ∈ 73 :: k73.E → t ≠ 24 := by
    intro t h
    rw [show (73 :: k73.E) = [73] from by first | rfl | decide | simp [k73]] at h
    simp only [List.mem_singleton] at h
    subst h
    decide
  have b0 := hS.b3
  have b1 := blk_far b0 (p := ⟨q, 2, none⟩) (show q + 1 + 1 ≠ q by omega) v
  have b2 := kpt b1 0 a (cs' := #[a, y1, y2]) rfl
  have b3 := kpt b2 1 b (cs' := #[a, b, y2]) rfl
  have b4 := kpt b3 2 v (cs' := #[a, b, v]) rfl
  have hq := hS.ge
  exact ⟨b4, Kd.R_set (Kd.R_set (Kd.R_set (Kd.R_set hR hS.b1 ht 2 v) b1 ht 0 a) b2 ht 1 b) b3 ht 2 v, bst (bst (bst (bst hS.below hq) (by omega)) (by omega)) (by omega)⟩
set_option maxHeartbeats 8000000 in
set_option maxRecDepth 100000 in
theorem stateWith.calls (kind n : Int) (A : Option Addr) (c : Nat) (xs : List S73) (r : S73) (w : World) (hr : Kd.C k73 w A xs.length xs) (hl : xs.length < 1000000) :
    Calls Tryz.prog 37 #[.agg #[.int .i64 kind, .int .i64 n, .slice A xs.length c], .agg #[.string r.f0, .string r.f1]] w fun e w' => ∃ v : Value, e = .returned (.agg #[.int .i64 kind, .int .i64 n, v]) ∧ Kd.R k73 73 w' w.heap.size (fun _ => True) v (withR kind xs r) ∧ Below w.heap.size w w' := by
  have HR := Z0.mk hr
  have HL := Z0.mk hl
  have hm9 : xs.length ≤ 9223372036854775807 := by omega
  have HRR := Z0.mk (show withR kind xs r = xs.take (insPos kind xs r.f0 xs.length) ++ r :: xs.drop (insPos kind xs r.f0 xs.length) from rfl)
  have hple := insPos_le kind xs r.f0 xs.length
  obtain ⟨p, hp⟩ : ∃ p, p = insPos kind xs r.f0 xs.length := ⟨_, rfl⟩
  rw [← hp] at HRR hple
  have HP := Z0.mk hp
  have HPL := Z0.mk hple
  obtain ⟨r0, r1⟩ := r
  dsimp only at HP HRR ⊢
  obtain ⟨W3, hW3⟩ : ∃ W3, W3 = ((w.alloc (.cells #[.int .i64 kind, .int .i64 n, .slice A xs.length c] 24)).alloc (.cells #[.string r0, .string r1] 73)).alloc (.cells #[.int .i64 0, .int .i64 0, .slice none 0 0] 24) := ⟨_, rfl⟩
  obtain ⟨q, hq⟩ : ∃ q, q = w.heap.size := ⟨_, rfl⟩
  have HS3 := Z0.mk (show WS w W3 q #[.int .i64 kind, .int .i64 n, .slice A xs.length c] #[.string r0, .string r1] #[.int .i64 0, .int .i64 0, .slice none 0 0] by
    rw [hW3, hq]
    refine ⟨bal (bal (bal (Below.refl _ _) _) _) _, Nat.le_refl _, kal (kal (blk_new w _) _) _, ?_, ?_⟩
    · have h := blk_new (w.alloc (.cells #[.int .i64 kind, .int .i64 n, .slice A xs.length c] 24)) (.cells #[.string r0, .string r1] 73)
      rw [show (w.alloc (.cells #[.int .i64 kind, .int .i64 n, .slice A xs.length c] 24)).heap.size = w.heap.size + 1 by simp] at h
      exact kal h _
    · have h := blk_new ((w.alloc (.cells #[.int .i64 kind, .int .i64 n, .slice A xs.length c] 24)).alloc (.cells #[.string r0, .string r1] 73)) (.cells #[.int .i64 0, .int .i64 0, .slice none 0 0] 24)
      rw [show ((w.alloc (.cells #[.int .i64 kind, .int .i64 n, .slice A xs.length c] 24)).alloc (.cells #[.string r0, .string r1] 73)).heap.size = w.heap.size + 1 + 1 by simp] at h
      exact h)
  clear hr hl hp hple
  go_enter Tryz.func37, Tryz.ntmps37
  go_upto_region 1 with fail
  rw [← hW3, ← hq]
  clear hW3
  have HQ := Z0.mk hq
  clear hq
  have a0 := (kcl HS3.out.b1 0).trans rfl
  have a2 := (kcl HS3.out.b1 2).trans rfl
  have c0 := (kcl HS3.out.b2 0).trans rfl
  go_upto_block 0 with fail
  go_cut [5] (fun v5 wr => v5 = .int .i64 (p : Int) ∧ Z0 (Below W3.heap.size W3 wr))
  case first =>
    go_wp2_with fail
    go_loopw [5] (fun v5 wr => ∃ j : Nat, v5 = .int .i64 j ∧ j ≤ xs.length ∧ Z0 (insPos kind xs r0 j = p) ∧ Z0 (Below W3.heap.size W3 wr)) (fun v5 _ => (intOf v5).toNat)
    case atStart => exact ⟨xs.length, rfl, Nat.le_refl _, ⟨HP.out.symm⟩, ⟨Below.refl _ _⟩⟩
    case round =>
      clear a0 a2 c0
      obtain ⟨j, rfl, hj, HJ, HB⟩ := hrel
      have HS := Z0.mk (HS3.out.step HB.out)
      have a0 := (kcl HS.out.b1 0).trans rfl
      have a2 := (kcl HS.out.b1 2).trans rfl
      have c0 := (kcl HS.out.b2 0).trans rfl
      by_cases k6 : kind = 6
      · have h1 : (kind != 6) = false := bne_eq_false_iff_eq.2 k6
        have HE := Z0.mk (show j = p by rw [← HJ.out]; cases j with | zero => rfl | succ j => rw [insPos, if_neg (fun h => h.1 k6)])
        clear k6
        go_wp2_with fail
        go_quiet (fail)
        have HBq := Z0.mk (bdn HB.out nq)
        go_wp2
        go_meet
        exact ⟨by rw [HE.out], HBq⟩
      have h1 : (kind != 6) = true := bne_iff_ne.2 k6
      have HK6 := Z0.mk k6
      clear k6
      cases j with
      | zero =>
        have HE := Z0.mk (show 0 = p from HJ.out)
        go_wp2_with fail
        go_quiet (fail)
        have HBq := Z0.mk (bdn HB.out nq)
        go_wp2
        go_meet
        exact ⟨by rw [← HE.out], HBq⟩
      | succ j =>
        have d0 : (0 : Int) ≤ ((j : Nat) : Int) := by omega
        have d1 : ((j : Nat) : Int) < (xs.length : Int) := by omega
        obtain ⟨ad, e0, y0, -⟩ := at_Row (Kd.C_below (Kd.C_below HR.out HS3.out.below) HB.out) ((j : Nat) : Int) d0 d1
        cases e0
        rw [Int.toNat_natCast] at y0
        have d2 : (0 : Int) < ((j + 1 : Nat) : Int) := by omega
        have d3 : (((j + 1 : Nat) : Int) - 1).toNat = j := by omega
        have hjj := HJ.out
        rw [insPos] at hjj
        generalize xs.getD j zRow = x at y0 hjj
        have d5 : (0 : Int) < (j : Int) + 1 := by omega
        have k1 : IntKind.i64.wrap (((j : Nat) : Int) + 1 - 1) = (j : Int) := by rw [IntKind.wrap_i64]; omega
        have k2 : wrap64 (((j : Nat) : Int) + 1 - 1) = (j : Int) := by unfold wrap64; omega
        by_cases hb : Op.bytesLess r0.toList x.f0.toList = true
        · have HJ2 := Z0.mk (show insPos kind xs r0 j = p by rw [← hjj, if_pos ⟨HK6.out, hb⟩])
          clear hjj
          go_wp2_with fail
          go_quiet (fail)
          have HBq := Z0.mk (bdn HB.out nq)
          go_wp2
          go_roundw
          case rel => exact ⟨j, by go_num, by omega, HJ2, HBq⟩
          case measure => simp [intOf]
        · have HE := Z0.mk (show j + 1 = p by rw [← hjj, if_neg (fun h => hb h.2)])
          have hb2 : Op.bytesLess r0.toList x.f0.toList = false := by simpa using hb
          clear hjj hb
          go_wp2_with fail
          go_quiet (fail)
          have HBq := Z0.mk (bdn HB.out nq)
          go_wp2
          go_meet
          exact ⟨by rw [← HE.out], HBq⟩
  case rest =>
    obtain ⟨rfl, HB⟩ := hcut
    clear a0 a2 c0
    have HS := Z0.mk (HS3.out.step HB.out)
    have a0 := (kcl HS.out.b1 0).trans rfl
    have a2 := (kcl HS.out.b1 2).trans rfl
    have c0 := (kcl HS.out.b2 0).trans rfl
    have c1 := (kcl HS.out.b2 1).trans rfl
    have f2 := kfr HS.out.b1 2
    have HCC := Z0.mk (Kd.C_below (Kd.C_below HR.out HS3.out.below) HB.out)
    have hsl := HS.out.step (W1 := (wc.alloc (.cells #[.string r0, .string r1] 73)).drew) (below_drew (bal (Below.refl _ _) _))
    have a2l := (kcl hsl.b1 2).trans rfl
    have c0l := (kcl hsl.b2 0).trans rfl
    have c1l := (kcl hsl.b2 1).trans rfl
    have f2l := kfr hsl.b1 2
    clear hsl
    go_wp2_with fail
    go_region_law (first
      | (go_simp; go_at_call 63; (with_reducible refine (cloneRow.calls A c xs wc.drew (Kd.C_below HCC.out (below_drew (Below.refl _ _))) HL.out).mono ?_); rintro e wz ⟨v, rfl, hRz, hBz⟩; have HBz := Z0.mk (bsp (below_drew (Below.refl _ _)) hBz); have HRz := Z0.mk hRz; have HBy := Z0.mk hBz; have HSz := Z0.mk (HS.out.step HBz.out); have a0z := (kcl HSz.out.b1 0).trans rfl; have a2z := (kcl HSz.out.b1 2).trans rfl; have c0z := (kcl HSz.out.b2 0).trans rfl; have c1z := (kcl HSz.out.b2 1).trans rfl; have f2z := kfr HSz.out.b1 2; clear hRz hBz)
      | (go_simp; go_at_call 63; (with_reducible refine (cloneRow.calls A c xs (wc.alloc (.cells #[.string r0, .string r1] 73)).drew (Kd.C_below HCC.out (below_drew (bal (Below.refl _ _) _))) HL.out).mono ?_); rintro e wz ⟨v, rfl, hRz, hBz⟩; have HBz := Z0.mk (bsp (below_drew (bal (Below.refl _ _) _)) hBz); have HRz := Z0.mk hRz; have HBy := Z0.mk hBz; have HSz := Z0.mk (HS.out.step HBz.out); have a0z := (kcl HSz.out.b1 0).trans rfl; have a2z := (kcl HSz.out.b1 2).trans rfl; have c0z := (kcl HSz.out.b2 0).trans rfl; have c1z := (kcl HSz.out.b2 1).trans rfl; have f2z := kfr HSz.out.b1 2; clear hRz hBz)
      | (go_simp; go_at_call 62; have HSw := HSz.out.step (bal (Below.refl wz.heap.size wz) (.cells #[.string r0, .string r1] 73)); have hI_ := insertRow.calls v p xs ⟨r0, r1⟩ wz.heap.size w (wz.alloc (.cells #[.string r0, .string r1] 73)) HSw.below (Kd.R_alloc (Kd.R_lower HRz.out HS.out.below.size) _) HPL.out HL.out (blk_new wz _) (fun e => by have := (R_lt (Kd.R_own HRz.out).choose_spec _ e).1; omega); (try dsimp only at hI_); (with_reducible refine hI_.mono ?_); rintro e wy ⟨v7, rfl, hRy, hBy, hGy⟩; obtain ⟨A7, c7, hv7⟩ := Kd.R_slice hRy; subst hv7; have HRy := Z0.mk hRy; have HBy7 := Z0.mk hBy; have HSy := Z0.mk (HSw.grown hBy hGy (R_ge HRz.out HS.out (Nat.le_refl _))); have a0y := (kcl HSy.out.b1 0).trans rfl; have a1y := (kcl HSy.out.b1 1).trans rfl; have a2y := (kcl HSy.out.b1 2).trans rfl; have f2y := kfr HSy.out.b1 2; have z0y := (kcl HSy.out.b3 0).trans rfl; have z1y := (kcl HSy.out.b3 1).trans rfl; have z2y := (kcl HSy.out.b3 2).trans rfl; have g0y := kfr HSy.out.b3 0; have g1y := kfr HSy.out.b3 1; have g2y := kfr HSy.out.b3 2; clear hRy hBy hGy HSw)
      | (go_simp; go_at_call 62; have HSw := HSz.out; have hI_ := insertRow.calls v p xs ⟨r0, r1⟩ wc.heap.size w wz HSw.below (Kd.R_lower HRz.out (Nat.le_trans HS.out.below.size (show wc.heap.size ≤ (wc.alloc (.cells #[.string r0, .string r1] 73)).heap.size by simp))) HPL.out HL.out (kbl (kdw (blk_new wc (.cells #[.string r0, .string r1] 73))) HBy.out) (fun e => by have := (R_lt (Kd.R_own HRz.out).choose_spec _ e).2; have h2 : (wc.alloc (.cells #[.string r0, .string r1] 73)).drew.heap.size = wc.heap.size + 1 := (show (wc.alloc (.cells #[.string r0, .string r1] 73)).heap.size = wc.heap.size + 1 by simp); omega); (try dsimp only at hI_); (with_reducible refine hI_.mono ?_); rintro e wy ⟨v7, rfl, hRy, hBy, hGy⟩; obtain ⟨A7, c7, hv7⟩ := Kd.R_slice hRy; subst hv7; have HRy := Z0.mk hRy; have HBy7 := Z0.mk hBy; have HSy := Z0.mk (HSw.grown hBy hGy (R_ge HRz.out HS.out (show wc.heap.size ≤ (wc.alloc (.cells #[.string r0, .string r1] 73)).heap.size by simp))); have a0y := (kcl HSy.out.b1 0).trans rfl; have a1y := (kcl HSy.out.b1 1).trans rfl; have a2y := (kcl HSy.out.b1 2).trans rfl; have f2y := kfr HSy.out.b1 2; have z0y := (kcl HSy.out.b3 0).trans rfl; have z1y := (kcl HSy.out.b3 1).trans rfl; have z2y := (kcl HSy.out.b3 2).trans rfl; have g0y := kfr HSy.out.b3 0; have g1y := kfr HSy.out.b3 1; have g2y := kfr HSy.out.b3 2; clear hRy hBy hGy HSw))
    all_goals
      go_wp2
      have hl7 : (List.take p xs ++ (⟨r0, r1⟩ : S73) :: List.drop p xs).length = min p xs.length + (xs.length - p + 1) := by simp
      have hd := with_done (.int .i64 kind) (.int .i64 n) HSy.out HRy.out
      rw [hl7] at hd
      obtain ⟨hd1, hd2, hd3⟩ := hd
      refine bodyPost_ret (results_cell_row rfl _ _ (q + 1 + 1) 24 #[.int .i64 kind, .int .i64 n, .slice A7 (min p xs.length + (xs.length - p + 1)) c7] (0, 0) _ rfl hd1 Tryz.underlying24 rfl (by kernel_rfl)) rfl ?_
      exact ⟨_, rfl, by rw [HRR.out]; exact hd2, hd3⟩
end Go.Proofs.YtjiblcncadekcaaGreat.PA

