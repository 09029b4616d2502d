import Derived.Test.YtjiblcncadekcaaQAxRAp
import Derived.Test.YtjiblcncadekcaaQAxPAx7
namespace Go.Proofs.Ytjiblcncadekcaa.PA
set_option linter.unusedSimpArgs false
open Go.RowKit Go.Proofs.YtjiblcncadekcaaW.PrintWords Go.Proofs.YtjiblcncadekcaaW.PrintLast Go.Proofs.YtjiblcncadekcaaW.PrintMore Go.Proofs.Ytjiblcncadekcaa Go.Proofs.Ytjiblcncadekcaa.PL
attribute [local go_sem] Oper.semAt_some
def maskN (kind n m : Int) : Int := if kind = 3 then Go.bits .and .i64 n m else n
theorem tyR67 : ∀ t, t ∈ 67 :: k67.E → t ≠ 29 := by
  intro t h
  rw [show (67 :: k67.E) = [67] from by first | rfl | decide | simp [k67]] at h
  simp only [List.mem_singleton] at h
  subst h
  decide
structure W13 (w W : World) (q g : Nat) (c1 : Array Value) (x0 x1 v : Value) (ys : List S67) : Prop where
  below : Below w.heap.size w W
  ge : w.heap.size ≤ q
  lt : q < g
  b2 : W.heap[q]? = some (.cells c1 29 (0, 0))
  b3 : W.heap[g]? = some (.cells #[x0, x1, v] 29 (0, 0))
  row : Kd.R k67 67 W w.heap.size (fun _ => True) v ys
theorem W13.put1 {w W : World} {q g : Nat} {c1 : Array Value} {x0 x1 v : Value} {ys : List S67} (h : W13 w W q g c1 x0 x1 v ys) (u : Value) : W13 w (W.setCell ⟨g, 1, none⟩ u) q g c1 x0 u v ys :=
  ⟨bst h.below (by have := h.ge; have := h.lt; omega), h.ge, h.lt, blk_far h.b2 (show q ≠ g by have := h.lt; omega) u, kpt h.b3 1 u rfl, Kd.R_set h.row h.b3 tyR67 1 u⟩
theorem W13.done {w W : World} {q g : Nat} {y0 y1 y2 : Value} {x0 x1 v : Value} {ys : List S67} (h : W13 w W q g #[y0, y1, y2] x0 x1 v ys) :
    (((W.setCell ⟨q, 0, none⟩ x0).setCell ⟨q, 1, none⟩ x1).setCell ⟨q, 2, none⟩ v).heap[q]? = some (.cells #[x0, x1, v] 29 (0, 0)) ∧ Kd.R k67 67 (((W.setCell ⟨q, 0, none⟩ x0).setCell ⟨q, 1, none⟩ x1).setCell ⟨q, 2, none⟩ v) w.heap.size (fun _ => True) v ys ∧ Below w.heap.size w (((W.setCell ⟨q, 0, none⟩ x0).setCell ⟨q, 1, none⟩ x1).setCell ⟨q, 2, none⟩ v) := by
  have b1 := kpt h.b2 0 x0 (cs' := #[x0, y1, y2]) rfl
  have b2 := kpt b1 1 x1 (cs' := #[x0, x1, y2]) rfl
  have b3 := kpt b2 2 v (cs' := #[x0, x1, v]) rfl
  exact ⟨b3, Kd.R_set (Kd.R_set (Kd.R_set h.row h.b2 tyR67 0 x0) b1 tyR67 1 x1) b2 tyR67 2 v, bst (bst (bst h.below h.ge) h.ge) h.ge⟩
set_option maxHeartbeats 8000000 in
set_option maxRecDepth 100000 in
theorem lawState.calls (k : Nat) (kind n : Int) (A : Option Addr) (c : Nat) (xs : List S68) (kd m : Int) (ys : List S67) (w : World) (hr : Kd.C k68 w A xs.length xs) (hc : xs.length ≤ c) (hf : armoirelaw11_Tidy.f k kind n xs = some (kd, m, ys)) :
    Calls Try.prog 5 #[.agg #[.int .i64 kind, .int .i64 n, .slice A xs.length c]] w fun e w' => ∃ v : Value, e = .returned (.agg #[.int .i64 kd, .int .i64 (maskN kd m 1125899906842623), v]) ∧ Kd.R k67 67 w' w.heap.size (fun _ => True) v ys ∧ Below w.heap.size w w' := by
  have HR := Aside0.mk hr
  have HC := Aside0.mk hc
  have HF := Aside0.mk hf
  clear hr hc hf
  obtain ⟨W2, hW2⟩ : ∃ W2, W2 = (w.alloc (.cells #[.int .i64 kind, .int .i64 n, .slice A xs.length c] 24)).alloc (.cells #[.int .i64 0, .int .i64 0, .slice none 0 0] 29) := ⟨_, rfl⟩
  obtain ⟨p, hp⟩ : ∃ p, p = w.heap.size := ⟨_, rfl⟩
  have HB2 := Aside0.mk (show Below w.heap.size w W2 by rw [hW2]; exact bal (bal (Below.refl _ _) _) _)
  have hb1 : W2.heap[p]? = some (.cells #[.int .i64 kind, .int .i64 n, .slice A xs.length c] 24 (0, 0)) := by rw [hW2, hp]; exact kal (blk_new w _) _
  have hb2 : W2.heap[p + 1]? = some (.cells #[.int .i64 0, .int .i64 0, .slice none 0 0] 29 (0, 0)) := by
    have h := blk_new (w.alloc (.cells #[.int .i64 kind, .int .i64 n, .slice A xs.length c] 24)) (.cells #[.int .i64 0, .int .i64 0, .slice none 0 0] 29)
    rw [show (w.alloc (.cells #[.int .i64 kind, .int .i64 n, .slice A xs.length c] 24)).heap.size = w.heap.size + 1 by simp] at h
    rw [hW2, hp]
    exact h
  have HB1 := Aside0.mk hb1
  have HBb := Aside0.mk hb2
  have HP := Aside0.mk (show w.heap.size ≤ p + 1 by omega)
  have a0 := (kcl hb1 0).trans rfl
  have a1 := (kcl hb1 1).trans rfl
  have a2 := (kcl hb1 2).trans rfl
  clear hb1 hb2
  go_enter Try.func5, Try.ntmps5
  go_upto_region 1 with fail
  rw [← hW2, ← hp]
  clear hW2 hp
  go_wp2_with fail
  refine (armoirelaw11_Tidy.calls k kind n A c xs kd m ys _ (Kd.C_below HR.out HB2.out) HC.out HF.out).mono ?_
  rintro e w1 ⟨v, rfl, hR1, hB1⟩
  obtain ⟨A1, c1, hv1⟩ := Kd.R_slice hR1
  subst hv1
  have HR1 := Aside0.mk hR1
  have HB1' := Aside0.mk hB1
  clear hR1 hB1 a0 a1 a2
  go_upto_if 8 with ((with_reducible refine gds (N := 3) rfl ?_); refine bx_ (N := 3) (cs := #[.int .i64 0, .int .i64 0, .slice none 0 0]) (t := 29) ?_; intro g hg w3 hbox hb; have HG := Aside0.mk (show p + 1 < g by rw [hg]; exact blk_lt (kbl HBb.out HB1'.out)); have HBX := Aside0.mk hbox; have HB3 := Aside0.mk hb; clear hg hbox hb; have x0 := (kcl HBX.out 0).trans rfl; have x1 := (kcl HBX.out 1).trans rfl; have x2 := (kcl HBX.out 2).trans rfl; have f0 := kfr HBX.out 0; have f1 := kfr HBX.out 1; have f2 := kfr HBX.out 2)
  have hW : W13 w ((((w3.setCell ⟨g, 0, none⟩ (.int .i64 kd)).setCell ⟨g, 1, none⟩ (.int .i64 m)).setCell ⟨g, 2, none⟩ (.slice A1 ys.length c1))) (p + 1) g #[.int .i64 0, .int .i64 0, .slice none 0 0] (.int .i64 kd) (.int .i64 m) (.slice A1 ys.length c1) ys := by
    have hB := bsp (bsp HB2.out HB1'.out) HB3.out
    have hg := HG.out
    have hp := HP.out
    have e1 := kpt HBX.out 0 (.int .i64 kd) (cs' := #[.int .i64 kd, .int .i64 0, .slice none 0 0]) rfl
    have e2 := kpt e1 1 (.int .i64 m) (cs' := #[.int .i64 kd, .int .i64 m, .slice none 0 0]) rfl
    have e3 := kpt e2 2 (.slice A1 ys.length c1) (cs' := #[.int .i64 kd, .int .i64 m, .slice A1 ys.length c1]) rfl
    have r0 := Kd.R_below (Kd.R_lower HR1.out HB2.out.size) HB3.out
    have hne : p + 1 ≠ g := by omega
    exact ⟨bst (bst (bst hB (by omega)) (by omega)) (by omega), hp, hg, blk_far (blk_far (blk_far (kbl (kbl HBb.out HB1'.out) HB3.out) hne _) hne _) hne _, e3,
      Kd.R_set (Kd.R_set (Kd.R_set r0 HBX.out tyR67 0 _) e1 tyR67 1 _) e2 tyR67 2 _⟩
  generalize (((w3.setCell ⟨g, 0, none⟩ (.int .i64 kd)).setCell ⟨g, 1, none⟩ (.int .i64 m)).setCell ⟨g, 2, none⟩ (.slice A1 ys.length c1)) = w4 at hW ⊢
  have HW := Aside0.mk hW
  clear hW x0 x1 x2 f0 f1 f2 HR1 HBX HB3 HB1 HBb
  have x0 := (kcl HW.out.b3 0).trans rfl
  have x1 := (kcl HW.out.b3 1).trans rfl
  have x2 := (kcl HW.out.b3 2).trans rfl
  have f1 := kfr HW.out.b3 1
  have z0 := (kcl HW.out.b2 0).trans rfl
  have z1 := (kcl HW.out.b2 1).trans rfl
  have z2 := (kcl HW.out.b2 2).trans rfl
  have g0 := kfr HW.out.b2 0
  have g1 := kfr HW.out.b2 1
  have g2 := kfr HW.out.b2 2
  have hne : p + 1 ≠ g := by have := HG.out; omega
  have hne2 : g ≠ p + 1 := by have := HG.out; omega
  by_cases q3 : kd = 3
  · have HM := Aside0.mk (show maskN kd m 1125899906842623 = Go.bits .and .i64 m 1125899906842623 by unfold maskN; rw [if_pos q3])
    have q4 : (kd == 3) = true := beq_iff_eq.2 q3
    rw [q4]
    clear q3 q4
    go_wp2
    obtain ⟨hd1, hd2, hd3⟩ := (HW.out.put1 (.int .i64 (Go.bits .and .i64 m 1125899906842623))).done
    refine bodyPost_ret (results_cell_row rfl _ _ (p + 1) 29 #[.int .i64 kd, .int .i64 (Go.bits .and .i64 m 1125899906842623), .slice A1 ys.length c1] (0, 0) _ rfl hd1 Try.underlying29 rfl (by kernel_rfl)) rfl ?_
    rw [HM.out]
    exact ⟨_, rfl, hd2, hd3⟩
  · have HM := Aside0.mk (show maskN kd m 1125899906842623 = m by unfold maskN; rw [if_neg q3])
    have q4 : (kd == 3) = false := beq_eq_false_iff_ne.2 q3
    rw [q4]
    clear q3 q4
    go_wp2
    obtain ⟨hd1, hd2, hd3⟩ := HW.out.done
    refine bodyPost_ret (results_cell_row rfl _ _ (p + 1) 29 #[.int .i64 kd, .int .i64 m, .slice A1 ys.length c1] (0, 0) _ rfl hd1 Try.underlying29 rfl (by kernel_rfl)) rfl ?_
    rw [HM.out]
    exact ⟨_, rfl, hd2, hd3⟩
end Go.Proofs.Ytjiblcncadekcaa.PA

