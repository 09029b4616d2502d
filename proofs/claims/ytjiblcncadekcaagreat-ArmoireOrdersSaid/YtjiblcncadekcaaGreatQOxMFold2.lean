import Derived.Test.YtjiblcncadekcaaGreatQOxRWi
import Derived.Test.YtjiblcncadekcaaGreatQOxPAx9
import Derived.Test.YtjiblcncadekcaaGreatQOxWMore
import Derived.Deep.RegionHeld3
namespace Go.Proofs.YtjiblcncadekcaaGreat.PA
set_option linter.unusedSimpArgs false
open Go.RowKit Go.Proofs.YtjiblcncadekcaaGreatW.PrintWords Go.Proofs.YtjiblcncadekcaaGreatW.PrintLast Go.Proofs.YtjiblcncadekcaaGreatW.PrintMore Go.Proofs.YtjiblcncadekcaaGreat Go.Proofs.YtjiblcncadekcaaGreat.PL
attribute [local go_sem] Oper.semAt_some
structure WT (w W : World) (q : Nat) (c1 c2 : Array Value) : Prop where
  below : Below w.heap.size w W
  ge : w.heap.size ≤ q
  b1 : W.heap[q]? = some (.cells c1 24 (0, 0))
  b2 : W.heap[q + 1]? = some (.cells c2 24 (0, 0))
theorem WT.step {w W W1 : World} {q : Nat} {c1 c2 : Array Value} (h : WT w W q c1 c2) (hB : Below W.heap.size W W1) : WT w W1 q c1 c2 :=
  ⟨bsp h.below hB, h.ge, kbl h.b1 hB, kbl h.b2 hB⟩
theorem WT.grown {w W W1 : World} {q : Nat} {c1 c2 : Array Value} {v : Value} (h : WT w W q c1 c2) (hB : Below w.heap.size w W1) (hG : W.grownBy W1 v.ownBlock) (hv : ∀ k, v.ownBlock = some k → q + 1 < k) : WT w W1 q c1 c2 :=
  ⟨hB, h.ge, (hG.block q (klt_ h.b1) (fun e => by have := hv q e.symm; omega)).trans h.b1, (hG.block (q + 1) (klt_ h.b2) (fun e => by have := hv _ e.symm; omega)).trans h.b2⟩
theorem WT.new (w : World) (c1 c2 : Array Value) : WT w ((w.alloc (.cells c1 24)).alloc (.cells c2 24)) w.heap.size c1 c2 := by
  refine ⟨bal (bal (Below.refl _ _) _) _, Nat.le_refl _, kal (blk_new w _) _, ?_⟩
  have h := blk_new (w.alloc (.cells c1 24)) (.cells c2 24)
  rw [show (w.alloc (.cells c1 24)).heap.size = w.heap.size + 1 by simp] at h
  exact h
theorem tyR : ∀ t, t ∈ 73 :: k73.E → t ≠ 24 := by
  intro t h
  rw [show (73 :: k73.E) = [73] from by first | rfl | decide | simp [k73]] at h
  simp only [List.mem_singleton] at h
  subst h
  decide
theorem wt_done {w W : World} {q : Nat} {x0 x1 x2 y0 y1 y2 : Value} {v : Value} {ys : List S73} (a b : Value) (hS : WT w W q #[x0, x1, x2] #[y0, y1, y2]) (hR : Kd.R k73 73 W w.heap.size (fun _ => True) v ys) :
    ((((W.setCell ⟨q, 2, none⟩ v).setCell ⟨q + 1, 0, none⟩ a).setCell ⟨q + 1, 1, none⟩ b).setCell ⟨q + 1, 2, none⟩ v).heap[q + 1]? = some (.cells #[a, b, v] 24 (0, 0)) ∧ Kd.R k73 73 ((((W.setCell ⟨q, 2, none⟩ v).setCell ⟨q + 1, 0, none⟩ a).setCell ⟨q + 1, 1, none⟩ b).setCell ⟨q + 1, 2, none⟩ v) w.heap.size (fun _ => True) v ys ∧ Below w.heap.size w ((((W.setCell ⟨q, 2, none⟩ v).setCell ⟨q + 1, 0, none⟩ a).setCell ⟨q + 1, 1, none⟩ b).setCell ⟨q + 1, 2, none⟩ v) := by
  have b0 := hS.b2
  have b1 := blk_far b0 (p := ⟨q, 2, none⟩) (show q + 1 ≠ q by omega) v
  have b2 := kpt b1 0 a (cs' := #[a, y1, y2]) rfl
  have b3 := kpt b2 1 b (cs' := #[a, b, y2]) rfl
  have b4 := kpt b3 2 v (cs' := #[a, b, v]) rfl
  have hq := hS.ge
  exact ⟨b4, Kd.R_set (Kd.R_set (Kd.R_set (Kd.R_set hR hS.b1 tyR 2 v) b1 tyR 0 a) b2 tyR 1 b) b3 tyR 2 v, bst (bst (bst (bst hS.below hq) (by omega)) (by omega)) (by omega)⟩
set_option maxHeartbeats 8000000 in
set_option maxRecDepth 100000 in
theorem stateWithout.calls (kind n : Int) (A : Option Addr) (c : Nat) (xs : List S73) (i : Nat) (w : World) (hr : Kd.C k73 w A xs.length xs) (hl : xs.length < 1000000) (hi : i < xs.length) :
    Calls Tryz.prog 64 #[.agg #[.int .i64 kind, .int .i64 n, .slice A xs.length c], .int .i64 (i : Int)] w fun e w' => ∃ v : Value, e = .returned (.agg #[.int .i64 kind, .int .i64 n, v]) ∧ Kd.R k73 73 w' w.heap.size (fun _ => True) v (xs.take i ++ xs.drop (i + 1)) ∧ Below w.heap.size w w' := by
  obtain ⟨W2, hW2⟩ : ∃ W2, W2 = (w.alloc (.cells #[.int .i64 kind, .int .i64 n, .slice A xs.length c] 24)).alloc (.cells #[.int .i64 0, .int .i64 0, .slice none 0 0] 24) := ⟨_, rfl⟩
  obtain ⟨q, hq⟩ : ∃ q, q = w.heap.size := ⟨_, rfl⟩
  have HS2 := Z0.mk (show WT w W2 q #[.int .i64 kind, .int .i64 n, .slice A xs.length c] #[.int .i64 0, .int .i64 0, .slice none 0 0] by
    rw [hW2, hq]
    exact WT.new _ _ _)
  have HR := Z0.mk hr
  have HL := Z0.mk hl
  have HI := Z0.mk hi
  have h1 : (i : Int) < (xs.length : Int) := by omega
  have h2 : (0 : Int) ≤ (i : Int) := by omega
  have h3 : wrap64 ((i : Int) + 1) = (i : Int) + 1 := by unfold wrap64; omega
  have h4 : IntKind.i64.wrap ((i : Int) + 1) = (i : Int) + 1 := by rw [IntKind.wrap_i64]; omega
  have H3 := Z0.mk h3
  clear hr hl h3
  go_enter Tryz.func64, Tryz.ntmps64
  go_upto_region 1 with fail
  rw [← hW2, ← hq]
  clear hW2 hq
  have a0 := (kcl HS2.out.b1 0).trans rfl
  have a2 := (kcl HS2.out.b1 2).trans rfl
  have h3 := H3.out
  go_wp2_with fail
  refine (cloneRow.calls A c xs _ (Kd.C_below HR.out HS2.out.below) HL.out).mono ?_
  rintro e w1 ⟨v, rfl, hR1, hB1⟩
  have HR1 := Z0.mk hR1
  have HB1 := Z0.mk hB1
  have HS1 := Z0.mk (HS2.out.step hB1)
  clear hR1 hB1 a0 a2
  go_wp2_with fail
  have hv0 : ∀ k, v.ownBlock = some k → q + 1 < k := fun k hk => by
    have h5 := (R_lt (Kd.R_own HR1.out).choose_spec k hk).2
    have h6 := klt_ HS2.out.b2
    omega
  refine (deleteRow.calls v i xs w _ HS1.out.below (Kd.R_lower HR1.out HS2.out.below.size) HI.out).mono ?_
  rintro e w2 ⟨v2, rfl, hR2, hB2, hG2⟩
  have HS := Z0.mk (HS1.out.grown hB2 hG2 hv0)
  obtain ⟨A2, c2, hv2⟩ := Kd.R_slice hR2
  subst hv2
  have HR2 := Z0.mk hR2
  have a0 := (kcl HS.out.b1 0).trans rfl
  have a1 := (kcl HS.out.b1 1).trans rfl
  have a2 := (kcl HS.out.b1 2).trans rfl
  have f2 := kfr HS.out.b1 2
  have z0 := (kcl HS.out.b2 0).trans rfl
  have z1 := (kcl HS.out.b2 1).trans rfl
  have z2 := (kcl HS.out.b2 2).trans rfl
  have g0 := kfr HS.out.b2 0
  have g1 := kfr HS.out.b2 1
  have g2 := kfr HS.out.b2 2
  clear hR2 hB2 hG2 hv0
  go_wp2
  have hl7 : (xs.take i ++ xs.drop (i + 1)).length = min i xs.length + (xs.length - (i + 1)) := by simp
  have hd := wt_done (.int .i64 kind) (.int .i64 n) HS.out HR2.out
  rw [hl7] at hd
  obtain ⟨hd1, hd2, hd3⟩ := hd
  refine bodyPost_ret (results_cell_row rfl _ _ (q + 1) 24 #[.int .i64 kind, .int .i64 n, .slice A2 (min i xs.length + (xs.length - (i + 1))) c2] (0, 0) _ rfl hd1 Tryz.underlying24 rfl (by kernel_rfl)) rfl ?_
  exact ⟨_, rfl, hd2, hd3⟩
def Out (w w' : World) (v0 : Value) (xs : List S73) (v : Value) (ys : List S73) : Prop := (v = v0 ∧ ys = xs) ∨ Kd.R k73 73 w' w.heap.size (fun _ => True) v ys
def Rd (w0 W : World) (v : Value) (xs : List S73) : Prop :=
  (∃ A c, v = .slice A xs.length c ∧ xs.length ≤ c ∧ Kd.C k73 w0 A xs.length xs) ∨ Kd.R k73 73 W w0.heap.size (fun _ => True) v xs
theorem Rd.here {w0 W : World} {v : Value} {xs : List S73} (h : Rd w0 W v xs) (hB : Below w0.heap.size w0 W) : ∃ A c, v = .slice A xs.length c ∧ xs.length ≤ c ∧ Kd.C k73 W A xs.length xs := by
  rcases h with ⟨A, c, hv, hc, hC⟩ | h
  · exact ⟨A, c, hv, hc, Kd.C_below hC hB⟩
  · exact Kd.R_reads h
theorem Rd.below {w0 W W' : World} {v : Value} {xs : List S73} (h : Rd w0 W v xs) (hB : Below W.heap.size W W') : Rd w0 W' v xs := h.imp id (fun h => Kd.R_below h hB)
theorem Rd.out {w0 w w' : World} {v0 v : Value} {xs ys : List S73} (h : Rd w0 w v0 xs) (ho : Out w w' v0 xs v ys) (h0 : w0.heap.size ≤ w.heap.size) (hB : Below w.heap.size w w') : Rd w0 w' v ys := by
  rcases ho with ⟨rfl, rfl⟩ | ho
  · exact h.below hB
  · exact .inr (Kd.R_lower ho h0)
theorem Rd.put {w0 W : World} {v : Value} {xs : List S73} {g t : Nat} {cs : Array Value} (h : Rd w0 W v xs) (hb : W.heap[g]? = some (.cells cs t (0, 0))) (ht : ∀ u, u ∈ 73 :: k73.E → u ≠ t) (i : Nat) (x : Value) : Rd w0 (W.setCell ⟨g, i, none⟩ x) v xs :=
  h.imp id (fun h => Kd.R_set h hb ht i x)
def posR (xs : List S73) (key : ByteArray) : Option Nat := xs.findIdx? (fun x => x.f0.toList == key.toList)
def withoutR (xs : List S73) (key : ByteArray) : List S73 :=
  match posR xs key with
  | some i => xs.take i ++ xs.drop (i + 1)
  | none => xs
def findR (xs : List S73) (key : ByteArray) : Int × Bool :=
  match posR xs key with
  | some i => ((i : Int), true)
  | none => (0, false)
theorem posR_lt {xs : List S73} {key : ByteArray} {i : Nat} (h : posR xs key = some i) : i < xs.length := by
  unfold posR at h
  rw [List.findIdx?_eq_some_iff_getElem] at h
  exact h.1
theorem find_l0 (xs : List S73) (key : ByteArray) (hl : xs.length < 1000000) : ∀ d i, i + d = xs.length →
    Ev (fun k => value_State_Find.l0 k key xs (xs.length : Int) (i : Int)) (match (xs.drop i).findIdx? (fun x => x.f0.toList == key.toList) with | some j => (((i + j : Nat) : Int), true) | none => (0, false)) := by
  intro d
  induction d with
  | zero =>
    intro i hi
    refine Ev.step (f := fun _ => some (0, false)) (fun k => ?_) ?_
    · rw [value_State_Find.l0, if_neg (by omega)]
    · rw [List.drop_of_length_le (by omega)]
      exact Ev.now _
  | succ d ih =>
    intro i hi
    have hlt : i < xs.length := by omega
    have hd : xs.drop i = xs[i] :: xs.drop (i + 1) := List.drop_eq_getElem_cons hlt
    have hg : rd_T73 xs (i : Int) = xs[i] := by simp [rd_T73, hlt]
    have hw : wrap64 ((i : Int) + 1) = ((i + 1 : Nat) : Int) := by unfold wrap64; omega
    rw [hd, List.findIdx?_cons]
    by_cases q : xs[i].f0.toList = key.toList
    · refine Ev.step (f := fun _ => some ((i : Int), true)) (fun k => ?_) ?_
      · rw [value_State_Find.l0, if_pos (by omega), if_pos (by omega), if_pos (by omega), hg, if_pos q]
      · rw [if_pos (by simpa using q)]
        exact Ev.now _
    · refine Ev.step (f := fun k => value_State_Find.l0 k key xs (xs.length : Int) ((i + 1 : Nat) : Int)) (fun k => ?_) ?_
      · rw [value_State_Find.l0, if_pos (by omega), if_pos (by omega), if_pos (by omega), hg, if_neg q, hw]
      · rw [if_neg (by simpa using q)]
        have h := ih (i + 1) (by omega)
        revert h
        cases (xs.drop (i + 1)).findIdx? (fun x => x.f0.toList == key.toList) with
        | none => exact id
        | some j =>
          intro h
          have e : i + 1 + j = i + (j + 1) := by omega
          simpa [e] using h
theorem find_f (kind n : Int) (xs : List S73) (key : ByteArray) (hl : xs.length < 1000000) : Ev (fun k => value_State_Find.f k kind n xs key) (findR xs key) := by
  have h := find_l0 xs key hl xs.length 0 (by omega)
  unfold findR posR
  rw [List.drop_zero] at h
  refine Ev.congr (fun k => ?_) (show Ev (fun k => value_State_Find.l0 k key xs (xs.length : Int) ((0 : Nat) : Int)) _ from ?_)
  · rfl
  · revert h
    cases xs.findIdx? (fun x => x.f0.toList == key.toList) with
    | none => exact id
    | some j => intro h; simpa using h
theorem st_set {w W : World} {q : Nat} {x0 x1 x2 y0 y1 y2 : Value} (a b v : Value) (hS : WT w W q #[x0, x1, x2] #[y0, y1, y2]) :
    ((((W.setCell ⟨q + 1, 0, none⟩ a).setCell ⟨q + 1, 1, none⟩ b).setCell ⟨q + 1, 2, none⟩ v)).heap[q + 1]? = some (.cells #[a, b, v] 24 (0, 0)) ∧ Below w.heap.size w ((((W.setCell ⟨q + 1, 0, none⟩ a).setCell ⟨q + 1, 1, none⟩ b).setCell ⟨q + 1, 2, none⟩ v)) := by
  have b2 := kpt hS.b2 0 a (cs' := #[a, y1, y2]) rfl
  have b3 := kpt b2 1 b (cs' := #[a, b, y2]) rfl
  have b4 := kpt b3 2 v (cs' := #[a, b, v]) rfl
  have hq := hS.ge
  exact ⟨b4, bst (bst (bst hS.below (by omega)) (by omega)) (by omega)⟩
theorem st_setR {w W : World} {q base : Nat} {x0 x1 x2 y0 y1 y2 : Value} (a b v : Value) {u : Value} {ys : List S73} (hS : WT w W q #[x0, x1, x2] #[y0, y1, y2]) (hR : Kd.R k73 73 W base (fun _ => True) u ys) :
    Kd.R k73 73 ((((W.setCell ⟨q + 1, 0, none⟩ a).setCell ⟨q + 1, 1, none⟩ b).setCell ⟨q + 1, 2, none⟩ v)) base (fun _ => True) u ys := by
  have b2 := kpt hS.b2 0 a (cs' := #[a, y1, y2]) rfl
  have b3 := kpt b2 1 b (cs' := #[a, b, y2]) rfl
  exact Kd.R_set (Kd.R_set (Kd.R_set hR hS.b2 tyR 0 a) b2 tyR 1 b) b3 tyR 2 v
set_option maxHeartbeats 8000000 in
set_option maxRecDepth 100000 in
theorem adtWithout.calls (kind n : Int) (A : Option Addr) (c : Nat) (xs : List S73) (key : ByteArray) (w : World) (hr : Kd.C k73 w A xs.length xs) (hc : xs.length ≤ c) (hl : xs.length < 1000000) :
    Calls Tryz.prog 38 #[.agg #[.int .i64 kind, .int .i64 n, .slice A xs.length c], .string key] w fun e w' => ∃ v : Value, e = .returned (.agg #[.int .i64 kind, .int .i64 n, v]) ∧ Out w w' (.slice A xs.length c) xs v (withoutR xs key) ∧ Below w.heap.size w w' := by
  obtain ⟨k, hf⟩ := Ev.rounds (find_f kind n xs key hl)
  obtain ⟨W2, hW2⟩ : ∃ W2, W2 = (w.alloc (.cells #[.int .i64 kind, .int .i64 n, .slice A xs.length c] 24)).alloc (.cells #[.int .i64 0, .int .i64 0, .slice none 0 0] 24) := ⟨_, rfl⟩
  obtain ⟨q, hq⟩ : ∃ q, q = w.heap.size := ⟨_, rfl⟩
  have HS2 := Z0.mk (show WT w W2 q #[.int .i64 kind, .int .i64 n, .slice A xs.length c] #[.int .i64 0, .int .i64 0, .slice none 0 0] by
    rw [hW2, hq]
    exact WT.new _ _ _)
  have HR := Z0.mk hr
  have HC := Z0.mk hc
  have HL := Z0.mk hl
  have HF := Z0.mk hf
  clear hr hl hc hf
  have a0 := (kcl HS2.out.b1 0).trans rfl
  have a1 := (kcl HS2.out.b1 1).trans rfl
  have a2 := (kcl HS2.out.b1 2).trans rfl
  go_enter Tryz.func38, Tryz.ntmps38
  go_upto_region 1 with fail
  rw [← hW2, ← hq]
  clear hW2 hq
  go_wp2_with fail
  obtain ⟨fr, hfr⟩ : ∃ fr, fr = findR xs key := ⟨_, rfl⟩
  have HF2 := HF.out
  rw [← hfr] at HF2
  obtain ⟨r1, r2⟩ := fr
  refine (value_State_Find.calls k kind n A c xs key r1 r2 _ (Kd.C_below HR.out HS2.out.below) HC.out HF2).mono ?_
  rintro e w1 ⟨rfl, hB1⟩
  have HS1 := Z0.mk (HS2.out.step hB1)
  clear hB1 HF2 HF a0 a1 a2
  have a0 := (kcl HS1.out.b1 0).trans rfl
  have a1 := (kcl HS1.out.b1 1).trans rfl
  have a2 := (kcl HS1.out.b1 2).trans rfl
  cases hp : posR xs key with
  | none =>
    unfold findR at hfr
    rw [hp] at hfr
    obtain ⟨rfl, rfl⟩ := Prod.mk.inj hfr
    have HW := Z0.mk (show withoutR xs key = xs by unfold withoutR; rw [hp])
    clear hfr hp
    have z0 := (kcl HS1.out.b2 0).trans rfl
    have z1 := (kcl HS1.out.b2 1).trans rfl
    have z2 := (kcl HS1.out.b2 2).trans rfl
    have g0 := kfr HS1.out.b2 0
    have g1 := kfr HS1.out.b2 1
    have g2 := kfr HS1.out.b2 2
    go_wp2
    obtain ⟨hd1, hd2⟩ := st_set (.int .i64 kind) (.int .i64 n) (.slice A xs.length c) HS1.out
    refine bodyPost_ret (results_cell_row rfl _ _ (q + 1) 24 #[.int .i64 kind, .int .i64 n, .slice A xs.length c] (0, 0) _ rfl hd1 Tryz.underlying24 rfl (by kernel_rfl)) rfl ?_
    exact ⟨_, rfl, .inl ⟨rfl, HW.out⟩, hd2⟩
  | some i =>
    unfold findR at hfr
    rw [hp] at hfr
    obtain ⟨rfl, rfl⟩ := Prod.mk.inj hfr
    have HW := Z0.mk (show withoutR xs key = xs.take i ++ xs.drop (i + 1) by unfold withoutR; rw [hp])
    have HI := Z0.mk (posR_lt hp)
    clear hfr hp
    go_wp2_with fail
    refine (stateWithout.calls kind n A c xs i _ (Kd.C_below HR.out HS1.out.below) HL.out HI.out).mono ?_
    rintro e w2 ⟨v, rfl, hR2, hB2⟩
    have HS := Z0.mk (HS1.out.step hB2)
    obtain ⟨A2, c2, hv2⟩ := Kd.R_slice hR2
    subst hv2
    obtain ⟨m, hm⟩ : ∃ m, m = (xs.take i ++ xs.drop (i + 1)).length := ⟨_, rfl⟩
    rw [← hm] at hR2 ⊢
    have HR2 := Z0.mk hR2
    have HM := Z0.mk hm
    clear hR2 hB2 hm a0 a1 a2
    have z0 := (kcl HS.out.b2 0).trans rfl
    have z1 := (kcl HS.out.b2 1).trans rfl
    have z2 := (kcl HS.out.b2 2).trans rfl
    have g0 := kfr HS.out.b2 0
    have g1 := kfr HS.out.b2 1
    have g2 := kfr HS.out.b2 2
    go_wp2
    obtain ⟨hd1, hd2⟩ := st_set (.int .i64 kind) (.int .i64 n) (.slice A2 m c2) HS.out
    refine bodyPost_ret (results_cell_row rfl _ _ (q + 1) 24 #[.int .i64 kind, .int .i64 n, .slice A2 m c2] (0, 0) _ rfl hd1 Tryz.underlying24 rfl (by kernel_rfl)) rfl ?_
    refine ⟨_, rfl, ?_, hd2⟩
    rw [HW.out]
    have hR2 := HR2.out
    exact .inr (Kd.R_lower (st_setR _ _ _ HS.out hR2) (by exact HS1.out.below.size))
end Go.Proofs.YtjiblcncadekcaaGreat.PA

namespace Go.Proofs.YtjiblcncadekcaaGreat
open Go.RowKit Go.Proofs.YtjiblcncadekcaaGreatW.PrintWords Go.Proofs.YtjiblcncadekcaaGreatW.PrintLast
section
variable {P : Program} {ops : Array Oper} {Q : Exit → Act → World → Prop} {md : Region.Mode} {S : World → Prop} {ds : List Nat}
theorem pu_ (i : Nat) (N : Option Tmp) {oi : Oper} {v : Value} {fuel : Nat} {l : Array Bool} {a : Act} {w : World} (l' : Array Bool) {a' : Act} (h : wpAnyLast P md ops Q S ds fuel l' a' w) (hi : ops[i]? = some oi := by rfl) (hN : oi.dst = N := by rfl) (hc : anyB md ops l l' i = true := by kernel_rfl)
    (hQ : ∀ c a w, Q (.panic c) (a.put oi.dst v) w → Q (.panic c) a w := by exact fun _ _ _ h => h) (hw : Region.wanted oi (yielded ops a.tmps) = true := by rfl)
    (hy : ∀ w, (execOp a.eval oi).run P w = .ok (.value v) w := by (intro w'; go_simp; with_reducible rfl)) (ha : a.put N v = a' := by (simp only [Act.put, List.setIfInBounds_toArray, List.set_cons_zero, List.set_cons_succ, i64_w, i32_w]; rfl)) :
    wpAnyLast P md ops Q S ds (fuel + 1) l a w := pure_ l' hi hN hc hQ (.inl ⟨hw, hy⟩) ha h
theorem pn_ (i : Nat) (N : Option Tmp) {oi : Oper} {fuel : Nat} {l : Array Bool} {a : Act} {w : World} (l' : Array Bool) {a' : Act} (h : wpAnyLast P md ops Q S ds fuel l' a' w) (hi : ops[i]? = some oi := by rfl) (hN : oi.dst = N := by rfl) (hc : anyB md ops l l' i = true := by kernel_rfl)
    (hQ : ∀ c a w, Q (.panic c) (a.put oi.dst undef) w → Q (.panic c) a w := by exact fun _ _ _ h => h) (hw : Region.wanted oi (yielded ops a.tmps) = false := by rfl)
    (ha : a.put N undef = a' := by (simp only [Act.put, List.setIfInBounds_toArray, List.set_cons_zero, List.set_cons_succ, i64_w, i32_w]; rfl)) :
    wpAnyLast P md ops Q S ds (fuel + 1) l a w := pure_ l' hi hN hc hQ (.inr ⟨hw, rfl⟩) ha h
theorem tk_ (i : Nat) (N : Option Tmp) {oi : Oper} {v : Value} {fuel : Nat} {l : Array Bool} {a : Act} {w : World} (l' : Array Bool) (hS : S w) {a' : Act} (h : wpAnyLast P md ops Q S ds fuel l' a' w) (hi : ops[i]? = some oi := by rfl) (hN : oi.dst = N := by rfl) (hc : takeB md ops ds l l' i = true := by kernel_rfl)
    (hQ : ∀ c a w, Q (.panic c) (a.put oi.dst v) w → Q (.panic c) a w := by exact fun _ _ _ h => h) (hw : Region.wanted oi (yielded ops a.tmps) = true := by rfl)
    (hy : ∀ w, S w → (execOp a.eval oi).run P w = .ok (.value v) w := by (intro w' hSw; (try dsimp only at hSw); go_split_ands; go_simp; with_reducible rfl)) (ha : a.put N v = a' := by (simp only [Act.put, List.setIfInBounds_toArray, List.set_cons_zero, List.set_cons_succ, i64_w, i32_w]; rfl)) :
    wpAnyLast P md ops Q S ds (fuel + 1) l a w := take_ l' hi hN hc hQ (.inl ⟨hw, hy⟩) hS ha h
theorem nm_ (N : Option Tmp) {a0 : Act} {v : Value} {fuel : Nat} {l : Array Bool} {a' : Act} {w : World} (h : wpAnyLast P md ops Q S ds fuel l a' w) (ha : a0.put N v = a' := by (simp only [Act.put, List.setIfInBounds_toArray, List.set_cons_zero, List.set_cons_succ, i64_w, i32_w]; rfl)) :
    wpAnyLast P md ops Q S ds fuel l (a0.put N v) w := norm_ ha h
end
end Go.Proofs.YtjiblcncadekcaaGreat

