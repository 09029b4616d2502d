import Derived.Test.YtjiblcncadekcaaGreatQOxOHd
import Derived.Test.YtjiblcncadekcaaGreatQOxPAx0
import Derived.Deep.AppendSrc
import Derived.Deep.Upon
namespace Go.Proofs.YtjiblcncadekcaaGreat.PA
set_option linter.unusedSimpArgs false
set_option linter.unusedVariables false
open Go.RowKit Go.Proofs.YtjiblcncadekcaaGreatW.PrintWords Go.Proofs.YtjiblcncadekcaaGreatW.PrintLast Go.Proofs.YtjiblcncadekcaaGreatW.PrintMore Go.Proofs.YtjiblcncadekcaaGreat Go.Proofs.YtjiblcncadekcaaGreat.PL
theorem take_next {l : List Stp} {j : Nat} (hj : j < l.length) : l.take (j + 1) = l.take j ++ [l.getD j zStp] := by
  rw [List.take_succ_eq_append_getElem hj, List.getD_eq_getElem?_getD, List.getElem?_eq_getElem hj]
  rfl
theorem drop_next {l : List Stp} {j : Nat} (hj : j < l.length) : l.drop j = l.getD j zStp :: l.drop (j + 1) := by
  rw [List.drop_eq_getElem_cons hj, show l.getD j zStp = l[j] from by simp [hj]]
theorem get_ent {l : List Stp} {j : Nat} (hj : j < l.length) : (l.map (entOf objX)).getD j zEnt = (⟨objX, (l.getD j zStp).op, (l.getD j zStp).a, (l.getD j zStp).b, (l.getD j zStp).n, (l.getD j zStp).code, (l.getD j zStp).text, (l.getD j zStp).rn⟩ : Ent) := by
  rw [List.getD_eq_getElem?_getD, List.getElem?_map, List.getElem?_eq_getElem hj, show l.getD j zStp = l[j] from by simp [hj]]
  rfl
theorem flat_len {ls : List (List Stp)} (h : ls.length = 4) {o : List Nat} (ho : o.Perm [0, 1, 2, 3]) : (flatO ls o).length = lens ls := by
  have := (ho.map (fun k => ls.getD k [])).flatten.length_eq
  unfold flatO lens
  rw [this, ids_flat ls h]
theorem on_way {kd n0 : Int} {xs0 : List Rw} {ls : List (List Stp)} {H : List Lck} (h : L1 kd n0 xs0 ls H 24) (h0 : OkM kd n0 xs0 0) {o p : List Nat} {k : Nat} (ho : (o ++ k :: p).Perm [0, 1, 2, 3]) {j : Nat} (hj : j ≤ (ls.getD k []).length) :
    OkM kd (runS kd (n0, xs0) (flatO ls o ++ (ls.getD k []).take j)).1 (runS kd (n0, xs0) (flatO ls o ++ (ls.getD k []).take j)).2 24 ∧
    (j < (ls.getD k []).length → Leg kd (runS kd (n0, xs0) (flatO ls o ++ (ls.getD k []).take j)).1 (runS kd (n0, xs0) (flatO ls o ++ (ls.getD k []).take j)).2 ((ls.getD k []).getD j zStp) ∧
      runS kd (n0, xs0) (flatO ls o ++ (ls.getD k []).take (j + 1)) = app kd (runS kd (n0, xs0) (flatO ls o ++ (ls.getD k []).take j)) ((ls.getD k []).getD j zStp)) := by
  have hL := (h.perm h0 ho).1
  have hlen := flat_len h.len ho
  have hs := h.sum
  have e1 : flatO ls (o ++ k :: p) = (flatO ls o ++ (ls.getD k []).take j) ++ ((ls.getD k []).drop j ++ flatO ls p) := by
    rw [flatO_append, show k :: p = [k] ++ p from rfl, flatO_append, flatO_one, List.append_assoc, ← List.append_assoc (List.take j _), List.take_append_drop]
  rw [e1] at hL hlen
  rw [List.length_append] at hlen
  rw [Legs_append] at hL
  generalize hX : flatO ls o ++ (ls.getD k []).take j = X at hL hlen ⊢
  have h3 : Ok kd (n0, xs0) (24 - X.length) := ⟨h0.k1, h0.k7, h0.num, fun q => ⟨(h0.acc q).1, by have := (h0.acc q).2; omega⟩, h0.lo, h0.hi, (by show xs0.length ≤ _; have := h0.len; omega), h0.one, h0.row, h0.ord⟩
  have h4 := h3.run (by omega) hL.1
  rw [show 24 - X.length + X.length = 24 by omega] at h4
  refine ⟨h4, fun hj2 => ⟨?_, ?_⟩⟩
  · have h5 := hL.2
    rw [drop_next hj2] at h5
    exact h5.1.1
  · rw [take_next hj2, ← List.append_assoc, hX, runS_append]
    rfl
structure LF (w W : World) (q7 q8 p b L : Nat) (kd : Int) (c7 : Array Value) (n0 : Int) (vb : Value) (xs0 : List Rw) (vs : List Value) (ls : List (List Stp)) (H : List Lck) (g : Nat) (nj : Int) (vn : Value) (xj : List Rw) : Prop where
  lo : LO w W q7 q8 p b L kd c7 n0 vb xs0 vs ls H
  ge : w.heap.size ≤ g
  ne : q8 ≠ g
  gb : W.heap[g]? = some (.cells #[.int .i64 kd, .int .i64 nj, vn] 24 (0, 0))
  gr : Kd.R k73 73 W w.heap.size (fun _ => True) vn xj
section
variable {w W W1 : World} {q7 q8 p b L : Nat} {kd : Int} {c7 : Array Value} {n0 : Int} {vb : Value} {xs0 : List Rw} {vs : List Value} {ls : List (List Stp)} {H : List Lck} {g : Nat} {nj : Int} {vn : Value} {xj : List Rw}
theorem LF.step (h : LF w W q7 q8 p b L kd c7 n0 vb xs0 vs ls H g nj vn xj) (hB : Below W.heap.size W W1) : LF w W1 q7 q8 p b L kd c7 n0 vb xs0 vs ls H g nj vn xj :=
  ⟨h.lo.step hB, h.ge, h.ne, kbl h.gb hB, Kd.R_below h.gr hB⟩
theorem keepM_state {W : World} {g : Nat} {cs : Array Value} (hb : W.heap[g]? = some (.cells cs 24 (0, 0))) (i : Nat) (v : Value) : KeepM W (W.setCell ⟨g, i, none⟩ v) [24] := by
  refine ⟨by simp, fun k o hk ho => ?_⟩
  have h1 : k ≠ g := fun e => by
    rw [e, hb] at hk
    have hk := Option.some.inj hk
    exact (ho _ _ _ hk.symm) (by decide)
  exact (Below.heap_setCell W ⟨g, i, none⟩ v k h1).trans hk
theorem LO.put (h : LO w W q7 q8 p b L kd c7 n0 vb xs0 vs ls H) {g : Nat} {cs : Array Value} (hb : W.heap[g]? = some (.cells cs 24 (0, 0))) (hne : q8 ≠ g) (hge : w.heap.size ≤ g) (i : Nat) (v : Value) : LO w (W.setCell ⟨g, i, none⟩ v) q7 q8 p b L kd c7 n0 vb xs0 vs ls H := by
  have hk := keepM_state hb i v
  exact ⟨bst h.below hge, h.g7, h.g8, h.gL, hk.blk h.b7 (by decide), blk_far h.b8 hne v, hk.blk h.bL (by decide), h.lv, Kd.R_set h.rb hb (tyRw _ (by decide)) i v, h.tb.keep hk (by decide) (by decide) (by decide), fun k hk4 => Kd.R_set (h.rl k hk4) hb (tyE _ (by decide)) i v, h.ap⟩
theorem LF.now (h : LF w W q7 q8 p b L kd c7 n0 vb xs0 vs ls H g nj vn xj) (hB : Below W.heap.size W W1) {n' : Int} {v' : Value} {ys : List Rw} (hO : Out W W1 vn xj v' ys) : LF w (((W1.setCell ⟨g, 0, none⟩ (.int .i64 kd)).setCell ⟨g, 1, none⟩ (.int .i64 n')).setCell ⟨g, 2, none⟩ v') q7 q8 p b L kd c7 n0 vb xs0 vs ls H g n' v' ys := by
  have h1 := h.step hB
  have hr : Kd.R k73 73 W1 w.heap.size (fun _ => True) v' ys := by
    rcases hO with ⟨rfl, rfl⟩ | hO
    · exact h1.gr
    · exact Kd.R_lower hO h.lo.below.size
  have e0 := kpt h1.gb 0 (.int .i64 kd) (cs' := #[.int .i64 kd, .int .i64 nj, vn]) rfl
  have e1 := kpt e0 1 (.int .i64 n') (cs' := #[.int .i64 kd, .int .i64 n', vn]) rfl
  have e2 := kpt e1 2 v' (cs' := #[.int .i64 kd, .int .i64 n', v']) rfl
  have tR := tyRw 24 (by decide)
  exact ⟨((h1.lo.put h1.gb h.ne h.ge 0 _).put e0 h.ne h.ge 1 _).put e1 h.ne h.ge 2 _, h.ge, h.ne, e2, Kd.R_set (Kd.R_set (Kd.R_set hr h1.gb tR 0 _) e0 tR 1 _) e1 tR 2 _⟩
theorem far3 {g g2 : Nat} {cs : Array Value} {t : Nat} (hb : W1.heap[g2]? = some (.cells cs t (0, 0))) (hne : g2 ≠ g) (a b c : Value) : (((W1.setCell ⟨g, 0, none⟩ a).setCell ⟨g, 1, none⟩ b).setCell ⟨g, 2, none⟩ c).heap[g2]? = some (.cells cs t (0, 0)) := blk_far (blk_far (blk_far hb hne _) hne _) hne _
theorem LF.far_row (h : LF w W q7 q8 p b L kd c7 n0 vb xs0 vs ls H g nj vn xj) {v2 : Value} {x2 : List Rw} {base : Nat} (hr : Kd.R k73 73 W base (fun _ => True) v2 x2) (hB : Below W.heap.size W W1) (a c : Value) (n' : Int) : Kd.R k73 73 (((W1.setCell ⟨g, 0, none⟩ (.int .i64 kd)).setCell ⟨g, 1, none⟩ (.int .i64 n')).setCell ⟨g, 2, none⟩ c) base (fun _ => True) v2 x2 := by
  have h1 := h.step hB
  have e0 := kpt h1.gb 0 (.int .i64 kd) (cs' := #[.int .i64 kd, .int .i64 nj, vn]) rfl
  have e1 := kpt e0 1 (.int .i64 n') (cs' := #[.int .i64 kd, .int .i64 n', vn]) rfl
  have tR := tyRw 24 (by decide)
  exact Kd.R_set (Kd.R_set (Kd.R_set (Kd.R_below hr hB) h1.gb tR 0 _) e0 tR 1 _) e1 tR 2 _
def RdI (w : World) (g : Nat) (xs : List Nat) : Prop := ∀ (j : Nat) (x : Nat), xs[j]? = some x → w.cell? ⟨g, j, none⟩ = some (.int .i64 (x : Int))
theorem RdI.below {w w' : World} {g : Nat} {xs : List Nat} (h : RdI w g xs) (hB : Below w.heap.size w w') : RdI w' g xs := fun j x hx => pcb_ hB (h j x hx)
theorem RdI.at_ {w : World} {g : Nat} {xs : List Nat} (h : RdI w g xs) {j : Nat} (hj : j < xs.length) : w.cell? ⟨g, j, none⟩ = some (.int .i64 ((xs.getD j 0 : Nat) : Int)) := h j _ (by rw [List.getD_eq_getElem?_getD, List.getElem?_eq_getElem hj]; rfl)
theorem RdI.far {w : World} {g q : Nat} {xs : List Nat} (h : RdI w g xs) (hne : g ≠ q) (i : Nat) (v : Value) : RdI (w.setCell ⟨q, i, none⟩ v) g xs := fun j x hx => (World.cell?_of_block (a := ⟨g, j, none⟩) (Below.heap_setCell w ⟨q, i, none⟩ v g hne)).trans (h j x hx)
structure LG (w W : World) (q7 q8 p b L : Nat) (kd : Int) (c7 : Array Value) (n0 : Int) (vb : Value) (xs0 : List Rw) (vs : List Value) (ls : List (List Stp)) (H : List Lck) (g : Nat) (nj : Int) (vn : Value) (xj : List Rw) (g2 : Nat) (nF : Int) (vF : Value) (xF : List Rw) (g3 : Nat) (l3 : List Nat) : Prop where
  lf : LF w W q7 q8 p b L kd c7 n0 vb xs0 vs ls H g nj vn xj
  ne : g2 ≠ g
  gb : W.heap[g2]? = some (.cells #[.int .i64 kd, .int .i64 nF, vF] 24 (0, 0))
  gr : Kd.R k73 73 W w.heap.size (fun _ => True) vF xF
  ne3 : g3 ≠ g
  rd : RdI W g3 l3
theorem LG.step {g2 : Nat} {nF : Int} {vF : Value} {xF : List Rw} {g3 : Nat} {l3 : List Nat} (h : LG w W q7 q8 p b L kd c7 n0 vb xs0 vs ls H g nj vn xj g2 nF vF xF g3 l3) (hB : Below W.heap.size W W1) : LG w W1 q7 q8 p b L kd c7 n0 vb xs0 vs ls H g nj vn xj g2 nF vF xF g3 l3 :=
  ⟨h.lf.step hB, h.ne, kbl h.gb hB, Kd.R_below h.gr hB, h.ne3, h.rd.below hB⟩
theorem LG.now {g2 : Nat} {nF : Int} {vF : Value} {xF : List Rw} {g3 : Nat} {l3 : List Nat} (h : LG w W q7 q8 p b L kd c7 n0 vb xs0 vs ls H g nj vn xj g2 nF vF xF g3 l3) (hB : Below W.heap.size W W1) {n' : Int} {v' : Value} {ys : List Rw} (hO : Out W W1 vn xj v' ys) : LG w (((W1.setCell ⟨g, 0, none⟩ (.int .i64 kd)).setCell ⟨g, 1, none⟩ (.int .i64 n')).setCell ⟨g, 2, none⟩ v') q7 q8 p b L kd c7 n0 vb xs0 vs ls H g n' v' ys g2 nF vF xF g3 l3 :=
  ⟨h.lf.now hB hO, h.ne, far3 (kbl h.gb hB) h.ne _ _ _, h.lf.far_row h.gr hB v' v' n', h.ne3, (((h.rd.below hB).far h.ne3 _ _).far h.ne3 _ _).far h.ne3 _ _⟩
theorem far_ent {v2 : Value} {x2 : List Ent} {base : Nat} (hr : Kd.R kEnt 60 W1 base (fun _ => True) v2 x2) (hb : W1.heap[g]? = some (.cells #[.int .i64 kd, .int .i64 nj, vn] 24 (0, 0))) (n' : Int) (c : Value) : Kd.R kEnt 60 (((W1.setCell ⟨g, 0, none⟩ (.int .i64 kd)).setCell ⟨g, 1, none⟩ (.int .i64 n')).setCell ⟨g, 2, none⟩ c) base (fun _ => True) v2 x2 := by
  have e0 := kpt hb 0 (.int .i64 kd) (cs' := #[.int .i64 kd, .int .i64 nj, vn]) rfl
  have e1 := kpt e0 1 (.int .i64 n') (cs' := #[.int .i64 kd, .int .i64 n', vn]) rfl
  have tR := tyE 24 (by decide)
  exact Kd.R_set (Kd.R_set (Kd.R_set hr hb tR 0 _) e0 tR 1 _) e1 tR 2 _
end
theorem range_perm {k : Nat} (hk : k < 4) : (List.range k ++ k :: (List.range (3 - k)).map (· + (k + 1))).Perm [0, 1, 2, 3] := by
  match k, hk with
  | 0, _ | 1, _ | 2, _ | 3, _ => decide
theorem end_ok {kd n0 : Int} {xs0 : List Rw} {ls : List (List Stp)} {H : List Lck} (h : L1 kd n0 xs0 ls H 24) (h0 : OkM kd n0 xs0 0) : OkM kd (runS kd (n0, xs0) (flatO ls [0, 1, 2, 3])).1 (runS kd (n0, xs0) (flatO ls [0, 1, 2, 3])).2 24 := by
  have h1 := (on_way (o := [0, 1, 2]) (k := 3) (p := []) h h0 (by decide) (Nat.le_refl _)).1
  rw [List.take_length, ← flatO_one ls 3, ← flatO_append] at h1
  exact h1
theorem range_next (ls : List (List Stp)) (k : Nat) : flatO ls (List.range (k + 1)) = flatO ls (List.range k) ++ ls.getD k [] := by rw [List.range_succ, flatO_append, flatO_one]
end Go.Proofs.YtjiblcncadekcaaGreat.PA

namespace Go.Proofs.YtjiblcncadekcaaGreat.PA
set_option linter.unusedSimpArgs false
set_option linter.unusedVariables false
open Go.RowKit Go.Proofs.YtjiblcncadekcaaGreatW.PrintWords Go.Proofs.YtjiblcncadekcaaGreatW.PrintLast Go.Proofs.YtjiblcncadekcaaGreatW.PrintMore Go.Proofs.YtjiblcncadekcaaGreat Go.Proofs.YtjiblcncadekcaaGreat.PL
theorem rdI_four {w : World} {g : Nat} (h : w.heap[g]? = some (.cells #[.int .i64 0, .int .i64 1, .int .i64 2, .int .i64 3] 3 (0, 0))) : RdI w g [0, 1, 2, 3] := fun j x hx => by
  rw [kcl h]
  match j, hx with
  | 0, e | 1, e | 2, e | 3, e => cases e; rfl
  | j + 4, e => simp at e
theorem RdI.erase_last {w : World} {g : Nat} {xs : List Nat} (h : RdI w g xs) {i : Nat} (hi : i + 1 = xs.length) : RdI w g (xs.eraseIdx i) := fun j x hx => by
  rw [List.eraseIdx_eq_take_drop_succ, hi, List.drop_length, List.append_nil, List.getElem?_take] at hx
  split at hx
  · exact h j x hx
  · cases hx
theorem erase_perm {xs : List Nat} {i : Nat} (hi : i < xs.length) : (xs.getD i 0 :: xs.eraseIdx i).Perm xs := by
  have e : xs = xs.take i ++ xs.getD i 0 :: xs.drop (i + 1) := by
    rw [show xs.getD i 0 = xs[i] by simp [hi], ← List.drop_eq_getElem_cons hi, List.take_append_drop]
  rw [List.eraseIdx_eq_take_drop_succ]
  generalize xs.getD i 0 = k at e ⊢
  generalize xs.take i = a at e ⊢
  generalize xs.drop (i + 1) = b at e ⊢
  rw [e]
  exact List.perm_middle.symm
theorem erase_mid {xs : List Nat} {i : Nat} : xs.eraseIdx i = xs.take i ++ xs.drop (i + 1) := List.eraseIdx_eq_take_drop_succ xs i
theorem src_none (a : Option Addr) (c : Nat) (w : World) : Src Tryz.prog 1 26 (.slice a 0 c) 0 [] w := by
  refine ⟨.inl ⟨_, Tryz.underlying26⟩, fun w' => rfl, ?_, ?_, rfl, fun u hu => by cases hu⟩
  all_goals
    cases a with
    | none => rfl
    | some b => simp [Builtin.firstCells, loadCells, loadCellsFrom]
theorem left_none (w : World) (g i c : Nat) (a : Option Addr) : (Builtin.append_ #[26, 26] 26 #[.slice (some ⟨g, 0, none⟩) i i, .slice a 0 c]).run Tryz.prog w = .ok (.slice (some ⟨g, 0, none⟩) i i) w := by
  obtain ⟨i0, hi, hzz⟩ := Option.map_eq_some_iff.1 infoInt
  simp only [Prod.mk.injEq] at hzz
  obtain ⟨hz0, hz1, hz2⟩ := hzz
  exact run_append_nothing w 26 26 26 3 i0 Tryz.underlying26 hi _ i i (Nat.le_refl _) _ (by rw [hz1]; exact src_none a c w)
theorem left_noneM (w : World) (g i m c : Nat) (a : Option Addr) (hm : m = 0) : (Builtin.append_ #[26, 26] 26 #[.slice (some ⟨g, 0, none⟩) i i, .slice a m c]).run Tryz.prog w = .ok (.slice (some ⟨g, 0, none⟩) i i) w := by
  subst hm
  exact left_none w g i c a
theorem left_grow {w : World} {g : Nat} {xs : List Nat} {i c : Nat} (h : RdI w g xs) (hi : i + 1 < xs.length) (hl : xs.length ≤ 4) : ∃ c3 w', (Builtin.append_ #[26, 26] 26 #[.slice (some ⟨g, 0, none⟩) i i, .slice (some ⟨g, i + 1, none⟩) (xs.length - (i + 1)) c]).run Tryz.prog w = .ok (.slice (some ⟨w.heap.size, 0, none⟩) (xs.length - 1) c3) w' ∧ Below w.heap.size w w' ∧ RdI w' w.heap.size (xs.eraseIdx i) ∧ xs.length - 1 ≤ c3 := by
  obtain ⟨i0, hi0, hzz⟩ := Option.map_eq_some_iff.1 infoInt
  simp only [Prod.mk.injEq] at hzz
  obtain ⟨hz0, hz1, hz2⟩ := hzz
  have h1 := run_append_grow (P := Tryz.prog) (w := w) 26 26 3 i0 (.int .i64 0) Tryz.underlying26 hi0 hz0 ⟨g, 0, none⟩ i i ((xs.take i).map (fun (x : Nat) => Value.int .i64 (x : Int))) (by rw [hz1, List.length_map, List.length_take]; omega) (fun j v hv => by
      rw [List.getElem?_map, List.getElem?_take] at hv
      rw [add_plain]
      split at hv
      · obtain ⟨x, hx, rfl⟩ := Option.map_eq_some_iff.1 hv
        exact h j x hx
      · cases hv) ⟨g, i + 1, none⟩ (xs.length - (i + 1)) c ((xs.drop (i + 1)).map (fun (x : Nat) => Value.int .i64 (x : Int))) (by rw [hz1, List.length_map, List.length_drop]; omega) (fun j v hv => by
      rw [List.getElem?_map, List.getElem?_drop] at hv
      obtain ⟨x, hx, rfl⟩ := Option.map_eq_some_iff.1 hv
      have h2 := h _ x hx
      rw [show (⟨g, i + 1, none⟩ : Addr).add j = ⟨g, i + 1 + j, none⟩ by unfold Addr.add; split <;> simp_all]
      exact h2) (by omega) (by omega) (by
      exact growslice_fits (by omega) (by rw [hz2]; omega))
  rw [show i + (xs.length - (i + 1)) = xs.length - 1 by omega] at h1
  refine ⟨_, _, h1, bal (below_drew (Below.refl _ _)) _, fun j x hx => ?_, grownCap_ge _ _ _ _⟩
  have hb := blk_new w.drew (.cells (((xs.take i).map (fun (x : Nat) => Value.int .i64 (x : Int))).toArray ++ ((xs.drop (i + 1)).map (fun (x : Nat) => Value.int .i64 (x : Int))).toArray ++ Builtin.zeroCells (Value.int .i64 0).cells (grownCap w (xs.length - 1) i 3 - (xs.length - 1))) 3)
  refine (kcl hb j).trans ?_
  rw [erase_mid] at hx
  have hj : j < (xs.take i ++ xs.drop (i + 1)).length := by
    rcases Nat.lt_or_ge j (xs.take i ++ xs.drop (i + 1)).length with h' | h'
    · exact h'
    · rw [List.getElem?_eq_none h'] at hx; cases hx
  rw [Array.getElem?_append_left (by simp only [Array.size_append, List.size_toArray, List.length_map]; rw [List.length_append] at hj; exact hj)]
  rw [List.append_toArray, ← List.map_append, List.getElem?_toArray, List.getElem?_map, hx]
  rfl
end Go.Proofs.YtjiblcncadekcaaGreat.PA

