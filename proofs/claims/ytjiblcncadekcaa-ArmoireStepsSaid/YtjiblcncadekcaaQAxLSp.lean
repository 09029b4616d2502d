import Derived.Test.YtjiblcncadekcaaQAxFAm
import Derived.Deep.RegionLaw
import Derived.Test.YtjiblcncadekcaaQAxMFold2
import Derived.Test.YtjiblcncadekcaaQAxPAx10
import Derived.Test.YtjiblcncadekcaaQAxPAx11
import Derived.Test.YtjiblcncadekcaaQAxPAx12
import Derived.Test.YtjiblcncadekcaaQAxPAx13
import Derived.Test.YtjiblcncadekcaaQAxPAx14
import Derived.Test.YtjiblcncadekcaaQAxPAx4
import Derived.Test.YtjiblcncadekcaaQAxPAx8
namespace Go.Proofs.Ytjiblcncadekcaa.PA
set_option linter.unusedSimpArgs false
set_option linter.unusedVariables false
open Go.RowKit Go.Proofs.YtjiblcncadekcaaW.PrintWords Go.Proofs.YtjiblcncadekcaaW.PrintLast Go.Proofs.YtjiblcncadekcaaW.PrintMore Go.Proofs.Ytjiblcncadekcaa Go.Proofs.Ytjiblcncadekcaa.PL
attribute [local go_sem] Oper.semAt_some
set_option maxRecDepth 100000 in
theorem live_f : armoiretop_live.f 400 = some true := by decide +kernel
theorem own_f (kind n : Int) (ys : List Rr) (hl : ys.length < 1000000) : Ev (fun k => armoirelaw11_Own.f k kind n ys) (kind, n, ys.map to68) := by
  have hloop : ∀ (d i : Nat), i + d = ys.length → Ev (fun k => armoirelaw11_Own.l0 k ys (ys.length : Int) (i : Int) kind n ((ys.take i).map to68)) (kind, n, ys.map to68) := by
    intro d
    induction d with
    | zero =>
      intro i hi
      refine Ev.step (f := fun _ => some _) (fun k => ?_) (Ev.now _)
      rw [armoirelaw11_Own.l0, if_neg (by omega), List.take_of_length_le (by omega)]
    | succ d ih =>
      intro i hi
      have hlt : i < ys.length := by omega
      have hw : wrap64 ((i : Int) + 1) = ((i + 1 : Nat) : Int) := by unfold wrap64; omega
      have hx : rd_T67 ys (i : Int) = ys[i] := by simp [rd_T67, hlt]
      have h := ih (i + 1) (by omega)
      rw [List.take_succ_eq_append_getElem hlt, List.map_append] at h
      refine Ev.step (fun k => ?_) h
      rw [armoirelaw11_Own.l0, if_pos (by omega), if_pos (by omega), if_pos (by omega), if_pos (by rw [List.length_map, List.length_take]; omega), hx, hw]
      rfl
  exact hloop ys.length 0 (by omega)
theorem AllLegal_append (kind : Int) : ∀ (l : List Stp) (n : Int) (xs : List Rw) (x : Stp), AllLegal kind n xs l → (runR kind n xs l).2.length < 1000000 → (∃ k, adt_Legal.f k kind (runR kind n xs l).1 (runR kind n xs l).2 x.op x.a x.b x.n x.code x.text x.rn = some true) → AllLegal kind n xs (l ++ [x])
  | [], n, xs, x, _, h1, h2 => ⟨h1, h2, trivial⟩
  | y :: l, n, xs, x, h, h1, h2 => ⟨h.1, h.2.1, AllLegal_append kind l _ _ x h.2.2 h1 h2⟩
def objX : ByteArray := ⟨#[120]⟩
structure LS (w W : World) (q5 q6 q7 q9 : Nat) (kd : Int) (c5 : Array Value) (n0 : Int) (vb : Value) (xs0 : List Rw) (nj : Int) (vn : Value) (xj : List Rw) (vl vs : Value) (sl ss : List Stp) : Prop where
  below : Below w.heap.size w W
  g5 : w.heap.size ≤ q5
  l6 : q5 < q6
  l7 : q6 < q7
  l9 : q7 < q9
  b5 : W.heap[q5]? = some (.cells c5 29 (0, 0))
  b6 : W.heap[q6]? = some (.cells #[.int .i64 kd, .int .i64 n0, vb] 24 (0, 0))
  b7 : W.heap[q7]? = some (.cells #[vl] 34 (0, 0))
  b9 : W.heap[q9]? = some (.cells #[.int .i64 kd, .int .i64 nj, vn] 24 (0, 0))
  rb : Kd.R k68 68 W w.heap.size (fun _ => True) vb xs0
  rn : Kd.R k68 68 W w.heap.size (fun _ => True) vn xj
  rl : Kd.R kEnt 79 W w.heap.size (fun _ => True) vl (sl.map (entOf objX))
  rs : Kd.R kStp 49 W w.heap.size (fun _ => True) vs ss
theorem tyE (t : Nat) (ht : 79 ≠ t) : ∀ u, u ∈ 79 :: kEnt.E → u ≠ t := by
  intro u h
  rw [show (79 :: kEnt.E) = [79] from by first | rfl | decide | simp [kEnt]] at h
  simp only [List.mem_singleton] at h
  subst h
  exact ht
theorem tyS (t : Nat) (ht : 49 ≠ t) : ∀ u, u ∈ 49 :: kStp.E → u ≠ t := by
  intro u h
  rw [show (49 :: kStp.E) = [49] from by first | rfl | decide | simp [kStp]] at h
  simp only [List.mem_singleton] at h
  subst h
  exact ht
theorem tyRw (t : Nat) (ht : 68 ≠ t) : ∀ u, u ∈ 68 :: k68.E → u ≠ t := by
  intro u h
  rw [show (68 :: k68.E) = [68] from by first | rfl | decide | simp [k68]] at h
  simp only [List.mem_singleton] at h
  subst h
  exact ht
section
variable {w W W1 : World} {q5 q6 q7 q9 : Nat} {kd : Int} {c5 : Array Value} {n0 : Int} {vb : Value} {xs0 : List Rw} {nj : Int} {vn : Value} {xj : List Rw} {vl vs : Value} {sl ss : List Stp}
theorem LS.step (h : LS w W q5 q6 q7 q9 kd c5 n0 vb xs0 nj vn xj vl vs sl ss) (hB : Below W.heap.size W W1) : LS w W1 q5 q6 q7 q9 kd c5 n0 vb xs0 nj vn xj vl vs sl ss :=
  ⟨bsp h.below hB, h.g5, h.l6, h.l7, h.l9, kbl h.b5 hB, kbl h.b6 hB, kbl h.b7 hB, kbl h.b9 hB, Kd.R_below h.rb hB, Kd.R_below h.rn hB, Kd.R_below h.rl hB, Kd.R_below h.rs hB⟩
theorem LS.put (h : LS w W q5 q6 q7 q9 kd c5 n0 vb xs0 nj vn xj vl vs sl ss) {g t : Nat} {cs : Array Value} (hb : W.heap[g]? = some (.cells cs t (0, 0))) (hg : q9 < g) (h1 : 68 ≠ t) (h2 : 79 ≠ t) (h3 : 49 ≠ t) (i : Nat) (u : Value) : LS w (W.setCell ⟨g, i, none⟩ u) q5 q6 q7 q9 kd c5 n0 vb xs0 nj vn xj vl vs sl ss := by
  have a5 := h.g5
  have a6 := h.l6
  have a7 := h.l7
  have a9 := h.l9
  exact ⟨bst h.below (by omega), a5, a6, a7, a9, blk_far h.b5 (show q5 ≠ g by omega) u, blk_far h.b6 (show q6 ≠ g by omega) u, blk_far h.b7 (show q7 ≠ g by omega) u, blk_far h.b9 (show q9 ≠ g by omega) u, Kd.R_set h.rb hb (tyRw t h1) i u, Kd.R_set h.rn hb (tyRw t h1) i u, Kd.R_set h.rl hb (tyE t h2) i u, Kd.R_set h.rs hb (tyS t h3) i u⟩
theorem LS.now (h : LS w W q5 q6 q7 q9 kd c5 n0 vb xs0 nj vn xj vl vs sl ss) (hB : Below W.heap.size W W1) {n' : Int} {v' : Value} {ys : List Rw} (hO : Out W W1 vn xj v' ys) : LS w (((W1.setCell ⟨q9, 0, none⟩ (.int .i64 kd)).setCell ⟨q9, 1, none⟩ (.int .i64 n')).setCell ⟨q9, 2, none⟩ v') q5 q6 q7 q9 kd c5 n0 vb xs0 n' v' ys vl vs sl ss := by
  have h1 := h.step hB
  have a5 := h.g5
  have a6 := h.l6
  have a7 := h.l7
  have a9 := h.l9
  have hr : Kd.R k68 68 W1 w.heap.size (fun _ => True) v' ys := by
    rcases hO with ⟨rfl, rfl⟩ | hO
    · exact h1.rn
    · exact Kd.R_lower hO h.below.size
  have e0 := kpt h1.b9 0 (.int .i64 kd) (cs' := #[.int .i64 kd, .int .i64 nj, vn]) rfl
  have e1 := kpt e0 1 (.int .i64 n') (cs' := #[.int .i64 kd, .int .i64 n', vn]) rfl
  have e2 := kpt e1 2 v' (cs' := #[.int .i64 kd, .int .i64 n', v']) rfl
  have far : ∀ {k t : Nat} {cs : Array Value}, W1.heap[k]? = some (.cells cs t (0, 0)) → k ≠ q9 → (((W1.setCell ⟨q9, 0, none⟩ (.int .i64 kd)).setCell ⟨q9, 1, none⟩ (.int .i64 n')).setCell ⟨q9, 2, none⟩ v').heap[k]? = some (.cells cs t (0, 0)) := fun hb hne => blk_far (blk_far (blk_far hb hne _) hne _) hne _
  have tR := tyRw 24 (by decide)
  have tE := tyE 24 (by decide)
  have tS := tyS 24 (by decide)
  exact ⟨bst (bst (bst h1.below (by omega)) (by omega)) (by omega), a5, a6, a7, a9, far h1.b5 (by omega), far h1.b6 (by omega), far h1.b7 (by omega), e2,
    Kd.R_set (Kd.R_set (Kd.R_set h1.rb h1.b9 tR 0 _) e0 tR 1 _) e1 tR 2 _, Kd.R_set (Kd.R_set (Kd.R_set hr h1.b9 tR 0 _) e0 tR 1 _) e1 tR 2 _,
    Kd.R_set (Kd.R_set (Kd.R_set h1.rl h1.b9 tE 0 _) e0 tE 1 _) e1 tE 2 _, Kd.R_set (Kd.R_set (Kd.R_set h1.rs h1.b9 tS 0 _) e0 tS 1 _) e1 tS 2 _⟩
theorem LS.appS (h : LS w W q5 q6 q7 q9 kd c5 n0 vb xs0 nj vn xj vl vs sl ss) (hB : Below w.heap.size w W1) (hG : W.grownBy W1 vs.ownBlock) {vs' : Value} {ss' : List Stp} (hR : Kd.R kStp 49 W1 w.heap.size (fun _ => True) vs' ss') : LS w W1 q5 q6 q7 q9 kd c5 n0 vb xs0 nj vn xj vl vs' sl ss' :=
  ⟨hB, h.g5, h.l6, h.l7, h.l9, blk_grown h.b5 hG (Kd.R_ne h.rs h.b5 (by decide)), blk_grown h.b6 hG (Kd.R_ne h.rs h.b6 (by decide)), blk_grown h.b7 hG (Kd.R_ne h.rs h.b7 (by decide)), blk_grown h.b9 hG (Kd.R_ne h.rs h.b9 (by decide)),
    Kd.R_over h.rb h.rs (tyRw _ (by decide)) hG, Kd.R_over h.rn h.rs (tyRw _ (by decide)) hG, Kd.R_over h.rl h.rs (tyE _ (by decide)) hG, hR⟩
theorem LS.appL (h : LS w W q5 q6 q7 q9 kd c5 n0 vb xs0 nj vn xj vl vs sl ss) (hb : W1.heap[q7]? = some (.cells #[vl] 34 (0, 0))) (hB : Below w.heap.size w W1) (hG : W.grownBy W1 vl.ownBlock) {vl' : Value} {x : Stp} (hR : Kd.R kEnt 79 W1 w.heap.size (fun _ => True) vl' (sl.map (entOf objX) ++ [entOf objX x])) : LS w (W1.setCell ⟨q7, 0, none⟩ vl') q5 q6 q7 q9 kd c5 n0 vb xs0 nj vn xj vl' vs (sl ++ [x]) ss := by
  have a5 := h.g5
  have a6 := h.l6
  have a7 := h.l7
  have a9 := h.l9
  have e5 := blk_grown h.b5 hG (Kd.R_ne h.rl h.b5 (by decide))
  have e6 := blk_grown h.b6 hG (Kd.R_ne h.rl h.b6 (by decide))
  have e9 := blk_grown h.b9 hG (Kd.R_ne h.rl h.b9 (by decide))
  have r1 := Kd.R_over h.rb h.rl (tyRw _ (by decide)) hG
  have r2 := Kd.R_over h.rn h.rl (tyRw _ (by decide)) hG
  have r3 := Kd.R_over h.rs h.rl (tyS _ (by decide)) hG
  rw [show sl.map (entOf objX) ++ [entOf objX x] = (sl ++ [x]).map (entOf objX) by simp] at hR
  exact ⟨bst hB (by omega), a5, a6, a7, a9, blk_far e5 (show q5 ≠ q7 by omega) _, blk_far e6 (show q6 ≠ q7 by omega) _, kpt hb 0 vl' rfl, blk_far e9 (show q9 ≠ q7 by omega) _,
    Kd.R_set r1 hb (tyRw _ (by decide)) 0 _, Kd.R_set r2 hb (tyRw _ (by decide)) 0 _, Kd.R_set hR hb (tyE _ (by decide)) 0 _, Kd.R_set r3 hb (tyS _ (by decide)) 0 _⟩
end
structure LM (kd n0 : Int) (xs0 : List Rw) (nj : Int) (xj : List Rw) (ss : List Stp) (i : Nat) : Prop where
  run : runR kd n0 xs0 ss = (nj, xj)
  legal : AllLegal kd n0 xs0 ss
  ok : OkS kd nj xj
  mon : kd = 3 → nj ≤ 1125899906842624
  len : ss.length ≤ i
theorem LM.skip {kd n0 : Int} {xs0 : List Rw} {nj : Int} {xj : List Rw} {ss : List Stp} {i : Nat} (h : LM kd n0 xs0 nj xj ss i) : LM kd n0 xs0 nj xj ss (i + 1) := ⟨h.run, h.legal, h.ok, h.mon, Nat.le_succ_of_le h.len⟩
theorem LM.next {kd n0 : Int} {xs0 : List Rw} {nj : Int} {xj : List Rw} {ss : List Stp} {i : Nat} (h : LM kd n0 xs0 nj xj ss i) {op : Int} {a b : ByteArray} {cn : Int} (hc : CallOk op a b cn) {r : Rs} {ls : List Rs} (ha : Ev (fun k => adt_Answers.f k kd nj xj op a b cn) (r :: ls)) (hf : FirstOk kd nj xj op a cn r)
    (hr1 : 0 < growthR op cn r.f0 → (xj.length : Int) + growthR op cn r.f0 ≤ 8) (hr2 : op = 5 → wrap64 (nj + cn) ≤ 1125899906842624) :
    LM kd n0 xs0 (applyR kd nj xj op a b cn r.f0 r.f1).1 (applyR kd nj xj op a b cn r.f0 r.f1).2 (ss ++ [⟨op, a, b, cn, r.f0, r.f1, r.f2⟩]) (i + 1) := by
  obtain ⟨code, text, rn⟩ := r
  have ho := apply_ok (rn := rn) (text := text) (b := b) h.ok h.mon hc hf hr1 hr2
  have hl := h.ok.len
  have hrun := h.run
  refine ⟨?_, AllLegal_append kd ss n0 xs0 _ h.legal (by rw [hrun]; show xj.length < _; omega) ?_, ho.1, ho.2, by rw [List.length_append]; have := h.len; simp; omega⟩
  · rw [runR_append, hrun]
  · rw [hrun]
    exact Ev.rounds (legal_f kd nj xj op a b cn ⟨code, text, rn⟩ ls ha)
theorem set3_new {W w3 : World} {g t : Nat} {y0 y1 y2 : Value} (hg : g = W.heap.size) (hb : Below W.heap.size W w3) (hx : w3.heap[g]? = some (.cells #[y0, y1, y2] t (0, 0))) (a b c : Value) : Below W.heap.size W (((w3.setCell ⟨g, 0, none⟩ a).setCell ⟨g, 1, none⟩ b).setCell ⟨g, 2, none⟩ c) ∧ (((w3.setCell ⟨g, 0, none⟩ a).setCell ⟨g, 1, none⟩ b).setCell ⟨g, 2, none⟩ c).heap[g]? = some (.cells #[a, b, c] t (0, 0)) := by
  have hge : W.heap.size ≤ g := by omega
  have e0 := kpt hx 0 a (cs' := #[a, y1, y2]) rfl
  have e1 := kpt e0 1 b (cs' := #[a, b, y2]) rfl
  have e2 := kpt e1 2 c (cs' := #[a, b, c]) rfl
  exact ⟨(bst (bst (bst hb hge) hge) hge), e2⟩
theorem set4_new {W w3 : World} {g t : Nat} {y0 y1 y2 y3 : Value} (hg : g = W.heap.size) (hb : Below W.heap.size W w3) (hx : w3.heap[g]? = some (.cells #[y0, y1, y2, y3] t (0, 0))) (a b c d : Value) : Below W.heap.size W ((((w3.setCell ⟨g, 0, none⟩ a).setCell ⟨g, 1, none⟩ b).setCell ⟨g, 2, none⟩ c).setCell ⟨g, 3, none⟩ d) ∧ ((((w3.setCell ⟨g, 0, none⟩ a).setCell ⟨g, 1, none⟩ b).setCell ⟨g, 2, none⟩ c).setCell ⟨g, 3, none⟩ d).heap[g]? = some (.cells #[a, b, c, d] t (0, 0)) := by
  have hge : W.heap.size ≤ g := by omega
  have e0 := kpt hx 0 a (cs' := #[a, y1, y2, y3]) rfl
  have e1 := kpt e0 1 b (cs' := #[a, b, y2, y3]) rfl
  have e2 := kpt e1 2 c (cs' := #[a, b, c, y3]) rfl
  have e3 := kpt e2 3 d (cs' := #[a, b, c, d]) rfl
  exact ⟨(bst (bst (bst (bst hb hge) hge) hge) hge), e3⟩
set_option maxHeartbeats 16000000 in
set_option maxRecDepth 100000 in
theorem ArmoireSteps.walk (w : World) (kind n : Int) (A1 : Option Addr) (c1 : Nat) (rs : List Rw) (hr1 : Kd.C k68 w A1 rs.length rs) (hc1 : rs.length ≤ c1) (hlo : -9223372036854775808 ≤ n) (hhi : n < 9223372036854775808) (A2 : Option Addr) (c2 : Nat) (cs : List S41) (hr2 : Kd.C k41 w A2 cs.length cs) (hc2 : cs.length ≤ c2) :
    Calls Try.prog 3 #[.agg #[.int .i64 kind, .int .i64 n, .slice A1 rs.length c1], .slice A2 cs.length c2] w fun e w' => e = .returned (.bool true) ∧ Below w.heap.size w w' := by
  have hm9 : cs.length ≤ 9223372036854775807 := Kd.C_max hr2
  obtain ⟨kd, m, ys, ht, hok⟩ := tidy_f kind n rs hlo hhi
  obtain ⟨kT, hT⟩ := Ev.rounds ht
  have hyl : ys.length ≤ 8 := by have := hok.len; rwa [List.length_map] at this
  obtain ⟨n0, hn0⟩ : ∃ n0, n0 = maskN kd m 1125899906842623 := ⟨_, rfl⟩
  have hok0 : OkS kd n0 (ys.map to68) ∧ (kd = 3 → n0 ≤ 1125899906842624) := by
    by_cases q3 : kd = 3
    · have e : n0 = Go.bits .and .i64 m 1125899906842623 := by rw [hn0]; unfold maskN; rw [if_pos q3]
      have hb := i64_mask 50 (by decide) m
      have hb2 : 0 ≤ n0 ∧ n0 < 2 ^ 50 := by rw [e]; exact hb
      exact ⟨⟨hok.k1, hok.k7, hok.num, fun q => absurd (.inr q3) q, fun _ => hb2.1, by omega, by omega, hok.len, hok.one, hok.row, hok.ord⟩, fun _ => by omega⟩
    · have e : n0 = m := by rw [hn0]; unfold maskN; rw [if_neg q3]
      rw [e]
      exact ⟨hok, fun h => absurd h q3⟩
  obtain ⟨kO, hO⟩ := Ev.rounds (own_f kd n0 ys (by omega))
  obtain ⟨xs0, hxs0⟩ : ∃ xs0, xs0 = ys.map to68 := ⟨_, rfl⟩
  rw [← hxs0] at hO hok0
  have HT := Aside0.mk hT
  have HO := Aside0.mk hO
  have HN0 := Aside0.mk hn0
  have HR1 := Aside0.mk hr1
  have HC1 := Aside0.mk hc1
  have HR2 := Aside0.mk hr2
  have HOK := Aside0.mk hok0
  clear ht hT hok hyl hn0 hO hxs0 hr1 hc1 hr2 hc2 hok0 hlo hhi
  go_enter Try.func3, Try.ntmps3
  obtain ⟨Wa, hWa⟩ : ∃ Wa, Wa = w.alloc (.cells #[.int .i64 kind, .int .i64 n, .slice A1 rs.length c1] 24) := ⟨_, rfl⟩
  obtain ⟨q2, hq2⟩ : ∃ q2, q2 = w.heap.size := ⟨_, rfl⟩
  have HBa := Aside0.mk (show Below w.heap.size w Wa by rw [hWa]; exact bal (Below.refl _ _) _)
  have HA2 := Aside0.mk (show Wa.heap[q2]? = some (.cells #[.int .i64 kind, .int .i64 n, .slice A1 rs.length c1] 24 (0, 0)) by rw [hWa, hq2]; exact blk_new w _)
  go_upto_region 1 with fail
  rw [← hWa, ← hq2]
  clear hWa hq2
  go_wp2_with fail
  refine (armoiretop_live.calls 400 true _ live_f).mono ?_
  rintro e w1 ⟨rfl, hB1⟩
  have HB1 := Aside0.mk (bsp HBa.out hB1)
  have HA1 := Aside0.mk (kbl HA2.out hB1)
  clear hB1 HBa HA2
  have a0 := (kcl HA1.out 0).trans rfl
  have a1 := (kcl HA1.out 1).trans rfl
  have a2 := (kcl HA1.out 2).trans rfl
  go_wp2_with fail
  refine (lawState.calls kT kind n A1 c1 rs kd m ys _ (Kd.C_below HR1.out HB1.out) HC1.out HT.out).mono ?_
  rintro e w2 ⟨v2, rfl, hR2, hB2⟩
  rw [← HN0.out]
  obtain ⟨A5, c5, hv2⟩ := Kd.R_slice hR2
  subst hv2
  have HB2 := Aside0.mk (bsp HB1.out hB2)
  have HR5 := Aside0.mk (Kd.R_lower hR2 HB1.out.size)
  clear hB2 hR2 a0 a1 a2 HA1
  go_upto_region 4 with ((with_reducible refine gds (N := 5) rfl ?_); refine bx_ (N := 5) (cs := #[.int .i64 0, .int .i64 0, .slice none 0 0]) (t := 29) ?_; intro q5 hg w3 hbox hb; have HGX := Aside0.mk hg; have HBX := Aside0.mk hbox; have HBB := Aside0.mk hb; clear hg hbox hb; have x0 := (kcl HBX.out 0).trans rfl; have f0 := kfr HBX.out 0; have x1 := (kcl HBX.out 1).trans rfl; have f1 := kfr HBX.out 1; have x2 := (kcl HBX.out 2).trans rfl; have f2 := kfr HBX.out 2)
  have h5 := set3_new HGX.out HBB.out HBX.out (.int .i64 kd) (.int .i64 n0) (.slice A5 ys.length c5)
  have HQ5 := Aside0.mk (show w.heap.size ≤ q5 by rw [HGX.out]; exact HB2.out.size)
  generalize (((w3.setCell ⟨q5, 0, none⟩ (.int .i64 kd)).setCell ⟨q5, 1, none⟩ (.int .i64 n0)).setCell ⟨q5, 2, none⟩ (.slice A5 ys.length c5)) = w4 at h5 ⊢
  have HB4 := Aside0.mk (bsp HB2.out h5.1)
  have H5 := Aside0.mk h5.2
  have HR5b := Aside0.mk (Kd.R_below HR5.out h5.1)
  clear h5 HGX HBB HBX x0 x1 x2 f0 f1 f2 HR5
  have a0 := (kcl H5.out 0).trans rfl
  have a1 := (kcl H5.out 1).trans rfl
  have a2 := (kcl H5.out 2).trans rfl
  go_wp2_with fail
  obtain ⟨A5', c5', he5, hc5, hC5⟩ := Kd.R_reads HR5b.out
  cases he5
  refine (armoirelaw11_Own.calls kO kd n0 A5 c5 ys kd n0 xs0 _ hC5 hc5 HO.out).mono ?_
  rintro e w5 ⟨v6, rfl, hR6, hB6⟩
  obtain ⟨A6, c6, hv6⟩ := Kd.R_slice hR6
  subst hv6
  have HB5 := Aside0.mk (bsp HB4.out hB6)
  have H5b := Aside0.mk (kbl H5.out hB6)
  have HR6 := Aside0.mk (Kd.R_lower hR6 HB4.out.size)
  clear hR6 hB6 a0 a1 a2 HR5b hC5 hc5 H5
  go_upto_region 5 with ((with_reducible refine gds (N := 6) rfl ?_); refine bx_ (N := 6) (cs := #[.int .i64 0, .int .i64 0, .slice none 0 0]) (t := 24) ?_; intro q6 hg w6 hbox hb; have HGX := Aside0.mk hg; have HBX := Aside0.mk hbox; have HBB := Aside0.mk hb; clear hg hbox hb; have x0 := (kcl HBX.out 0).trans rfl; have f0 := kfr HBX.out 0; have x1 := (kcl HBX.out 1).trans rfl; have f1 := kfr HBX.out 1; have x2 := (kcl HBX.out 2).trans rfl; have f2 := kfr HBX.out 2)
  have h6 := set3_new HGX.out HBB.out HBX.out (.int .i64 kd) (.int .i64 n0) (.slice A6 xs0.length c6)
  have HQ6 := Aside0.mk (show q5 < q6 by rw [HGX.out]; exact blk_lt H5b.out)
  generalize (((w6.setCell ⟨q6, 0, none⟩ (.int .i64 kd)).setCell ⟨q6, 1, none⟩ (.int .i64 n0)).setCell ⟨q6, 2, none⟩ (.slice A6 xs0.length c6)) = w7 at h6 ⊢
  have HB7 := Aside0.mk (bsp HB5.out h6.1)
  have H6 := Aside0.mk h6.2
  have H5c := Aside0.mk (kbl H5b.out h6.1)
  have HR6b := Aside0.mk (Kd.R_below HR6.out h6.1)
  clear h6 HGX HBB HBX x0 x1 x2 f0 f1 f2 HR6 H5b
  go_upto_region 7 with ((with_reducible refine gds (N := 7) rfl ?_); refine bx_ (N := 7) (cs := #[.slice none 0 0]) (t := 34) ?_; intro q7 hg w8 hbox hb; have HGX := Aside0.mk hg; have HBX := Aside0.mk hbox; have HBB := Aside0.mk hb; clear hg hbox hb; have x0 := (kcl HBX.out 0).trans rfl; have f0 := kfr HBX.out 0)
  have HQ7 := Aside0.mk (show q6 < q7 by rw [HGX.out]; exact blk_lt H6.out)
  have HB8 := Aside0.mk (bsp HB7.out HBB.out)
  have H7 := HBX
  have H6b := Aside0.mk (kbl H6.out HBB.out)
  have H5d := Aside0.mk (kbl H5c.out HBB.out)
  have HR6c := Aside0.mk (Kd.R_below HR6b.out HBB.out)
  clear HGX HBB HBX x0 f0 H6 H5c HR6b
  have a0 := (kcl H6b.out 0).trans rfl
  have a1 := (kcl H6b.out 1).trans rfl
  have a2 := (kcl H6b.out 2).trans rfl
  go_upto_region 8 with ((with_reducible refine gds (N := 9) rfl ?_); refine bx_ (N := 9) (cs := #[.int .i64 0, .int .i64 0, .slice none 0 0]) (t := 24) ?_; intro q9 hg w9 hbox hb; have HGX := Aside0.mk hg; have HBX := Aside0.mk hbox; have HBB := Aside0.mk hb; clear hg hbox hb; have x0 := (kcl HBX.out 0).trans rfl; have f0 := kfr HBX.out 0; have x1 := (kcl HBX.out 1).trans rfl; have f1 := kfr HBX.out 1; have x2 := (kcl HBX.out 2).trans rfl; have f2 := kfr HBX.out 2)
  have h9 := set3_new HGX.out HBB.out HBX.out (.int .i64 kd) (.int .i64 n0) (.slice A6 xs0.length c6)
  have HQ9 := Aside0.mk (show q7 < q9 by rw [HGX.out]; exact blk_lt H7.out)
  generalize (((w9.setCell ⟨q9, 0, none⟩ (.int .i64 kd)).setCell ⟨q9, 1, none⟩ (.int .i64 n0)).setCell ⟨q9, 2, none⟩ (.slice A6 xs0.length c6)) = w10 at h9 ⊢
  have HLS := Aside0.mk (show LS w w10 q5 q6 q7 q9 kd #[.int .i64 kd, .int .i64 n0, .slice A5 ys.length c5] n0 (.slice A6 xs0.length c6) xs0 n0 (.slice A6 xs0.length c6) xs0 (.slice none 0 0) (.slice none 0 0) [] [] from
    ⟨bsp HB8.out h9.1, HQ5.out, HQ6.out, HQ7.out, HQ9.out, kbl H5d.out h9.1, kbl H6b.out h9.1, kbl H7.out h9.1, h9.2, Kd.R_below HR6c.out h9.1, Kd.R_below HR6c.out h9.1, Kd.R_nil _ _ _ _ _, Kd.R_nil _ _ _ _ _⟩)
  have HLM := Aside0.mk (show LM kd n0 xs0 n0 xs0 [] 0 from ⟨rfl, trivial, HOK.out.1, HOK.out.2, Nat.le_refl _⟩)
  clear h9 HGX HBB HBX x0 x1 x2 f0 f1 f2 H7 H6b H5d HR6c HB8 HB7 HB5 HB4 HB2 HB1 HQ5 HQ6 HQ7 HQ9 a0 a1 a2 HR1 HC1 HT HO HN0
  go_upto_block 0 with fail
  go_cut [8] (fun v8 wr => ∃ (nj : Int) (vn : Value) (xj : List Rw) (vl : Value) (ss : List Stp), Aside0 (LS w wr q5 q6 q7 q9 kd #[.int .i64 kd, .int .i64 n0, .slice A5 ys.length c5] n0 (.slice A6 xs0.length c6) xs0 nj vn xj vl v8 ss ss) ∧ Aside0 (LM kd n0 xs0 nj xj ss 12))
  case first =>
    go_wp2_with fail
    go_loopw [8, 10] (fun v8 v10 wr => ∃ (i : Nat) (nj : Int) (vn : Value) (xj : List Rw) (vl : Value) (ss : List Stp), v10 = .int .i64 i ∧ i ≤ 12 ∧ Aside0 (LS w wr q5 q6 q7 q9 kd #[.int .i64 kd, .int .i64 n0, .slice A5 ys.length c5] n0 (.slice A6 xs0.length c6) xs0 nj vn xj vl v8 ss ss) ∧ Aside0 (LM kd n0 xs0 nj xj ss i)) (fun _ v10 _ => 12 - (intOf v10).toNat)
    case atStart => exact ⟨0, n0, _, xs0, _, [], rfl, by decide, HLS, HLM⟩
    case round =>
      clear HLS HLM HOK
      obtain ⟨i, nj, vn, xj, vl, ss, rfl, hi, HLS, HLM⟩ := hrel
      by_cases q1 : i < cs.length
      rotate_left
      · have HLM2 := Aside0.mk (show LM kd n0 xs0 nj xj ss 12 from ⟨HLM.out.run, HLM.out.legal, HLM.out.ok, HLM.out.mon, Nat.le_trans HLM.out.len hi⟩)
        go_wp2
        go_meet
        exact ⟨_, _, _, _, _, HLS, HLM2⟩
      by_cases q2' : i < 12
      rotate_left
      · obtain rfl : i = 12 := by omega
        go_wp2
        go_meet
        exact ⟨_, _, _, _, _, HLS, HLM⟩
      obtain ⟨x, hx⟩ : ∃ x, x = cs.getD i z41 := ⟨_, rfl⟩
      have p0 : (0 : Int) ≤ (i : Int) := by omega
      have p1 : (i : Int) < (cs.length : Int) := by omega
      have p2 : (i : Int) < 12 := by omega
      obtain ⟨ad, e1, y0, y1, y2, y3⟩ := at_T41 (Kd.C_below HR2.out HLS.out.below) (i : Int) p0 p1
      subst e1
      have hx2 : rd_T41 cs (i : Int) = x := by rw [hx]; rfl
      rw [hx2] at y0 y1 y2 y3
      rw [Int.toNat_natCast] at y0 y1 y2 y3
      obtain ⟨o, a, b, cn, hof, hco⟩ := of_f kd 0 [] x.f0 x.f1 x.f2 x.f3
      obtain ⟨kF, hof⟩ := Ev.rounds hof
      have HOF := Aside0.mk (show ∀ W, Calls Try.prog 7 #[.agg #[.int .i64 kd, .int .i64 0, .slice none 0 0], .agg #[.int .i64 x.f0, .string x.f1, .string x.f2, .int .i64 x.f3]] W (fun e w' => e = .returned (.agg #[.int .i64 o, .string a, .string b, .int .i64 cn]) ∧ Below W.heap.size W w') from fun W => armoirelaw13_Of.calls kF kd 0 none 0 [] x.f0 x.f1 x.f2 x.f3 o a b cn W (Kd.C_nil _ _) (Nat.le_refl _) hof)
      have HCO := Aside0.mk hco
      have a0 := (kcl HLS.out.b5 0).trans rfl
      clear hx hx2 hof hco
      go_upto_region 11 with fail
      go_cut [11] (fun v11 wc => ∃ g : Nat, v11 = .pointer (some ⟨g, 0, none⟩) ∧ Aside0 (q9 < g) ∧ Aside0 (wc.heap[g]? = some (.cells #[.int .i64 o, .string a, .string b, .int .i64 cn] 37 (0, 0))) ∧ Aside0 (LS w wc q5 q6 q7 q9 kd #[.int .i64 kd, .int .i64 n0, .slice A5 ys.length c5] n0 (.slice A6 xs0.length c6) xs0 nj vn xj vl u8 ss ss))
      case first =>
        have hX : wr.drew.cell? ⟨q5, 0, none⟩ = some (.int .i64 kd) ∧ wr.drew.cell? (ad.add (i * 4)) = some (.int .i64 x.f0) ∧ wr.drew.cell? ⟨(ad.add (i * 4)).block, (ad.add (i * 4)).off + 1, none⟩ = some (.string x.f1) ∧ wr.drew.cell? ⟨(ad.add (i * 4)).block, (ad.add (i * 4)).off + 2, none⟩ = some (.string x.f2) ∧ wr.drew.cell? ⟨(ad.add (i * 4)).block, (ad.add (i * 4)).off + 3, none⟩ = some (.int .i64 x.f3) := ⟨a0, y0, y1, y2, y3⟩
        have HC := Aside0.mk (show ∀ W1, Below wr.drew.heap.size wr.drew W1 → _ from fun W1 h => (⟨pw_cell_below h hX.1, pw_cell_below h hX.2.1, pw_cell_below h hX.2.2.1, pw_cell_below h hX.2.2.2.1, pw_cell_below h hX.2.2.2.2⟩ : W1.cell? ⟨q5, 0, none⟩ = some (.int .i64 kd) ∧ W1.cell? (ad.add (i * 4)) = some (.int .i64 x.f0) ∧ W1.cell? ⟨(ad.add (i * 4)).block, (ad.add (i * 4)).off + 1, none⟩ = some (.string x.f1) ∧ W1.cell? ⟨(ad.add (i * 4)).block, (ad.add (i * 4)).off + 2, none⟩ = some (.string x.f2) ∧ W1.cell? ⟨(ad.add (i * 4)).block, (ad.add (i * 4)).off + 3, none⟩ = some (.int .i64 x.f3)))
        have HLD := Aside0.mk (HLS.out.step (below_drew (Below.refl _ _)))
        clear a0 y0 y1 y2 y3 HLS HLM
        refine start_ (n := 10) (S := fun w' => w'.cell? ⟨q5, 0, none⟩ = some (.int .i64 kd) ∧ w'.cell? (ad.add (i * 4)) = some (.int .i64 x.f0) ∧ w'.cell? ⟨(ad.add (i * 4)).block, (ad.add (i * 4)).off + 1, none⟩ = some (.string x.f1) ∧ w'.cell? ⟨(ad.add (i * 4)).block, (ad.add (i * 4)).off + 2, none⟩ = some (.string x.f2) ∧ w'.cell? ⟨(ad.add (i * 4)).block, (ad.add (i * 4)).off + 3, none⟩ = some (.int .i64 x.f3)) (ds := [9]) #[false,false,false,false,false,false,false,false,false,false] (by kernel_rfl) rfl rfl ⟨hX.1, hX.2.1, hX.2.2.1, hX.2.2.2.1, hX.2.2.2.2⟩ (fun hHeld => ?_)
        clear hX
        generalize wr.drew = w10 at HC HLD hHeld ⊢
        refine pu_ 0 (some 36) #[true,false,false,false,false,false,false,false,false,false] ?_
        refine pu_ 3 (some 39) #[true,false,false,true,false,false,false,false,false,false] ?_
        refine pu_ 4 (some 40) #[true,false,false,true,true,false,false,false,false,false] ?_
        refine pu_ 5 (some 41) #[true,false,false,true,true,true,false,false,false,false] ?_
        refine tk_ 1 (some 37) #[true,true,false,true,true,true,false,false,false,false] hHeld ?_
        refine pu_ 2 (some 38) #[true,true,true,true,true,true,false,false,false,false] ?_
        refine tk_ 6 (some 42) #[true,true,true,true,true,true,true,false,false,false] hHeld ?_
        refine two_ (i := 7) (j := 8) (Ni := some 43) (Nj := some 11) #[true,true,true,true,true,true,true,true,false,false] #[true,true,true,true,true,true,true,false,true,false] rfl rfl rfl rfl (by kernel_rfl) (by decide) (by decide) (fun K hK => ?_) (fun K hK => ?_)
        · skip
          refine goes_ Try.func7 (by kernel_rfl) rfl #[.agg #[.int .i64 kd, .int .i64 0, .slice none 0 0], .agg #[.int .i64 x.f0, .string x.f1, .string x.f2, .int .i64 x.f3]] (by rfl) rfl rfl (by (try simp only [List.map_toArray, List.map_cons, List.map_nil]); first | done | rfl | (simp only [Act.eval, Array.getD_eq_getD_getElem?, Option.getD_some, *]; done)) ?_
          with_reducible refine (HOF.out _).mono ?_
          rintro e w11 ⟨rfl, hB11⟩
          refine ⟨_, rfl, ?_⟩
          have HB11 := Aside0.mk (hB11)
          clear hB11
          have hX := HC.out _ HB11.out
          refine hK.out _ _ ⟨hX.1, hX.2.1, hX.2.2.1, hX.2.2.2.1, hX.2.2.2.2⟩ (fun hHeld => ?_)
          clear hK K
          refine nm_ (some 43) ?_
          refine one_ (i := 8) (N := some 11) #[true,true,true,true,true,true,true,true,true,false] rfl rfl (by kernel_rfl) (by decide) (fun K hK => ?_)
          refine value_ (w1 := ?_) (v := ?_) (by rfl) rfl ?_ ?_
          rotate_left 2
          · go_simp
            constructor
            · rfl
            · rfl
          have HB8 := Aside0.mk (bal HB11.out (.cells #[.int .i64 0, .string ⟨#[]⟩, .string ⟨#[]⟩, .int .i64 0] 37))
          have HX8 := Aside0.mk (blk_new w11 (.cells #[.int .i64 0, .string ⟨#[]⟩, .string ⟨#[]⟩, .int .i64 0] 37))
          have hX := HC.out _ HB8.out
          refine hK.out _ _ ⟨hX.1, hX.2.1, hX.2.2.1, hX.2.2.2.1, hX.2.2.2.2⟩ (fun hHeld => ?_)
          clear hK K
          refine nm_ (some 11) ?_
          refine last_ (i := 9) (N := none) #[true,true,true,true,true,true,true,true,true,true] rfl rfl (by kernel_rfl) (by decide) (fun K hK => ?_)
          have x0 := (kcl HX8.out 0).trans rfl
          have x1 := (kcl HX8.out 1).trans rfl
          have x2 := (kcl HX8.out 2).trans rfl
          have x3 := (kcl HX8.out 3).trans rfl
          have f0 := kfr HX8.out 0
          have f1 := kfr HX8.out 1
          have f2 := kfr HX8.out 2
          have f3 := kfr HX8.out 3
          refine skip_ (w1 := ?_) (by rfl) rfl ?_ ?_
          rotate_left
          · go_simp
            rfl
          refine hK.out _ _ ?_
          clear hK K
          refine done_ (by kernel_rfl) ?_
          go_wp2
          go_meet
          exact ⟨w11.heap.size, rfl, ⟨Nat.lt_of_lt_of_le (blk_lt HLD.out.b9) HB11.out.size⟩, ⟨blk_new w11 _⟩, ⟨HLD.out.step (bal HB11.out _)⟩⟩
        · skip
          refine value_ (w1 := ?_) (v := ?_) (by rfl) rfl ?_ ?_
          rotate_left 2
          · go_simp
            constructor
            · rfl
            · rfl
          have HB8 := Aside0.mk (bal (Below.refl w10.heap.size w10) (.cells #[.int .i64 0, .string ⟨#[]⟩, .string ⟨#[]⟩, .int .i64 0] 37))
          have HX8 := Aside0.mk (blk_new w10 (.cells #[.int .i64 0, .string ⟨#[]⟩, .string ⟨#[]⟩, .int .i64 0] 37))
          have hX := HC.out _ HB8.out
          refine hK.out _ _ ⟨hX.1, hX.2.1, hX.2.2.1, hX.2.2.2.1, hX.2.2.2.2⟩ (fun hHeld => ?_)
          clear hK K
          refine nm_ (some 11) ?_
          refine one_ (i := 7) (N := some 43) #[true,true,true,true,true,true,true,true,true,false] rfl rfl (by kernel_rfl) (by decide) (fun K hK => ?_)
          refine goes_ Try.func7 (by kernel_rfl) rfl #[.agg #[.int .i64 kd, .int .i64 0, .slice none 0 0], .agg #[.int .i64 x.f0, .string x.f1, .string x.f2, .int .i64 x.f3]] (by rfl) rfl rfl (by (try simp only [List.map_toArray, List.map_cons, List.map_nil]); first | done | rfl | (simp only [Act.eval, Array.getD_eq_getD_getElem?, Option.getD_some, *]; done)) ?_
          with_reducible refine (HOF.out _).mono ?_
          rintro e w11 ⟨rfl, hB11⟩
          refine ⟨_, rfl, ?_⟩
          have HB11 := Aside0.mk (bsp HB8.out hB11)
          have HX8b := Aside0.mk (kbl HX8.out hB11)
          clear hB11
          have hX := HC.out _ HB11.out
          refine hK.out _ _ ⟨hX.1, hX.2.1, hX.2.2.1, hX.2.2.2.1, hX.2.2.2.2⟩ (fun hHeld => ?_)
          clear hK K
          refine nm_ (some 43) ?_
          refine last_ (i := 9) (N := none) #[true,true,true,true,true,true,true,true,true,true] rfl rfl (by kernel_rfl) (by decide) (fun K hK => ?_)
          have x0 := (kcl HX8b.out 0).trans rfl
          have x1 := (kcl HX8b.out 1).trans rfl
          have x2 := (kcl HX8b.out 2).trans rfl
          have x3 := (kcl HX8b.out 3).trans rfl
          have f0 := kfr HX8b.out 0
          have f1 := kfr HX8b.out 1
          have f2 := kfr HX8b.out 2
          have f3 := kfr HX8b.out 3
          refine skip_ (w1 := ?_) (by rfl) rfl ?_ ?_
          rotate_left
          · go_simp
            rfl
          refine hK.out _ _ ?_
          clear hK K
          refine done_ (by kernel_rfl) ?_
          go_wp2
          go_meet
          exact ⟨w10.heap.size, rfl, ⟨blk_lt HLD.out.b9⟩, ⟨(set4_new rfl HB11.out HX8b.out _ _ _ _).2⟩, ⟨HLD.out.step (set4_new rfl HB11.out HX8b.out _ _ _ _).1⟩⟩
      case rest =>
        obtain ⟨g11, rfl, HG11, HB11, HLS2⟩ := hcut
        clear HLS HOF a0 y0 y1 y2 y3
        have y0 := (kcl HB11.out 0).trans rfl
        have y1 := (kcl HB11.out 1).trans rfl
        have y2 := (kcl HB11.out 2).trans rfl
        have y3 := (kcl HB11.out 3).trans rfl
        go_upto_region 13 with ((with_reducible refine gds (N := 12) rfl ?_); refine bx_ (N := 12) (cs := #[.int .i64 0, .string ⟨#[]⟩, .string ⟨#[]⟩, .int .i64 0]) (t := 41) ?_; intro g12 hg w12 hbox hb; have HGX := Aside0.mk hg; have HBX := Aside0.mk hbox; have HBB := Aside0.mk hb; clear hg hbox hb; have x0 := (kcl HBX.out 0).trans rfl; have f0 := kfr HBX.out 0; have x1 := (kcl HBX.out 1).trans rfl; have f1 := kfr HBX.out 1; have x2 := (kcl HBX.out 2).trans rfl; have f2 := kfr HBX.out 2; have x3 := (kcl HBX.out 3).trans rfl; have f3 := kfr HBX.out 3)
        have h12 := set4_new HGX.out HBB.out HBX.out (.int .i64 o) (.string a) (.string b) (.int .i64 cn)
        have HQ12 := Aside0.mk (show q9 < g12 by rw [HGX.out]; exact blk_lt HLS2.out.b9)
        generalize ((((w12.setCell ⟨g12, 0, none⟩ (.int .i64 o)).setCell ⟨g12, 1, none⟩ (.string a)).setCell ⟨g12, 2, none⟩ (.string b)).setCell ⟨g12, 3, none⟩ (.int .i64 cn)) = w13 at h12 ⊢
        have HLS := Aside0.mk (HLS2.out.step h12.1)
        have HB12 := Aside0.mk h12.2
        clear h12 HGX HBB HBX x0 x1 x2 x3 f0 f1 f2 f3 HLS2 y0 y1 y2 y3 HB11 HG11
        obtain ⟨An, cn9, hvn, hcn9, hCn⟩ := Kd.R_reads HLS.out.rn
        subst hvn
        have HCN := Aside0.mk hCn
        have Hcn9 := Aside0.mk hcn9
        obtain ⟨l, hl1, hl2, hl3⟩ := answers_f kd nj xj o a b cn (by have := HLM.out.ok.len; omega) HLM.out.ok.k1
        have HAN := Aside0.mk hl1
        have HFO := Aside0.mk hl3
        obtain ⟨kA, hA⟩ := Ev.rounds hl1
        have HA := Aside0.mk hA
        have HLL := Aside0.mk (show l.length ≤ 1000 by have := HLM.out.ok.len; omega)
        clear hCn hcn9 hl1 hl2 hl3 hA
        have y0 := (kcl HB12.out 0).trans rfl
        have y1 := (kcl HB12.out 1).trans rfl
        have y2 := (kcl HB12.out 2).trans rfl
        have y3 := (kcl HB12.out 3).trans rfl
        have z0 := (kcl HLS.out.b9 0).trans rfl
        have z1 := (kcl HLS.out.b9 1).trans rfl
        have z2 := (kcl HLS.out.b9 2).trans rfl
        go_wp2_with fail
        refine (adt_Answers.calls kA kd nj An cn9 xj o a b cn l _ HCN.out Hcn9.out HA.out).mono ?_
        rintro e w14 ⟨v13, rfl, hR13, hB13⟩
        have HLSb := Aside0.mk (HLS.out.step hB13)
        have HB12b := Aside0.mk (kbl HB12.out hB13)
        have HCNb := Aside0.mk (Kd.C_below HCN.out hB13)
        obtain ⟨A13, c13, hv13⟩ := Kd.R_slice hR13
        subst hv13
        have HR13 := Aside0.mk (Kd.R_lower hR13 HLS.out.below.size)
        clear hR13 hB13 HLS HB12 HCN y0 y1 y2 y3 z0 z1 z2 HA
        have y0 := (kcl HB12b.out 0).trans rfl
        have y1 := (kcl HB12b.out 1).trans rfl
        have y2 := (kcl HB12b.out 2).trans rfl
        have y3 := (kcl HB12b.out 3).trans rfl
        have z0 := (kcl HLSb.out.b9 0).trans rfl
        have z1 := (kcl HLSb.out.b9 1).trans rfl
        have z2 := (kcl HLSb.out.b9 2).trans rfl
        go_upto_region 14 with fail
        have k1 : wrap64 ((i : Int) + 1) = (i : Int) + 1 := by unfold wrap64; omega
        have K1 := Aside0.mk k1
        clear k1
        by_cases hl0 : l = []
        · subst hl0
          simp only [List.length_nil]
          clear y0 y1 y2 y3 z0 z1 z2
          refine start_ (n := 12) (S := fun w' => True) (ds := []) #[false,false,false,false,false,false,false,false,false,false,false,false] (by kernel_rfl) rfl rfl trivial (fun hHeld => ?_)
          refine pu_ 0 (some 56) #[true,false,false,false,false,false,false,false,false,false,false,false] ?_
          refine pu_ 1 (some 57) #[true,true,false,false,false,false,false,false,false,false,false,false] ?_
          refine pu_ 2 (some 58) #[true,true,true,false,false,false,false,false,false,false,false,false] ?_
          refine pu_ 3 (some 59) #[true,true,true,true,false,false,false,false,false,false,false,false] ?_
          refine pn_ 4 (some 60) #[true,true,true,true,true,false,false,false,false,false,false,false] ?_
          refine pn_ 5 (some 61) #[true,true,true,true,true,true,false,false,false,false,false,false] ?_
          refine pn_ 6 (some 62) #[true,true,true,true,true,true,true,false,false,false,false,false] ?_
          refine pn_ 7 (some 63) #[true,true,true,true,true,true,true,true,false,false,false,false] ?_
          refine pn_ 8 (some 64) #[true,true,true,true,true,true,true,true,true,false,false,false] ?_
          refine pn_ 9 (some 65) #[true,true,true,true,true,true,true,true,true,true,false,false] ?_
          refine pn_ 10 (some 66) #[true,true,true,true,true,true,true,true,true,true,true,false] ?_
          refine pu_ 11 (some 67) #[true,true,true,true,true,true,true,true,true,true,true,true] ?_
          refine done_ (by kernel_rfl) ?_
          have k1 := K1.out
          go_wp2
          clear k1
          go_roundw
          case rel => exact ⟨i + 1, nj, _, xj, vl, ss, by go_num, q2', ⟨HLSb.out.step (below_drew (Below.refl _ _))⟩, ⟨HLM.out.skip⟩⟩
          case measure => simp [intOf]; omega
        obtain ⟨r, ls, hls⟩ : ∃ r ls, l = r :: ls := by
          cases l with
          | nil => exact absurd rfl hl0
          | cons r ls => exact ⟨r, ls, rfl⟩
        subst hls
        clear hl0
        obtain ⟨code, text, rn⟩ := r
        obtain ⟨rm, hrm, hrm0⟩ := room_f kd nj xj o a b cn code text rn (by have := HLM.out.ok.len; omega) HLM.out.ok.lo HLM.out.ok.hi
        obtain ⟨kR, hrm⟩ := Ev.rounds hrm
        have HRM := Aside0.mk hrm
        have HRM0 := Aside0.mk hrm0
        clear hrm hrm0
        obtain ⟨A13', c13', he13, hc13, hC13⟩ := Kd.R_reads HR13.out
        cases he13
        obtain ⟨ad13, e13, r0, r1, r2⟩ := at_T47 hC13 0 (by omega) (by simp only [List.length_cons]; omega)
        subst e13
        rw [show ((0 : Int)).toNat * 3 = 0 from rfl, Addr.add_zero'] at r0 r1 r2
        rw [show rd_T47 ((⟨code, text, rn⟩ : Rs) :: ls) 0 = ⟨code, text, rn⟩ from rfl] at r0 r1 r2
        simp only [List.length_cons]
        clear hC13 hc13
        have hX : w14.drew.cell? ⟨q9, 0, none⟩ = some (.int .i64 kd) ∧ w14.drew.cell? ⟨q9, 1, none⟩ = some (.int .i64 nj) ∧ w14.drew.cell? ⟨q9, 2, none⟩ = some (.slice An xj.length cn9) ∧ w14.drew.cell? ⟨g12, 0, none⟩ = some (.int .i64 o) ∧ w14.drew.cell? ⟨g12, 1, none⟩ = some (.string a) ∧ w14.drew.cell? ⟨g12, 2, none⟩ = some (.string b) ∧ w14.drew.cell? ⟨g12, 3, none⟩ = some (.int .i64 cn) ∧ w14.drew.cell? ad13 = some (.int .i64 code) ∧ w14.drew.cell? ⟨ad13.block, ad13.off + 1, none⟩ = some (.string text) ∧ w14.drew.cell? ⟨ad13.block, ad13.off + 2, none⟩ = some (.int .i64 rn) := ⟨z0, z1, z2, y0, y1, y2, y3, r0, r1, r2⟩
        have HLSd := Aside0.mk (HLSb.out.step (below_drew (Below.refl _ _)))
        have HB12d := Aside0.mk (kdw HB12b.out)
        have HR13d := Aside0.mk (Kd.R_drew HR13.out)
        have HCNd := Aside0.mk (Kd.C_drew HCNb.out)
        have HXB := Aside0.mk (show ∀ W1, Below w14.drew.heap.size w14.drew W1 → W1.cell? ⟨q9, 0, none⟩ = some (.int .i64 kd) ∧ W1.cell? ⟨q9, 1, none⟩ = some (.int .i64 nj) ∧ W1.cell? ⟨q9, 2, none⟩ = some (.slice An xj.length cn9) ∧ W1.cell? ⟨g12, 0, none⟩ = some (.int .i64 o) ∧ W1.cell? ⟨g12, 1, none⟩ = some (.string a) ∧ W1.cell? ⟨g12, 2, none⟩ = some (.string b) ∧ W1.cell? ⟨g12, 3, none⟩ = some (.int .i64 cn) ∧ W1.cell? ad13 = some (.int .i64 code) ∧ W1.cell? ⟨ad13.block, ad13.off + 1, none⟩ = some (.string text) ∧ W1.cell? ⟨ad13.block, ad13.off + 2, none⟩ = some (.int .i64 rn) from fun W1 h => ⟨pw_cell_below h hX.1, pw_cell_below h hX.2.1, pw_cell_below h hX.2.2.1, pw_cell_below h hX.2.2.2.1, pw_cell_below h hX.2.2.2.2.1, pw_cell_below h hX.2.2.2.2.2.1, pw_cell_below h hX.2.2.2.2.2.2.1, pw_cell_below h hX.2.2.2.2.2.2.2.1, pw_cell_below h hX.2.2.2.2.2.2.2.2.1, pw_cell_below h hX.2.2.2.2.2.2.2.2.2⟩)
        have HBz := Aside0.mk (Below.refl w14.drew.heap.size w14.drew)
        clear y0 y1 y2 y3 z0 z1 z2 r0 r1 r2 HLSb HB12b HR13 HCNb
        by_cases qr : rm = 0
        rotate_left
        · have qr2 : (rm != 0) = true := bne_iff_ne.2 qr
          have HQR := Aside0.mk qr
          clear qr
          refine start_ (n := 12) (S := fun w' => w'.cell? ⟨q9, 0, none⟩ = some (.int .i64 kd) ∧ w'.cell? ⟨q9, 1, none⟩ = some (.int .i64 nj) ∧ w'.cell? ⟨q9, 2, none⟩ = some (.slice An xj.length cn9) ∧ w'.cell? ⟨g12, 0, none⟩ = some (.int .i64 o) ∧ w'.cell? ⟨g12, 1, none⟩ = some (.string a) ∧ w'.cell? ⟨g12, 2, none⟩ = some (.string b) ∧ w'.cell? ⟨g12, 3, none⟩ = some (.int .i64 cn) ∧ w'.cell? ad13 = some (.int .i64 code) ∧ w'.cell? ⟨ad13.block, ad13.off + 1, none⟩ = some (.string text) ∧ w'.cell? ⟨ad13.block, ad13.off + 2, none⟩ = some (.int .i64 rn)) (ds := []) #[false,false,false,false,false,false,false,false,false,false,false,false] (by kernel_rfl) rfl rfl ⟨hX.1, hX.2.1, hX.2.2.1, hX.2.2.2.1, hX.2.2.2.2.1, hX.2.2.2.2.2.1, hX.2.2.2.2.2.2.1, hX.2.2.2.2.2.2.2.1, hX.2.2.2.2.2.2.2.2.1, hX.2.2.2.2.2.2.2.2.2⟩ (fun hHeld => ?_)
          clear hX
          generalize w14.drew = w15 at HXB HLSd HB12d HR13d HCNd HBz hHeld ⊢
          refine pu_ 0 (some 56) #[true,false,false,false,false,false,false,false,false,false,false,false] ?_
          refine pu_ 1 (some 57) #[true,true,false,false,false,false,false,false,false,false,false,false] ?_
          refine pu_ 2 (some 58) #[true,true,true,false,false,false,false,false,false,false,false,false] ?_
          refine pu_ 3 (some 59) #[true,true,true,true,false,false,false,false,false,false,false,false] ?_
          refine pu_ 6 (some 62) #[true,true,true,true,false,false,true,false,false,false,false,false] ?_
          refine pu_ 7 (some 63) #[true,true,true,true,false,false,true,true,false,false,false,false] ?_
          refine tk_ 4 (some 60) #[true,true,true,true,true,false,true,true,false,false,false,false] hHeld ?_
          refine tk_ 5 (some 61) #[true,true,true,true,true,true,true,true,false,false,false,false] hHeld ?_
          refine tk_ 8 (some 64) #[true,true,true,true,true,true,true,true,true,false,false,false] hHeld ?_
          refine one_ (i := 9) (N := some 65) #[true,true,true,true,true,true,true,true,true,true,false,false] rfl rfl (by kernel_rfl) (by decide) (fun K hK => ?_)
          refine goes_ Try.func9 (by kernel_rfl) rfl #[.agg #[.int .i64 kd, .int .i64 nj, .slice An xj.length cn9], .agg #[.int .i64 o, .string a, .string b, .int .i64 cn], .agg #[.int .i64 code, .string text, .int .i64 rn], .int .i64 0, .int .i64 0] (by rfl) rfl rfl (by (try simp only [List.map_toArray, List.map_cons, List.map_nil]); first | done | rfl | (simp only [Act.eval, Array.getD_eq_getD_getElem?, Option.getD_some, *]; done)) ?_
          with_reducible refine (adt_Room.calls kR kd nj An cn9 xj o a b cn code text rn 0 0 rm _ HCNd.out Hcn9.out HRM.out).mono ?_
          rintro e w16 ⟨rfl, hB16⟩
          refine ⟨_, rfl, ?_⟩
          have HB16 := Aside0.mk hB16
          clear hB16
          have hX := HXB.out _ HB16.out
          refine hK.out _ _ ⟨hX.1, hX.2.1, hX.2.2.1, hX.2.2.2.1, hX.2.2.2.2.1, hX.2.2.2.2.2.1, hX.2.2.2.2.2.2.1, hX.2.2.2.2.2.2.2.1, hX.2.2.2.2.2.2.2.2.1, hX.2.2.2.2.2.2.2.2.2⟩ (fun hHeld => ?_)
          clear hK K
          refine nm_ (some 65) ?_
          refine pu_ 10 (some 66) #[true,true,true,true,true,true,true,true,true,true,true,false] ?_
          refine pu_ 11 (some 67) #[true,true,true,true,true,true,true,true,true,true,true,true] ?_
          refine done_ (by kernel_rfl) ?_
          have k1 := K1.out
          go_wp2
          clear k1
          go_roundw
          case rel => exact ⟨i + 1, nj, _, xj, vl, ss, by go_num, q2', ⟨HLSd.out.step HB16.out⟩, ⟨HLM.out.skip⟩⟩
          case measure => simp [intOf]; omega
        have qr2 : (rm != 0) = false := bne_eq_false_iff_eq.2 qr
        have HQR := Aside0.mk qr
        clear qr
        refine start_ (n := 12) (S := fun w' => w'.cell? ⟨q9, 0, none⟩ = some (.int .i64 kd) ∧ w'.cell? ⟨q9, 1, none⟩ = some (.int .i64 nj) ∧ w'.cell? ⟨q9, 2, none⟩ = some (.slice An xj.length cn9) ∧ w'.cell? ⟨g12, 0, none⟩ = some (.int .i64 o) ∧ w'.cell? ⟨g12, 1, none⟩ = some (.string a) ∧ w'.cell? ⟨g12, 2, none⟩ = some (.string b) ∧ w'.cell? ⟨g12, 3, none⟩ = some (.int .i64 cn) ∧ w'.cell? ad13 = some (.int .i64 code) ∧ w'.cell? ⟨ad13.block, ad13.off + 1, none⟩ = some (.string text) ∧ w'.cell? ⟨ad13.block, ad13.off + 2, none⟩ = some (.int .i64 rn)) (ds := []) #[false,false,false,false,false,false,false,false,false,false,false,false] (by kernel_rfl) rfl rfl ⟨hX.1, hX.2.1, hX.2.2.1, hX.2.2.2.1, hX.2.2.2.2.1, hX.2.2.2.2.2.1, hX.2.2.2.2.2.2.1, hX.2.2.2.2.2.2.2.1, hX.2.2.2.2.2.2.2.2.1, hX.2.2.2.2.2.2.2.2.2⟩ (fun hHeld => ?_)
        clear hX
        generalize w14.drew = w15 at HXB HLSd HB12d HR13d HCNd HBz hHeld ⊢
        refine pu_ 0 (some 56) #[true,false,false,false,false,false,false,false,false,false,false,false] ?_
        refine pu_ 1 (some 57) #[true,true,false,false,false,false,false,false,false,false,false,false] ?_
        refine pu_ 2 (some 58) #[true,true,true,false,false,false,false,false,false,false,false,false] ?_
        refine pu_ 3 (some 59) #[true,true,true,true,false,false,false,false,false,false,false,false] ?_
        refine pu_ 6 (some 62) #[true,true,true,true,false,false,true,false,false,false,false,false] ?_
        refine pu_ 7 (some 63) #[true,true,true,true,false,false,true,true,false,false,false,false] ?_
        refine tk_ 4 (some 60) #[true,true,true,true,true,false,true,true,false,false,false,false] hHeld ?_
        refine tk_ 5 (some 61) #[true,true,true,true,true,true,true,true,false,false,false,false] hHeld ?_
        refine tk_ 8 (some 64) #[true,true,true,true,true,true,true,true,true,false,false,false] hHeld ?_
        refine one_ (i := 9) (N := some 65) #[true,true,true,true,true,true,true,true,true,true,false,false] rfl rfl (by kernel_rfl) (by decide) (fun K hK => ?_)
        refine goes_ Try.func9 (by kernel_rfl) rfl #[.agg #[.int .i64 kd, .int .i64 nj, .slice An xj.length cn9], .agg #[.int .i64 o, .string a, .string b, .int .i64 cn], .agg #[.int .i64 code, .string text, .int .i64 rn], .int .i64 0, .int .i64 0] (by rfl) rfl rfl (by (try simp only [List.map_toArray, List.map_cons, List.map_nil]); first | done | rfl | (simp only [Act.eval, Array.getD_eq_getD_getElem?, Option.getD_some, *]; done)) ?_
        with_reducible refine (adt_Room.calls kR kd nj An cn9 xj o a b cn code text rn 0 0 rm _ HCNd.out Hcn9.out HRM.out).mono ?_
        rintro e w16 ⟨rfl, hB16⟩
        refine ⟨_, rfl, ?_⟩
        have HB16 := Aside0.mk hB16
        clear hB16
        have hX := HXB.out _ HB16.out
        refine hK.out _ _ ⟨hX.1, hX.2.1, hX.2.2.1, hX.2.2.2.1, hX.2.2.2.2.1, hX.2.2.2.2.2.1, hX.2.2.2.2.2.2.1, hX.2.2.2.2.2.2.2.1, hX.2.2.2.2.2.2.2.2.1, hX.2.2.2.2.2.2.2.2.2⟩ (fun hHeld => ?_)
        clear hK K
        refine nm_ (some 65) ?_
        refine pu_ 10 (some 66) #[true,true,true,true,true,true,true,true,true,true,true,false] ?_
        refine pu_ 11 (some 67) #[true,true,true,true,true,true,true,true,true,true,true,true] ?_
        refine done_ (by kernel_rfl) ?_
        go_upto_region 15 with fail
        have HLS := Aside0.mk (HLSd.out.step HB16.out)
        have HLS15 := Aside0.mk (HLS.out.step (below_drew (Below.refl _ _)))
        have HXD := Aside0.mk (show w16.drew.cell? ⟨q9, 0, none⟩ = some (.int .i64 kd) ∧ w16.drew.cell? ⟨q9, 1, none⟩ = some (.int .i64 nj) ∧ w16.drew.cell? ⟨q9, 2, none⟩ = some (.slice An xj.length cn9) ∧ w16.drew.cell? ⟨g12, 0, none⟩ = some (.int .i64 o) ∧ w16.drew.cell? ⟨g12, 1, none⟩ = some (.string a) ∧ w16.drew.cell? ⟨g12, 2, none⟩ = some (.string b) ∧ w16.drew.cell? ⟨g12, 3, none⟩ = some (.int .i64 cn) ∧ w16.drew.cell? ad13 = some (.int .i64 code) ∧ w16.drew.cell? ⟨ad13.block, ad13.off + 1, none⟩ = some (.string text) ∧ w16.drew.cell? ⟨ad13.block, ad13.off + 2, none⟩ = some (.int .i64 rn) from hX)
        have HB12e := Aside0.mk (kdw (kbl HB12d.out HB16.out))
        have HR13e := Aside0.mk (Kd.R_drew (Kd.R_below HR13d.out HB16.out))
        clear HLSd HB12d HR13d HCNd HB16 HXB HBz HRM
        have hX := HXD.out
        refine start_ (n := 7) (S := fun w' => w'.cell? ⟨q9, 0, none⟩ = some (.int .i64 kd) ∧ w'.cell? ⟨q9, 1, none⟩ = some (.int .i64 nj) ∧ w'.cell? ⟨q9, 2, none⟩ = some (.slice An xj.length cn9) ∧ w'.cell? ⟨g12, 0, none⟩ = some (.int .i64 o) ∧ w'.cell? ⟨g12, 1, none⟩ = some (.string a) ∧ w'.cell? ⟨g12, 2, none⟩ = some (.string b) ∧ w'.cell? ⟨g12, 3, none⟩ = some (.int .i64 cn) ∧ w'.cell? ad13 = some (.int .i64 code) ∧ w'.cell? ⟨ad13.block, ad13.off + 1, none⟩ = some (.string text) ∧ w'.cell? ⟨ad13.block, ad13.off + 2, none⟩ = some (.int .i64 rn)) (ds := [6]) #[false,false,false,false,false,false,false] (by kernel_rfl) rfl rfl ⟨hX.1, hX.2.1, hX.2.2.1, hX.2.2.2.1, hX.2.2.2.2.1, hX.2.2.2.2.2.1, hX.2.2.2.2.2.2.1, hX.2.2.2.2.2.2.2.1, hX.2.2.2.2.2.2.2.2.1, hX.2.2.2.2.2.2.2.2.2⟩ (fun hHeld => ?_)
        generalize w16.drew = w17 at HXD HLS15 HB12e HR13e hX hHeld ⊢
        refine pu_ 1 (some 69) #[false,true,false,false,false,false,false] ?_
        refine pu_ 2 (some 70) #[false,true,true,false,false,false,false] ?_
        refine tk_ 0 (some 68) #[true,true,true,false,false,false,false] hHeld ?_
        refine tk_ 3 (some 71) #[true,true,true,true,false,false,false] hHeld ?_
        refine pu_ 4 (some 72) #[true,true,true,true,true,false,false] ?_
        refine one_ (i := 5) (N := some 14) #[true,true,true,true,true,true,false] rfl rfl (by kernel_rfl) (by decide) (fun K hK => ?_)
        refine value_ (w1 := ?_) (v := ?_) (by rfl) rfl ?_ ?_
        rotate_left 2
        · go_simp
          constructor
          · rfl
          · rfl
        have HB8 := Aside0.mk (bal (Below.refl w17.heap.size w17) (.cells #[.int .i64 0, .string ⟨#[]⟩, .string ⟨#[]⟩, .int .i64 0, .int .i64 0, .string ⟨#[]⟩, .int .i64 0] 49))
        have HX8 := Aside0.mk (blk_new w17 (.cells #[.int .i64 0, .string ⟨#[]⟩, .string ⟨#[]⟩, .int .i64 0, .int .i64 0, .string ⟨#[]⟩, .int .i64 0] 49))
        have hX8 := hX
        clear hX
        have hX := (fun (h : Below w17.heap.size w17 _) => (⟨pw_cell_below h hX8.1, pw_cell_below h hX8.2.1, pw_cell_below h hX8.2.2.1, pw_cell_below h hX8.2.2.2.1, pw_cell_below h hX8.2.2.2.2.1, pw_cell_below h hX8.2.2.2.2.2.1, pw_cell_below h hX8.2.2.2.2.2.2.1, pw_cell_below h hX8.2.2.2.2.2.2.2.1, pw_cell_below h hX8.2.2.2.2.2.2.2.2.1, pw_cell_below h hX8.2.2.2.2.2.2.2.2.2⟩ : World.cell? _ (⟨q9, 0, none⟩ : Addr) = some (.int .i64 kd) ∧ World.cell? _ (⟨q9, 1, none⟩ : Addr) = some (.int .i64 nj) ∧ World.cell? _ (⟨q9, 2, none⟩ : Addr) = some (.slice An xj.length cn9) ∧ World.cell? _ (⟨g12, 0, none⟩ : Addr) = some (.int .i64 o) ∧ World.cell? _ (⟨g12, 1, none⟩ : Addr) = some (.string a) ∧ World.cell? _ (⟨g12, 2, none⟩ : Addr) = some (.string b) ∧ World.cell? _ (⟨g12, 3, none⟩ : Addr) = some (.int .i64 cn) ∧ World.cell? _ ad13 = some (.int .i64 code) ∧ World.cell? _ (⟨ad13.block, ad13.off + 1, none⟩ : Addr) = some (.string text) ∧ World.cell? _ (⟨ad13.block, ad13.off + 2, none⟩ : Addr) = some (.int .i64 rn))) HB8.out
        refine hK.out _ _ ⟨hX.1, hX.2.1, hX.2.2.1, hX.2.2.2.1, hX.2.2.2.2.1, hX.2.2.2.2.2.1, hX.2.2.2.2.2.2.1, hX.2.2.2.2.2.2.2.1, hX.2.2.2.2.2.2.2.2.1, hX.2.2.2.2.2.2.2.2.2⟩ (fun hHeld => ?_)
        clear hK K
        refine nm_ (some 14) ?_
        refine last_ (i := 6) (N := none) #[true,true,true,true,true,true,true] rfl rfl (by kernel_rfl) (by decide) (fun K hK => ?_)
        have x0 := (kcl HX8.out 0).trans rfl
        have x1 := (kcl HX8.out 1).trans rfl
        have x2 := (kcl HX8.out 2).trans rfl
        have x3 := (kcl HX8.out 3).trans rfl
        have x4 := (kcl HX8.out 4).trans rfl
        have x5 := (kcl HX8.out 5).trans rfl
        have x6 := (kcl HX8.out 6).trans rfl
        have f0 := kfr HX8.out 0
        have f1 := kfr HX8.out 1
        have f2 := kfr HX8.out 2
        have f3 := kfr HX8.out 3
        have f4 := kfr HX8.out 4
        have f5 := kfr HX8.out 5
        have f6 := kfr HX8.out 6
        refine skip_ (w1 := ?_) (by rfl) rfl ?_ ?_
        rotate_left
        · go_simp
          rfl
        refine hK.out _ _ ?_
        clear hK K
        refine done_ (by kernel_rfl) ?_
        have hB18 : Below w17.heap.size w17 (w17.alloc (.cells #[.int .i64 o, .string a, .string b, .int .i64 cn, .int .i64 code, .string text, .int .i64 rn] 49)) := bal (Below.refl _ _) _
        have hb14 : (w17.alloc (.cells #[.int .i64 o, .string a, .string b, .int .i64 cn, .int .i64 code, .string text, .int .i64 rn] 49)).heap[w17.heap.size]? = some (.cells #[.int .i64 o, .string a, .string b, .int .i64 cn, .int .i64 code, .string text, .int .i64 rn] 49 (0, 0)) := blk_new w17 _
        have HNE14 := Aside0.mk (show ∀ k, u8.ownBlock = some k → k < w17.heap.size from fun k hk => (R_lt (Kd.R_own HLS15.out.rs).choose_spec k hk).1)
        have HLS18 := Aside0.mk (HLS15.out.step hB18)
        have HB12f := Aside0.mk (kbl HB12e.out hB18)
        have HR13f := Aside0.mk (Kd.R_below HR13e.out hB18)
        have HB14 := Aside0.mk hb14
        clear hX
        generalize w17.heap.size = g14 at hb14 HB14 HNE14 ⊢
        generalize w17.alloc (.cells #[.int .i64 o, .string a, .string b, .int .i64 cn, .int .i64 code, .string text, .int .i64 rn] 49) = w18 at hB18 hb14 HB14 HLS18 HB12f HR13f ⊢
        clear hB18 hb14 HXD HLS15 HB12e HR13e HLS
        have b0 := (kcl HB14.out 0).trans rfl
        have b1 := (kcl HB14.out 1).trans rfl
        have b2 := (kcl HB14.out 2).trans rfl
        have b3 := (kcl HB14.out 3).trans rfl
        have b4 := (kcl HB14.out 4).trans rfl
        have b5 := (kcl HB14.out 5).trans rfl
        have b6 := (kcl HB14.out 6).trans rfl
        go_upto_region 17 with ((with_reducible refine gate_builtin (b := .append) (xs := #[.tmp 73, .tmp 75]) rfl ?_); at_builtin; refine Kd.R_append kStp (w0 := w) w.heap.size rfl (.tmp 73) (.tmp 75) 35 49 (.agg #[.int .i64 0, .string ⟨#[]⟩, .string ⟨#[]⟩, .int .i64 0, .int .i64 0, .string ⟨#[]⟩, .int .i64 0]) 80 rfl Try.underlying35 infoStp rfl (by decide) (by omega) u8 ss (⟨o, a, b, cn, code, text, rn⟩ : Stp) [.int .i64 o, .string a, .string b, .int .i64 cn, .int .i64 code, .string text, .int .i64 rn] (fun _ => True) (fun _ => False) rfl (by first | (go_simp; done) | (go_simp; rfl)) ?aP (fun _ hk => hk.elim) ?aF ?aO ?aB ?aS ?aL ?_; (case aP => exact kStp_mkM _ _ _ (⟨o, a, b, cn, code, text, rn⟩ : Stp)); (case aB => exact HLS18.out.below); (case aF => exact (fun _ _ => trivial)); (case aO => exact HLS18.out.rs); (case aS => exact HLS18.out.below.size); (case aL => have := HLM.out.len; omega); intro v8 w19 ho hb hg hat; have HG19 := Aside0.mk hg; have HO19 := Aside0.mk ho; have HB19 := Aside0.mk hb; clear ho hb hg hat)
        have HLS19 := Aside0.mk (HLS18.out.appS HB19.out HG19.out HO19.out)
        have HB14b := Aside0.mk (blk_grown HB14.out HG19.out (fun e => by have := HNE14.out g14 e.symm; omega))
        have HB12g := Aside0.mk (blk_grown HB12f.out HG19.out (Kd.R_ne HLS18.out.rs HB12f.out (by decide)))
        have HR13g := Aside0.mk (Kd.R_over HR13f.out HLS18.out.rs (by
          intro t h
          rw [show (47 :: k47.E) = [47] from by first | rfl | decide | simp [k47]] at h
          simp only [List.mem_singleton] at h
          subst h
          decide) HG19.out)
        clear HLS18 HB12f HR13f HB14 HNE14 HG19 HB19 HO19 b0 b1 b2 b3 b4 b5 b6
        have b0 := (kcl HB14b.out 0).trans rfl
        have b1 := (kcl HB14b.out 1).trans rfl
        have b2 := (kcl HB14b.out 2).trans rfl
        have b3 := (kcl HB14b.out 3).trans rfl
        have b4 := (kcl HB14b.out 4).trans rfl
        have b5 := (kcl HB14b.out 5).trans rfl
        have b6 := (kcl HB14b.out 6).trans rfl
        go_wp2_with fail
        refine (listAdd.calls q7 vl (ss.map (entOf objX)) ⟨#[120]⟩ ⟨o, a, b, cn, code, text, rn⟩ w w19 HLS19.out.below (by have := HLS19.out.g5; have := HLS19.out.l6; have := HLS19.out.l7; omega) HLS19.out.b7 HLS19.out.rl (by rw [List.length_map]; have := HLM.out.len; omega)).mono ?_
        rintro e w21 ⟨rfl, vl', w20, rfl, hb20, hR20, hB20, hG20⟩
        have HLS20 := Aside0.mk (HLS19.out.appL (x := ⟨o, a, b, cn, code, text, rn⟩) hb20 hB20 hG20 hR20)
        have HB12h := Aside0.mk (blk_far (p := ⟨q7, 0, none⟩) (blk_grown HB12g.out hG20 (Kd.R_ne HLS19.out.rl HB12g.out (by decide))) (by have := HLS19.out.l9; have := HQ12.out; show g12 ≠ q7; omega) vl')
        have htR : ∀ (t : Nat), 47 ≠ t → ∀ u, u ∈ 47 :: k47.E → u ≠ t := by
          intro t ht u h
          rw [show (47 :: k47.E) = [47] from by first | rfl | decide | simp [k47]] at h
          simp only [List.mem_singleton] at h
          subst h
          exact ht
        have HR13h := Aside0.mk (Kd.R_set (Kd.R_over HR13g.out HLS19.out.rl (htR _ (by decide)) hG20) hb20 (htR _ (by decide)) 0 vl')
        clear hb20 hR20 hB20 hG20 HLS19 HB12g HR13g HB14b b0 b1 b2 b3 b4 b5 b6 htR
        go_upto_region 18 with fail
        generalize w20.setCell ⟨q7, 0, none⟩ vl' = w21 at HLS20 HB12h HR13h ⊢
        obtain ⟨A13', c13', he13, hc13, hC13⟩ := Kd.R_reads HR13h.out
        injection he13 with he13a he13b he13c
        subst he13a
        obtain ⟨ad13', e13, r0, r1, r2⟩ := at_T47 hC13 0 (by omega) (by simp only [List.length_cons]; omega)
        cases e13
        rw [show ((0 : Int)).toNat * 3 = 0 from rfl, Addr.add_zero'] at r0 r1 r2
        rw [show rd_T47 ((⟨code, text, rn⟩ : Rs) :: ls) 0 = ⟨code, text, rn⟩ from rfl] at r0 r1 r2
        clear hC13 hc13 he13b he13c
        have hX : w21.drew.cell? ⟨q9, 0, none⟩ = some (.int .i64 kd) ∧ w21.drew.cell? ⟨q9, 1, none⟩ = some (.int .i64 nj) ∧ w21.drew.cell? ⟨q9, 2, none⟩ = some (.slice An xj.length cn9) ∧ w21.drew.cell? ⟨g12, 0, none⟩ = some (.int .i64 o) ∧ w21.drew.cell? ⟨g12, 1, none⟩ = some (.string a) ∧ w21.drew.cell? ⟨g12, 2, none⟩ = some (.string b) ∧ w21.drew.cell? ⟨g12, 3, none⟩ = some (.int .i64 cn) ∧ w21.drew.cell? ad13 = some (.int .i64 code) ∧ w21.drew.cell? ⟨ad13.block, ad13.off + 1, none⟩ = some (.string text) ∧ w21.drew.cell? ⟨ad13.block, ad13.off + 2, none⟩ = some (.int .i64 rn) := ⟨(kcl HLS20.out.b9 0).trans rfl, (kcl HLS20.out.b9 1).trans rfl, (kcl HLS20.out.b9 2).trans rfl, (kcl HB12h.out 0).trans rfl, (kcl HB12h.out 1).trans rfl, (kcl HB12h.out 2).trans rfl, (kcl HB12h.out 3).trans rfl, r0, r1, r2⟩
        have HLS21 := Aside0.mk (HLS20.out.step (below_drew (Below.refl _ _)))
        clear r0 r1 r2 HB12h HR13h HLS20
        obtain ⟨Am, cm, hvm, hcm, hCm⟩ := Kd.R_reads HLS21.out.rn
        injection hvm with hm1 hm2 hm3
        subst hm1
        subst hm3
        have HCM := Aside0.mk hCm
        have Hcm := Aside0.mk hcm
        have HLX := Aside0.mk (show xj.length < 1000000 by have := HLM.out.ok.len; omega)
        clear hCm hcm hm2
        refine start_ (n := 7) (S := fun w' => w'.cell? ⟨q9, 0, none⟩ = some (.int .i64 kd) ∧ w'.cell? ⟨q9, 1, none⟩ = some (.int .i64 nj) ∧ w'.cell? ⟨q9, 2, none⟩ = some (.slice An xj.length cn9) ∧ w'.cell? ⟨g12, 0, none⟩ = some (.int .i64 o) ∧ w'.cell? ⟨g12, 1, none⟩ = some (.string a) ∧ w'.cell? ⟨g12, 2, none⟩ = some (.string b) ∧ w'.cell? ⟨g12, 3, none⟩ = some (.int .i64 cn) ∧ w'.cell? ad13 = some (.int .i64 code) ∧ w'.cell? ⟨ad13.block, ad13.off + 1, none⟩ = some (.string text) ∧ w'.cell? ⟨ad13.block, ad13.off + 2, none⟩ = some (.int .i64 rn)) (ds := [6]) #[false,false,false,false,false,false,false] (by kernel_rfl) rfl rfl ⟨hX.1, hX.2.1, hX.2.2.1, hX.2.2.2.1, hX.2.2.2.2.1, hX.2.2.2.2.2.1, hX.2.2.2.2.2.2.1, hX.2.2.2.2.2.2.2.1, hX.2.2.2.2.2.2.2.2.1, hX.2.2.2.2.2.2.2.2.2⟩ (fun hHeld => ?_)
        generalize w21.drew = w22 at HLS21 HCM hX hHeld ⊢
        refine pu_ 2 (some 81) #[false,false,true,false,false,false,false] ?_
        refine pu_ 3 (some 82) #[false,false,true,true,false,false,false] ?_
        refine tk_ 0 (some 79) #[true,false,true,true,false,false,false] hHeld ?_
        refine tk_ 1 (some 80) #[true,true,true,true,false,false,false] hHeld ?_
        refine tk_ 4 (some 83) #[true,true,true,true,true,false,false] hHeld ?_
        refine one_ (i := 5) (N := some 84) #[true,true,true,true,true,true,false] rfl rfl (by kernel_rfl) (by decide) (fun K hK => ?_)
        refine goes_ Try.func11 (by kernel_rfl) rfl #[.agg #[.int .i64 kd, .int .i64 nj, .slice An xj.length cn9], .agg #[.int .i64 o, .string a, .string b, .int .i64 cn], .agg #[.int .i64 code, .string text, .int .i64 rn]] (by rfl) rfl rfl (by (try simp only [List.map_toArray, List.map_cons, List.map_nil]); first | done | rfl | (simp only [Act.eval, Array.getD_eq_getD_getElem?, Option.getD_some, *]; done)) ?_
        with_reducible refine (adtApply.calls kd nj An cn9 xj o a b cn code text rn _ HCM.out Hcm.out HLX.out).mono ?_
        rintro e w23 ⟨v23, rfl, hO23, hB23⟩
        refine ⟨_, rfl, ?_⟩
        have HNOW := Aside0.mk (HLS21.out.now (n' := (applyR kd nj xj o a b cn code text).1) hB23 hO23)
        have HLS23 := Aside0.mk (HLS21.out.step hB23)
        obtain ⟨A23, m23, c23, hv23⟩ : ∃ A23 m23 c23, v23 = .slice A23 m23 c23 := by
          rcases hO23 with ⟨h, -⟩ | h
          · exact ⟨_, _, _, h⟩
          · obtain ⟨A3, c3, h⟩ := Kd.R_slice h
            exact ⟨_, _, _, h⟩
        subst hv23
        have hX2 := hX
        clear hX
        have hX := (⟨pw_cell_below hB23 hX2.1, pw_cell_below hB23 hX2.2.1, pw_cell_below hB23 hX2.2.2.1, pw_cell_below hB23 hX2.2.2.2.1, pw_cell_below hB23 hX2.2.2.2.2.1, pw_cell_below hB23 hX2.2.2.2.2.2.1, pw_cell_below hB23 hX2.2.2.2.2.2.2.1, pw_cell_below hB23 hX2.2.2.2.2.2.2.2.1, pw_cell_below hB23 hX2.2.2.2.2.2.2.2.2.1, pw_cell_below hB23 hX2.2.2.2.2.2.2.2.2.2⟩ : w23.cell? ⟨q9, 0, none⟩ = some (.int .i64 kd) ∧ w23.cell? ⟨q9, 1, none⟩ = some (.int .i64 nj) ∧ w23.cell? ⟨q9, 2, none⟩ = some (.slice An xj.length cn9) ∧ w23.cell? ⟨g12, 0, none⟩ = some (.int .i64 o) ∧ w23.cell? ⟨g12, 1, none⟩ = some (.string a) ∧ w23.cell? ⟨g12, 2, none⟩ = some (.string b) ∧ w23.cell? ⟨g12, 3, none⟩ = some (.int .i64 cn) ∧ w23.cell? ad13 = some (.int .i64 code) ∧ w23.cell? ⟨ad13.block, ad13.off + 1, none⟩ = some (.string text) ∧ w23.cell? ⟨ad13.block, ad13.off + 2, none⟩ = some (.int .i64 rn))
        clear hX2 hO23 hB23
        refine hK.out _ _ ⟨hX.1, hX.2.1, hX.2.2.1, hX.2.2.2.1, hX.2.2.2.2.1, hX.2.2.2.2.2.1, hX.2.2.2.2.2.2.1, hX.2.2.2.2.2.2.2.1, hX.2.2.2.2.2.2.2.2.1, hX.2.2.2.2.2.2.2.2.2⟩ (fun hHeld => ?_)
        clear hK K
        refine nm_ (some 84) ?_
        refine last_ (i := 6) (N := none) #[true,true,true,true,true,true,true] rfl rfl (by kernel_rfl) (by decide) (fun K hK => ?_)
        have x0 := (kcl HLS23.out.b9 0).trans rfl
        have x1 := (kcl HLS23.out.b9 1).trans rfl
        have x2 := (kcl HLS23.out.b9 2).trans rfl
        have f0 := kfr HLS23.out.b9 0
        have f1 := kfr HLS23.out.b9 1
        have f2 := kfr HLS23.out.b9 2
        refine skip_ (w1 := ?_) (by rfl) rfl ?_ ?_
        rotate_left
        · go_simp
          rfl
        refine hK.out _ _ ?_
        clear hK K
        refine done_ (by kernel_rfl) ?_
        have HLM2 := Aside0.mk (HLM.out.next HCO.out HAN.out (HFO.out _ _ rfl) (HRM0.out HQR.out).1 (HRM0.out HQR.out).2)
        dsimp only at HLM2
        clear HLS21 HLS23 HCM hX x0 x1 x2 f0 f1 f2 HLM HAN HFO HRM0
        generalize applyR kd nj xj o a b cn code text = y at HNOW HLM2 ⊢
        obtain ⟨n24, xs24⟩ := y
        dsimp only at HNOW HLM2 ⊢
        generalize ((w23.setCell ⟨q9, 0, none⟩ (.int .i64 kd)).setCell ⟨q9, 1, none⟩ (.int .i64 n24)).setCell ⟨q9, 2, none⟩ (.slice A23 m23 c23) = w24 at HNOW ⊢
        obtain ⟨A24, c24, hv24, hc24, hC24⟩ := Kd.R_reads HNOW.out.rn
        injection hv24 with h24a h24b h24c
        subst h24a
        subst h24b
        subst h24c
        obtain ⟨kC, hC⟩ := Ev.rounds (check_f kd n24 xs24 HLM2.out.ok)
        have HCK := Aside0.mk hC
        have HC24 := Aside0.mk hC24
        have Hc24 := Aside0.mk hc24
        clear hC hC24 hc24
        have z0 := (kcl HNOW.out.b9 0).trans rfl
        have z1 := (kcl HNOW.out.b9 1).trans rfl
        have z2 := (kcl HNOW.out.b9 2).trans rfl
        go_wp2_with fail
        refine (value_State_Check.calls kC kd n24 _ _ xs24 0 _ HC24.out Hc24.out HCK.out).mono ?_
        rintro e w25 ⟨rfl, hB25⟩
        have HLS25 := Aside0.mk (HNOW.out.step hB25)
        clear hB25 HNOW HC24 Hc24 HCK z0 z1 z2
        have k1 := K1.out
        go_wp2
        clear k1
        go_roundw
        case rel => exact ⟨i + 1, n24, _, xs24, _, _, by go_num, q2', HLS25, HLM2⟩
        case measure => simp [intOf]; omega
  case rest =>
    obtain ⟨nj, vn, xj, vl, ss, HLS, HLM⟩ := hcut
    have HLX0 := Aside0.mk (show xs0.length ≤ 8 from HOK.out.1.len)
    clear HOK
    obtain ⟨Ab, cb, hvb, hcb, hCb⟩ := Kd.R_reads HLS.out.rb
    injection hvb with hb1 hb2 hb3
    subst hb1
    subst hb3
    obtain ⟨Av, cv, hvs, hcv, hCv⟩ := Kd.R_reads HLS.out.rs
    subst hvs
    obtain ⟨A9, c9, hvn, hc9, hC9⟩ := Kd.R_reads HLS.out.rn
    subst hvn
    have HCb := Aside0.mk hCb
    have Hcb := Aside0.mk hcb
    have HCv := Aside0.mk hCv
    have HC9 := Aside0.mk hC9
    have Hc9 := Aside0.mk hc9
    clear hCb hcb hCv hC9 hc9 hcv hb2
    have a0 := (kcl HLS.out.b6 0).trans rfl
    have a1 := (kcl HLS.out.b6 1).trans rfl
    have a2 := (kcl HLS.out.b6 2).trans rfl
    go_wp2_with fail
    have hrun := adtRun.calls kd n0 A6 c6 xs0 Av cv ss _ HCb.out Hcb.out HCv.out HLM.out.legal
    rw [HLM.out.run] at hrun
    refine hrun.mono ?_
    rintro e w11 ⟨v15, rfl, hR15, hB11⟩
    obtain ⟨A15, c15, hv15, hc15, hC15⟩ := hR15.here hB11
    subst hv15
    have HLSb := Aside0.mk (HLS.out.step hB11)
    have HC15 := Aside0.mk hC15
    have Hc15 := Aside0.mk hc15
    have HC9b := Aside0.mk (Kd.C_below HC9.out hB11)
    have HCbb := Aside0.mk (Kd.C_below HCb.out hB11)
    clear hrun hR15 hB11 hC15 hc15 HLS HC9 HCb HCv a0 a1 a2
    go_upto_region 22 with ((with_reducible refine gds (N := 15) rfl ?_); refine bx_ (N := 15) (cs := #[.int .i64 0, .int .i64 0, .slice none 0 0]) (t := 24) ?_; intro q15 hg w12 hbox hb; have HGX := Aside0.mk hg; have HBX := Aside0.mk hbox; have HBB := Aside0.mk hb; clear hg hbox hb; have x0 := (kcl HBX.out 0).trans rfl; have f0 := kfr HBX.out 0; have x1 := (kcl HBX.out 1).trans rfl; have f1 := kfr HBX.out 1; have x2 := (kcl HBX.out 2).trans rfl; have f2 := kfr HBX.out 2)
    have h15 := set3_new HGX.out HBB.out HBX.out (.int .i64 kd) (.int .i64 nj) (.slice A15 xj.length c15)
    have HQ15 := Aside0.mk (show q9 < q15 by rw [HGX.out]; exact blk_lt HLSb.out.b9)
    generalize (((w12.setCell ⟨q15, 0, none⟩ (.int .i64 kd)).setCell ⟨q15, 1, none⟩ (.int .i64 nj)).setCell ⟨q15, 2, none⟩ (.slice A15 xj.length c15)) = w13 at h15 ⊢
    have HLS := Aside0.mk (HLSb.out.step h15.1)
    have HB15 := Aside0.mk h15.2
    have HC15b := Aside0.mk (Kd.C_below HC15.out h15.1)
    have HC9c := Aside0.mk (Kd.C_below HC9b.out h15.1)
    have HCbc := Aside0.mk (Kd.C_below HCbb.out h15.1)
    clear h15 HGX HBB HBX x0 x1 x2 f0 f1 f2 HLSb HC15 HC9b HCbb
    obtain ⟨kX, hX⟩ := Ev.rounds (text_f kd nj xj HLM.out.ok)
    obtain ⟨kP, hP⟩ := Ev.rounds (parse_f kd nj xj HLM.out.ok)
    obtain ⟨kS, hS⟩ := Ev.rounds (same_f kd nj xj (by have := HLM.out.ok.len; omega))
    have HTX := Aside0.mk hX
    have HTP := Aside0.mk hP
    have HTS := Aside0.mk hS
    clear hX hP hS
    have a0 := (kcl HLS.out.b9 0).trans rfl
    have a1 := (kcl HLS.out.b9 1).trans rfl
    have a2 := (kcl HLS.out.b9 2).trans rfl
    go_wp2_with fail
    refine (value_State_Text.calls kX kd nj A9 c9 xj _ _ HC9c.out Hc9.out HTX.out).mono ?_
    rintro e w14 ⟨rfl, hB14⟩
    have HB14 := Aside0.mk hB14
    clear hB14 a0 a1 a2
    go_wp2_with fail
    refine (value_Parse.calls kP _ kd nj xj 0 _ HTP.out).mono ?_
    rintro e w15 ⟨v17, rfl, hR17, hB15⟩
    obtain ⟨A17, c17, hv17, hc17, hC17⟩ := Kd.R_reads hR17
    subst hv17
    have HB15' := Aside0.mk (bsp HB14.out hB15)
    have HLSb := Aside0.mk (HLS.out.step HB15'.out)
    have HB15b := Aside0.mk (kbl HB15.out HB15'.out)
    have HC15c := Aside0.mk (Kd.C_below HC15b.out HB15'.out)
    have HC9d := Aside0.mk (Kd.C_below HC9c.out HB15'.out)
    have HCbd := Aside0.mk (Kd.C_below HCbc.out HB15'.out)
    have HC17 := Aside0.mk hC17
    have Hc17 := Aside0.mk hc17
    clear hR17 hB15 hC17 hc17 HB15' HB14 HLS HB15 HC15b HC9c HCbc
    go_upto_region 23 with ((with_reducible refine gds (N := 17) rfl ?_); refine bx_ (N := 17) (cs := #[.int .i64 0, .int .i64 0, .slice none 0 0]) (t := 24) ?_; intro q17 hg w16 hbox hb; have HGX := Aside0.mk hg; have HBX := Aside0.mk hbox; have HBB := Aside0.mk hb; clear hg hbox hb; have x0 := (kcl HBX.out 0).trans rfl; have f0 := kfr HBX.out 0; have x1 := (kcl HBX.out 1).trans rfl; have f1 := kfr HBX.out 1; have x2 := (kcl HBX.out 2).trans rfl; have f2 := kfr HBX.out 2)
    have h17 := set3_new HGX.out HBB.out HBX.out (.int .i64 kd) (.int .i64 nj) (.slice A17 xj.length c17)
    generalize (((w16.setCell ⟨q17, 0, none⟩ (.int .i64 kd)).setCell ⟨q17, 1, none⟩ (.int .i64 nj)).setCell ⟨q17, 2, none⟩ (.slice A17 xj.length c17)) = w17 at h17 ⊢
    have HLS := Aside0.mk (HLSb.out.step h17.1)
    have HB15 := Aside0.mk (kbl HB15b.out h17.1)
    have HB17 := Aside0.mk h17.2
    have HC15b := Aside0.mk (Kd.C_below HC15c.out h17.1)
    have HC9c := Aside0.mk (Kd.C_below HC9d.out h17.1)
    have HCbc := Aside0.mk (Kd.C_below HCbd.out h17.1)
    have HC17b := Aside0.mk (Kd.C_below HC17.out h17.1)
    clear h17 HGX HBB HBX x0 x1 x2 f0 f1 f2 HLSb HB15b HC15c HC9d HCbd HC17
    obtain ⟨AL, cL, hvl, hcL, hCL⟩ := Kd.R_reads HLS.out.rl
    subst hvl
    have HVW := Aside0.mk (show ∀ W1, Below w17.drew.heap.size w17.drew W1 → Calls Try.prog 17 #[.pointer (some ⟨q7, 0, none⟩), .string ⟨#[120]⟩, .agg #[.int .i64 kd, .int .i64 n0, .slice A6 xs0.length c6]] W1 (fun e w' => ∃ v : Value, e = .returned (.agg #[.int .i64 kd, .int .i64 nj, v]) ∧ Rd W1 w' v xj ∧ Below W1.heap.size W1 w') from fun W1 hB => by
      have hes : (ss.map (entOf objX)).map stpE = ss := by
        rw [List.map_map]
        exact List.map_id' ss
      have h := listView.calls q7 ⟨#[120]⟩ kd n0 A6 c6 xs0 AL cL (ss.map (entOf objX)) W1 (fun e he => by obtain ⟨y, -, rfl⟩ := List.mem_map.1 he; rfl) (Kd.C_below (Kd.C_drew hCL) hB) (pw_cell_below hB ((kcl (kdw HLS.out.b7) 0).trans rfl)) (Kd.C_below (Kd.C_drew HCbc.out) hB) Hcb.out (by rw [List.length_map]; have := HLM.out.len; have := HLX0.out; omega)
      rw [hes, HLM.out.run] at h
      exact h)
    clear hcL hCL
    have hX : w17.drew.cell? ⟨q15, 0, none⟩ = some (.int .i64 kd) ∧ w17.drew.cell? ⟨q15, 1, none⟩ = some (.int .i64 nj) ∧ w17.drew.cell? ⟨q15, 2, none⟩ = some (.slice A15 xj.length c15) ∧ w17.drew.cell? ⟨q9, 0, none⟩ = some (.int .i64 kd) ∧ w17.drew.cell? ⟨q9, 1, none⟩ = some (.int .i64 nj) ∧ w17.drew.cell? ⟨q9, 2, none⟩ = some (.slice A9 xj.length c9) ∧ w17.drew.cell? ⟨q6, 0, none⟩ = some (.int .i64 kd) ∧ w17.drew.cell? ⟨q6, 1, none⟩ = some (.int .i64 n0) ∧ w17.drew.cell? ⟨q6, 2, none⟩ = some (.slice A6 xs0.length c6) ∧ w17.drew.cell? ⟨q17, 0, none⟩ = some (.int .i64 kd) ∧ w17.drew.cell? ⟨q17, 1, none⟩ = some (.int .i64 nj) ∧ w17.drew.cell? ⟨q17, 2, none⟩ = some (.slice A17 xj.length c17) := ⟨(kcl HB15.out 0).trans rfl, (kcl HB15.out 1).trans rfl, (kcl HB15.out 2).trans rfl, (kcl HLS.out.b9 0).trans rfl, (kcl HLS.out.b9 1).trans rfl, (kcl HLS.out.b9 2).trans rfl, (kcl HLS.out.b6 0).trans rfl, (kcl HLS.out.b6 1).trans rfl, (kcl HLS.out.b6 2).trans rfl, (kcl HB17.out 0).trans rfl, (kcl HB17.out 1).trans rfl, (kcl HB17.out 2).trans rfl⟩
    have HXB := Aside0.mk (show ∀ W1, Below w17.drew.heap.size w17.drew W1 → W1.cell? ⟨q15, 0, none⟩ = some (.int .i64 kd) ∧ W1.cell? ⟨q15, 1, none⟩ = some (.int .i64 nj) ∧ W1.cell? ⟨q15, 2, none⟩ = some (.slice A15 xj.length c15) ∧ W1.cell? ⟨q9, 0, none⟩ = some (.int .i64 kd) ∧ W1.cell? ⟨q9, 1, none⟩ = some (.int .i64 nj) ∧ W1.cell? ⟨q9, 2, none⟩ = some (.slice A9 xj.length c9) ∧ W1.cell? ⟨q6, 0, none⟩ = some (.int .i64 kd) ∧ W1.cell? ⟨q6, 1, none⟩ = some (.int .i64 n0) ∧ W1.cell? ⟨q6, 2, none⟩ = some (.slice A6 xs0.length c6) ∧ W1.cell? ⟨q17, 0, none⟩ = some (.int .i64 kd) ∧ W1.cell? ⟨q17, 1, none⟩ = some (.int .i64 nj) ∧ W1.cell? ⟨q17, 2, none⟩ = some (.slice A17 xj.length c17) from fun W1 h => ⟨pw_cell_below h hX.1, pw_cell_below h hX.2.1, pw_cell_below h hX.2.2.1, pw_cell_below h hX.2.2.2.1, pw_cell_below h hX.2.2.2.2.1, pw_cell_below h hX.2.2.2.2.2.1, pw_cell_below h hX.2.2.2.2.2.2.1, pw_cell_below h hX.2.2.2.2.2.2.2.1, pw_cell_below h hX.2.2.2.2.2.2.2.2.1, pw_cell_below h hX.2.2.2.2.2.2.2.2.2.1, pw_cell_below h hX.2.2.2.2.2.2.2.2.2.2.1, pw_cell_below h hX.2.2.2.2.2.2.2.2.2.2.2⟩)
    have HLSd := Aside0.mk (HLS.out.step (below_drew (Below.refl _ _)))
    have HC15d := Aside0.mk (Kd.C_drew HC15b.out)
    have HC9e := Aside0.mk (Kd.C_drew HC9c.out)
    have HCbe := Aside0.mk (Kd.C_drew HCbc.out)
    have HC17c := Aside0.mk (Kd.C_drew HC17b.out)
    clear HLS HC15b HC9c HCbc HC17b HB15 HB17
    refine start_ (n := 25) (S := fun w' => w'.cell? ⟨q15, 0, none⟩ = some (.int .i64 kd) ∧ w'.cell? ⟨q15, 1, none⟩ = some (.int .i64 nj) ∧ w'.cell? ⟨q15, 2, none⟩ = some (.slice A15 xj.length c15) ∧ w'.cell? ⟨q9, 0, none⟩ = some (.int .i64 kd) ∧ w'.cell? ⟨q9, 1, none⟩ = some (.int .i64 nj) ∧ w'.cell? ⟨q9, 2, none⟩ = some (.slice A9 xj.length c9) ∧ w'.cell? ⟨q6, 0, none⟩ = some (.int .i64 kd) ∧ w'.cell? ⟨q6, 1, none⟩ = some (.int .i64 n0) ∧ w'.cell? ⟨q6, 2, none⟩ = some (.slice A6 xs0.length c6) ∧ w'.cell? ⟨q17, 0, none⟩ = some (.int .i64 kd) ∧ w'.cell? ⟨q17, 1, none⟩ = some (.int .i64 nj) ∧ w'.cell? ⟨q17, 2, none⟩ = some (.slice A17 xj.length c17)) (ds := []) #[false,false,false,false,false,false,false,false,false,false,false,false,false,false,false,false,false,false,false,false,false,false,false,false,false] (by kernel_rfl) rfl rfl ⟨hX.1, hX.2.1, hX.2.2.1, hX.2.2.2.1, hX.2.2.2.2.1, hX.2.2.2.2.2.1, hX.2.2.2.2.2.2.1, hX.2.2.2.2.2.2.2.1, hX.2.2.2.2.2.2.2.2.1, hX.2.2.2.2.2.2.2.2.2.1, hX.2.2.2.2.2.2.2.2.2.2.1, hX.2.2.2.2.2.2.2.2.2.2.2⟩ (fun hHeld => ?_)
    clear hX
    generalize w17.drew = w18 at HXB HVW HLSd HC15d HC9e HCbe HC17c hHeld ⊢
    refine pu_ 0 (some 100) #[true,false,false,false,false,false,false,false,false,false,false,false,false,false,false,false,false,false,false,false,false,false,false,false,false] ?_
    refine pu_ 1 (some 101) #[true,true,false,false,false,false,false,false,false,false,false,false,false,false,false,false,false,false,false,false,false,false,false,false,false] ?_
    refine pu_ 2 (some 102) #[true,true,true,false,false,false,false,false,false,false,false,false,false,false,false,false,false,false,false,false,false,false,false,false,false] ?_
    refine pu_ 3 (some 103) #[true,true,true,true,false,false,false,false,false,false,false,false,false,false,false,false,false,false,false,false,false,false,false,false,false] ?_
    refine pu_ 4 (some 104) #[true,true,true,true,true,false,false,false,false,false,false,false,false,false,false,false,false,false,false,false,false,false,false,false,false] ?_
    refine tk_ 5 (some 105) #[true,true,true,true,true,true,false,false,false,false,false,false,false,false,false,false,false,false,false,false,false,false,false,false,false] hHeld ?_
    refine tk_ 6 (some 106) #[true,true,true,true,true,true,true,false,false,false,false,false,false,false,false,false,false,false,false,false,false,false,false,false,false] hHeld ?_
    refine one_ (i := 7) (N := some 107) #[true,true,true,true,true,true,true,true,false,false,false,false,false,false,false,false,false,false,false,false,false,false,false,false,false] rfl rfl (by kernel_rfl) (by decide) (fun K hK => ?_)
    refine goes_ Try.func16 (by kernel_rfl) rfl #[.agg #[.int .i64 kd, .int .i64 nj, .slice A15 xj.length c15], .agg #[.int .i64 kd, .int .i64 nj, .slice A9 xj.length c9]] (by rfl) rfl rfl (by (try simp only [List.map_toArray, List.map_cons, List.map_nil]); first | done | rfl | (simp only [Act.eval, Array.getD_eq_getD_getElem?, Option.getD_some, *]; done)) ?_
    with_reducible refine (value_State_Same.calls kS kd nj A15 c15 xj kd nj A9 c9 xj true _ HC15d.out Hc15.out HC9e.out Hc9.out HTS.out).mono ?_
    rintro e w19 ⟨rfl, hB19⟩
    refine ⟨_, rfl, ?_⟩
    have HB19 := Aside0.mk hB19
    clear hB19
    have hX := HXB.out _ HB19.out
    refine hK.out _ _ ⟨hX.1, hX.2.1, hX.2.2.1, hX.2.2.2.1, hX.2.2.2.2.1, hX.2.2.2.2.2.1, hX.2.2.2.2.2.2.1, hX.2.2.2.2.2.2.2.1, hX.2.2.2.2.2.2.2.2.1, hX.2.2.2.2.2.2.2.2.2.1, hX.2.2.2.2.2.2.2.2.2.2.1, hX.2.2.2.2.2.2.2.2.2.2.2⟩ (fun hHeld => ?_)
    clear hK K
    refine nm_ (some 107) ?_
    refine pu_ 8 (some 108) #[true,true,true,true,true,true,true,true,true,false,false,false,false,false,false,false,false,false,false,false,false,false,false,false,false] ?_
    refine pu_ 9 (some 109) #[true,true,true,true,true,true,true,true,true,true,false,false,false,false,false,false,false,false,false,false,false,false,false,false,false] ?_
    refine tk_ 10 (some 110) #[true,true,true,true,true,true,true,true,true,true,true,false,false,false,false,false,false,false,false,false,false,false,false,false,false] hHeld ?_
    refine tk_ 12 (some 112) #[true,true,true,true,true,true,true,true,true,true,true,false,true,false,false,false,false,false,false,false,false,false,false,false,false] hHeld ?_
    refine one_ (i := 11) (N := some 111) #[true,true,true,true,true,true,true,true,true,true,true,true,true,false,false,false,false,false,false,false,false,false,false,false,false] rfl rfl (by kernel_rfl) (by decide) (fun K hK => ?_)
    refine goes_ Try.func17 (by kernel_rfl) rfl #[.pointer (some ⟨q7, 0, none⟩), .string ⟨#[120]⟩, .agg #[.int .i64 kd, .int .i64 n0, .slice A6 xs0.length c6]] (by rfl) rfl rfl (by (try simp only [List.map_toArray, List.map_cons, List.map_nil]); first | done | rfl | (simp only [Act.eval, Array.getD_eq_getD_getElem?, Option.getD_some, *]; done)) ?_
    with_reducible refine (HVW.out _ HB19.out).mono ?_
    rintro e w20 ⟨v20, rfl, hR20, hB20⟩
    refine ⟨_, rfl, ?_⟩
    obtain ⟨A20, c20, hv20, hc20, hC20⟩ := hR20.here hB20
    subst hv20
    have HB20 := Aside0.mk (bsp HB19.out hB20)
    have HC20 := Aside0.mk hC20
    have Hc20 := Aside0.mk hc20
    clear hR20 hB20 hc20 hC20 hX
    have hX := HXB.out _ HB20.out
    refine hK.out _ _ ⟨hX.1, hX.2.1, hX.2.2.1, hX.2.2.2.1, hX.2.2.2.2.1, hX.2.2.2.2.2.1, hX.2.2.2.2.2.2.1, hX.2.2.2.2.2.2.2.1, hX.2.2.2.2.2.2.2.2.1, hX.2.2.2.2.2.2.2.2.2.1, hX.2.2.2.2.2.2.2.2.2.2.1, hX.2.2.2.2.2.2.2.2.2.2.2⟩ (fun hHeld => ?_)
    clear hK K
    refine nm_ (some 111) ?_
    refine one_ (i := 13) (N := some 113) #[true,true,true,true,true,true,true,true,true,true,true,true,true,true,false,false,false,false,false,false,false,false,false,false,false] rfl rfl (by kernel_rfl) (by decide) (fun K hK => ?_)
    refine goes_ Try.func16 (by kernel_rfl) rfl #[.agg #[.int .i64 kd, .int .i64 nj, .slice A20 xj.length c20], .agg #[.int .i64 kd, .int .i64 nj, .slice A9 xj.length c9]] (by rfl) rfl rfl (by (try simp only [List.map_toArray, List.map_cons, List.map_nil]); first | done | rfl | (simp only [Act.eval, Array.getD_eq_getD_getElem?, Option.getD_some, *]; done)) ?_
    with_reducible refine (value_State_Same.calls kS kd nj A20 c20 xj kd nj A9 c9 xj true _ HC20.out Hc20.out (Kd.C_below HC9e.out HB20.out) Hc9.out HTS.out).mono ?_
    rintro e w21 ⟨rfl, hB21⟩
    refine ⟨_, rfl, ?_⟩
    have HB21 := Aside0.mk (bsp HB20.out hB21)
    clear hB21 hX
    have hX := HXB.out _ HB21.out
    refine hK.out _ _ ⟨hX.1, hX.2.1, hX.2.2.1, hX.2.2.2.1, hX.2.2.2.2.1, hX.2.2.2.2.2.1, hX.2.2.2.2.2.2.1, hX.2.2.2.2.2.2.2.1, hX.2.2.2.2.2.2.2.2.1, hX.2.2.2.2.2.2.2.2.2.1, hX.2.2.2.2.2.2.2.2.2.2.1, hX.2.2.2.2.2.2.2.2.2.2.2⟩ (fun hHeld => ?_)
    clear hK K
    refine nm_ (some 113) ?_
    refine pu_ 14 (some 114) #[true,true,true,true,true,true,true,true,true,true,true,true,true,true,true,false,false,false,false,false,false,false,false,false,false] ?_
    refine pu_ 15 (some 115) #[true,true,true,true,true,true,true,true,true,true,true,true,true,true,true,true,false,false,false,false,false,false,false,false,false] ?_
    refine pu_ 16 (some 116) #[true,true,true,true,true,true,true,true,true,true,true,true,true,true,true,true,true,false,false,false,false,false,false,false,false] ?_
    refine pu_ 17 (some 117) #[true,true,true,true,true,true,true,true,true,true,true,true,true,true,true,true,true,true,false,false,false,false,false,false,false] ?_
    refine pu_ 18 (some 118) #[true,true,true,true,true,true,true,true,true,true,true,true,true,true,true,true,true,true,true,false,false,false,false,false,false] ?_
    refine pu_ 19 (some 119) #[true,true,true,true,true,true,true,true,true,true,true,true,true,true,true,true,true,true,true,true,false,false,false,false,false] ?_
    refine tk_ 20 (some 120) #[true,true,true,true,true,true,true,true,true,true,true,true,true,true,true,true,true,true,true,true,true,false,false,false,false] hHeld ?_
    refine tk_ 21 (some 121) #[true,true,true,true,true,true,true,true,true,true,true,true,true,true,true,true,true,true,true,true,true,true,false,false,false] hHeld ?_
    refine one_ (i := 22) (N := some 122) #[true,true,true,true,true,true,true,true,true,true,true,true,true,true,true,true,true,true,true,true,true,true,true,false,false] rfl rfl (by kernel_rfl) (by decide) (fun K hK => ?_)
    refine goes_ Try.func16 (by kernel_rfl) rfl #[.agg #[.int .i64 kd, .int .i64 nj, .slice A17 xj.length c17], .agg #[.int .i64 kd, .int .i64 nj, .slice A9 xj.length c9]] (by rfl) rfl rfl (by (try simp only [List.map_toArray, List.map_cons, List.map_nil]); first | done | rfl | (simp only [Act.eval, Array.getD_eq_getD_getElem?, Option.getD_some, *]; done)) ?_
    with_reducible refine (value_State_Same.calls kS kd nj A17 c17 xj kd nj A9 c9 xj true _ (Kd.C_below HC17c.out HB21.out) Hc17.out (Kd.C_below HC9e.out HB21.out) Hc9.out HTS.out).mono ?_
    rintro e w22 ⟨rfl, hB22⟩
    refine ⟨_, rfl, ?_⟩
    have HB22 := Aside0.mk (bsp HB21.out hB22)
    clear hB22 hX
    have hX := HXB.out _ HB22.out
    refine hK.out _ _ ⟨hX.1, hX.2.1, hX.2.2.1, hX.2.2.2.1, hX.2.2.2.2.1, hX.2.2.2.2.2.1, hX.2.2.2.2.2.2.1, hX.2.2.2.2.2.2.2.1, hX.2.2.2.2.2.2.2.2.1, hX.2.2.2.2.2.2.2.2.2.1, hX.2.2.2.2.2.2.2.2.2.2.1, hX.2.2.2.2.2.2.2.2.2.2.2⟩ (fun hHeld => ?_)
    clear hK K
    refine nm_ (some 122) ?_
    refine pu_ 23 (some 123) #[true,true,true,true,true,true,true,true,true,true,true,true,true,true,true,true,true,true,true,true,true,true,true,true,false] ?_
    refine pu_ 24 (some 4) #[true,true,true,true,true,true,true,true,true,true,true,true,true,true,true,true,true,true,true,true,true,true,true,true,true] ?_
    refine done_ (by kernel_rfl) ?_
    go_wp2
    go_ret
    exact ⟨rfl, bsp HLSd.out.below HB22.out⟩
end Go.Proofs.Ytjiblcncadekcaa.PA

