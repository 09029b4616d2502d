import Derived.Test.YtjiblcncadekcaaGreatQOxMOutU
import Derived.WalkSpells
import Derived.Lib.SliceRun
import Derived.Laws.Externs
import Derived.Deep.RegionHeld3
import Derived.Test.YtjiblcncadekcaaGreatQOxPAx0
namespace Go.Proofs.YtjiblcncadekcaaGreat.PA
set_option linter.unusedSimpArgs false
open Go.RowKit Go.Proofs.YtjiblcncadekcaaGreatW.PrintWords Go.Proofs.YtjiblcncadekcaaGreatW.PrintLast Go.Proofs.YtjiblcncadekcaaGreatW.PrintMore Go.Proofs.YtjiblcncadekcaaGreat Go.Proofs.YtjiblcncadekcaaGreat.PL
attribute [local go_sem] Oper.semAt_some
def encR (x : S73) : List Value := [.string x.f0, .string x.f1]
theorem encR_len (x : S73) : (encR x).length = 2 := rfl
theorem encR_one (x : S73) : ∀ u ∈ encR x, u.oneCell' = true := by
  intro u hu
  simp only [encR, List.mem_cons, List.not_mem_nil, or_false] at hu
  rcases hu with rfl | rfl <;> rfl
theorem encR_M (w : World) (base : Nat) (ok : Nat → Prop) (x : S73) (cs : List Value) : k73.M w base ok x cs ↔ cs = encR x := ⟨fun h => k73_openM h, fun h => h ▸ k73_mkM w base ok x⟩
theorem rowR {w : World} {base : Nat} {v : Value} {xs : List S73} : Kd.R k73 73 w base (fun _ => True) v xs ↔ w.ownsRow base 73 2 v xs.length (encL encR xs) := rowC_iff (d := k73) encR_len encR_M
set_option maxHeartbeats 4000000 in
set_option maxRecDepth 100000 in
theorem cloneRow.calls (A0 : Option Addr) (c0 : Nat) (l0 : List S73) (w : World) (hr0 : Kd.C k73 w A0 l0.length l0) (hl : l0.length < 1000000) :
    Calls Tryz.prog 63 #[.slice A0 l0.length c0] w fun e w' => ∃ v : Value, e = .returned v ∧ Kd.R k73 73 w' w.heap.size (fun _ => True) v l0 ∧ Below w.heap.size w w' := by
  have hq : ∀ (W : World) (A : Option Addr) (n c : Nat), (binOp .eql 22 (.slice A n c) (.slice none 0 0)).run Tryz.prog W = .ok (.bool A.isNone) W := fun W A n c => Lib.run_eql_slice_nil W 22 73 A n c 0 0 Tryz.underlying22
  cases A0 with
  | none =>
    have hn : l0 = [] := by
      cases l0 with
      | nil => rfl
      | cons x l => obtain ⟨ad, e, -⟩ := hr0.2.2 (by simp); cases e
    subst hn
    clear hr0 hl
    go_enter Tryz.func63, Tryz.ntmps63
    go_wp2
    go_ret
    exact ⟨_, rfl, Kd.R_nil _ _ _ _ _, Below.refl _ _⟩
  | some ad =>
    have HR0 := Z0.mk hr0
    clear hr0
    have HB := Z0.mk (Below.refl w.heap.size w)
    have HL := Z0.mk hl
    clear hl
    go_enter Tryz.func63, Tryz.ntmps63
    go_wp2_with (first
      | ((with_reducible refine gds (N := 5) rfl ?_); refine Kd.R_lit k73 _ 73 ?hg (N := 5) ?hd (xs := ([] : List S73)) (inner := []) (ok := fun _ => True) (okp := fun _ => True) ?hr ?hp (fun _ hk => hk) trivial (Below.refl _ _) (Nat.le_refl _) (by simp) ?_; (case hd => rfl); (case hg => rfl); (case hr => first | (go_simp; done) | (go_simp; rfl)); (case hp => exact (Reps.none _ _)); intro v5 w4 ho5 hb hg_ hnew_; clear hg_ hnew_; have HO5 := Z0.mk ho5; have HB5 := Z0.mk hb; clear ho5 hb)
      | ((with_reducible refine gate_builtin (b := .append) (xs := #[.tmp 5, .tmp 6]) rfl ?_); at_builtin; refine Kd.R_append_rows k73 (Rr := k73.K w4) (w0 := w) w.heap.size rfl (.tmp 5) (.tmp 6) 22 73 (.agg #[(.string ⟨#[]⟩), (.string ⟨#[]⟩)]) 32 rfl Tryz.underlying22 info73 rfl (by decide) (by omega) v5 ([] : List S73) l0 _ _ _ (fun _ => True) (fun _ => False) rfl rfl ?aO ?aR (fun x cs h => by rw [k73_open h]; exact k73_mkM _ _ _ x) (fun _ h => h.elim) ?aF ?aB ?aS ?aL ?_; (case aR => exact Kd.C_below HR0.out HB5.out); (case aB => exact HB5.out); (case aF => exact (fun _ _ => trivial)); (case aO => exact HO5.out); (case aS => exact HB5.out.size); (case aL => have := HL.out; simp only [List.length_nil]; omega); intro v7 w6 ho hb hg hat; have HO7 := Z0.mk ho; have HB7 := Z0.mk hb; clear ho hb hg hat))
    go_ret
    exact ⟨_, rfl, HO7.out, HB7.out⟩
theorem sz_row (w : World) : (Go.sizeOf 73).run Tryz.prog w = .ok 2 w := by
  obtain ⟨i0, hi, _, h1, _⟩ := info_parts info73
  simp [sizeOf, typeInfo, hi, h1]
theorem one_C {w : World} {vb : Nat} {x : S73} (hx : w.heap[vb]? = some (.cells #[.string x.f0, .string x.f1] 73 (0, 0))) : Kd.C k73 w (some ⟨vb, 0, none⟩) 1 [x] := by
  refine ⟨rfl, by decide, fun _ => ⟨_, rfl, fun j p hj => ?_⟩⟩
  cases j with
  | zero =>
    cases hj
    refine ⟨_, rfl, k73_mk w x, fun i u hu => ?_⟩
    rw [Nat.zero_mul, Nat.zero_add, add_plain, kcl hx]
    match i, hu with
    | 0, h => exact h
    | 1, h => exact h
    | i + 2, h => simp at h
  | succ j => cases hj
set_option maxHeartbeats 4000000 in
set_option maxRecDepth 100000 in
theorem insertRow_end (v : Value) (xs : List S73) (x : S73) (vb : Nat) (w0 W : World) (hB : Below w0.heap.size w0 W) (hv : Kd.R k73 73 W w0.heap.size (fun _ => True) v xs) (hl : xs.length < 1000000) (hx : W.heap[vb]? = some (.cells #[.string x.f0, .string x.f1] 73 (0, 0))) :
    Calls Tryz.prog 62 #[v, .int .i64 (xs.length : Int), .slice (some ⟨vb, 0, none⟩) 1 1] W fun e w' => ∃ v' : Value, e = .returned v' ∧ Kd.R k73 73 w' w0.heap.size (fun _ => True) v' (xs ++ [x]) ∧ Below w0.heap.size w0 w' ∧ W.grownBy w' v.ownBlock := by
  have hz := sz_row
  have HX := Z0.mk (one_C hx)
  have HB := Z0.mk hB
  have HV := Z0.mk hv
  have HL := Z0.mk hl
  have hc : xs.length ≤ 9223372036854775807 := by omega
  obtain ⟨inner, ho⟩ := Kd.R_own hv
  clear hx hB hv hl
  rcases ho.2 with ⟨rfl, h0⟩ | ⟨g, c, cur, rfl, -, -, hle, -⟩
  · have h0' : xs = [] := List.length_eq_zero_iff.1 h0
    subst h0'
    clear ho h0
    go_enter Tryz.func62, Tryz.ntmps62
    go_wp2_with (first
      | ((with_reducible refine gate_builtin (b := .append) (xs := #[.tmp 23, .tmp 24]) rfl ?_); at_builtin; refine Kd.R_append_rows k73 (Rr := k73.K W) (w0 := w0) w0.heap.size rfl (.tmp 23) (.tmp 24) 22 73 (.agg #[(.string ⟨#[]⟩), (.string ⟨#[]⟩)]) 32 rfl Tryz.underlying22 info73 rfl (by decide) (by omega) _ [] [x] _ _ _ (fun _ => True) (fun _ => False) rfl rfl ?aO ?aR (fun x cs h => by rw [k73_open h]; exact k73_mkM _ _ _ x) (fun _ h => h.elim) ?aF ?aB ?aS ?aL ?_; (case aR => exact HX.out); (case aB => exact HB.out); (case aF => exact (fun _ _ => trivial)); (case aO => exact HV.out); (case aS => exact HB.out.size); (case aL => have := HL.out; omega); intro v7 w6 ho hb hg hat; have HO7 := Z0.mk ho; have HB7 := Z0.mk hb; have HG7 := Z0.mk hg; clear ho hb hg hat))
    go_ret
    exact ⟨_, rfl, HO7.out, HB7.out, HG7.out⟩
  · by_cases q : c = xs.length
    · subst q
      clear ho
      go_enter Tryz.func62, Tryz.ntmps62
      go_wp2_with (first
        | ((with_reducible refine gate_builtin (b := .append) (xs := #[.tmp 23, .tmp 24]) rfl ?_); at_builtin; refine Kd.R_append_rows k73 (Rr := k73.K W) (w0 := w0) w0.heap.size rfl (.tmp 23) (.tmp 24) 22 73 (.agg #[(.string ⟨#[]⟩), (.string ⟨#[]⟩)]) 32 rfl Tryz.underlying22 info73 rfl (by decide) (by omega) _ xs [x] _ _ _ (fun _ => True) (fun _ => False) rfl rfl ?aO ?aR (fun x cs h => by rw [k73_open h]; exact k73_mkM _ _ _ x) (fun _ h => h.elim) ?aF ?aB ?aS ?aL ?_; (case aR => exact HX.out); (case aB => exact HB.out); (case aF => exact (fun _ _ => trivial)); (case aO => exact HV.out); (case aS => exact HB.out.size); (case aL => have := HL.out; omega); intro v7 w6 ho hb hg hat; have HO7 := Z0.mk ho; have HB7 := Z0.mk hb; have HG7 := Z0.mk hg; clear ho hb hg hat))
      go_ret
      exact ⟨_, rfl, HO7.out, HB7.out, HG7.out⟩
    · have q2 : ¬ (xs.length = c) := fun e => q e.symm
      have q3 : (xs.length : Int) ≤ (c : Int) := by omega
      clear ho
      go_enter Tryz.func62, Tryz.ntmps62
      go_wp2_with (first
        | ((with_reducible refine gate_builtin (b := .append) (xs := #[.tmp 23, .tmp 24]) rfl ?_); at_builtin; refine Kd.R_append_rows k73 (Rr := k73.K W) (w0 := w0) w0.heap.size rfl (.tmp 23) (.tmp 24) 22 73 (.agg #[(.string ⟨#[]⟩), (.string ⟨#[]⟩)]) 32 rfl Tryz.underlying22 info73 rfl (by decide) (by omega) _ xs [x] _ _ _ (fun _ => True) (fun _ => False) rfl rfl ?aO ?aR (fun x cs h => by rw [k73_open h]; exact k73_mkM _ _ _ x) (fun _ h => h.elim) ?aF ?aB ?aS ?aL ?_; (case aR => exact HX.out); (case aB => exact HB.out); (case aF => exact (fun _ _ => trivial)); (case aO => exact HV.out); (case aS => exact HB.out.size); (case aL => have := HL.out; omega); intro v7 w6 ho hb hg hat; have HO7 := Z0.mk ho; have HB7 := Z0.mk hb; have HG7 := Z0.mk hg; clear ho hb hg hat))
      go_ret
      exact ⟨_, rfl, HO7.out, HB7.out, HG7.out⟩
theorem overlaps_no (W : World) (vb g lb cb lc cc o : Nat) (x : S73) (cur : Array Value) (hx : W.heap[vb]? = some (.cells #[.string x.f0, .string x.f1] 73 (0, 0))) (hg : W.heap[g]? = some (.cells cur 73 (0, 0))) (hc : cur.size ≠ 0) (hne : vb ≠ g) :
    (callFunc 75 #[.slice (some ⟨vb, 0, none⟩) lc cc, .slice (some ⟨g, o, none⟩) lb cb]).run Tryz.prog W = .ok (.value (.bool false)) W := by
  rw [run_callFunc_extern Tryz.func75 (by kernel_rfl) (by kernel_rfl) (by kernel_rfl) (e := Extern.SlicesOverlaps.overlaps #[22, 22] #[4]) (by kernel_rfl),
    Lib.run_overlaps_apart W 22 4 73 Tryz.underlying22 2 sz_row ⟨vb, 0, none⟩ ⟨g, o, none⟩ lc cc lb cb hne 73 73 2 cur.size (by simp [World.shape?, hx]) (by simp [World.shape?, hg]) hc (kfr hx 0) (kfr hx 2)]
  rfl
set_option maxHeartbeats 4000000 in
set_option maxRecDepth 100000 in
theorem insertRow_shift_walk (g c i n vb : Nat) (W W1 W2 : World) (hi : i < n) (hroom : n + 1 ≤ c) (hcm : c ≤ maxLen)
    (hov : ∀ o lb cb, (callFunc 75 #[.slice (some ⟨vb, 0, none⟩) 1 1, .slice (some ⟨g, o, none⟩) lb cb]).run Tryz.prog W = .ok (.value (.bool false)) W)
    (HCP1 : Z0 (∀ ty dc sc, (Builtin.copy_ #[22, 22] ty #[.slice (some ⟨g, (i + 1) * 2, none⟩) (n + 1 - (i + 1)) dc, .slice (some ⟨g, i * 2, none⟩) (n + 1 - i) sc]).run Tryz.prog W.drew = .ok (goInt (Nat.min (n + 1 - i) (n + 1 - (i + 1)))) W1))
    (HCP2 : Z0 (∀ ty dc, (Builtin.copy_ #[22, 22] ty #[.slice (some ⟨g, i * 2, none⟩) (n + 1 - i) dc, .slice (some ⟨vb, 0, none⟩) 1 1]).run Tryz.prog W1 = .ok (goInt (Nat.min 1 (n + 1 - i))) W2)) :
    Calls Tryz.prog 62 #[.slice (some ⟨g, 0, none⟩) n c, .int .i64 (i : Int), .slice (some ⟨vb, 0, none⟩) 1 1] W fun e w' => e = .returned (.slice (some ⟨g, 0, none⟩) (n + 1) c) ∧ w' = W2 := by
  have hz := sz_row
  unfold maxLen at hcm
  have e1 : wrap64 ((n : Int) + 1) = (n : Int) + 1 := by unfold wrap64; omega
  have e2 : wrap64 ((i : Int) + 1) = (i : Int) + 1 := by unfold wrap64; omega
  have hz2 : ¬ ((i : Int) = (n : Int)) := by omega
  have b1 : (i : Int) ≤ (n : Int) := by omega
  have b2 : (n : Int) ≤ (c : Int) := by omega
  have b3 : (n : Int) + 1 ≤ (c : Int) := by omega
  have b4 : ((n : Int) + 1).toNat = n + 1 := by omega
  have b5 : ((i : Int) + 1).toNat = i + 1 := by omega
  have b6 : (i : Int) + 1 ≤ (n : Int) + 1 := by omega
  have b7 : ¬ (c = i) := by omega
  have b8 : ¬ (c = i + 1) := by omega
  have b9 : ¬ ((c : Int) < (n : Int) + 1) := by omega
  have b10 : (0 : Int) ≤ (i : Int) + 1 := by omega
  have b11 : (0 : Int) ≤ (n : Int) + 1 := by omega
  have b12 : (i : Int) ≤ (n : Int) + 1 := by omega
  have k1 : IntKind.i64.wrap ((i : Int) + 1) = (i : Int) + 1 := by rw [IntKind.wrap_i64]; omega
  go_enter Tryz.func62, Tryz.ntmps62
  go_wp2_with (simp only [hov])
  go_region_law (refine step_copy_runN rfl _ _ 22 22 rfl _ _ (by simp [Act.eval, Act.put]) (by simp [Act.eval, Act.put]) (HCP1.out _ (c - (i + 1)) (c - i)) ?_)
  have hcp2 := HCP2.out
  go_wp2
  go_ret
  exact ⟨rfl, rfl⟩
set_option maxHeartbeats 4000000 in
set_option maxRecDepth 100000 in
theorem insertRow_shift (g c i : Nat) (cur : Array Value) (xs : List S73) (x : S73) (vb : Nat) (w0 W : World) (hB : Below w0.heap.size w0 W) (hbg : w0.heap.size ≤ g) (hg : W.heap[g]? = some (.cells cur 73 (0, 0))) (hroom : xs.length + 1 ≤ c) (hcm : c ≤ maxLen) (hcs : cur.size = c * 2) (htk : cur.toList.take (xs.length * 2) = encL encR xs) (hi : i < xs.length) (hl : xs.length < 1000000) (hx : W.heap[vb]? = some (.cells #[.string x.f0, .string x.f1] 73 (0, 0))) (hne : vb ≠ g) :
    Calls Tryz.prog 62 #[.slice (some ⟨g, 0, none⟩) xs.length c, .int .i64 (i : Int), .slice (some ⟨vb, 0, none⟩) 1 1] W fun e w' => ∃ v' : Value, e = .returned v' ∧ Kd.R k73 73 w' w0.heap.size (fun _ => True) v' (xs.take i ++ x :: xs.drop i) ∧ Below w0.heap.size w0 w' ∧ W.grownBy w' (some g) := by
  obtain ⟨n, hn⟩ : ∃ n, n = xs.length := ⟨_, rfl⟩
  rw [← hn] at hroom htk hi hl ⊢
  have hov := fun o lb cb => overlaps_no W vb g lb cb 1 1 o x cur hx hg (by omega) hne
  obtain ⟨i0, hi0, -, hs0, -⟩ := info_parts info73
  have hEl : (encL encR xs).length = n * 2 := by rw [encL_length encR_len, hn]
  have hdl : ((encL encR xs).drop (i * 2)).length = (n - i) * 2 := by rw [List.length_drop, hEl]; omega
  obtain ⟨c1, hc1⟩ : ∃ c1 : List Value, c1 = cur.toList.take (i * 2 + 2) ++ (encL encR xs).drop (i * 2) ++ cur.toList.drop (i * 2 + 2 + (n * 2 - i * 2)) := ⟨_, rfl⟩
  obtain ⟨W1, hW1⟩ : ∃ W1, W1 = W.drew.setRow g c1.toArray := ⟨_, rfl⟩
  have hg1 : W1.heap[g]? = some (.cells c1.toArray 73 (0, 0)) := by rw [hW1]; exact setRow_heap W.drew g cur _ 73 _ hg
  have hx1 : W1.heap[vb]? = some (.cells #[.string x.f0, .string x.f1] 73 (0, 0)) := by rw [hW1, setRow_other W.drew g vb _ hne]; exact hx
  have hc1s : c1.length = c * 2 := by rw [hc1]; simp only [List.length_append, List.length_take, List.length_drop, Array.length_toList, hEl, hcs]; omega
  have hcp1 : ∀ ty dc sc, (Builtin.copy_ #[22, 22] ty #[.slice (some ⟨g, (i + 1) * 2, none⟩) (n + 1 - (i + 1)) dc, .slice (some ⟨g, i * 2, none⟩) (n + 1 - i) sc]).run Tryz.prog W.drew = .ok (goInt (Nat.min (n + 1 - i) (n + 1 - (i + 1)))) W1 := fun ty dc sc => by
    have h := run_copy_rowN (P := Tryz.prog) W.drew 22 22 ty 73 i0 g ((i + 1) * 2) (n + 1 - (i + 1)) dc ⟨g, i * 2, none⟩ (n + 1 - i) sc cur ((encL encR xs).drop (i * 2)) Tryz.underlying22 hi0 hg
      (by rw [hdl, hs0]; simp only [Nat.min_def]; split <;> omega)
      (fun j v hj => by
        rw [Addr.add_lit]
        have hb := kcl (w := W.drew) hg (i * 2 + j)
        rw [hb, ← Array.getElem?_toList]
        rw [List.getElem?_drop, ← htk, List.getElem?_take] at hj
        split at hj
        · exact hj
        · cases hj)
      (by rw [hdl, hcs]; omega) (fun v hv => encL_one encR_one xs v (List.mem_of_mem_drop hv))
    rw [h, hW1, hc1, hdl, show (i + 1) * 2 = i * 2 + 2 by omega, show (n - i) * 2 = n * 2 - i * 2 by omega]
  have hcp2 : ∀ ty dc, (Builtin.copy_ #[22, 22] ty #[.slice (some ⟨g, i * 2, none⟩) (n + 1 - i) dc, .slice (some ⟨vb, 0, none⟩) 1 1]).run Tryz.prog W1 = .ok (goInt (Nat.min 1 (n + 1 - i))) (W1.setRow g (c1.take (i * 2) ++ encR x ++ c1.drop (i * 2 + 2)).toArray) := fun ty dc => by
    have h := run_copy_rowN (P := Tryz.prog) W1 22 22 ty 73 i0 g (i * 2) (n + 1 - i) dc ⟨vb, 0, none⟩ 1 1 c1.toArray (encR x) Tryz.underlying22 hi0 hg1
      (by rw [encR_len, hs0]; simp only [Nat.min_def]; split <;> omega)
      (fun j v hj => by
        rw [Addr.add_lit, Nat.zero_add, kcl hx1]
        match j, hj with
        | 0, h => exact h
        | 1, h => exact h
        | j + 2, h => simp [encR] at h)
      (by rw [encR_len, List.size_toArray, hc1s]; omega) (encR_one x)
    rw [h]
    simp [encR_len]
  have HCP1 := Z0.mk hcp1
  have HCP2 := Z0.mk hcp2
  clear hcp1 hcp2
  have HI := Z0.mk (show ((c1.take (i * 2) ++ encR x ++ c1.drop (i * 2 + 2)).take ((n + 1) * 2) = encL encR (xs.take i ++ x :: xs.drop i)) by
    have h := ins_cells cur.toList (encL encR xs) (encR x) (i * 2) (n * 2) 2 htk (by omega) (encR_len x) (by rw [Array.length_toList, hcs]; omega)
    rw [← hc1, encR_len] at h
    rw [show (n + 1) * 2 = n * 2 + 2 by omega, h, encL_take encR_len, encL_drop encR_len]
    simp [encL])
  refine (insertRow_shift_walk g c i n vb W W1 _ hi hroom hcm hov HCP1 HCP2).mono ?_
  rintro e w' ⟨rfl, rfl⟩
  refine ⟨_, rfl, rowR.2 ?_, below_setRow (by rw [hW1]; exact below_setRow (below_drew hB) hbg _) hbg _, grown_two (w1 := W1) (by rw [hW1]; exact grown_two (grown_drew W _) (grown_setRow W.drew g _)) (grown_setRow W1 g _)⟩
  have hlen : (xs.take i ++ x :: xs.drop i).length = n + 1 := by simp only [List.length_append, List.length_take, List.length_cons, List.length_drop]; omega
  rw [hlen]
  have ho := own_write (w := W1) (base := w0.heap.size) (sz := 2) (n := n + 1) (cap := c) (cur := c1.toArray) (cs := encL encR (xs.take i ++ x :: xs.drop i)) hbg hg1 hroom hcm (by rw [List.size_toArray]; exact hc1s) (i * 2) (encR x) (by rw [encR_len, List.size_toArray, hc1s]; omega)
    (by rw [encR_len]; exact HI.out) (by rw [encL_length encR_len, hlen])
  rw [encR_len] at ho
  exact ho
set_option maxHeartbeats 4000000 in
set_option maxRecDepth 100000 in
theorem insertRow_grow_walk (g i n vb G C : Nat) (W W1 W2 W3 : World) (hi : i < n) (hn : n < 1000000) (hC : n + 1 ≤ C) (hCm : C ≤ maxLen)
    (HAP : Z0 (∀ ty, (Builtin.append_ #[22, 3] ty #[.slice (some ⟨g, 0, none⟩) i n, .int .i64 ((n : Int) + 1 - (i : Int))]).run Tryz.prog W = .ok (.slice (some ⟨G, 0, none⟩) (n + 1) C) W1))
    (HCP1 : Z0 (∀ ty dc, (Builtin.copy_ #[22, 22] ty #[.slice (some ⟨G, i * 2, none⟩) (n + 1 - i) dc, .slice (some ⟨vb, 0, none⟩) 1 1]).run Tryz.prog W1 = .ok (goInt (Nat.min 1 (n + 1 - i))) W2))
    (HCP2 : Z0 (∀ ty dc sc, (Builtin.copy_ #[22, 22] ty #[.slice (some ⟨G, (i + 1) * 2, none⟩) (n + 1 - (i + 1)) dc, .slice (some ⟨g, i * 2, none⟩) (n - i) sc]).run Tryz.prog W2.drew = .ok (goInt (Nat.min (n - i) (n + 1 - (i + 1)))) W3)) :
    Calls Tryz.prog 62 #[.slice (some ⟨g, 0, none⟩) n n, .int .i64 (i : Int), .slice (some ⟨vb, 0, none⟩) 1 1] W fun e w' => e = .returned (.slice (some ⟨G, 0, none⟩) (n + 1) C) ∧ w' = W3 := by
  have hz := sz_row
  unfold maxLen at hCm
  have e1 : wrap64 ((n : Int) + 1) = (n : Int) + 1 := by unfold wrap64; omega
  have e2 : wrap64 ((i : Int) + 1) = (i : Int) + 1 := by unfold wrap64; omega
  have e3 : wrap64 ((n : Int) + 1 - (i : Int)) = (n : Int) + 1 - (i : Int) := by unfold wrap64; omega
  have hz2 : ¬ ((i : Int) = (n : Int)) := by omega
  have b1 : (i : Int) ≤ (n : Int) := by omega
  have b3 : (n : Int) + 1 ≤ (C : Int) := by omega
  have b5 : ((i : Int) + 1).toNat = i + 1 := by omega
  have b6 : (i : Int) + 1 ≤ (n : Int) + 1 := by omega
  have b7 : ¬ (n = i) := by omega
  have b8 : ¬ (C = i + 1) := by omega
  have b81 : ¬ (C = i) := by omega
  have b9 : (n : Int) < (n : Int) + 1 := by omega
  have b10 : (0 : Int) ≤ (i : Int) + 1 := by omega
  have b11 : (0 : Int) ≤ (n : Int) + 1 := by omega
  have b12 : (i : Int) ≤ (n : Int) + 1 := by omega
  have k1 : IntKind.i64.wrap ((i : Int) + 1) = (i : Int) + 1 := by rw [IntKind.wrap_i64]; omega
  go_enter Tryz.func62, Tryz.ntmps62
  go_wp2_with (at_builtin; refine Lib.wpList_append_run _ rfl _ _ _ _ rfl _ _ rfl rfl _ _ (HAP.out _) ?_; have hcp1 := HCP1.out)
  clear hcp1
  go_region_law (refine step_copy_runN rfl _ _ 22 22 rfl _ _ (by simp [Act.eval, Act.put]) (by simp [Act.eval, Act.put]) (HCP2.out _ (C - (i + 1)) (n - i)) ?_)
  go_wp2
  go_ret
  exact ⟨rfl, rfl⟩
theorem zeros_one (n : Nat) : ∀ v ∈ (Builtin.zeroCells #[Value.string ⟨#[]⟩, Value.string ⟨#[]⟩] n).toList, v.oneCell' = true := by
  intro v hv
  simp only [Builtin.zeroCells, Array.toList_map, List.mem_map] at hv
  obtain ⟨j, -, rfl⟩ := hv
  have : j % 2 = 0 ∨ j % 2 = 1 := by omega
  rcases this with h | h <;> simp [h] <;> rfl
set_option maxHeartbeats 4000000 in
set_option maxRecDepth 100000 in
theorem insertRow_grow (g i : Nat) (cur : Array Value) (xs : List S73) (x : S73) (vb : Nat) (w0 W : World) (hB : Below w0.heap.size w0 W) (hg : W.heap[g]? = some (.cells cur 73 (0, 0))) (htk : cur.toList.take (xs.length * 2) = encL encR xs) (hi : i < xs.length) (hl : xs.length < 1000000) (hx : W.heap[vb]? = some (.cells #[.string x.f0, .string x.f1] 73 (0, 0))) :
    Calls Tryz.prog 62 #[.slice (some ⟨g, 0, none⟩) xs.length xs.length, .int .i64 (i : Int), .slice (some ⟨vb, 0, none⟩) 1 1] W fun e w' => ∃ v' : Value, e = .returned v' ∧ Kd.R k73 73 w' w0.heap.size (fun _ => True) v' (xs.take i ++ x :: xs.drop i) ∧ Below w0.heap.size w0 w' ∧ W.grownBy w' (some g) := by
  obtain ⟨n, hn⟩ : ∃ n, n = xs.length := ⟨_, rfl⟩
  rw [← hn] at htk hi hl ⊢
  obtain ⟨i0, hi0, hz0, hs0, hb0⟩ := info_parts info73
  have hEl : (encL encR xs).length = n * 2 := by rw [encL_length encR_len, hn]
  have hdl : ((encL encR xs).drop (i * 2)).length = (n - i) * 2 := by rw [List.length_drop, hEl]; omega
  have hcell : ∀ (w' : World), w'.heap[g]? = W.heap[g]? → ∀ j v, (encL encR xs)[j]? = some v → w'.cell? ⟨g, j, none⟩ = some v := fun w' hw j v hj => by
    have hb := kcl (w := w') (hw.trans hg) j
    rw [hb, ← Array.getElem?_toList]
    rw [← htk, List.getElem?_take] at hj
    split at hj
    · exact hj
    · cases hj
  obtain ⟨G, hG⟩ : ∃ G, G = W.heap.size := ⟨_, rfl⟩
  obtain ⟨C, hC⟩ : ∃ C, C = grownCap W (i + (n + 1 - i)) n 73 := ⟨_, rfl⟩
  have hC1 : n + 1 ≤ C := by have := grownCap_ge W (i + (n + 1 - i)) n 73; omega
  have hCm : C ≤ maxLen := by rw [hC]; exact grownCap_le_maxLen W _ _ _ (by unfold maxLen; omega)
  obtain ⟨L1, hL1⟩ : ∃ L1 : List Value, L1 = (((encL encR xs).take (i * 2)).toArray ++ Builtin.zeroCells #[Value.string ⟨#[]⟩, Value.string ⟨#[]⟩] (n + 1 - i) ++ Builtin.zeroCells #[Value.string ⟨#[]⟩, Value.string ⟨#[]⟩] (C - (i + (n + 1 - i)))).toList := ⟨_, rfl⟩
  have hL1s : L1.length = C * 2 := by
    rw [hL1]
    simp only [Array.toList_append, List.length_append, Array.length_toList, size_zeroCells, List.length_take, hEl]
    simp only [List.size_toArray, List.length_cons, List.length_nil]
    omega
  have hL1t : L1.take (i * 2) = (encL encR xs).take (i * 2) := by
    rw [hL1]
    simp only [Array.toList_append, List.append_assoc]
    rw [List.take_append_of_le_length (by rw [List.length_take, hEl]; omega), List.take_take, Nat.min_self]
  obtain ⟨W1, hW1⟩ : ∃ W1, W1 = W.drew.alloc (.cells L1.toArray 73) := ⟨_, rfl⟩
  have hap : ∀ ty, (Builtin.append_ #[22, 3] ty #[.slice (some ⟨g, 0, none⟩) i n, .int .i64 ((n : Int) + 1 - (i : Int))]).run Tryz.prog W = .ok (.slice (some ⟨G, 0, none⟩) (n + 1) C) W1 := fun ty => by
    have h := run_append_zeros_grow (P := Tryz.prog) W 22 3 ty 73 i0 (.agg #[(.string ⟨#[]⟩), (.string ⟨#[]⟩)]) .i64 .i64 Tryz.underlying22 Tryz.underlying3 hi0 hz0 ⟨g, 0, none⟩ i n ((encL encR xs).take (i * 2)) (by rw [List.length_take, hEl, hs0]; omega)
      (fun j v hj => by rw [add_plain]; rw [List.getElem?_take] at hj; split at hj; exact hcell W rfl j v hj; cases hj) (n + 1 - i) (by omega) (by rw [hs0]; decide) (by omega) (by omega) (by rw [hb0]; omega) (by
        rw [hb0]
        have : Builtin.nextslicecap (i + (n + 1 - i)) n ≤ 4 * (n + 1) + 2000 := by
          unfold Builtin.nextslicecap
          split
          · omega
          · split
            · omega
            · rw [growBy_four]; repeat' split
              all_goals omega
        omega)
    rw [show ((n + 1 - i : Nat) : Int) = (n : Int) + 1 - (i : Int) by omega] at h
    rw [h, ← hC, ← hG, hW1, hL1, Array.toArray_toList, show i + (n + 1 - i) = n + 1 by omega]
    rfl
  have hg1 : W1.heap[G]? = some (.cells L1.toArray 73 (0, 0)) := by rw [hW1, hG]; exact blk_new W.drew _
  have hx1 : W1.heap[vb]? = some (.cells #[.string x.f0, .string x.f1] 73 (0, 0)) := by rw [hW1]; exact (Below.heap_alloc W.drew _ vb (klt_ hx)).trans hx
  have hgg : W1.heap[g]? = W.heap[g]? := by rw [hW1]; exact Below.heap_alloc W.drew _ g (klt_ hg)
  obtain ⟨L2, hL2⟩ : ∃ L2 : List Value, L2 = L1.take (i * 2) ++ encR x ++ L1.drop (i * 2 + 2) := ⟨_, rfl⟩
  have hL2s : L2.length = C * 2 := by rw [hL2]; simp only [List.length_append, List.length_take, List.length_drop, hL1s, encR_len]; omega
  obtain ⟨W2, hW2⟩ : ∃ W2, W2 = W1.setRow G L2.toArray := ⟨_, rfl⟩
  have hcp1 : ∀ ty dc, (Builtin.copy_ #[22, 22] ty #[.slice (some ⟨G, i * 2, none⟩) (n + 1 - i) dc, .slice (some ⟨vb, 0, none⟩) 1 1]).run Tryz.prog W1 = .ok (goInt (Nat.min 1 (n + 1 - i))) W2 := fun ty dc => by
    have h := run_copy_rowN (P := Tryz.prog) W1 22 22 ty 73 i0 G (i * 2) (n + 1 - i) dc ⟨vb, 0, none⟩ 1 1 L1.toArray (encR x) Tryz.underlying22 hi0 hg1
      (by rw [encR_len, hs0]; simp only [Nat.min_def]; split <;> omega)
      (fun j v hj => by
        rw [Addr.add_lit, Nat.zero_add, kcl hx1]
        match j, hj with
        | 0, h => exact h
        | 1, h => exact h
        | j + 2, h => simp [encR] at h)
      (by rw [encR_len, List.size_toArray, hL1s]; omega) (encR_one x)
    rw [h, hW2, hL2]
    simp [encR_len]
  have hg2 : W2.heap[G]? = some (.cells L2.toArray 73 (0, 0)) := by rw [hW2]; exact setRow_heap W1 G _ _ 73 _ hg1
  have hgG : g ≠ G := by have := klt_ hg; omega
  have hgg2 : W2.drew.heap[g]? = W.heap[g]? := by
    have h1 : W2.heap[g]? = W1.heap[g]? := by rw [hW2]; exact setRow_other W1 G g _ hgG
    exact h1.trans hgg
  have hcp2 : ∀ ty dc sc, (Builtin.copy_ #[22, 22] ty #[.slice (some ⟨G, (i + 1) * 2, none⟩) (n + 1 - (i + 1)) dc, .slice (some ⟨g, i * 2, none⟩) (n - i) sc]).run Tryz.prog W2.drew = .ok (goInt (Nat.min (n - i) (n + 1 - (i + 1)))) (W2.drew.setRow G (L2.take (i * 2 + 2) ++ (encL encR xs).drop (i * 2) ++ L2.drop (i * 2 + 2 + ((encL encR xs).drop (i * 2)).length)).toArray) := fun ty dc sc => by
    have h := run_copy_rowN (P := Tryz.prog) W2.drew 22 22 ty 73 i0 G ((i + 1) * 2) (n + 1 - (i + 1)) dc ⟨g, i * 2, none⟩ (n - i) sc L2.toArray ((encL encR xs).drop (i * 2)) Tryz.underlying22 hi0 hg2
      (by rw [hdl, hs0]; simp only [Nat.min_def]; split <;> omega)
      (fun j v hj => by
        rw [Addr.add_lit]
        exact hcell W2.drew hgg2 (i * 2 + j) v (by rwa [List.getElem?_drop] at hj))
      (by rw [hdl, List.size_toArray, hL2s]; omega) (fun v hv => encL_one encR_one xs v (List.mem_of_mem_drop hv))
    rw [h, show (i + 1) * 2 = i * 2 + 2 by omega]
  have hB1 : Below w0.heap.size w0 W1 := by rw [hW1]; exact bal (below_drew hB) _
  have hGb : w0.heap.size ≤ G := by have := hB.size; omega
  have hB2 : Below w0.heap.size w0 W2 := by rw [hW2]; exact below_setRow hB1 hGb _
  refine (insertRow_grow_walk g i n vb G C W W1 W2 _ hi hl hC1 hCm ⟨hap⟩ ⟨hcp1⟩ ⟨hcp2⟩).mono ?_
  rintro e w' ⟨rfl, rfl⟩
  refine ⟨_, rfl, rowR.2 ?_, below_setRow (below_drew hB2) hGb _, grown_new (w1 := W2.drew) (grown_two (w1 := W2) (by rw [hW2]; exact grown_new (by rw [hW1]; exact grown_two (grown_drew W _) (World.grownBy_alloc W.drew _ _)) (by omega) _) (grown_drew W2 _)) (by omega) _⟩
  have hlen : (xs.take i ++ x :: xs.drop i).length = n + 1 := by simp only [List.length_append, List.length_take, List.length_cons, List.length_drop]; omega
  rw [hlen]
  refine own_write (w := W2.drew) (base := w0.heap.size) (sz := 2) (n := n + 1) (cap := C) (cur := L2.toArray) (cs := encL encR (xs.take i ++ x :: xs.drop i)) hGb hg2 hC1 hCm (by rw [List.size_toArray]; exact hL2s) (i * 2 + 2) ((encL encR xs).drop (i * 2)) (by rw [hdl, List.size_toArray, hL2s]; omega) ?_ (by rw [encL_length encR_len, hlen])
  have h := grow_cells L1 (encL encR xs) (encR x) (i * 2) (n * 2) 2 hEl (by omega) hL1t (encR_len x) (by rw [hL1s]; omega)
  rw [← hL2] at h
  rw [show (n + 1) * 2 = n * 2 + 2 by omega, h, encL_take encR_len, encL_drop encR_len]
  simp [encL]
theorem insertRow.calls (v : Value) (i : Nat) (xs : List S73) (x : S73) (vb : Nat) (w0 W : World) (hB : Below w0.heap.size w0 W) (hv : Kd.R k73 73 W w0.heap.size (fun _ => True) v xs) (hi : i ≤ xs.length) (hl : xs.length < 1000000) (hx : W.heap[vb]? = some (.cells #[.string x.f0, .string x.f1] 73 (0, 0))) (hne : v.ownBlock ≠ some vb) :
    Calls Tryz.prog 62 #[v, .int .i64 (i : Int), .slice (some ⟨vb, 0, none⟩) 1 1] W fun e w' => ∃ v' : Value, e = .returned v' ∧ Kd.R k73 73 w' w0.heap.size (fun _ => True) v' (xs.take i ++ x :: xs.drop i) ∧ Below w0.heap.size w0 w' ∧ W.grownBy w' v.ownBlock := by
  by_cases q : i = xs.length
  · subst q
    rw [List.take_length, List.drop_length]
    exact insertRow_end v xs x vb w0 W hB hv hl hx
  · have ho := rowR.1 hv
    rcases ho.2 with ⟨rfl, h0⟩ | ⟨g, c, cur, rfl, hbg, hg, hle, hcm, hcs, htk⟩
    · omega
    · have hne2 : vb ≠ g := fun e => hne (by simp [Value.ownBlock, e])
      by_cases qc : xs.length + 1 ≤ c
      · exact insertRow_shift g c i cur xs x vb w0 W hB hbg hg qc hcm hcs htk (by omega) hl hx hne2
      · obtain rfl : c = xs.length := by omega
        exact insertRow_grow g i cur xs x vb w0 W hB hg htk (by omega) hl hx
end Go.Proofs.YtjiblcncadekcaaGreat.PA

namespace Go.Proofs.YtjiblcncadekcaaGreat.PA
set_option linter.unusedSimpArgs false
open Go.RowKit Go.Proofs.YtjiblcncadekcaaGreatW.PrintWords Go.Proofs.YtjiblcncadekcaaGreatW.PrintLast Go.Proofs.YtjiblcncadekcaaGreatW.PrintMore Go.Proofs.YtjiblcncadekcaaGreat Go.Proofs.YtjiblcncadekcaaGreat.PL
attribute [local go_sem] Oper.semAt_some
set_option maxHeartbeats 4000000 in
set_option maxRecDepth 100000 in
theorem deleteRow_walk (g c i m : Nat) (W W1 W2 : World) (hi : i ≤ m) (hc : m + 1 ≤ c) (hcm : c ≤ maxLen)
    (HAP : Z0 (∀ ty a xc, (a = ⟨g, 0, none⟩ ∧ c = i + 1 ∨ a = ⟨g, (i + 1) * 2, none⟩ ∧ c ≠ i + 1) → (Builtin.append_ #[22, 22] ty #[.slice (some ⟨g, 0, none⟩) i c, .slice (some a) (m - i) xc]).run Tryz.prog W.drew = .ok (.slice (some ⟨g, 0, none⟩) m c) W1))
    (HCL : Z0 (∀ ty cc, (Builtin.clear_ #[22] ty #[.slice (some ⟨g, m * 2, none⟩) 1 cc]).run Tryz.prog W1 = .ok (.tuple #[]) W2)) :
    Calls Tryz.prog 77 #[.slice (some ⟨g, 0, none⟩) (m + 1) c, .int .i64 (i : Int), .int .i64 ((i : Int) + 1)] W fun e w' => e = .returned (.slice (some ⟨g, 0, none⟩) m c) ∧ w' = W2 := by
  have hz := sz_row
  unfold maxLen at hcm
  have b0 : (i : Int) ≤ (m : Int) := by omega
  have b1 : (i : Int) ≤ (i : Int) + 1 := by omega
  have b2 : (i : Int) + 1 ≤ (m : Int) + 1 := by omega
  have b3 : (m : Int) + 1 ≤ (c : Int) := by omega
  have b4 : (i : Int) ≤ (c : Int) := by omega
  have b5 : ((i : Int) + 1).toNat = i + 1 := by omega
  have b6 : ((m : Int) + 1).toNat = m + 1 := by omega
  have b7 : ¬ ((i : Int) = (i : Int) + 1) := by omega
  have b8 : ¬ (c = m) := by omega
  have b9 : (m : Int) ≤ (m : Int) + 1 := by omega
  have b10 : (0 : Int) ≤ (i : Int) + 1 := by omega
  have b11 : (0 : Int) ≤ (m : Int) + 1 := by omega
  have b12 : ¬ (m + 1 = i) := by omega
  have b13 : (m : Int) ≤ (c : Int) := by omega
  by_cases q : c = i + 1
  · obtain rfl : i = m := by omega
    subst q
    clear b1 b2 b3 b4 b8 b12 b13
    have b2 : ¬ (i + 1 = i) := by omega
    have b3 : (i : Int) ≤ (i : Int) + 1 := by omega
    go_enter Tryz.func77, Tryz.ntmps77
    go_wp2
    go_region_law (refine step_append_runN rfl _ _ 22 22 rfl _ _ (by simp [Act.eval, Act.put]) (by simp [Act.eval, Act.put]) _ _ (HAP.out _ ⟨g, 0, none⟩ 0 (.inl ⟨rfl, by simp⟩)) ?_)
    have hcl := HCL.out
    go_wp2
    go_ret
    exact ⟨rfl, rfl⟩
  · go_enter Tryz.func77, Tryz.ntmps77
    go_wp2
    go_region_law (refine step_append_runN rfl _ _ 22 22 rfl _ _ (by simp [Act.eval, Act.put]) (by simp [Act.eval, Act.put]) _ _ (HAP.out _ ⟨g, (i + 1) * 2, none⟩ (c - (i + 1)) (.inr ⟨rfl, q⟩)) ?_)
    have hcl := HCL.out
    go_wp2
    go_ret
    exact ⟨rfl, rfl⟩
theorem zero_row (w : World) : (zeroValue 73).run Tryz.prog w = .ok (.agg #[(.string ⟨#[]⟩), (.string ⟨#[]⟩)]) w := by
  obtain ⟨i0, hi0, hz0, -, -⟩ := info_parts info73
  simp [zeroValue, typeInfo, hi0, hz0]
theorem deleteRow.calls (v : Value) (i : Nat) (xs : List S73) (w0 W : World) (hB : Below w0.heap.size w0 W) (hv : Kd.R k73 73 W w0.heap.size (fun _ => True) v xs) (hi : i < xs.length) :
    Calls Tryz.prog 77 #[v, .int .i64 (i : Int), .int .i64 ((i : Int) + 1)] W fun e w' => ∃ v' : Value, e = .returned v' ∧ Kd.R k73 73 w' w0.heap.size (fun _ => True) v' (xs.take i ++ xs.drop (i + 1)) ∧ Below w0.heap.size w0 w' ∧ W.grownBy w' v.ownBlock := by
  have ho := rowR.1 hv
  rcases ho.2 with ⟨rfl, h0⟩ | ⟨g, c, cur, rfl, hbg, hg, hle, hcm, hcs, htk⟩
  · omega
  obtain ⟨m, hm⟩ : ∃ m, xs.length = m + 1 := ⟨xs.length - 1, by omega⟩
  rw [hm] at hi hle htk ⊢
  obtain ⟨i0, hi0, hz0, hs0, hb0⟩ := info_parts info73
  have hEl : (encL encR xs).length = (m + 1) * 2 := by rw [encL_length encR_len, hm]
  have hdl : ((encL encR xs).drop (i * 2 + 2)).length = (m - i) * 2 := by rw [List.length_drop, hEl]; omega
  obtain ⟨L1, hL1⟩ : ∃ L1 : List Value, L1 = cur.toList.take (i * 2) ++ (encL encR xs).drop (i * 2 + 2) ++ cur.toList.drop (i * 2 + ((encL encR xs).drop (i * 2 + 2)).length) := ⟨_, rfl⟩
  have hL1s : L1.length = c * 2 := by rw [hL1]; simp only [List.length_append, List.length_take, List.length_drop, Array.length_toList, hEl, hcs]; omega
  obtain ⟨W1, hW1⟩ : ∃ W1, W1 = W.drew.setRow g L1.toArray := ⟨_, rfl⟩
  have hg1 : W1.heap[g]? = some (.cells L1.toArray 73 (0, 0)) := by rw [hW1]; exact setRow_heap W.drew g cur _ 73 _ hg
  have hap : ∀ ty a xc, (a = ⟨g, 0, none⟩ ∧ c = i + 1 ∨ a = ⟨g, (i + 1) * 2, none⟩ ∧ c ≠ i + 1) → (Builtin.append_ #[22, 22] ty #[.slice (some ⟨g, 0, none⟩) i c, .slice (some a) (m - i) xc]).run Tryz.prog W.drew = .ok (.slice (some ⟨g, 0, none⟩) m c) W1 := fun ty a xc hor => by
    have h := run_append_room (P := Tryz.prog) W.drew 22 ty 73 i0 Tryz.underlying22 hi0 g i c cur hg a (m - i) xc ((encL encR xs).drop (i * 2 + 2)) (by rw [hdl, hs0])
      (fun j v hj => by
        rcases hor with ⟨rfl, hc⟩ | ⟨rfl, hc⟩
        · have := (List.getElem?_eq_some_iff.1 hj).1
          omega
        · rw [Addr.add_lit]
          have hb := kcl (w := W.drew) hg ((i + 1) * 2 + j)
          rw [hb, ← Array.getElem?_toList]
          rw [List.getElem?_drop, ← htk, List.getElem?_take] at hj
          split at hj
          · rwa [show (i + 1) * 2 + j = i * 2 + 2 + j by omega]
          · cases hj)
      (fun v hv => encL_one encR_one xs v (List.mem_of_mem_drop hv)) (by omega) (by rw [hs0, hdl, hcs]; omega)
    rw [h, hW1, hL1, hs0, show i + (m - i) = m by omega]
  obtain ⟨Z, hZ⟩ : ∃ Z, Z = (Builtin.zeroCells (Value.agg #[(.string ⟨#[]⟩), (.string ⟨#[]⟩)]).cells 1).toList := ⟨_, rfl⟩
  have hZl : Z.length = 2 := by rw [hZ, Array.length_toList, size_zeroCells]; rfl
  have hcl : ∀ ty cc, (Builtin.clear_ #[22] ty #[.slice (some ⟨g, m * 2, none⟩) 1 cc]).run Tryz.prog W1 = .ok (.tuple #[]) (W1.setRow g (L1.take (m * 2) ++ Z ++ L1.drop (m * 2 + Z.length)).toArray) := fun ty cc => by
    have h := run_clear_rowN (P := Tryz.prog) W1 22 73 ty (.agg #[(.string ⟨#[]⟩), (.string ⟨#[]⟩)]) Tryz.underlying22 zero_row g (m * 2) 1 cc L1.toArray hg1 (by decide) (by rw [← hZ, hZl, List.size_toArray, hL1s]; omega)
      (by rw [← hZ]; intro v hv; rw [hZ] at hv; exact zeros_one 1 v hv)
    rw [h, ← hZ]
  refine (deleteRow_walk g c i m W W1 _ (by omega) hle hcm ⟨hap⟩ ⟨hcl⟩).mono ?_
  rintro e w' ⟨rfl, rfl⟩
  refine ⟨_, rfl, rowR.2 ?_, below_setRow (by rw [hW1]; exact below_setRow (below_drew hB) hbg _) hbg _, grown_two (w1 := W1) (by rw [hW1]; exact grown_two (grown_drew W _) (grown_setRow W.drew g _)) (grown_setRow W1 g _)⟩
  have hlen : (xs.take i ++ xs.drop (i + 1)).length = m := by simp only [List.length_append, List.length_take, List.length_drop]; omega
  rw [hlen]
  refine own_write (w := W1) (base := w0.heap.size) (sz := 2) (n := m) (cap := c) (cur := L1.toArray) (cs := encL encR (xs.take i ++ xs.drop (i + 1))) hbg hg1 (by omega) hcm (by rw [List.size_toArray]; exact hL1s) (m * 2) Z (by rw [hZl, List.size_toArray, hL1s]; omega) ?_ (by rw [encL_length encR_len, hlen])
  have h := del_cells cur.toList (encL encR xs) Z (i * 2) (m * 2) 2 (by rw [show m * 2 + 2 = (m + 1) * 2 by omega]; exact htk) (by omega) hZl (by rw [Array.length_toList, hcs]; omega)
  rw [← hL1] at h
  rw [h, encL_take encR_len, show i * 2 + 2 = (i + 1) * 2 by omega, encL_drop encR_len, encL_append]
end Go.Proofs.YtjiblcncadekcaaGreat.PA

