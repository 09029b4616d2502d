import Derived.Test.YtjiblcncadekcaaQAxLAd
import Derived.RangeFuncNested
import Derived.RangeFuncBound
import Derived.RangeFuncCalls
import Derived.RangeFuncLeaves
import Derived.Shelf.Abstract
import Derived.Shelf.RegionOpen
import Derived.OwnWalkIn
import Derived.TacticsInMore
import Derived.LoopNIn
import Derived.LoopIn
import Derived.Sort.CutIn
import Derived.Test.YtjiblcncadekcaaQAxPAx0
import Derived.Test.YtjiblcncadekcaaQAxMOutText
import Derived.Test.YtjiblcncadekcaaQAxMFold
import Derived.Lib.Strings
import Derived.Laws.BitsLemmas
import Derived.Test.YtjiblcncadekcaaQAxPAx13
namespace Go.Proofs.Ytjiblcncadekcaa.PA
set_option linter.unusedSimpArgs false
set_option linter.unusedVariables false
open Go.RowKit Go.Shelf Go.Proofs.YtjiblcncadekcaaW.PrintWords Go.Proofs.YtjiblcncadekcaaW.PrintLast Go.Proofs.YtjiblcncadekcaaW.PrintMore Go.Proofs.Ytjiblcncadekcaa Go.Proofs.Ytjiblcncadekcaa.PL
attribute [local go_sem] Oper.semAt_some
def entE (x : Ent) : Array Value := #[.agg #[.string x.object, .int .i64 x.op, .string x.a, .string x.b, .int .i64 x.n, .int .i64 x.code, .string x.text, .int .i64 x.rn]]
def KV (w : World) (p q : Nat) (A B : World) : Prop := Below w.heap.size A B ∧ ∀ k, (k = p ∨ k = q) → k < A.heap.size → B.heap[k]? = A.heap[k]?
theorem KV.trans {w A B C : World} {p q : Nat} (h : KV w p q A B) (k : KV w p q B C) : KV w p q A C :=
  ⟨h.1.trans k.1, fun i hi hl => (k.2 i hi (Nat.lt_of_lt_of_le hl h.1.size)).trans (h.2 i hi hl)⟩
theorem KV.of_below {w A B : World} {p q : Nat} (hw : w.heap.size ≤ A.heap.size) (h : Below A.heap.size A B) : KV w p q A B := ⟨h.mono hw, fun _ _ hl => h.block _ hl⟩
set_option maxRecDepth 100000 in
set_option maxHeartbeats 4000000 in
theorem of1_in (F : Fence) (n : Nat) (hf : F.fn 64) (hro : F.round = none) (hn : 1 ≤ n) (l p q g : Nat) (w wb : World) (A : Option Addr) (c : Nat) (es : List Ent) (obj : ByteArray) (hob : ∀ e ∈ es, e.object.toList = obj.toList)
    (hC : Kd.C kEnt w A es.length es) (hw : Below w.heap.size w wb) (hg : w.cell? ⟨g, 0, none⟩ = some (.slice A es.length c)) (hp : wb.cell? ⟨p, 0, none⟩ = some (.pointer (some ⟨g, 0, none⟩))) (hq : wb.cell? ⟨q, 0, none⟩ = some (.string obj))
    (J Jx : List Ent → World → Prop) (W : World) (hJA : AbidesFrom W.heap.size J)
    (hY : ∀ pre x W, J pre W → pre.length < es.length → YieldAt F (n - 1) Try.prog l (entE x) W fun e W' =>
      (e = .returned (.bool true) ∧ J (pre ++ [x]) W' ∧ KV w p q W W') ∨ (e = .returned (.bool false) ∧ Jx (pre ++ [x]) W'))
    (hW : Below wb.heap.size wb W) (h0 : J [] W) :
    CallsIn F n Try.prog 64 #[.func (.yield l) #[] #[], .pointer (some ⟨p, 0, none⟩), .pointer (some ⟨q, 0, none⟩)] W fun e W' => (∃ v, e = .returned v) ∧
      ((∃ ys, ys = es ∧ J ys W') ∨ (∃ pre, True ∧ Jx pre W')) := by
  have hm : es.length ≤ 9223372036854775807 := Kd.C_max hC
  have hlp := World.block_lt_of_cell? wb _ hp
  have hlq := World.block_lt_of_cell? wb _ hq
  have hlg := World.block_lt_of_cell? w _ hg
  have hKW : KV w p q wb W := KV.of_below hw.size hW
  have HX := Aside0.mk (show ∀ W1, KV w p q wb W1 → W1.cell? ⟨p, 0, none⟩ = some (.pointer (some ⟨g, 0, none⟩)) ∧ W1.cell? ⟨q, 0, none⟩ = some (.string obj) ∧ W1.cell? ⟨g, 0, none⟩ = some (.slice A es.length c) ∧ Kd.C kEnt W1 A es.length es from fun W1 h => by
    have hB := hw.trans h.1
    have hc : ∀ k, (k = p ∨ k = q) → k < wb.heap.size → W1.cell? ⟨k, 0, none⟩ = wb.cell? ⟨k, 0, none⟩ := fun k hk hl => by
      simp only [World.cell?]
      rw [h.2 k hk hl]
    exact ⟨(hc p (.inl rfl) hlp).trans hp, (hc q (.inr rfl) hlq).trans hq, (hB.cell (p := ⟨g, 0, none⟩) hlg).trans hg, Kd.C_below hC hB⟩)
  have HOB := Aside0.mk hob
  have HJA := Aside0.mk hJA
  have HKW := Aside0.mk hKW
  obtain ⟨x1, x2, x3, -⟩ := HX.out W hKW
  clear hp hq hg hC hob hlp hlq hlg hKW hJA
  refine callsIn_of_wp Try.func64 rfl hf ?_ hro
  simp only [Try.ntmps64, List.size_toArray, List.length_cons, List.length_nil, Nat.reduceAdd, Nat.reduceSub, Array.replicate_succ, Array.replicate_zero, List.push_toArray, List.append_toArray, List.nil_append, List.cons_append]
  gi_wp2
  gi_loopw [11] (fun i wr => ∃ k : Nat, k ≤ es.length ∧ i = .int .i64 (k : Int) ∧ J (es.take k) wr ∧ Aside0 (KV w p q wb wr) ∧ Aside0 (W.heap.size ≤ wr.heap.size)) (fun i _ => es.length - (intOf i).toNat)
  case atStart => exact ⟨0, Nat.zero_le _, rfl, by rw [List.take_zero]; exact h0, HKW, ⟨Nat.le_refl _⟩⟩
  case round =>
    obtain ⟨k, hk, rfl, hJs, HN, HSZ⟩ := hrel
    clear x1 x2 x3 HKW
    by_cases c1 : k < es.length
    · have hp0 : (0 : Int) ≤ (k : Int) := by omega
      have hp1 : (k : Int) < (es.length : Int) := by omega
      obtain ⟨x1, x2, x3, hCr⟩ := HX.out wr HN.out
      obtain ⟨x, hx⟩ : ∃ x, x = es.getD k zEnt := ⟨_, rfl⟩
      have hgx : es[k] = x := by rw [hx]; simp [c1]
      have HOX := Aside0.mk (show x.object.toList = obj.toList from HOB.out x (by rw [← hgx]; exact List.getElem_mem c1))
      have HTK := Aside0.mk (show es.take (k + 1) = es.take k ++ [x] by rw [List.take_succ_eq_append_getElem c1, hgx])
      obtain ⟨ad, e1, y0, y1, y2, y3, y4, y5, y6, y7⟩ := at_Ent hCr (k : Int) hp0 hp1
      subst e1
      rw [Int.toNat_natCast, ← hx] at y0 y1 y2 y3 y4 y5 y6 y7
      clear hgx hx hCr
      obtain ⟨W5, hW5⟩ : ∃ W5, W5 = wr.alloc (.cells #[.string x.object, .int .i64 x.op, .string x.a, .string x.b, .int .i64 x.n, .int .i64 x.code, .string x.text, .int .i64 x.rn] 79) := ⟨_, rfl⟩
      obtain ⟨e, he⟩ : ∃ e, e = wr.heap.size := ⟨_, rfl⟩
      have hBB : Below wr.heap.size wr W5 := by rw [hW5]; exact bal (Below.refl _ _) _
      have hbx : W5.heap[e]? = some (.cells #[.string x.object, .int .i64 x.op, .string x.a, .string x.b, .int .i64 x.n, .int .i64 x.code, .string x.text, .int .i64 x.rn] 79 (0, 0)) := by rw [hW5, he]; exact blk_new wr _
      gi_upto_region 3 with fail
      rw [← hW5, ← he]
      clear hW5 he x1 x2 x3 y0 y1 y2 y3 y4 y5 y6 y7
      have hN5 := HN.out.trans (KV.of_below (Nat.le_trans hw.size (Nat.le_trans hW.size HSZ.out)) hBB)
      have hJ5 := HJA.out (es.take k) wr W5 none hJs (grown_of_below hBB none) (fun r hr => by cases hr)
      obtain ⟨fn, tmps, assign, body, hy, hR⟩ := hY _ x _ hJ5 (by rw [List.length_take]; omega)
      unfold entE at hy
      obtain ⟨x1, x2, x3, hCr⟩ := HX.out W5 hN5
      have HS5 := Aside0.mk (Nat.le_trans HSZ.out hBB.size)
      have HN5 := Aside0.mk hN5
      have HR := Aside0.mk hR
      have hox := HOX.out
      have hox2 : (x.object.toList == obj.toList) = true := beq_iff_eq.2 hox
      have HOX2 := Aside0.mk hox
      clear hR hBB hJ5 hN5 hox hCr
      have b0 := (kcl hbx 0).trans rfl
      have b1 := (kcl hbx 1).trans rfl
      have b2 := (kcl hbx 2).trans rfl
      have b3 := (kcl hbx 3).trans rfl
      have b4 := (kcl hbx 4).trans rfl
      have b5 := (kcl hbx 5).trans rfl
      have b6 := (kcl hbx 6).trans rfl
      have b7 := (kcl hbx 7).trans rfl
      gi_wp2
      refine HR.out.mono ?_
      rintro e3 W3 (⟨rfl, hJ3, hk3⟩ | ⟨rfl, hJx3⟩)
      · have HN3 := Aside0.mk (HN5.out.trans hk3)
        have HS3 := Aside0.mk (Nat.le_trans HS5.out hk3.1.size)
        have HJ3 := Aside0.mk hJ3
        have k1 : wrap64 ((k : Int) + 1) = (k : Int) + 1 := by unfold wrap64; omega
        have K1 := Aside0.mk k1
        clear hk3 hJ3 k1
        have k1 := K1.out
        clear b0 b1 b2 b3 b4 b5 b6 b7 hbx
        gi_wp2
        clear k1
        go_roundw
        case rel => exact ⟨k + 1, by omega, by go_num, by rw [HTK.out]; exact HJ3.out, HN3, HS3⟩
        case measure => simp [intOf]; omega
      · have HJx3 := Aside0.mk hJx3
        clear hJx3 b0 b1 b2 b3 b4 b5 b6 b7 hbx
        gi_wp2
        refine bodyPost_ret (results_none rfl _ _ _) rfl ?_
        exact ⟨⟨_, rfl⟩, .inr ⟨_, trivial, HJx3.out⟩⟩
    · obtain rfl : k = es.length := by omega
      rw [List.take_length] at hJs
      obtain ⟨x1, x2, x3, hCr⟩ := HX.out wr HN.out
      clear hCr
      gi_wp2
      go_end0
      exact ⟨⟨_, rfl⟩, .inl ⟨_, rfl, hJs⟩⟩
theorem of_in (F : Fence) (n : Nat) (hf : F.fn 46) (hro : F.round = none) (g : Nat) (obj : ByteArray) (w : World) :
    CallsIn F n Try.prog 46 #[.pointer (some ⟨g, 0, none⟩), .string obj] w fun e w' => e = .returned (.func (.func 64) #[] #[.pointer (some ⟨w.heap.size, 0, none⟩), .pointer (some ⟨w.heap.size + 1, 0, none⟩)]) ∧ w' = (w.alloc (.cells #[.pointer (some ⟨g, 0, none⟩)] 77)).alloc (.cells #[.string obj] 9) := by
  refine callsIn_of_wp Try.func46 rfl hf ?_ hro
  simp only [Try.ntmps46, List.size_toArray, List.length_cons, List.length_nil, Nat.reduceAdd, Nat.reduceSub, Array.replicate_succ, Array.replicate_zero, List.push_toArray, List.append_toArray, List.nil_append, List.cons_append]
  gi_wp2
  go_ret
  exact ⟨rfl, rfl⟩
theorem set3_other (W : World) (q : Nat) (a b c : Value) (k : Nat) (hk : k ≠ q) : (((W.setCell ⟨q, 0, none⟩ a).setCell ⟨q, 1, none⟩ b).setCell ⟨q, 2, none⟩ c).heap[k]? = W.heap[k]? :=
  (Below.heap_setCell ((W.setCell ⟨q, 0, none⟩ a).setCell ⟨q, 1, none⟩ b) ⟨q, 2, none⟩ c k hk).trans ((Below.heap_setCell (W.setCell ⟨q, 0, none⟩ a) ⟨q, 1, none⟩ b k hk).trans (Below.heap_setCell W ⟨q, 0, none⟩ a k hk))
theorem of_stops (F : Fence) (n : Nat) (hf : F.fn 64) (hro : F.round = none) (hn : 1 ≤ n) (p q g : Nat) (w wb : World) (A : Option Addr) (c : Nat) (es : List Ent) (obj : ByteArray) (hob : ∀ e ∈ es, e.object.toList = obj.toList)
    (hC : Kd.C kEnt w A es.length es) (hw : Below w.heap.size w wb) (hg : w.cell? ⟨g, 0, none⟩ = some (.slice A es.length c)) (hp : wb.cell? ⟨p, 0, none⟩ = some (.pointer (some ⟨g, 0, none⟩))) (hq : wb.cell? ⟨q, 0, none⟩ = some (.string obj)) :
    SeqStopsK F n Try.prog 64 #[.pointer (some ⟨p, 0, none⟩), .pointer (some ⟨q, 0, none⟩)] entE (KV w p q) (fun ys => ys = es) (fun _ => True) es.length wb :=
  fun l J Jx W hW hJ _ hY h0 => of1_in F n hf hro hn l p q g w wb A c es obj hob hC hw hg hp hq J Jx W hJ hY hW h0
theorem withoutR_len (xs : List S68) (key : ByteArray) : (withoutR xs key).length ≤ xs.length := by
  unfold withoutR
  split
  · simp only [List.length_append, List.length_take, List.length_drop]; omega
  · exact Nat.le_refl _
theorem withR_len (kind : Int) (xs : List S68) (r : S68) : (withR kind xs r).length = xs.length + 1 := by
  have := insPos_le kind xs r.f0 xs.length
  unfold withR
  simp only [List.length_append, List.length_take, List.length_cons, List.length_drop]
  omega
theorem applyR_len (kind n : Int) (xs : List S68) (op : Int) (a b : ByteArray) (cn code : Int) (text : ByteArray) : (applyR kind n xs op a b cn code text).2.length ≤ xs.length + 1 := by
  unfold applyR
  have h1 := withoutR_len xs a
  have h2 := withoutR_len xs text
  repeat' split
  all_goals (try simp only [withR_len, List.length_nil, List.length_cons]) <;> omega
theorem runR_len (kind : Int) : ∀ (l : List Stp) (n : Int) (xs : List S68), (runR kind n xs l).2.length ≤ xs.length + l.length
  | [], n, xs => Nat.le_refl _
  | x :: l, n, xs => by
    have h1 := applyR_len kind n xs x.op x.a x.b x.n x.code x.text
    have h2 := runR_len kind l (applyR kind n xs x.op x.a x.b x.n x.code x.text).1 (applyR kind n xs x.op x.a x.b x.n x.code x.text).2
    simp only [runR, List.length_cons]
    omega
theorem runR_append (kind : Int) : ∀ (l : List Stp) (n : Int) (xs : List S68) (x : Stp), runR kind n xs (l ++ [x]) = applyR kind (runR kind n xs l).1 (runR kind n xs l).2 x.op x.a x.b x.n x.code x.text
  | [], n, xs, x => rfl
  | y :: l, n, xs, x => runR_append kind l _ _ x
def stpE (e : Ent) : Stp := ⟨e.op, e.a, e.b, e.n, e.code, e.text, e.rn⟩
theorem k68_E : k68.E = [] := by first | rfl | decide | simp [k68]
theorem Rd.grown {w0 W W1 : World} {v : Value} {xs : List S68} (h : Rd w0 W v xs) {row : Option Nat} (hg : W.grownBy W1 row) (hr : ∀ r, row = some r → ∃ o : Obj, W.heap[r]? = some o ∧ o.isCells = false) : Rd w0 W1 v xs := by
  refine h.imp id (fun h => Kd.R_grown2 h k68_E hg ?_)
  intro k hk he
  rcases (rowR.1 h).2 with ⟨rfl, -⟩ | ⟨k', c, cur, rfl, hb, hk', hn, hc, hs, ht⟩
  · simp [Value.ownBlock] at he
  · obtain ⟨o, ho, hco⟩ := hr k hk
    simp only [Value.ownBlock, if_true, Option.some.injEq] at he
    subst he
    rw [hk'] at ho
    cases ho
    cases hco
theorem WR.grown {w W W1 : World} {q : Nat} {kind n : Int} {v : Value} {xs : List S68} {c2 : Array Value} (h : WR w W q kind n v xs c2) {row : Option Nat} (hg : W.grownBy W1 row) (hB : ∀ r, row = some r → w.heap.size ≤ r) (hr : ∀ r, row = some r → ∃ o : Obj, W.heap[r]? = some o ∧ o.isCells = false) : WR w W1 q kind n v xs c2 := by
  have hne : ∀ k cs t, W.heap[k]? = some (.cells cs t (0, 0)) → some k ≠ row := fun k cs t hk he => by
    obtain ⟨o, ho, hco⟩ := hr k he.symm
    rw [hk] at ho
    cases ho
    cases hco
  exact ⟨pw_below_grown h.below row h.below.size hg hB, h.ge, blk_grown h.b1 hg (hne _ _ _ h.b1), blk_grown h.b2 hg (hne _ _ _ h.b2), h.row.grown hg hr⟩
set_option maxRecDepth 100000 in
set_option maxHeartbeats 8000000 in
theorem listView.calls (g : Nat) (obj : ByteArray) (kind n : Int) (A0 : Option Addr) (c0 : Nat) (xs : List S68) (A : Option Addr) (c : Nat) (es : List Ent) (w : World) (hob : ∀ e ∈ es, e.object.toList = obj.toList) (hC : Kd.C kEnt w A es.length es) (hg : w.cell? ⟨g, 0, none⟩ = some (.slice A es.length c))
    (hr : Kd.C k68 w A0 xs.length xs) (hc0 : xs.length ≤ c0) (hl : xs.length + es.length < 1000000) :
    Calls Try.prog 17 #[.pointer (some ⟨g, 0, none⟩), .string obj, .agg #[.int .i64 kind, .int .i64 n, .slice A0 xs.length c0]] w fun e w' => ∃ v : Value, e = .returned (.agg #[.int .i64 kind, .int .i64 (runR kind n xs (es.map stpE)).1, v]) ∧ Rd w w' v (runR kind n xs (es.map stpE)).2 ∧ Below w.heap.size w w' := by
  rw [← callsIn_wide (n := 5)]
  have hro : Fence.wide.round = none := rfl
  have hf : ∀ k, Fence.wide.fn k := fun _ => trivial
  obtain ⟨W2, hW2⟩ : ∃ W2, W2 = (w.alloc (.cells #[.int .i64 kind, .int .i64 n, .slice A0 xs.length c0] 24)).alloc (.cells #[.int .i64 0, .int .i64 0, .slice none 0 0] 24) := ⟨_, rfl⟩
  obtain ⟨q, hq⟩ : ∃ q, q = w.heap.size := ⟨_, rfl⟩
  have HS2 := Aside0.mk (show WR w W2 q kind n (.slice A0 xs.length c0) xs #[.int .i64 0, .int .i64 0, .slice none 0 0] by
    have h := WT.new w #[.int .i64 kind, .int .i64 n, .slice A0 xs.length c0] #[.int .i64 0, .int .i64 0, .slice none 0 0]
    rw [← hW2, ← hq] at h
    exact ⟨h.below, h.ge, h.b1, h.b2, .inl ⟨A0, c0, rfl, hc0, hr⟩⟩)
  have HOB := Aside0.mk hob
  have HC := Aside0.mk hC
  have HG := Aside0.mk hg
  have HL := Aside0.mk hl
  clear hob hC hg hl hr hc0
  refine callsIn_of_wp_marks Try.func17 rfl (hf _) ?_ hro
  simp only [Try.ntmps17, List.size_toArray, List.length_cons, List.length_nil, Nat.reduceAdd, Nat.reduceSub, Array.replicate_succ, Array.replicate_zero, List.push_toArray, List.append_toArray, List.nil_append, List.cons_append]
  gi_upto_region 1 with fail
  rw [← hW2, ← hq]
  clear hW2 hq
  gi_wp2
  refine (of_in Fence.wide _ (hf _) hro g obj W2).mono ?_
  rintro e w' ⟨rfl, rfl⟩
  gi_wp2
  obtain ⟨wb, hwb⟩ : ∃ wb, wb = (W2.alloc (.cells #[.pointer (some ⟨g, 0, none⟩)] 77)).alloc (.cells #[.string obj] 9) := ⟨_, rfl⟩
  obtain ⟨p, hp⟩ : ∃ p, p = W2.heap.size := ⟨_, rfl⟩
  have hBb : Below W2.heap.size W2 wb := by rw [hwb]; exact bal (bal (Below.refl _ _) _) _
  have hSb := HS2.out.step hBb
  have hpb : wb.heap[p]? = some (.cells #[.pointer (some ⟨g, 0, none⟩)] 77 (0, 0)) := by rw [hwb, hp]; exact kal (blk_new W2 _) _
  have hqb : wb.heap[p + 1]? = some (.cells #[.string obj] 9 (0, 0)) := by
    have h := blk_new (W2.alloc (.cells #[.pointer (some ⟨g, 0, none⟩)] 77)) (.cells #[.string obj] 9)
    rw [show (W2.alloc (.cells #[.pointer (some ⟨g, 0, none⟩)] 77)).heap.size = W2.heap.size + 1 by simp] at h
    rw [hwb, hp]
    exact h
  have hqp : q + 1 < p := by rw [hp]; exact blk_lt HS2.out.b2
  have hps : p + 1 < wb.heap.size := blk_lt hqb
  rw [← hwb, ← hp]
  clear hwb hp hBb HS2
  have HSB := Aside0.mk hSb
  have HQP := Aside0.mk hqp
  have HPS := Aside0.mk hps
  have HWS := Aside0.mk hSb.below.size
  refine wpIn_rangeFunc_ownH hro (by decide) (gf := 64) (lb := #[.pointer (some ⟨p, 0, none⟩), .pointer (some ⟨p + 1, 0, none⟩)]) rfl (hf _) (enters_of Try.func64 (by kernel_rfl) rfl)
    (of_stops Fence.wide (5 - 1) (hf _) hro (by decide) p (p + 1) g w wb A c es obj HOB.out HC.out hSb.below HG.out ((kcl hpb 0).trans rfl) ((kcl hqb 0).trans rfl)) KV.trans
    (fun W l o o' hl hb hcell hwalk => ⟨belowK_b (w := wb) HWS.out W l o o' hl hb hcell hwalk, fun k hk hlt => World.putObj_heap_other (by have := HPS.out; omega)⟩) (Below.refl _ _) (fun _ => rfl)
    (fun pre W => KV w p (p + 1) wb W ∧ ∃ v, WR w W q kind (runR kind n xs (pre.map stpE)).1 v (runR kind n xs (pre.map stpE)).2 #[.int .i64 0, .int .i64 0, .slice none 0 0])
    (fun _ _ _ => False)
    (fun pre W W' row h hg hr => by
      obtain ⟨⟨hB, hk⟩, v, hS⟩ := h
      have hr2 : ∀ r, row = some r → wb.heap.size ≤ r := fun r e => (hr r e).1
      have hws := HWS.out
      have hps := HPS.out
      refine ⟨⟨pw_below_grown hB row (Nat.le_trans hws hB.size) hg (fun r e => Nat.le_trans hws (hr2 r e)), fun k hk' hlt => (hg.block k (Nat.lt_of_lt_of_le hlt hB.size) (fun e => ?_)).trans (hk k hk' hlt)⟩, v, hS.grown hg (fun r e => Nat.le_trans hws (hr2 r e)) (fun r e => (hr r e).2)⟩
      have := hr2 k e.symm
      omega)
    (fun _ _ _ _ _ h _ _ => h.elim)
    ⟨⟨Below.refl _ _, fun _ _ _ => rfl⟩, _, hSb⟩
    (fun x a' W => ∃ Bx, q + 1 < Bx ∧ W.heap[Bx]? = some (.cells #[.string x.object, .int .i64 x.op, .string x.a, .string x.b, .int .i64 x.n, .int .i64 x.code, .string x.text, .int .i64 x.rn] 79 (0, 0)) ∧ a' = { tmps := #[.pointer (some ⟨g, 0, none⟩), .string obj, .agg #[.int .i64 kind, .int .i64 n, .slice A0 xs.length c0], undef, undef, .pointer (some ⟨q, 0, none⟩), .pointer (some ⟨q + 1, 0, none⟩), .pointer (some ⟨Bx, 0, none⟩), .pointer (some ⟨g, 0, none⟩), .string obj, .func (.func 64) #[] #[.pointer (some ⟨p, 0, none⟩), .pointer (some ⟨p + 1, 0, none⟩)], .agg #[.string x.object, .int .i64 x.op, .string x.a, .string x.b, .int .i64 x.n, .int .i64 x.code, .string x.text, .int .i64 x.rn], undef, undef, undef, undef, undef, undef, undef, undef, undef], defers := [] })
    (fun x a' _ X Y row hs hg hr => by
      obtain ⟨Bx, e1, e2, e3⟩ := hs
      exact ⟨Bx, e1, (hg.block Bx (Array.getElem?_eq_some_iff.1 e2).1 (fun e => by obtain ⟨_, o, ho, hc⟩ := hr Bx e.symm; rw [e2] at ho; cases ho; cases hc)).trans e2, e3⟩)
    ?assign ?body ?done ?stop
  case assign =>
    rintro l pre x W K ⟨hK, v, hS⟩ hA
    unfold entE
    gi_wp2
    have hB : Below W.heap.size W (W.alloc (.cells #[.string x.object, .int .i64 x.op, .string x.a, .string x.b, .int .i64 x.n, .int .i64 x.code, .string x.text, .int .i64 x.rn] 79)) := bal (Below.refl _ _) _
    have hv := KV.of_below (p := p) (q := p + 1) hS.below.size hB
    exact hA _ _ ((KeepsOthers.alloc _ _).from _) hv ⟨hK.trans hv, v, hS.step hB⟩ ⟨W.heap.size, blk_lt hS.b2, World.alloc_heap_new W _, rfl⟩
  case body =>
    rintro l pre x a' W hl ⟨r, hr⟩ ⟨hK, v, hS⟩ ⟨Bx, hBx, bX, rfl⟩ hlt
    have hlen := runR_len kind (pre.map stpE) n xs
    rw [List.length_map] at hlen
    have HL6 := Aside0.mk (show (runR kind n xs (pre.map stpE)).2.length < 1000000 by have := HL.out; omega)
    have HAP := Aside0.mk (show runR kind n xs ((pre ++ [x]).map stpE) = applyR kind (runR kind n xs (pre.map stpE)).1 (runR kind n xs (pre.map stpE)).2 x.op x.a x.b x.n x.code x.text by rw [List.map_append]; exact runR_append kind _ n xs (stpE x))
    generalize runR kind n xs (pre.map stpE) = y at hS HL6 HAP
    obtain ⟨nj, xj⟩ := y
    dsimp only at hS HL6 HAP
    obtain ⟨Aj, cj, hvj, hcj, hCj⟩ := hS.row.here hS.below
    subst hvj
    have HS := Aside0.mk hS
    have HK := Aside0.mk hK
    have HCj := Aside0.mk hCj
    have Hcj := Aside0.mk hcj
    have HBX := Aside0.mk bX
    have a0 := (kcl HS.out.b1 0).trans rfl
    have a1 := (kcl HS.out.b1 1).trans rfl
    have a2 := (kcl HS.out.b1 2).trans rfl
    have b0 := (kcl HBX.out 0).trans rfl
    have b1 := (kcl HBX.out 1).trans rfl
    have b2 := (kcl HBX.out 2).trans rfl
    have b3 := (kcl HBX.out 3).trans rfl
    have b4 := (kcl HBX.out 4).trans rfl
    have b5 := (kcl HBX.out 5).trans rfl
    have b6 := (kcl HBX.out 6).trans rfl
    have b7 := (kcl HBX.out 7).trans rfl
    clear hS hK hCj hcj bX hlen hr hl hpb hqb hqp hps hSb
    gi_wp2
    refine (CallsIn.inRound l (callsIn_wide.2 (adtApply.calls kind nj Aj cj xj x.op x.a x.b x.n x.code x.text x.rn _ HCj.out Hcj.out HL6.out))).mono ?_
    rintro e w6 ⟨v6, rfl, hO6, hB6⟩
    have HS6 := Aside0.mk (HS.out.step hB6)
    have HST := Aside0.mk (HS.out.store (n' := (applyR kind nj xj x.op x.a x.b x.n x.code x.text).1) hB6 hO6)
    have HAP2 := Aside0.mk HAP.out.symm
    have HB6 := Aside0.mk hB6
    generalize applyR kind nj xj x.op x.a x.b x.n x.code x.text = y at hO6 HST HAP2 HAP ⊢
    obtain ⟨n6, xs6⟩ := y
    dsimp only at hO6 HST HAP2 HAP ⊢
    obtain ⟨A6, m6, c6, hv6⟩ : ∃ A6 m6 c6, v6 = .slice A6 m6 c6 := by
      rcases hO6 with ⟨h, -⟩ | h
      · exact ⟨_, _, _, h⟩
      · obtain ⟨A3, c3, h⟩ := Kd.R_slice h
        exact ⟨_, _, _, h⟩
    subst hv6
    clear hO6 hB6 a0 a1 a2 b0 b1 b2 b3 b4 b5 b6 b7
    have a0 := (kcl HS6.out.b1 0).trans rfl
    have a1 := (kcl HS6.out.b1 1).trans rfl
    have a2 := (kcl HS6.out.b1 2).trans rfl
    have f0 := kfr HS6.out.b1 0
    have f1 := kfr HS6.out.b1 1
    have f2 := kfr HS6.out.b1 2
    gi_wp2
    have hB6 := HB6.out
    have hqp := HQP.out
    have hne : p ≠ q := by omega
    have hne2 : p + 1 ≠ q := by omega
    have hq0 := HS.out.ge
    have hkv : KV w p (p + 1) W (((w6.setCell ⟨q, 0, none⟩ (.int .i64 kind)).setCell ⟨q, 1, none⟩ (.int .i64 n6)).setCell ⟨q, 2, none⟩ (.slice A6 m6 c6)) := by
      have hb : Below w.heap.size W w6 := hB6.mono HS.out.below.size
      refine ⟨((hb.setCell (p := ⟨q, 0, none⟩) hq0 _).setCell (p := ⟨q, 1, none⟩) hq0 _).setCell (p := ⟨q, 2, none⟩) hq0 _, fun k hk hlt => ?_⟩
      have hkq : k ≠ q := by rcases hk with rfl | rfl <;> omega
      exact (set3_other w6 q _ _ _ k hkq).trans (hB6.block k hlt)
    refine ⟨?_, hkv, HK.out.trans hkv, .slice A6 m6 c6, ?_⟩
    · refine ⟨by have h9 := hkv.1.size; exact h9, fun k o hk ho hc => ?_⟩
      have hlt := (Array.getElem?_eq_some_iff.1 ho).1
      have hkq : k ≠ q := by
        rintro rfl
        rw [HS.out.b1] at ho
        cases ho
        cases hc
      exact (set3_other w6 q _ _ _ k hkq).trans ((hB6.block k hlt).trans ho)
    · rw [HAP.out]
      exact HST.out
  case done =>
    rintro D ys W hD rfl ⟨hK, v, hS⟩ hDk
    obtain ⟨Aj, cj, hvj, hcj, hCj⟩ := hS.row.here hS.below
    subst hvj
    have HS := Aside0.mk hS
    have HD := Aside0.mk hD
    have a0 := (kcl HS.out.b1 0).trans rfl
    have a1 := (kcl HS.out.b1 1).trans rfl
    have a2 := (kcl HS.out.b1 2).trans rfl
    have z0 := (kcl HS.out.b2 0).trans rfl
    have z1 := (kcl HS.out.b2 1).trans rfl
    have z2 := (kcl HS.out.b2 2).trans rfl
    have g0 := kfr HS.out.b2 0
    have g1 := kfr HS.out.b2 1
    have g2 := kfr HS.out.b2 2
    have HDK := Aside0.mk hDk
    clear hS hcj hCj hK hpb hqb hqp hps hSb hDk hD
    obtain ⟨y, hy⟩ : ∃ y, y = runR kind n xs (List.map stpE ys) := ⟨_, rfl⟩
    rw [← hy] at HS a0 a1 a2
    have HY := Aside0.mk hy
    clear hy
    obtain ⟨nj, xj⟩ := y
    dsimp only at HS a0 a1 a2
    gi_wp2
    obtain ⟨hd1, hd2, hd3⟩ := HS.out.done
    have hq0 := HS.out.ge
    have hK1 : (((W.setCell ⟨q + 1, 0, none⟩ (.int .i64 kind)).setCell ⟨q + 1, 1, none⟩ (.int .i64 nj)).setCell ⟨q + 1, 2, none⟩ (.slice Aj xj.length cj)).heap[D]? = some (.deferred (some [])) :=
      (KeepsOthers.setCell _ _ _).same D _ ((KeepsOthers.setCell _ _ _).same D _ ((KeepsOthers.setCell _ _ _).same D _ HDK.out rfl) rfl) rfl
    generalize ((W.setCell ⟨q + 1, 0, none⟩ (.int .i64 kind)).setCell ⟨q + 1, 1, none⟩ (.int .i64 nj)).setCell ⟨q + 1, 2, none⟩ (.slice Aj xj.length cj) = Wz at hd1 hd2 hd3 hK1 ⊢
    have hDw : w.heap.size ≤ D := Nat.le_trans HWS.out HD.out
    have hgz := grownBy_putObj' Wz D (.deferred none)
    have hDq : q + 1 ≠ D := by have := HD.out; have := HPS.out; have := HQP.out; omega
    refine ⟨by simp, .inl ⟨_, _, rfl, run_takeDeferred hK1, ?_⟩⟩
    refine ⟨_, results_cell_row rfl _ _ (q + 1) 24 #[.int .i64 kind, .int .i64 nj, .slice Aj xj.length cj] (0, 0) _ rfl ((World.putObj_heap_other hDq).trans hd1) Try.underlying24 rfl (by kernel_rfl), ?_⟩
    rw [← HY.out]
    exact ⟨_, rfl, hd2.grown hgz (fun r e => by cases e; exact ⟨_, hK1, rfl⟩), pw_below_grown hd3 (some D) hd3.size hgz (fun r e => by cases e; exact hDw)⟩
  case stop => exact fun _ _ _ _ _ _ h _ => h.elim
end Go.Proofs.Ytjiblcncadekcaa.PA

namespace Go.Proofs.Ytjiblcncadekcaa
open Go.RowKit Go.Proofs.YtjiblcncadekcaaW.PrintWords Go.Proofs.YtjiblcncadekcaaW.PrintLast Go.Proofs.YtjiblcncadekcaaW.PrintMore
theorem bytes_ext {s t : ByteArray} (h : s.data.toList = t.data.toList) : s = t := ByteArray.ext (Array.ext' h)
theorem ba_mk (l : List UInt8) : (⟨l.toArray⟩ : ByteArray).data.toList = l := rfl
theorem ba_size (s : ByteArray) : s.size = s.data.toList.length := by rw [Array.length_toList]; rfl
theorem ba_mk_size (l : List UInt8) : (⟨l.toArray⟩ : ByteArray).size = l.length := by rw [ba_size]
theorem ba_toList (s : ByteArray) : s.toList = s.data.toList := ByteArray.toList_eq s
theorem ba_extract (s : ByteArray) (a b : Nat) : (s.extract a b).data.toList = (s.data.toList.drop a).take (b - a) := Lib.extract_data s a b
theorem i64_mask (j : Nat) (hj : j ≤ 62) (x : Int) : 0 ≤ Go.bits .and .i64 x (((2 ^ j - 1 : Nat) : Int)) ∧ Go.bits .and .i64 x (((2 ^ j - 1 : Nat) : Int)) < 2 ^ j := by
  have hp : (2 : Nat) ^ j ≤ 2 ^ 62 := Nat.pow_le_pow_right (by decide) hj
  have hp1 : 0 < 2 ^ j := Nat.pow_pos (by decide)
  have hc : ((2 ^ j : Nat) : Int) = (2 : Int) ^ j := by simp
  have e : (2 ^ j - 1) % 2 ^ 64 = 2 ^ j - 1 := Nat.mod_eq_of_lt (by omega)
  have hle : (BitVec.ofInt 64 x &&& BitVec.ofInt 64 ((2 ^ j - 1 : Nat) : Int)).toNat ≤ 2 ^ j - 1 := by
    rw [BitVec.ofInt_natCast, BitVec.toNat_and, BitVec.toNat_ofNat, e]
    exact Nat.and_le_right
  simp only [Go.bits]
  show 0 ≤ IntKind.i64.wrap _ ∧ IntKind.i64.wrap _ < _
  rw [IntKind.wrap_i64]
  generalize hq : (BitVec.ofInt 64 x &&& BitVec.ofInt 64 ((2 ^ j - 1 : Nat) : Int)).toNat = q at hle
  have hq2 : (BitVec.ofInt IntKind.i64.bits x &&& BitVec.ofInt IntKind.i64.bits ((2 ^ j - 1 : Nat) : Int)).toNat = q := hq
  rw [hq2, ← hc]
  omega
theorem pow_nlen (n : Nat) : n < 256 ^ nlen n := by
  induction n using nlen.induct with
  | case1 => rw [nlen_zero]; decide
  | case2 n h ih =>
    rw [nlen_pos n h, Nat.pow_succ]
    omega
theorem nlen_pow (n : Nat) (h : n ≠ 0) : 256 ^ (nlen n - 1) ≤ n := by
  induction n using nlen.induct with
  | case1 => exact absurd rfl h
  | case2 n h0 ih =>
    rw [nlen_pos n h, Nat.add_sub_cancel]
    by_cases hz : n / 256 = 0
    · rw [hz, nlen_zero]; simp; omega
    · have h1 := ih hz
      have h2 : 0 < nlen (n / 256) := by rw [nlen_pos _ hz]; omega
      obtain ⟨m, hm⟩ : ∃ m, nlen (n / 256) = m + 1 := ⟨nlen (n / 256) - 1, by omega⟩
      rw [hm] at h1 ⊢
      rw [Nat.add_sub_cancel] at h1
      rw [Nat.pow_succ]
      omega
theorem beN_digs (n : Nat) (hn : n < 18446744073709551616) (m : Nat) : beN (n / 256 ^ m) (digs n m) = n := by
  induction m with
  | zero => simp [beN, digs]
  | succ m ih =>
    have e : (n / 256 ^ (m + 1) * 256 + (dig n m).toNat) % 18446744073709551616 = n / 256 ^ m := by
      have h1 : (dig n m).toNat = n / 256 ^ m % 256 := by rw [dig, UInt8.toNat_ofNat']; omega
      rw [h1, Nat.pow_succ, ← Nat.div_div_eq_div_mul]
      have h2 : n / 256 ^ m ≤ n := Nat.div_le_self _ _
      omega
    rw [digs]
    unfold beN at ih ⊢
    rw [List.foldl_cons, e]
    exact ih
theorem beN_num (n : Nat) (hn : n < 18446744073709551616) : beN 0 (digs n (nlen n)) = n := by
  have h := beN_digs n hn (nlen n)
  rwa [Nat.div_eq_of_lt (pow_nlen n)] at h
theorem digs_head (n : Nat) (h : n ≠ 0) : (digs n (nlen n)).getD 0 0 ≠ 0 := by
  obtain ⟨m, hm⟩ : ∃ m, nlen n = m + 1 := ⟨nlen n - 1, by rw [nlen_pos n h]; omega⟩
  have h1 := nlen_pow n h
  have h2 := pow_nlen n
  rw [hm] at h1 h2 ⊢
  rw [Nat.add_sub_cancel] at h1
  rw [digs]
  show dig n m ≠ 0
  intro h3
  have h4 : (dig n m).toNat = n / 256 ^ m % 256 := by rw [dig, UInt8.toNat_ofNat']; omega
  rw [h3] at h4
  have h5 : n / 256 ^ m < 256 := by rw [Nat.div_lt_iff_lt_mul (Nat.pow_pos (by decide)), Nat.mul_comm, ← Nat.pow_succ]; exact h2
  have h6 : 1 ≤ n / 256 ^ m := by rw [Nat.le_div_iff_mul_le (Nat.pow_pos (by decide))]; omega
  have h7 : (0 : UInt8).toNat = 0 := rfl
  omega
theorem beN_lt (l : List UInt8) : beN 0 l < 18446744073709551616 := by
  suffices h : ∀ n, n < 18446744073709551616 → beN n l < 18446744073709551616 from h 0 (by decide)
  induction l with
  | nil => intro n h; exact h
  | cons c l ih => intro n h; exact ih _ (Nat.mod_lt _ (by decide))
def fl (s : ByteArray) (e x : Int) : ByteArray × Int := if e = 0 then (if x = 0 then (s, e) else (⟨#[]⟩, x)) else (s, e)
def tk (s : ByteArray) (e : Int) (n : Nat) : ByteArray × ByteArray × Int := if n > s.size then (⟨#[]⟩, fl s e 1) else (s.extract 0 n, s.extract n s.size, e)
def tU (s : ByteArray) (e : Int) : Int × ByteArray × Int :=
  if (tk s e 1).2.2 ≠ 0 then (0, (tk s e 1).2)
  else if ((tk s e 1).1.data.toList.getD 0 0).toNat > 8 then (0, fl (tk s e 1).2.1 (tk s e 1).2.2 2)
  else
    let b := tk (tk s e 1).2.1 (tk s e 1).2.2 ((tk s e 1).1.data.toList.getD 0 0).toNat
    if b.1.size ≠ 0 ∧ b.1.data.toList.getD 0 0 = 0 then (0, fl b.2.1 b.2.2 2) else ((beN 0 b.1.data.toList : Nat), b.2)
def tN (s : ByteArray) (e m : Int) : Int × ByteArray × Int := if (tU s e).1 > IntKind.u64.wrap (mx m 0) then (0, fl (tU s e).2.1 (tU s e).2.2 3) else (wrap64 (tU s e).1, (tU s e).2)
def tS (s : ByteArray) (e m : Int) : ByteArray × ByteArray × Int := tk (tN s e m).2.1 (tN s e m).2.2 (tN s e m).1.toNat
def uns (n : Int) : Int := if n % 2 = 1 then -(n / 2) - 1 else n / 2
def tI (s : ByteArray) (e : Int) : Int × ByteArray × Int := (uns (tU s e).1, (tU s e).2)
def Val (s : ByteArray) (e : Int) : Prop := s.size ≤ 140737488351232 ∧ (e ≠ 0 → s = ⟨#[]⟩)
theorem tk_size {s : ByteArray} {e : Int} {n : Nat} (hn : n < 9223372036854775808) : (tk s e n).1.size ≤ s.size ∧ (tk s e n).1.size ≤ n ∧ (tk s e n).2.1.size ≤ s.size := by
  unfold tk
  split
  · refine ⟨Nat.zero_le _, Nat.zero_le _, ?_⟩
    show (fl s e 1).1.size ≤ _
    unfold fl
    split
    · split
      · exact Nat.le_refl _
      · exact Nat.zero_le _
    · exact Nat.le_refl _
  · refine ⟨?_, ?_, ?_⟩
    · show (s.extract 0 n).size ≤ _
      rw [ba_size, ba_extract, List.length_take, List.length_drop, ba_size]; omega
    · show (s.extract 0 n).size ≤ _
      rw [ba_size, ba_extract, List.length_take, List.length_drop]; omega
    · show (s.extract n s.size).size ≤ _
      rw [ba_size, ba_extract, List.length_take, List.length_drop, ba_size]; omega
theorem tU_range (s : ByteArray) (e : Int) : 0 ≤ (tU s e).1 ∧ (tU s e).1 < 18446744073709551616 := by
  unfold tU
  split
  · exact ⟨Int.le_refl 0, (by decide : (0 : Int) < 18446744073709551616)⟩
  · split
    · exact ⟨Int.le_refl 0, (by decide : (0 : Int) < 18446744073709551616)⟩
    · dsimp only
      split
      · exact ⟨Int.le_refl 0, (by decide : (0 : Int) < 18446744073709551616)⟩
      · have := beN_lt (tk (tk s e 1).2.1 (tk s e 1).2.2 ((tk s e 1).1.data.toList.getD 0 0).toNat).1.data.toList
        exact ⟨by omega, by omega⟩
theorem tU_num (n : Nat) (hn : n < 18446744073709551616) (r : List UInt8) : tU ⟨(numB n ++ r).toArray⟩ 0 = ((n : Int), ⟨r.toArray⟩, 0) := by
  have hl8 := nlen_le 8 n (by simpa using hn)
  have e1 : tk ⟨(numB n ++ r).toArray⟩ 0 1 = (⟨#[UInt8.ofNat (nlen n)]⟩, ⟨(digs n (nlen n) ++ r).toArray⟩, 0) := by
    unfold tk
    rw [if_neg (by rw [ba_mk_size, numB]; simp)]
    congr 1
    · exact bytes_ext (by rw [ba_extract, ba_mk, numB]; simp)
    · congr 1
      exact bytes_ext (by rw [ba_extract, ba_mk, ba_mk_size, numB, ba_mk, List.cons_append, List.drop_one, List.tail_cons, List.length_cons, Nat.add_sub_cancel, List.take_length])
  have hb : (UInt8.ofNat (nlen n)).toNat = nlen n := by rw [UInt8.toNat_ofNat']; omega
  have e2 : tk ⟨(digs n (nlen n) ++ r).toArray⟩ 0 (nlen n) = (⟨(digs n (nlen n)).toArray⟩, ⟨r.toArray⟩, 0) := by
    unfold tk
    have hlen := digs_length n (nlen n)
    rw [if_neg (by rw [ba_mk_size, List.length_append, hlen]; omega)]
    congr 1
    · refine bytes_ext ?_
      rw [ba_extract, ba_mk, List.drop_zero, Nat.sub_zero, List.take_append_of_le_length (by omega), List.take_of_length_le (by omega)]
    · congr 1
      refine bytes_ext ?_
      rw [ba_extract, ba_mk, ba_mk, ba_mk_size, List.drop_append_of_le_length (by omega), List.drop_of_length_le (by omega), List.nil_append, List.length_append, List.take_of_length_le (by omega)]
  unfold tU
  rw [e1]
  have e0 : ((#[UInt8.ofNat (nlen n)] : Array UInt8).toList.getD 0 0) = UInt8.ofNat (nlen n) := rfl
  simp only [e0, hb, e2]
  rw [if_neg (by decide), if_neg (by omega), ba_mk_size, digs_length]
  rw [if_neg (by
    intro h
    by_cases hz : n = 0
    · rw [hz, nlen_zero] at h; exact h.1 rfl
    · exact digs_head n hz h.2)]
  rw [beN_num n hn]
theorem tN_num (n : Nat) (m : Int) (hn : (n : Int) ≤ m) (hm : m < 9223372036854775808) (r : List UInt8) : tN ⟨(numB n ++ r).toArray⟩ 0 m = ((n : Int), ⟨r.toArray⟩, 0) := by
  unfold tN
  have hw : IntKind.u64.wrap (mx m 0) = m := by
    rw [wrap_u64]; unfold mx; rw [if_neg (by omega)]; omega
  rw [tU_num n (by omega), hw, if_neg (by show ¬ (n : Int) > m; omega)]
  show (wrap64 (n : Int), _) = _
  rw [show wrap64 (n : Int) = n by unfold wrap64; omega]
theorem tS_str (s : ByteArray) (m : Int) (hn : (s.size : Int) ≤ m) (hm : m < 9223372036854775808) (r : List UInt8) : tS ⟨(strB s ++ r).toArray⟩ 0 m = (s, ⟨r.toArray⟩, 0) := by
  unfold tS strB
  rw [List.append_assoc, tN_num s.size m hn hm]
  show tk ⟨(s.data.toList ++ r).toArray⟩ 0 (s.size : Int).toNat = _
  rw [Int.toNat_natCast]
  unfold tk
  have hz := ba_size s
  rw [if_neg (by rw [ba_mk_size (s.data.toList ++ r), List.length_append]; omega)]
  congr 1
  · refine bytes_ext ?_
    rw [ba_extract, ba_mk (s.data.toList ++ r), List.drop_zero, Nat.sub_zero, List.take_append_of_le_length (by omega), List.take_of_length_le (by omega)]
  · congr 1
    refine bytes_ext ?_
    rw [ba_extract, ba_mk (s.data.toList ++ r), ba_mk r, ba_mk_size (s.data.toList ++ r), List.drop_append_of_le_length (by omega), List.drop_of_length_le (by omega), List.nil_append, List.length_append, List.take_of_length_le (by omega)]
end Go.Proofs.Ytjiblcncadekcaa

namespace Go.Proofs.Ytjiblcncadekcaa.PA
open Go.RowKit Go.Proofs.YtjiblcncadekcaaW.PrintWords Go.Proofs.YtjiblcncadekcaaW.PrintLast Go.Proofs.YtjiblcncadekcaaW.PrintMore Go.Proofs.Ytjiblcncadekcaa Go.Proofs.Ytjiblcncadekcaa.PL
theorem fl_f (s : ByteArray) (e x : Int) : codec_In_Fail.f s e x = some (fl s e x) := by
  unfold codec_In_Fail.f fl
  by_cases h : e = 0
  · by_cases h2 : x = 0
    · rw [if_pos h, if_pos h2, if_pos h, if_pos h2]
    · rw [if_pos h, if_neg h2, if_pos h, if_neg h2]
  · rw [if_neg h, if_neg h]
theorem tk_f (s : ByteArray) (e : Int) (n : Nat) : codec_In_take.f s e (n : Int) = some (tk s e n) := by
  unfold codec_In_take.f tk
  by_cases h : n > s.size
  · rw [if_pos (by omega), if_pos h, fl_f]; rfl
  · rw [if_neg (by omega), if_neg h, if_pos (by omega), if_pos (by omega), Int.toNat_natCast]
theorem tU_f (s : ByteArray) (e : Int) (_hv : Val s e) : codec_In_U.f s e = some (tU s e) := by
  have h1 := tk_f s e 1
  rw [show ((1 : Nat) : Int) = 1 from rfl] at h1
  unfold codec_In_U.f tU
  rw [h1, Option.bind_some]
  by_cases c : (tk s e 1).2.2 ≠ 0
  · rw [if_pos c, if_pos c]
  · rw [if_neg c, if_neg c]
    have hz : (tk s e 1).1.size = 1 := by
      have h3 : ¬ 1 > s.size := by
        intro h3
        have e2 : (tk s e 1).2.2 = (fl s e 1).2 := by unfold tk; rw [if_pos h3]
        rw [e2] at c
        unfold fl at c
        by_cases he : e = 0
        · rw [if_pos he, if_neg (by decide)] at c; exact c (by decide)
        · rw [if_neg he] at c; exact c he
      unfold tk
      rw [if_neg h3]
      show (s.extract 0 1).size = 1
      rw [ba_size, ba_extract, List.length_take, List.length_drop, ← ba_size]; omega
    rw [if_neg (by omega)]
    by_cases c2 : ((tk s e 1).1.data.toList.getD 0 0).toNat > 8
    · rw [if_pos c2, if_pos c2, fl_f]; rfl
    · rw [if_neg c2, if_neg c2, tk_f, Option.bind_some]
      dsimp only
      split
      · rw [fl_f]; rfl
      · rw [if_pos (by
          have h4 := (tk_size (s := (tk s e 1).2.1) (e := (tk s e 1).2.2) (n := ((tk s e 1).1.data.toList.getD 0 0).toNat) (by omega)).2.1
          omega)]
theorem tN_f (s : ByteArray) (e m : Int) (hv : Val s e) : codec_In_N.f s e m = some (tN s e m) := by
  unfold codec_In_N.f tN
  rw [tU_f s e hv, Option.bind_some]
  by_cases c : (tU s e).1 > IntKind.u64.wrap (mx m 0)
  · rw [if_pos c, if_pos c, fl_f]; rfl
  · rw [if_neg c, if_neg c]
theorem tN_nonneg (s : ByteArray) (e m : Int) (hm : m < 9223372036854775808) : 0 ≤ (tN s e m).1 ∧ (tN s e m).1 ≤ mx m 0 := by
  have h := tU_range s e
  have hw : IntKind.u64.wrap (mx m 0) = mx m 0 := by rw [wrap_u64]; unfold mx; split <;> omega
  have hm0 : 0 ≤ mx m 0 ∧ mx m 0 < 9223372036854775808 := by unfold mx; split <;> omega
  unfold tN
  rw [hw]
  split
  · exact ⟨Int.le_refl 0, hm0.1⟩
  · rename_i c
    show 0 ≤ wrap64 (tU s e).1 ∧ wrap64 (tU s e).1 ≤ mx m 0
    have : wrap64 (tU s e).1 = (tU s e).1 := by unfold wrap64; omega
    rw [this]
    exact ⟨h.1, by omega⟩
theorem tS_f (s : ByteArray) (e m : Int) (hv : Val s e) (hm : m < 9223372036854775808) : codec_In_S.f s e m = some (tS s e m) := by
  have h := (tN_nonneg s e m hm).1
  have e1 : (((tN s e m).1.toNat : Nat) : Int) = (tN s e m).1 := by omega
  have h2 := tk_f (tN s e m).2.1 (tN s e m).2.2 (tN s e m).1.toNat
  rw [e1] at h2
  unfold codec_In_S.f tS
  rw [tN_f s e m hv, Option.bind_some, h2]
  rfl
end Go.Proofs.Ytjiblcncadekcaa.PA

namespace Go.Proofs.Ytjiblcncadekcaa
open Go.RowKit Go.Proofs.YtjiblcncadekcaaW.PrintWords Go.Proofs.YtjiblcncadekcaaW.PrintLast Go.Proofs.YtjiblcncadekcaaW.PrintMore
theorem zig_lt (n : Int) (h0 : -9223372036854775808 ≤ n) (h1 : n < 9223372036854775808) : zig n < 18446744073709551616 := by unfold zig; split <;> omega
theorem uns_zig (n : Int) : uns (zig n : Nat) = n := by unfold uns zig; split <;> split <;> omega
theorem tI_num (n : Int) (h0 : -9223372036854775808 ≤ n) (h1 : n < 9223372036854775808) (r : List UInt8) : tI ⟨(numB (zig n) ++ r).toArray⟩ 0 = (n, ⟨r.toArray⟩, 0) := by
  unfold tI
  rw [tU_num _ (zig_lt n h0 h1)]
  show (uns (zig n : Nat), _) = _
  rw [uns_zig]
end Go.Proofs.Ytjiblcncadekcaa

namespace Go.Proofs.Ytjiblcncadekcaa.PA
open Go.RowKit Go.Proofs.YtjiblcncadekcaaW.PrintWords Go.Proofs.YtjiblcncadekcaaW.PrintLast Go.Proofs.YtjiblcncadekcaaW.PrintMore Go.Proofs.Ytjiblcncadekcaa Go.Proofs.Ytjiblcncadekcaa.PL
theorem u64_and_1 (n : Int) (h0 : 0 ≤ n) (h1 : n < 18446744073709551616) : Go.bits .and .u64 n 1 = n % 2 := by
  have h := (bits_nat .u64 64 (by decide) (fun n h0 h1 => by rw [wrap_u64]; omega) n.toNat 1 (by omega) (by decide)).1
  rw [Nat.and_one_is_mod, show ((n.toNat : Nat) : Int) = n by omega] at h
  refine h.trans ?_
  omega
theorem uns_wrap (n : Int) (h0 : 0 ≤ n) (h1 : n < 18446744073709551616) : wrap64 ((wrap64 (-(wrap64 (n / 2)))) - 1) = -(n / 2) - 1 ∧ wrap64 (n / 2) = n / 2 ∧ wrap64 ((wrap64 (-(n / 2))) - 1) = -(n / 2) - 1 := by
  unfold wrap64; omega
theorem tI_f (s : ByteArray) (e : Int) (hv : Val s e) : codec_In_I.f s e = some (tI s e) := by
  have h := tU_range s e
  have h2 := uns_wrap _ h.1 h.2
  unfold codec_In_I.f tI uns
  rw [tU_f s e hv, Option.bind_some, u64_and_1 _ h.1 h.2, h2.1, h2.2.1]
  by_cases c : (tU s e).1 % 2 = 1
  · rw [if_pos c, if_pos c]
  · rw [if_neg c, if_neg c]
end Go.Proofs.Ytjiblcncadekcaa.PA

namespace Go.Proofs.Ytjiblcncadekcaa.PA
open Go.RowKit Go.Proofs.YtjiblcncadekcaaW.PrintWords Go.Proofs.YtjiblcncadekcaaW.PrintLast Go.Proofs.YtjiblcncadekcaaW.PrintMore Go.Proofs.Ytjiblcncadekcaa
theorem strB_length (s : ByteArray) (hs : s.size ≤ 140737488351232) : (strB s).length ≤ s.size + 9 := by
  have hl := numB_length s.size (by omega)
  unfold strB
  rw [List.length_append, ← ba_size]; omega
theorem wN1 (s : ByteArray) (a : Int) (hs : s.size ≤ 1000000) (ha : a < 9223372036854775808) : codec_Out_N.f s [a] = some ⟨(s.data.toList ++ numB a.toNat).toArray⟩ := by
  unfold codec_Out_N.f
  rw [if_pos ⟨by simp only [List.length_cons, List.length_nil]; omega, by intro n hn; rw [List.mem_singleton.1 hn]; exact ha⟩]
  simp
theorem wS2 (s a b : ByteArray) (hs : s.size ≤ 1000000) (ha : a.size ≤ 1000000) (hb : b.size ≤ 1000000) : codec_Out_S.f s [a, b] = some ⟨(s.data.toList ++ strB a ++ strB b).toArray⟩ := by
  unfold codec_Out_S.f
  rw [if_pos (by simp only [List.map_cons, List.map_nil, List.sum_cons, List.sum_nil]; omega)]
  simp
end Go.Proofs.Ytjiblcncadekcaa.PA

namespace Go.Proofs.Ytjiblcncadekcaa.PA
open Go.RowKit Go.Proofs.YtjiblcncadekcaaW.PrintWords Go.Proofs.YtjiblcncadekcaaW.PrintLast Go.Proofs.YtjiblcncadekcaaW.PrintMore Go.Proofs.Ytjiblcncadekcaa
theorem wI1 (s : ByteArray) (a : Int) (hs : s.size ≤ 1000000) (h0 : -9223372036854775808 ≤ a) (h1 : a < 9223372036854775808) : codec_Out_I.f s [a] = some ⟨(s.data.toList ++ numB (zig a)).toArray⟩ := by
  unfold codec_Out_I.f
  rw [if_pos ⟨by simp only [List.length_cons, List.length_nil]; omega, by intro n hn; rw [List.mem_singleton.1 hn]; exact ⟨h0, h1⟩⟩]
  simp
end Go.Proofs.Ytjiblcncadekcaa.PA

