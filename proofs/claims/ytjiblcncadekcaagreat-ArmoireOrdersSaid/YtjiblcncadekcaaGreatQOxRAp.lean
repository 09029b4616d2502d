import Derived.Test.YtjiblcncadekcaaGreatQOxMFold2
import Derived.Test.YtjiblcncadekcaaGreatQOxPAx11
import Derived.Test.YtjiblcncadekcaaGreatQOxPAx9
namespace Go.Proofs.YtjiblcncadekcaaGreat.PA
set_option linter.unusedSimpArgs false
open Go.RowKit Go.Proofs.YtjiblcncadekcaaGreatW.PrintWords Go.Proofs.YtjiblcncadekcaaGreatW.PrintLast Go.Proofs.YtjiblcncadekcaaGreatW.PrintMore Go.Proofs.YtjiblcncadekcaaGreat Go.Proofs.YtjiblcncadekcaaGreat.PL
attribute [local go_sem] Oper.semAt_some
def changesR (op cn code : Int) : Bool :=
  op == 2 || op == 5 || op == 14 || op == 16 || (op == 3 && cn != 0) || ((op == 6 || op == 8 || op == 9 || op == 11 || op == 12 || op == 15 || op == 17) && code == 1)
theorem changes_k (k : Nat) (op : Int) (a b : ByteArray) (cn code : Int) (t : ByteArray) (rn : Int) : method_Changes.f (k + 1) op a b cn code t rn = some (changesR op cn code) := by
  have h0 : ∀ x, method_Changes.j0 (k + 1) op x op a b cn code t rn = some (x || (op == 3 && cn != 0) || ((op == 6 || op == 8 || op == 9 || op == 11 || op == 12 || op == 15 || op == 17) && code == 1)) := by
    intro x
    rw [method_Changes.j0]
    cases x with
    | true => simp
    | false =>
      rw [if_neg (by simp)]
      by_cases q3 : op = 3
      · subst q3; simp
      by_cases q6 : op = 6
      · subst q6; simp
      by_cases q8 : op = 8
      · subst q8; simp
      by_cases q9 : op = 9
      · subst q9; simp
      by_cases q11 : op = 11
      · subst q11; simp
      by_cases q12 : op = 12
      · subst q12; simp
      by_cases q15 : op = 15
      · subst q15; simp
      by_cases q17 : op = 17
      · subst q17; simp
      simp [q3, q6, q8, q9, q11, q12, q15, q17]
  unfold method_Changes.f changesR
  by_cases q2 : op = 2
  · rw [if_pos q2, h0]; subst q2; simp
  rw [if_neg q2]
  by_cases q5 : op = 5
  · rw [if_pos q5, h0]; subst q5; simp
  rw [if_neg q5]
  by_cases q14 : op = 14
  · rw [if_pos q14, h0]; subst q14; simp
  rw [if_neg q14, h0]
  have e2 : (op == 2) = false := beq_eq_false_iff_ne.2 q2
  have e5 : (op == 5) = false := beq_eq_false_iff_ne.2 q5
  have e14 : (op == 14) = false := beq_eq_false_iff_ne.2 q14
  rw [e2, e5, e14]
  rfl
def kindR (op : Int) : Int := if op < 1 ∨ 17 < op then 0 else ([1, 1, 2, 2, 3, 3, 3, 4, 4, 4, 5, 5, 5, 6, 6, 7, 7] : List Int).getD (op - 1).toNat 0
theorem kind_f (op : Int) : method_Op_Kind.f op = some (kindR op) := by
  by_cases h : op < 1 ∨ 17 < op
  · unfold method_Op_Kind.f kindR
    rw [if_pos h]
    have : method_Op_shape.f op = some (0, ⟨#[]⟩, false, false, false) := by
      unfold method_Op_shape.f
      rcases h with h | h
      · rw [if_pos h]
      · rw [if_neg (by omega), if_pos (by omega)]
    rw [this]
    rfl
  · have hop : op = 1 ∨ op = 2 ∨ op = 3 ∨ op = 4 ∨ op = 5 ∨ op = 6 ∨ op = 7 ∨ op = 8 ∨ op = 9 ∨ op = 10 ∨ op = 11 ∨ op = 12 ∨ op = 13 ∨ op = 14 ∨ op = 15 ∨ op = 16 ∨ op = 17 := by omega
    rcases hop with rfl | rfl | rfl | rfl | rfl | rfl | rfl | rfl | rfl | rfl | rfl | rfl | rfl | rfl | rfl | rfl | rfl <;> decide +kernel
def applyR (kind n : Int) (xs : List S73) (op : Int) (a b : ByteArray) (cn code : Int) (text : ByteArray) : Int × List S73 :=
  if changesR op cn code = false ∨ kind ≠ kindR op then (n, xs)
  else if op = 2 then (n, if a.toList = [] then [] else [⟨a, ⟨#[]⟩⟩])
  else if op = 3 ∨ op = 5 then (wrap64 (n + cn), xs)
  else if op = 6 then (wrap64 (n - cn), xs)
  else if op = 8 ∨ op = 14 ∨ op = 16 then (n, withR kind xs ⟨a, ⟨#[]⟩⟩)
  else if op = 11 then (n, withR kind xs ⟨a, b⟩)
  else if op = 9 ∨ op = 12 then (n, withoutR xs a)
  else (n, withoutR xs text)
theorem ops_of {op cn code : Int} (h : changesR op cn code = true) : op = 2 ∨ (op = 3 ∨ op = 5) ∨ op = 6 ∨ (op = 8 ∨ op = 14 ∨ op = 16) ∨ op = 11 ∨ (op = 9 ∨ op = 12) ∨ (op = 15 ∨ op = 17) := by
  unfold changesR at h
  simp only [Bool.or_eq_true, Bool.and_eq_true, beq_iff_eq] at h
  omega
structure WA (w W : World) (q : Nat) (c1 c2 c3 c4 : Array Value) : Prop where
  below : Below w.heap.size w W
  ge : w.heap.size ≤ q
  b1 : W.heap[q]? = some (.cells c1 24 (0, 0))
  b2 : W.heap[q + 1]? = some (.cells c2 38 (0, 0))
  b3 : W.heap[q + 1 + 1]? = some (.cells c3 40 (0, 0))
  b4 : W.heap[q + 1 + 1 + 1]? = some (.cells c4 24 (0, 0))
theorem WA.step {w W W1 : World} {q : Nat} {c1 c2 c3 c4 : Array Value} (h : WA w W q c1 c2 c3 c4) (hB : Below W.heap.size W W1) : WA w W1 q c1 c2 c3 c4 :=
  ⟨bsp h.below hB, h.ge, kbl h.b1 hB, kbl h.b2 hB, kbl h.b3 hB, kbl h.b4 hB⟩
theorem WA.new (w : World) (c1 c2 c3 c4 : Array Value) : WA w ((((w.alloc (.cells c1 24)).alloc (.cells c2 38)).alloc (.cells c3 40)).alloc (.cells c4 24)) w.heap.size c1 c2 c3 c4 := by
  have hs : ∀ (w : World) o, (w.alloc o).heap.size = w.heap.size + 1 := fun w o => by simp
  refine ⟨bal (bal (bal (bal (Below.refl _ _) _) _) _) _, Nat.le_refl _, kal (kal (kal (blk_new w _) _) _) _, ?_, ?_, ?_⟩
  · have h := blk_new (w.alloc (.cells c1 24)) (.cells c2 38)
    rw [hs] at h
    exact kal (kal h _) _
  · have h := blk_new ((w.alloc (.cells c1 24)).alloc (.cells c2 38)) (.cells c3 40)
    rw [hs, hs] at h
    exact kal h _
  · have h := blk_new (((w.alloc (.cells c1 24)).alloc (.cells c2 38)).alloc (.cells c3 40)) (.cells c4 24)
    rw [hs, hs, hs] at h
    exact h
theorem wa_set {w W : World} {q : Nat} {c1 c2 c3 : Array Value} {y0 y1 y2 : Value} (a b v : Value) (hS : WA w W q c1 c2 c3 #[y0, y1, y2]) :
    ((((W.setCell ⟨q + 1 + 1 + 1, 0, none⟩ a).setCell ⟨q + 1 + 1 + 1, 1, none⟩ b).setCell ⟨q + 1 + 1 + 1, 2, none⟩ v)).heap[q + 1 + 1 + 1]? = some (.cells #[a, b, v] 24 (0, 0)) ∧ Below w.heap.size w ((((W.setCell ⟨q + 1 + 1 + 1, 0, none⟩ a).setCell ⟨q + 1 + 1 + 1, 1, none⟩ b).setCell ⟨q + 1 + 1 + 1, 2, none⟩ v)) := by
  have b2 := kpt hS.b4 0 a (cs' := #[a, y1, y2]) rfl
  have b3 := kpt b2 1 b (cs' := #[a, b, y2]) rfl
  have b4 := kpt b3 2 v (cs' := #[a, b, v]) rfl
  have hq := hS.ge
  exact ⟨b4, bst (bst (bst hS.below (by omega)) (by omega)) (by omega)⟩
theorem wa_setR {w W : World} {q base : Nat} {c1 c2 c3 : Array Value} {y0 y1 y2 : Value} (a b v : Value) {u : Value} {ys : List S73} (hS : WA w W q c1 c2 c3 #[y0, y1, y2]) (hR : Kd.R k73 73 W base (fun _ => True) u ys) :
    Kd.R k73 73 ((((W.setCell ⟨q + 1 + 1 + 1, 0, none⟩ a).setCell ⟨q + 1 + 1 + 1, 1, none⟩ b).setCell ⟨q + 1 + 1 + 1, 2, none⟩ v)) base (fun _ => True) u ys := by
  have b2 := kpt hS.b4 0 a (cs' := #[a, y1, y2]) rfl
  have b3 := kpt b2 1 b (cs' := #[a, b, y2]) rfl
  exact Kd.R_set (Kd.R_set (Kd.R_set hR hS.b4 tyR 0 a) b2 tyR 1 b) b3 tyR 2 v
theorem applyR_no {kind n : Int} {xs : List S73} {op : Int} {a b : ByteArray} {cn code : Int} {text : ByteArray} (h : changesR op cn code = false ∨ kind ≠ kindR op) : applyR kind n xs op a b cn code text = (n, xs) := by
  unfold applyR
  rw [if_pos h]
theorem WA.put1 {w W : World} {q : Nat} {x0 x1 x2 : Value} {c2 c3 c4 : Array Value} (h : WA w W q #[x0, x1, x2] c2 c3 c4) (v : Value) : WA w (W.setCell ⟨q, 1, none⟩ v) q #[x0, v, x2] c2 c3 c4 :=
  ⟨bst h.below h.ge, h.ge, kpt h.b1 1 v rfl, blk_far h.b2 (show q + 1 ≠ q by omega) v, blk_far h.b3 (show q + 1 + 1 ≠ q by omega) v, blk_far h.b4 (show q + 1 + 1 + 1 ≠ q by omega) v⟩
theorem WA.put2 {w W : World} {q : Nat} {x0 x1 x2 : Value} {c2 c3 c4 : Array Value} (h : WA w W q #[x0, x1, x2] c2 c3 c4) (v : Value) : WA w (W.setCell ⟨q, 2, none⟩ v) q #[x0, x1, v] c2 c3 c4 :=
  ⟨bst h.below h.ge, h.ge, kpt h.b1 2 v rfl, blk_far h.b2 (show q + 1 ≠ q by omega) v, blk_far h.b3 (show q + 1 + 1 ≠ q by omega) v, blk_far h.b4 (show q + 1 + 1 + 1 ≠ q by omega) v⟩
set_option maxHeartbeats 8000000 in
set_option maxRecDepth 100000 in
theorem adtApply.calls (kind n : Int) (A : Option Addr) (c : Nat) (xs : List S73) (op : Int) (a b : ByteArray) (cn code : Int) (text : ByteArray) (rn : Int) (w : World) (hr : Kd.C k73 w A xs.length xs) (hc : xs.length ≤ c) (hl : xs.length < 1000000) :
    Calls Tryz.prog 16 #[.agg #[.int .i64 kind, .int .i64 n, .slice A xs.length c], .agg #[.int .i64 op, .string a, .string b, .int .i64 cn], .agg #[.int .i64 code, .string text, .int .i64 rn]] w fun e w' => ∃ v : Value, e = .returned (.agg #[.int .i64 kind, .int .i64 (applyR kind n xs op a b cn code text).1, v]) ∧ Out w w' (.slice A xs.length c) xs v (applyR kind n xs op a b cn code text).2 ∧ Below w.heap.size w w' := by
  obtain ⟨ch, hch⟩ : ∃ ch, ch = changesR op cn code := ⟨_, rfl⟩
  obtain ⟨kd, hkd⟩ : ∃ kd, kd = kindR op := ⟨_, rfl⟩
  have HCH := Z0.mk hch
  have HKD := Z0.mk hkd
  have HR := Z0.mk hr
  have HC := Z0.mk hc
  have HL := Z0.mk hl
  clear hch hkd hr hc hl
  obtain ⟨W4, hW4⟩ : ∃ W4, W4 = (((w.alloc (.cells #[.int .i64 kind, .int .i64 n, .slice A xs.length c] 24)).alloc (.cells #[.int .i64 op, .string a, .string b, .int .i64 cn] 38)).alloc (.cells #[.int .i64 code, .string text, .int .i64 rn] 40)).alloc (.cells #[.int .i64 0, .int .i64 0, .slice none 0 0] 24) := ⟨_, rfl⟩
  obtain ⟨q, hq⟩ : ∃ q, q = w.heap.size := ⟨_, rfl⟩
  have HS4 := Z0.mk (show WA w W4 q #[.int .i64 kind, .int .i64 n, .slice A xs.length c] #[.int .i64 op, .string a, .string b, .int .i64 cn] #[.int .i64 code, .string text, .int .i64 rn] #[.int .i64 0, .int .i64 0, .slice none 0 0] by
    rw [hW4, hq]
    exact WA.new _ _ _ _ _)
  have HX := Z0.mk (show ∀ W, WA w W q #[.int .i64 kind, .int .i64 n, .slice A xs.length c] #[.int .i64 op, .string a, .string b, .int .i64 cn] #[.int .i64 code, .string text, .int .i64 rn] #[.int .i64 0, .int .i64 0, .slice none 0 0] → W.cell? ⟨q, 0, none⟩ = some (.int .i64 kind) ∧ W.cell? ⟨q + 1, 0, none⟩ = some (.int .i64 op) ∧ W.cell? ⟨q + 1, 1, none⟩ = some (.string a) ∧ W.cell? ⟨q + 1, 2, none⟩ = some (.string b) ∧ W.cell? ⟨q + 1, 3, none⟩ = some (.int .i64 cn) ∧ W.cell? ⟨q + 1 + 1, 0, none⟩ = some (.int .i64 code) ∧ W.cell? ⟨q + 1 + 1, 1, none⟩ = some (.string text) ∧ W.cell? ⟨q + 1 + 1, 2, none⟩ = some (.int .i64 rn) from fun W h =>
    ⟨(kcl h.b1 0).trans rfl, (kcl h.b2 0).trans rfl, (kcl h.b2 1).trans rfl, (kcl h.b2 2).trans rfl, (kcl h.b2 3).trans rfl, (kcl h.b3 0).trans rfl, (kcl h.b3 1).trans rfl, (kcl h.b3 2).trans rfl⟩)
  have hX := HX.out W4.drew (HS4.out.step (below_drew (Below.refl _ _)))
  go_enter Tryz.func16, Tryz.ntmps16
  go_upto_region 1 with fail
  rw [← hW4, ← hq]
  clear hW4 hq
  cases ch with
  | false =>
    refine start_ (n := 12) (S := fun w' => w'.cell? ⟨q, 0, none⟩ = some (.int .i64 kind) ∧ w'.cell? ⟨q + 1, 0, none⟩ = some (.int .i64 op) ∧ w'.cell? ⟨q + 1, 1, none⟩ = some (.string a) ∧ w'.cell? ⟨q + 1, 2, none⟩ = some (.string b) ∧ w'.cell? ⟨q + 1, 3, none⟩ = some (.int .i64 cn) ∧ w'.cell? ⟨q + 1 + 1, 0, none⟩ = some (.int .i64 code) ∧ w'.cell? ⟨q + 1 + 1, 1, none⟩ = some (.string text) ∧ w'.cell? ⟨q + 1 + 1, 2, none⟩ = some (.int .i64 rn)) (ds := []) #[false,false,false,false,false,false,false,false,false,false,false,false] (by kernel_rfl) rfl rfl ⟨hX.1, hX.2.1, hX.2.2.1, hX.2.2.2.1, hX.2.2.2.2.1, hX.2.2.2.2.2.1, hX.2.2.2.2.2.2.1, hX.2.2.2.2.2.2.2⟩ (fun hHeld => ?_)
    refine tk_ 0 (some 7) (bA 12 1) hHeld ?_
    refine tk_ 1 (some 8) (bA 12 3) hHeld ?_
    refine one_ (i := 2) (N := some 9) (bA 12 7) rfl rfl (by kernel_rfl) (by decide) (fun K hK => ?_)
    refine goes_ Tryz.func36 (by kernel_rfl) rfl #[.agg #[.int .i64 op, .string a, .string b, .int .i64 cn], .agg #[.int .i64 code, .string text, .int .i64 rn]] (by rfl) rfl rfl (by (try simp only [List.map_toArray, List.map_cons, List.map_nil]); first | done | rfl | (simp only [Act.eval, Array.getD_eq_getD_getElem?, Option.getD_some, *]; done)) ?_
    with_reducible refine (method_Changes.calls 1 op a b cn code text rn false _ (by rw [HCH.out]; exact changes_k 0 op a b cn code text rn)).mono ?_
    rintro e w1 ⟨rfl, hB1⟩
    refine ⟨_, rfl, ?_⟩
    have HS1 := Z0.mk (HS4.out.step (bsp (below_drew (Below.refl _ _)) hB1))
    clear hB1 hX
    have hX := HX.out _ HS1.out
    refine hK.out _ _ ⟨hX.1, hX.2.1, hX.2.2.1, hX.2.2.2.1, hX.2.2.2.2.1, hX.2.2.2.2.2.1, hX.2.2.2.2.2.2.1, hX.2.2.2.2.2.2.2⟩ (fun hHeld => ?_)
    clear hK K
    refine nm_ (some 9) ?_
    refine pu_ 3 (some 10) (bA 12 15) ?_
    refine pu_ 4 (some 11) (bA 12 31) ?_
    refine pn_ 5 (some 12) (bA 12 63) ?_
    refine pn_ 6 (some 13) (bA 12 127) ?_
    refine pn_ 7 (some 14) (bA 12 255) ?_
    refine pn_ 8 (some 15) (bA 12 511) ?_
    refine pn_ 9 (some 16) (bA 12 1023) ?_
    refine pn_ 10 (some 17) (bA 12 2047) ?_
    refine pu_ 11 (some 18) (bA 12 4095) ?_
    refine done_ (by kernel_rfl) ?_
    clear hX
    have a0 := (kcl HS1.out.b1 0).trans rfl
    have a1 := (kcl HS1.out.b1 1).trans rfl
    have a2 := (kcl HS1.out.b1 2).trans rfl
    have f1 := kfr HS1.out.b1 1
    have f2 := kfr HS1.out.b1 2
    have z0 := (kcl HS1.out.b4 0).trans rfl
    have z1 := (kcl HS1.out.b4 1).trans rfl
    have z2 := (kcl HS1.out.b4 2).trans rfl
    have g0 := kfr HS1.out.b4 0
    have g1 := kfr HS1.out.b4 1
    have g2 := kfr HS1.out.b4 2
    go_wp2
    obtain ⟨hd1, hd2⟩ := wa_set (.int .i64 kind) (.int .i64 n) (.slice A xs.length c) HS1.out
    refine bodyPost_ret (results_cell_row rfl _ _ (q + 1 + 1 + 1) 24 #[.int .i64 kind, .int .i64 n, .slice A xs.length c] (0, 0) _ rfl hd1 Tryz.underlying24 rfl (by kernel_rfl)) rfl ?_
    have hno := applyR_no (kind := kind) (n := n) (xs := xs) (a := a) (b := b) (text := text) (.inl HCH.out.symm)
    rw [hno]
    exact ⟨_, rfl, .inl ⟨rfl, rfl⟩, hd2⟩
  | true =>
    by_cases hk : kind = kd
    rotate_left
    · have hk2 : (kind != kd) = true := bne_iff_ne.2 hk
      have HK := Z0.mk hk
      clear hk
      refine start_ (n := 12) (S := fun w' => w'.cell? ⟨q, 0, none⟩ = some (.int .i64 kind) ∧ w'.cell? ⟨q + 1, 0, none⟩ = some (.int .i64 op) ∧ w'.cell? ⟨q + 1, 1, none⟩ = some (.string a) ∧ w'.cell? ⟨q + 1, 2, none⟩ = some (.string b) ∧ w'.cell? ⟨q + 1, 3, none⟩ = some (.int .i64 cn) ∧ w'.cell? ⟨q + 1 + 1, 0, none⟩ = some (.int .i64 code) ∧ w'.cell? ⟨q + 1 + 1, 1, none⟩ = some (.string text) ∧ w'.cell? ⟨q + 1 + 1, 2, none⟩ = some (.int .i64 rn)) (ds := []) #[false,false,false,false,false,false,false,false,false,false,false,false] (by kernel_rfl) rfl rfl ⟨hX.1, hX.2.1, hX.2.2.1, hX.2.2.2.1, hX.2.2.2.2.1, hX.2.2.2.2.2.1, hX.2.2.2.2.2.2.1, hX.2.2.2.2.2.2.2⟩ (fun hHeld => ?_)
      refine tk_ 0 (some 7) (bA 12 1) hHeld ?_
      refine tk_ 1 (some 8) (bA 12 3) hHeld ?_
      refine one_ (i := 2) (N := some 9) (bA 12 7) rfl rfl (by kernel_rfl) (by decide) (fun K hK => ?_)
      refine goes_ Tryz.func36 (by kernel_rfl) rfl #[.agg #[.int .i64 op, .string a, .string b, .int .i64 cn], .agg #[.int .i64 code, .string text, .int .i64 rn]] (by rfl) rfl rfl (by (try simp only [List.map_toArray, List.map_cons, List.map_nil]); first | done | rfl | (simp only [Act.eval, Array.getD_eq_getD_getElem?, Option.getD_some, *]; done)) ?_
      with_reducible refine (method_Changes.calls 1 op a b cn code text rn true _ (by rw [HCH.out]; exact changes_k 0 op a b cn code text rn)).mono ?_
      rintro e w1 ⟨rfl, hB1⟩
      refine ⟨_, rfl, ?_⟩
      have HS1 := Z0.mk (HS4.out.step (bsp (below_drew (Below.refl _ _)) hB1))
      clear hB1 hX
      have hX := HX.out _ HS1.out
      refine hK.out _ _ ⟨hX.1, hX.2.1, hX.2.2.1, hX.2.2.2.1, hX.2.2.2.2.1, hX.2.2.2.2.2.1, hX.2.2.2.2.2.2.1, hX.2.2.2.2.2.2.2⟩ (fun hHeld => ?_)
      clear hK K
      refine nm_ (some 9) ?_
      refine pu_ 3 (some 10) (bA 12 15) ?_
      refine pu_ 4 (some 11) (bA 12 31) ?_
      refine pu_ 5 (some 12) (bA 12 63) ?_
      refine pu_ 7 (some 14) (bA 12 191) ?_
      refine tk_ 6 (some 13) (bA 12 255) hHeld ?_
      refine tk_ 8 (some 15) (bA 12 511) hHeld ?_
      refine one_ (i := 9) (N := some 16) (bA 12 1023) rfl rfl (by kernel_rfl) (by decide) (fun K hK => ?_)
      refine goes_ Tryz.func24 (by kernel_rfl) rfl #[.int .i64 op] (by rfl) rfl rfl (by (try simp only [List.map_toArray, List.map_cons, List.map_nil]); first | done | rfl | (simp only [Act.eval, Array.getD_eq_getD_getElem?, Option.getD_some, *]; done)) ?_
      with_reducible refine (method_Op_Kind.calls op kd _ (by rw [HKD.out]; exact kind_f op)).mono ?_
      rintro e w2 ⟨rfl, hB2⟩
      refine ⟨_, rfl, ?_⟩
      have HS2 := Z0.mk (HS1.out.step hB2)
      clear hB2 hX
      have hX := HX.out _ HS2.out
      refine hK.out _ _ ⟨hX.1, hX.2.1, hX.2.2.1, hX.2.2.2.1, hX.2.2.2.2.1, hX.2.2.2.2.2.1, hX.2.2.2.2.2.2.1, hX.2.2.2.2.2.2.2⟩ (fun hHeld => ?_)
      clear hK K
      refine nm_ (some 16) ?_
      refine pu_ 10 (some 17) (bA 12 2047) ?_
      refine pu_ 11 (some 18) (bA 12 4095) ?_
      refine done_ (by kernel_rfl) ?_
      clear hX
      have a0 := (kcl HS2.out.b1 0).trans rfl
      have a1 := (kcl HS2.out.b1 1).trans rfl
      have a2 := (kcl HS2.out.b1 2).trans rfl
      have f1 := kfr HS2.out.b1 1
      have f2 := kfr HS2.out.b1 2
      have z0 := (kcl HS2.out.b4 0).trans rfl
      have z1 := (kcl HS2.out.b4 1).trans rfl
      have z2 := (kcl HS2.out.b4 2).trans rfl
      have g0 := kfr HS2.out.b4 0
      have g1 := kfr HS2.out.b4 1
      have g2 := kfr HS2.out.b4 2
      go_wp2
      obtain ⟨hd1, hd2⟩ := wa_set (.int .i64 kind) (.int .i64 n) (.slice A xs.length c) HS2.out
      refine bodyPost_ret (results_cell_row rfl _ _ (q + 1 + 1 + 1) 24 #[.int .i64 kind, .int .i64 n, .slice A xs.length c] (0, 0) _ rfl hd1 Tryz.underlying24 rfl (by kernel_rfl)) rfl ?_
      have hno := applyR_no (kind := kind) (n := n) (xs := xs) (a := a) (b := b) (cn := cn) (code := code) (text := text) (.inr (by rw [← HKD.out]; exact HK.out))
      rw [hno]
      exact ⟨_, rfl, .inl ⟨rfl, rfl⟩, hd2⟩
    have hk2 : (kind != kd) = false := bne_eq_false_iff_eq.2 hk
    have HK := Z0.mk hk
    clear hk
    refine start_ (n := 12) (S := fun w' => w'.cell? ⟨q, 0, none⟩ = some (.int .i64 kind) ∧ w'.cell? ⟨q + 1, 0, none⟩ = some (.int .i64 op) ∧ w'.cell? ⟨q + 1, 1, none⟩ = some (.string a) ∧ w'.cell? ⟨q + 1, 2, none⟩ = some (.string b) ∧ w'.cell? ⟨q + 1, 3, none⟩ = some (.int .i64 cn) ∧ w'.cell? ⟨q + 1 + 1, 0, none⟩ = some (.int .i64 code) ∧ w'.cell? ⟨q + 1 + 1, 1, none⟩ = some (.string text) ∧ w'.cell? ⟨q + 1 + 1, 2, none⟩ = some (.int .i64 rn)) (ds := []) #[false,false,false,false,false,false,false,false,false,false,false,false] (by kernel_rfl) rfl rfl ⟨hX.1, hX.2.1, hX.2.2.1, hX.2.2.2.1, hX.2.2.2.2.1, hX.2.2.2.2.2.1, hX.2.2.2.2.2.2.1, hX.2.2.2.2.2.2.2⟩ (fun hHeld => ?_)
    refine tk_ 0 (some 7) (bA 12 1) hHeld ?_
    refine tk_ 1 (some 8) (bA 12 3) hHeld ?_
    refine one_ (i := 2) (N := some 9) (bA 12 7) rfl rfl (by kernel_rfl) (by decide) (fun K hK => ?_)
    refine goes_ Tryz.func36 (by kernel_rfl) rfl #[.agg #[.int .i64 op, .string a, .string b, .int .i64 cn], .agg #[.int .i64 code, .string text, .int .i64 rn]] (by rfl) rfl rfl (by (try simp only [List.map_toArray, List.map_cons, List.map_nil]); first | done | rfl | (simp only [Act.eval, Array.getD_eq_getD_getElem?, Option.getD_some, *]; done)) ?_
    with_reducible refine (method_Changes.calls 1 op a b cn code text rn true _ (by rw [HCH.out]; exact changes_k 0 op a b cn code text rn)).mono ?_
    rintro e w1 ⟨rfl, hB1⟩
    refine ⟨_, rfl, ?_⟩
    have HS1 := Z0.mk (HS4.out.step (bsp (below_drew (Below.refl _ _)) hB1))
    clear hB1 hX
    have hX := HX.out _ HS1.out
    refine hK.out _ _ ⟨hX.1, hX.2.1, hX.2.2.1, hX.2.2.2.1, hX.2.2.2.2.1, hX.2.2.2.2.2.1, hX.2.2.2.2.2.2.1, hX.2.2.2.2.2.2.2⟩ (fun hHeld => ?_)
    clear hK K
    refine nm_ (some 9) ?_
    refine pu_ 3 (some 10) (bA 12 15) ?_
    refine pu_ 4 (some 11) (bA 12 31) ?_
    refine pu_ 5 (some 12) (bA 12 63) ?_
    refine pu_ 7 (some 14) (bA 12 191) ?_
    refine tk_ 6 (some 13) (bA 12 255) hHeld ?_
    refine tk_ 8 (some 15) (bA 12 511) hHeld ?_
    refine one_ (i := 9) (N := some 16) (bA 12 1023) rfl rfl (by kernel_rfl) (by decide) (fun K hK => ?_)
    refine goes_ Tryz.func24 (by kernel_rfl) rfl #[.int .i64 op] (by rfl) rfl rfl (by (try simp only [List.map_toArray, List.map_cons, List.map_nil]); first | done | rfl | (simp only [Act.eval, Array.getD_eq_getD_getElem?, Option.getD_some, *]; done)) ?_
    with_reducible refine (method_Op_Kind.calls op kd _ (by rw [HKD.out]; exact kind_f op)).mono ?_
    rintro e w2 ⟨rfl, hB2⟩
    refine ⟨_, rfl, ?_⟩
    have HS2 := Z0.mk (HS1.out.step hB2)
    clear hB2 hX
    have hX := HX.out _ HS2.out
    refine hK.out _ _ ⟨hX.1, hX.2.1, hX.2.2.1, hX.2.2.2.1, hX.2.2.2.2.1, hX.2.2.2.2.2.1, hX.2.2.2.2.2.2.1, hX.2.2.2.2.2.2.2⟩ (fun hHeld => ?_)
    clear hK K
    refine nm_ (some 16) ?_
    refine pu_ 10 (some 17) (bA 12 2047) ?_
    refine pu_ 11 (some 18) (bA 12 4095) ?_
    refine done_ (by kernel_rfl) ?_
    clear hX hk2
    have HAP := Z0.mk (show applyR kind n xs op a b cn code text = if op = 2 then (n, if a.toList = [] then [] else [⟨a, ⟨#[]⟩⟩]) else if op = 3 ∨ op = 5 then (wrap64 (n + cn), xs) else if op = 6 then (wrap64 (n - cn), xs) else if op = 8 ∨ op = 14 ∨ op = 16 then (n, withR kind xs ⟨a, ⟨#[]⟩⟩) else if op = 11 then (n, withR kind xs ⟨a, b⟩) else if op = 9 ∨ op = 12 then (n, withoutR xs a) else (n, withoutR xs text) from by
      unfold applyR
      rw [if_neg (by rw [← HCH.out, ← HKD.out]; rintro (h | h); cases h; exact h HK.out)])
    rcases ops_of HCH.out.symm with rfl | (rfl | rfl) | rfl | (rfl | rfl | rfl) | rfl | (rfl | rfl) | (rfl | rfl)
    · clear HCH HKD HX
      by_cases ha : a.toList = []
      · have ha2 : (a.toList != []) = false := bne_eq_false_iff_eq.2 ha
        have ha3 : a.toList.isEmpty = true := by rw [ha]; rfl
        have HA := Z0.mk ha
        clear ha
        have a0 := (kcl HS2.out.b1 0).trans rfl
        have a1 := (kcl HS2.out.b1 1).trans rfl
        have a2 := (kcl HS2.out.b1 2).trans rfl
        have f1 := kfr HS2.out.b1 1
        have f2 := kfr HS2.out.b1 2
        have d0 := (kcl HS2.out.b2 0).trans rfl
        have d1 := (kcl HS2.out.b2 1).trans rfl
        have d2 := (kcl HS2.out.b2 2).trans rfl
        have d3 := (kcl HS2.out.b2 3).trans rfl
        have e0 := (kcl HS2.out.b3 0).trans rfl
        have e1 := (kcl HS2.out.b3 1).trans rfl
        have e2 := (kcl HS2.out.b3 2).trans rfl
        have z0 := (kcl HS2.out.b4 0).trans rfl
        have z1 := (kcl HS2.out.b4 1).trans rfl
        have z2 := (kcl HS2.out.b4 2).trans rfl
        have g0 := kfr HS2.out.b4 0
        have g1 := kfr HS2.out.b4 1
        have g2 := kfr HS2.out.b4 2
        go_wp2
        obtain ⟨hd1, hd2⟩ := wa_set (.int .i64 kind) (.int .i64 n) (.slice none 0 0) (HS2.out.put2 (.slice none 0 0))
        refine bodyPost_ret (results_cell_row rfl _ _ (q + 1 + 1 + 1) 24 #[.int .i64 kind, .int .i64 n, .slice none 0 0] (0, 0) _ rfl hd1 Tryz.underlying24 rfl (by kernel_rfl)) rfl ?_
        have hap := HAP.out
        rw [if_pos (by decide), if_pos HA.out] at hap
        rw [hap]
        exact ⟨_, rfl, .inr (Kd.R_nil _ _ _ _ _), hd2⟩
      · have ha2 : (a.toList != []) = true := bne_iff_ne.2 ha
        have ha3 : a.toList.isEmpty = false := by simpa using ha
        have HA := Z0.mk ha
        clear ha
        have a0 := (kcl HS2.out.b1 0).trans rfl
        have a1 := (kcl HS2.out.b1 1).trans rfl
        have a2 := (kcl HS2.out.b1 2).trans rfl
        have f1 := kfr HS2.out.b1 1
        have f2 := kfr HS2.out.b1 2
        have d0 := (kcl HS2.out.b2 0).trans rfl
        have d1 := (kcl HS2.out.b2 1).trans rfl
        have d2 := (kcl HS2.out.b2 2).trans rfl
        have d3 := (kcl HS2.out.b2 3).trans rfl
        have e0 := (kcl HS2.out.b3 0).trans rfl
        have e1 := (kcl HS2.out.b3 1).trans rfl
        have e2 := (kcl HS2.out.b3 2).trans rfl
        have z0 := (kcl HS2.out.b4 0).trans rfl
        have z1 := (kcl HS2.out.b4 1).trans rfl
        have z2 := (kcl HS2.out.b4 2).trans rfl
        have g0 := kfr HS2.out.b4 0
        have g1 := kfr HS2.out.b4 1
        have g2 := kfr HS2.out.b4 2
        have HS3 := Z0.mk (HS2.out.put2 (.slice none 0 0))
        go_wp2_with (((with_reducible refine gds (N := 31) rfl ?_); refine Kd.R_lit k73 (w0 := w) w.heap.size 73 ?hg (N := 31) ?hd (xs := ([(⟨a, ⟨#[]⟩⟩ : S73)] : List (S73))) (inner := [.string a, .string ⟨#[]⟩]) (ok := fun _ => True) (okp := fun _ => True) ?hr ?hp (fun _ hk => hk) trivial HS3.out.below HS3.out.below.size (by simp) ?_; (case hd => rfl); (case hg => rfl); (case hr => first | (go_simp; done) | (go_simp; rfl)); (case hp => exact (Reps.c2 (show Kd.M k73 _ _ _ (⟨a, ⟨#[]⟩⟩ : S73) [.string a, .string ⟨#[]⟩] from (k73_mkM _ _ _ (⟨a, ⟨#[]⟩⟩ : S73))) (Reps.none _ _))); intro v5 w5 ho5 hB5 hG5 hN5; obtain ⟨A5, c5, hv5⟩ := Kd.R_slice ho5; subst hv5; have HO5 := Z0.mk ho5; have HS5 := Z0.mk (show WA w w5 q _ _ _ _ from ⟨hB5, HS3.out.ge, kgr_ HS3.out.b1 hG5 (by simp), kgr_ HS3.out.b2 hG5 (by simp), kgr_ HS3.out.b3 hG5 (by simp), kgr_ HS3.out.b4 hG5 (by simp)⟩); clear ho5 hB5 hG5 hN5 a0 a1 a2 f1 f2 d0 d1 d2 d3 e0 e1 e2 z0 z1 z2 g0 g1 g2; have a0 := (kcl HS5.out.b1 0).trans rfl; have a1 := (kcl HS5.out.b1 1).trans rfl; have f2 := kfr HS5.out.b1 2; have a2 := (kcl HS5.out.b1 2).trans rfl; have z0 := (kcl HS5.out.b4 0).trans rfl; have z1 := (kcl HS5.out.b4 1).trans rfl; have z2 := (kcl HS5.out.b4 2).trans rfl; have g0 := kfr HS5.out.b4 0; have g1 := kfr HS5.out.b4 1; have g2 := kfr HS5.out.b4 2))
        have HS6 := Z0.mk (HS5.out.put2 (.slice A5 1 c5))
        obtain ⟨hd1, hd2⟩ := wa_set (.int .i64 kind) (.int .i64 n) (.slice A5 1 c5) HS6.out
        have hR := wa_setR (.int .i64 kind) (.int .i64 n) (.slice A5 1 c5) HS6.out (Kd.R_set HO5.out HS5.out.b1 tyR 2 (.slice A5 1 c5))
        refine bodyPost_ret (results_cell_row rfl _ _ (q + 1 + 1 + 1) 24 #[.int .i64 kind, .int .i64 n, .slice A5 1 c5] (0, 0) _ rfl hd1 Tryz.underlying24 rfl (by kernel_rfl)) rfl ?_
        have hap := HAP.out
        rw [if_pos (by decide), if_neg HA.out] at hap
        rw [hap]
        exact ⟨_, rfl, .inr hR, hd2⟩
    · clear HCH HKD HX
      have a0 := (kcl HS2.out.b1 0).trans rfl
      have a1 := (kcl HS2.out.b1 1).trans rfl
      have a2 := (kcl HS2.out.b1 2).trans rfl
      have f1 := kfr HS2.out.b1 1
      have f2 := kfr HS2.out.b1 2
      have d0 := (kcl HS2.out.b2 0).trans rfl
      have d1 := (kcl HS2.out.b2 1).trans rfl
      have d2 := (kcl HS2.out.b2 2).trans rfl
      have d3 := (kcl HS2.out.b2 3).trans rfl
      have e0 := (kcl HS2.out.b3 0).trans rfl
      have e1 := (kcl HS2.out.b3 1).trans rfl
      have e2 := (kcl HS2.out.b3 2).trans rfl
      have z0 := (kcl HS2.out.b4 0).trans rfl
      have z1 := (kcl HS2.out.b4 1).trans rfl
      have z2 := (kcl HS2.out.b4 2).trans rfl
      have g0 := kfr HS2.out.b4 0
      have g1 := kfr HS2.out.b4 1
      have g2 := kfr HS2.out.b4 2
      go_wp2
      obtain ⟨hd1, hd2⟩ := wa_set (.int .i64 kind) (.int .i64 (wrap64 (n + cn))) (.slice A xs.length c) (HS2.out.put1 (.int .i64 (wrap64 (n + cn))))
      refine bodyPost_ret (results_cell_row rfl _ _ (q + 1 + 1 + 1) 24 #[.int .i64 kind, .int .i64 (wrap64 (n + cn)), .slice A xs.length c] (0, 0) _ rfl hd1 Tryz.underlying24 rfl (by kernel_rfl)) rfl ?_
      have hap := HAP.out
      rw [if_neg (by decide), if_pos (by decide)] at hap
      rw [hap]
      exact ⟨_, rfl, .inl ⟨rfl, rfl⟩, hd2⟩
    · clear HCH HKD HX
      have a0 := (kcl HS2.out.b1 0).trans rfl
      have a1 := (kcl HS2.out.b1 1).trans rfl
      have a2 := (kcl HS2.out.b1 2).trans rfl
      have f1 := kfr HS2.out.b1 1
      have f2 := kfr HS2.out.b1 2
      have d0 := (kcl HS2.out.b2 0).trans rfl
      have d1 := (kcl HS2.out.b2 1).trans rfl
      have d2 := (kcl HS2.out.b2 2).trans rfl
      have d3 := (kcl HS2.out.b2 3).trans rfl
      have e0 := (kcl HS2.out.b3 0).trans rfl
      have e1 := (kcl HS2.out.b3 1).trans rfl
      have e2 := (kcl HS2.out.b3 2).trans rfl
      have z0 := (kcl HS2.out.b4 0).trans rfl
      have z1 := (kcl HS2.out.b4 1).trans rfl
      have z2 := (kcl HS2.out.b4 2).trans rfl
      have g0 := kfr HS2.out.b4 0
      have g1 := kfr HS2.out.b4 1
      have g2 := kfr HS2.out.b4 2
      go_wp2
      obtain ⟨hd1, hd2⟩ := wa_set (.int .i64 kind) (.int .i64 (wrap64 (n + cn))) (.slice A xs.length c) (HS2.out.put1 (.int .i64 (wrap64 (n + cn))))
      refine bodyPost_ret (results_cell_row rfl _ _ (q + 1 + 1 + 1) 24 #[.int .i64 kind, .int .i64 (wrap64 (n + cn)), .slice A xs.length c] (0, 0) _ rfl hd1 Tryz.underlying24 rfl (by kernel_rfl)) rfl ?_
      have hap := HAP.out
      rw [if_neg (by decide), if_pos (by decide)] at hap
      rw [hap]
      exact ⟨_, rfl, .inl ⟨rfl, rfl⟩, hd2⟩
    · clear HCH HKD HX
      have a0 := (kcl HS2.out.b1 0).trans rfl
      have a1 := (kcl HS2.out.b1 1).trans rfl
      have a2 := (kcl HS2.out.b1 2).trans rfl
      have f1 := kfr HS2.out.b1 1
      have f2 := kfr HS2.out.b1 2
      have d0 := (kcl HS2.out.b2 0).trans rfl
      have d1 := (kcl HS2.out.b2 1).trans rfl
      have d2 := (kcl HS2.out.b2 2).trans rfl
      have d3 := (kcl HS2.out.b2 3).trans rfl
      have e0 := (kcl HS2.out.b3 0).trans rfl
      have e1 := (kcl HS2.out.b3 1).trans rfl
      have e2 := (kcl HS2.out.b3 2).trans rfl
      have z0 := (kcl HS2.out.b4 0).trans rfl
      have z1 := (kcl HS2.out.b4 1).trans rfl
      have z2 := (kcl HS2.out.b4 2).trans rfl
      have g0 := kfr HS2.out.b4 0
      have g1 := kfr HS2.out.b4 1
      have g2 := kfr HS2.out.b4 2
      go_wp2
      obtain ⟨hd1, hd2⟩ := wa_set (.int .i64 kind) (.int .i64 (wrap64 (n - cn))) (.slice A xs.length c) (HS2.out.put1 (.int .i64 (wrap64 (n - cn))))
      refine bodyPost_ret (results_cell_row rfl _ _ (q + 1 + 1 + 1) 24 #[.int .i64 kind, .int .i64 (wrap64 (n - cn)), .slice A xs.length c] (0, 0) _ rfl hd1 Tryz.underlying24 rfl (by kernel_rfl)) rfl ?_
      have hap := HAP.out
      rw [if_neg (by decide), if_neg (by decide), if_pos (by decide)] at hap
      rw [hap]
      exact ⟨_, rfl, .inl ⟨rfl, rfl⟩, hd2⟩
    · clear HCH HKD HX
      have a0 := (kcl HS2.out.b1 0).trans rfl
      have a1 := (kcl HS2.out.b1 1).trans rfl
      have a2 := (kcl HS2.out.b1 2).trans rfl
      have f1 := kfr HS2.out.b1 1
      have f2 := kfr HS2.out.b1 2
      have d0 := (kcl HS2.out.b2 0).trans rfl
      have d1 := (kcl HS2.out.b2 1).trans rfl
      have d2 := (kcl HS2.out.b2 2).trans rfl
      have d3 := (kcl HS2.out.b2 3).trans rfl
      have e0 := (kcl HS2.out.b3 0).trans rfl
      have e1 := (kcl HS2.out.b3 1).trans rfl
      have e2 := (kcl HS2.out.b3 2).trans rfl
      have z0 := (kcl HS2.out.b4 0).trans rfl
      have z1 := (kcl HS2.out.b4 1).trans rfl
      have z2 := (kcl HS2.out.b4 2).trans rfl
      have g0 := kfr HS2.out.b4 0
      have g1 := kfr HS2.out.b4 1
      have g2 := kfr HS2.out.b4 2
      go_wp2_with fail
      refine (stateWith.calls kind n A c xs ⟨a, ⟨#[]⟩⟩ _ (Kd.C_below HR.out HS2.out.below) HL.out).mono ?_
      rintro e w3 ⟨v, rfl, hR3, hB3⟩
      obtain ⟨A3, c3, hv3⟩ := Kd.R_slice hR3
      subst hv3
      have HS3 := Z0.mk (HS2.out.step hB3)
      obtain ⟨m, hm⟩ : ∃ m, m = (withR kind xs ⟨a, ⟨#[]⟩⟩).length := ⟨_, rfl⟩
      rw [← hm] at hR3 ⊢
      have HR3 := Z0.mk hR3
      clear hR3 hB3 hm a0 a1 a2 f1 f2 d0 d1 d2 d3 e0 e1 e2 z0 z1 z2 g0 g1 g2
      have z0 := (kcl HS3.out.b4 0).trans rfl
      have z1 := (kcl HS3.out.b4 1).trans rfl
      have z2 := (kcl HS3.out.b4 2).trans rfl
      have g0 := kfr HS3.out.b4 0
      have g1 := kfr HS3.out.b4 1
      have g2 := kfr HS3.out.b4 2
      go_wp2
      obtain ⟨hd1, hd2⟩ := wa_set (.int .i64 kind) (.int .i64 n) (.slice A3 m c3) HS3.out
      have hR := Kd.R_lower (wa_setR (.int .i64 kind) (.int .i64 n) (.slice A3 m c3) HS3.out HR3.out) HS2.out.below.size
      refine bodyPost_ret (results_cell_row rfl _ _ (q + 1 + 1 + 1) 24 #[.int .i64 kind, .int .i64 n, .slice A3 m c3] (0, 0) _ rfl hd1 Tryz.underlying24 rfl (by kernel_rfl)) rfl ?_
      have hap := HAP.out
      rw [if_neg (by decide), if_neg (by decide), if_neg (by decide), if_pos (by decide)] at hap
      rw [hap]
      exact ⟨_, rfl, .inr hR, hd2⟩
    · clear HCH HKD HX
      have a0 := (kcl HS2.out.b1 0).trans rfl
      have a1 := (kcl HS2.out.b1 1).trans rfl
      have a2 := (kcl HS2.out.b1 2).trans rfl
      have f1 := kfr HS2.out.b1 1
      have f2 := kfr HS2.out.b1 2
      have d0 := (kcl HS2.out.b2 0).trans rfl
      have d1 := (kcl HS2.out.b2 1).trans rfl
      have d2 := (kcl HS2.out.b2 2).trans rfl
      have d3 := (kcl HS2.out.b2 3).trans rfl
      have e0 := (kcl HS2.out.b3 0).trans rfl
      have e1 := (kcl HS2.out.b3 1).trans rfl
      have e2 := (kcl HS2.out.b3 2).trans rfl
      have z0 := (kcl HS2.out.b4 0).trans rfl
      have z1 := (kcl HS2.out.b4 1).trans rfl
      have z2 := (kcl HS2.out.b4 2).trans rfl
      have g0 := kfr HS2.out.b4 0
      have g1 := kfr HS2.out.b4 1
      have g2 := kfr HS2.out.b4 2
      go_wp2_with fail
      refine (stateWith.calls kind n A c xs ⟨a, ⟨#[]⟩⟩ _ (Kd.C_below HR.out HS2.out.below) HL.out).mono ?_
      rintro e w3 ⟨v, rfl, hR3, hB3⟩
      obtain ⟨A3, c3, hv3⟩ := Kd.R_slice hR3
      subst hv3
      have HS3 := Z0.mk (HS2.out.step hB3)
      obtain ⟨m, hm⟩ : ∃ m, m = (withR kind xs ⟨a, ⟨#[]⟩⟩).length := ⟨_, rfl⟩
      rw [← hm] at hR3 ⊢
      have HR3 := Z0.mk hR3
      clear hR3 hB3 hm a0 a1 a2 f1 f2 d0 d1 d2 d3 e0 e1 e2 z0 z1 z2 g0 g1 g2
      have z0 := (kcl HS3.out.b4 0).trans rfl
      have z1 := (kcl HS3.out.b4 1).trans rfl
      have z2 := (kcl HS3.out.b4 2).trans rfl
      have g0 := kfr HS3.out.b4 0
      have g1 := kfr HS3.out.b4 1
      have g2 := kfr HS3.out.b4 2
      go_wp2
      obtain ⟨hd1, hd2⟩ := wa_set (.int .i64 kind) (.int .i64 n) (.slice A3 m c3) HS3.out
      have hR := Kd.R_lower (wa_setR (.int .i64 kind) (.int .i64 n) (.slice A3 m c3) HS3.out HR3.out) HS2.out.below.size
      refine bodyPost_ret (results_cell_row rfl _ _ (q + 1 + 1 + 1) 24 #[.int .i64 kind, .int .i64 n, .slice A3 m c3] (0, 0) _ rfl hd1 Tryz.underlying24 rfl (by kernel_rfl)) rfl ?_
      have hap := HAP.out
      rw [if_neg (by decide), if_neg (by decide), if_neg (by decide), if_pos (by decide)] at hap
      rw [hap]
      exact ⟨_, rfl, .inr hR, hd2⟩
    · clear HCH HKD HX
      have a0 := (kcl HS2.out.b1 0).trans rfl
      have a1 := (kcl HS2.out.b1 1).trans rfl
      have a2 := (kcl HS2.out.b1 2).trans rfl
      have f1 := kfr HS2.out.b1 1
      have f2 := kfr HS2.out.b1 2
      have d0 := (kcl HS2.out.b2 0).trans rfl
      have d1 := (kcl HS2.out.b2 1).trans rfl
      have d2 := (kcl HS2.out.b2 2).trans rfl
      have d3 := (kcl HS2.out.b2 3).trans rfl
      have e0 := (kcl HS2.out.b3 0).trans rfl
      have e1 := (kcl HS2.out.b3 1).trans rfl
      have e2 := (kcl HS2.out.b3 2).trans rfl
      have z0 := (kcl HS2.out.b4 0).trans rfl
      have z1 := (kcl HS2.out.b4 1).trans rfl
      have z2 := (kcl HS2.out.b4 2).trans rfl
      have g0 := kfr HS2.out.b4 0
      have g1 := kfr HS2.out.b4 1
      have g2 := kfr HS2.out.b4 2
      go_wp2_with fail
      refine (stateWith.calls kind n A c xs ⟨a, ⟨#[]⟩⟩ _ (Kd.C_below HR.out HS2.out.below) HL.out).mono ?_
      rintro e w3 ⟨v, rfl, hR3, hB3⟩
      obtain ⟨A3, c3, hv3⟩ := Kd.R_slice hR3
      subst hv3
      have HS3 := Z0.mk (HS2.out.step hB3)
      obtain ⟨m, hm⟩ : ∃ m, m = (withR kind xs ⟨a, ⟨#[]⟩⟩).length := ⟨_, rfl⟩
      rw [← hm] at hR3 ⊢
      have HR3 := Z0.mk hR3
      clear hR3 hB3 hm a0 a1 a2 f1 f2 d0 d1 d2 d3 e0 e1 e2 z0 z1 z2 g0 g1 g2
      have z0 := (kcl HS3.out.b4 0).trans rfl
      have z1 := (kcl HS3.out.b4 1).trans rfl
      have z2 := (kcl HS3.out.b4 2).trans rfl
      have g0 := kfr HS3.out.b4 0
      have g1 := kfr HS3.out.b4 1
      have g2 := kfr HS3.out.b4 2
      go_wp2
      obtain ⟨hd1, hd2⟩ := wa_set (.int .i64 kind) (.int .i64 n) (.slice A3 m c3) HS3.out
      have hR := Kd.R_lower (wa_setR (.int .i64 kind) (.int .i64 n) (.slice A3 m c3) HS3.out HR3.out) HS2.out.below.size
      refine bodyPost_ret (results_cell_row rfl _ _ (q + 1 + 1 + 1) 24 #[.int .i64 kind, .int .i64 n, .slice A3 m c3] (0, 0) _ rfl hd1 Tryz.underlying24 rfl (by kernel_rfl)) rfl ?_
      have hap := HAP.out
      rw [if_neg (by decide), if_neg (by decide), if_neg (by decide), if_pos (by decide)] at hap
      rw [hap]
      exact ⟨_, rfl, .inr hR, hd2⟩
    · clear HCH HKD HX
      have a0 := (kcl HS2.out.b1 0).trans rfl
      have a1 := (kcl HS2.out.b1 1).trans rfl
      have a2 := (kcl HS2.out.b1 2).trans rfl
      have f1 := kfr HS2.out.b1 1
      have f2 := kfr HS2.out.b1 2
      have d0 := (kcl HS2.out.b2 0).trans rfl
      have d1 := (kcl HS2.out.b2 1).trans rfl
      have d2 := (kcl HS2.out.b2 2).trans rfl
      have d3 := (kcl HS2.out.b2 3).trans rfl
      have e0 := (kcl HS2.out.b3 0).trans rfl
      have e1 := (kcl HS2.out.b3 1).trans rfl
      have e2 := (kcl HS2.out.b3 2).trans rfl
      have z0 := (kcl HS2.out.b4 0).trans rfl
      have z1 := (kcl HS2.out.b4 1).trans rfl
      have z2 := (kcl HS2.out.b4 2).trans rfl
      have g0 := kfr HS2.out.b4 0
      have g1 := kfr HS2.out.b4 1
      have g2 := kfr HS2.out.b4 2
      go_wp2_with fail
      refine (stateWith.calls kind n A c xs ⟨a, b⟩ _ (Kd.C_below HR.out HS2.out.below) HL.out).mono ?_
      rintro e w3 ⟨v, rfl, hR3, hB3⟩
      obtain ⟨A3, c3, hv3⟩ := Kd.R_slice hR3
      subst hv3
      have HS3 := Z0.mk (HS2.out.step hB3)
      obtain ⟨m, hm⟩ : ∃ m, m = (withR kind xs ⟨a, b⟩).length := ⟨_, rfl⟩
      rw [← hm] at hR3 ⊢
      have HR3 := Z0.mk hR3
      clear hR3 hB3 hm a0 a1 a2 f1 f2 d0 d1 d2 d3 e0 e1 e2 z0 z1 z2 g0 g1 g2
      have z0 := (kcl HS3.out.b4 0).trans rfl
      have z1 := (kcl HS3.out.b4 1).trans rfl
      have z2 := (kcl HS3.out.b4 2).trans rfl
      have g0 := kfr HS3.out.b4 0
      have g1 := kfr HS3.out.b4 1
      have g2 := kfr HS3.out.b4 2
      go_wp2
      obtain ⟨hd1, hd2⟩ := wa_set (.int .i64 kind) (.int .i64 n) (.slice A3 m c3) HS3.out
      have hR := Kd.R_lower (wa_setR (.int .i64 kind) (.int .i64 n) (.slice A3 m c3) HS3.out HR3.out) HS2.out.below.size
      refine bodyPost_ret (results_cell_row rfl _ _ (q + 1 + 1 + 1) 24 #[.int .i64 kind, .int .i64 n, .slice A3 m c3] (0, 0) _ rfl hd1 Tryz.underlying24 rfl (by kernel_rfl)) rfl ?_
      have hap := HAP.out
      rw [if_neg (by decide), if_neg (by decide), if_neg (by decide), if_neg (by decide), if_pos (by decide)] at hap
      rw [hap]
      exact ⟨_, rfl, .inr hR, hd2⟩
    · clear HCH HKD HX
      have a0 := (kcl HS2.out.b1 0).trans rfl
      have a1 := (kcl HS2.out.b1 1).trans rfl
      have a2 := (kcl HS2.out.b1 2).trans rfl
      have f1 := kfr HS2.out.b1 1
      have f2 := kfr HS2.out.b1 2
      have d0 := (kcl HS2.out.b2 0).trans rfl
      have d1 := (kcl HS2.out.b2 1).trans rfl
      have d2 := (kcl HS2.out.b2 2).trans rfl
      have d3 := (kcl HS2.out.b2 3).trans rfl
      have e0 := (kcl HS2.out.b3 0).trans rfl
      have e1 := (kcl HS2.out.b3 1).trans rfl
      have e2 := (kcl HS2.out.b3 2).trans rfl
      have z0 := (kcl HS2.out.b4 0).trans rfl
      have z1 := (kcl HS2.out.b4 1).trans rfl
      have z2 := (kcl HS2.out.b4 2).trans rfl
      have g0 := kfr HS2.out.b4 0
      have g1 := kfr HS2.out.b4 1
      have g2 := kfr HS2.out.b4 2
      go_wp2_with fail
      refine (adtWithout.calls kind n A c xs a _ (Kd.C_below HR.out HS2.out.below) HC.out HL.out).mono ?_
      rintro e w3 ⟨v, rfl, hO3, hB3⟩
      have HS3 := Z0.mk (HS2.out.step hB3)
      have HO3 := Z0.mk hO3
      obtain ⟨A3, m3, c3, hv3⟩ : ∃ A3 m3 c3, v = .slice A3 m3 c3 := by
        rcases hO3 with ⟨h, -⟩ | h
        · exact ⟨_, _, _, h⟩
        · obtain ⟨A3, c3, h⟩ := Kd.R_slice h
          exact ⟨_, _, _, h⟩
      subst hv3
      clear hO3 hB3 a0 a1 a2 f1 f2 d0 d1 d2 d3 e0 e1 e2 z0 z1 z2 g0 g1 g2
      have z0 := (kcl HS3.out.b4 0).trans rfl
      have z1 := (kcl HS3.out.b4 1).trans rfl
      have z2 := (kcl HS3.out.b4 2).trans rfl
      have g0 := kfr HS3.out.b4 0
      have g1 := kfr HS3.out.b4 1
      have g2 := kfr HS3.out.b4 2
      go_wp2
      obtain ⟨hd1, hd2⟩ := wa_set (.int .i64 kind) (.int .i64 n) (.slice A3 m3 c3) HS3.out
      have hO : Out w _ _ _ _ _ := HO3.out.imp id (fun h => Kd.R_lower (wa_setR (.int .i64 kind) (.int .i64 n) (.slice A3 m3 c3) HS3.out h) HS2.out.below.size)
      refine bodyPost_ret (results_cell_row rfl _ _ (q + 1 + 1 + 1) 24 #[.int .i64 kind, .int .i64 n, .slice A3 m3 c3] (0, 0) _ rfl hd1 Tryz.underlying24 rfl (by kernel_rfl)) rfl ?_
      have hap := HAP.out
      rw [if_neg (by decide), if_neg (by decide), if_neg (by decide), if_neg (by decide), if_neg (by decide), if_pos (by decide)] at hap
      rw [hap]
      exact ⟨_, rfl, hO, hd2⟩
    · clear HCH HKD HX
      have a0 := (kcl HS2.out.b1 0).trans rfl
      have a1 := (kcl HS2.out.b1 1).trans rfl
      have a2 := (kcl HS2.out.b1 2).trans rfl
      have f1 := kfr HS2.out.b1 1
      have f2 := kfr HS2.out.b1 2
      have d0 := (kcl HS2.out.b2 0).trans rfl
      have d1 := (kcl HS2.out.b2 1).trans rfl
      have d2 := (kcl HS2.out.b2 2).trans rfl
      have d3 := (kcl HS2.out.b2 3).trans rfl
      have e0 := (kcl HS2.out.b3 0).trans rfl
      have e1 := (kcl HS2.out.b3 1).trans rfl
      have e2 := (kcl HS2.out.b3 2).trans rfl
      have z0 := (kcl HS2.out.b4 0).trans rfl
      have z1 := (kcl HS2.out.b4 1).trans rfl
      have z2 := (kcl HS2.out.b4 2).trans rfl
      have g0 := kfr HS2.out.b4 0
      have g1 := kfr HS2.out.b4 1
      have g2 := kfr HS2.out.b4 2
      go_wp2_with fail
      refine (adtWithout.calls kind n A c xs a _ (Kd.C_below HR.out HS2.out.below) HC.out HL.out).mono ?_
      rintro e w3 ⟨v, rfl, hO3, hB3⟩
      have HS3 := Z0.mk (HS2.out.step hB3)
      have HO3 := Z0.mk hO3
      obtain ⟨A3, m3, c3, hv3⟩ : ∃ A3 m3 c3, v = .slice A3 m3 c3 := by
        rcases hO3 with ⟨h, -⟩ | h
        · exact ⟨_, _, _, h⟩
        · obtain ⟨A3, c3, h⟩ := Kd.R_slice h
          exact ⟨_, _, _, h⟩
      subst hv3
      clear hO3 hB3 a0 a1 a2 f1 f2 d0 d1 d2 d3 e0 e1 e2 z0 z1 z2 g0 g1 g2
      have z0 := (kcl HS3.out.b4 0).trans rfl
      have z1 := (kcl HS3.out.b4 1).trans rfl
      have z2 := (kcl HS3.out.b4 2).trans rfl
      have g0 := kfr HS3.out.b4 0
      have g1 := kfr HS3.out.b4 1
      have g2 := kfr HS3.out.b4 2
      go_wp2
      obtain ⟨hd1, hd2⟩ := wa_set (.int .i64 kind) (.int .i64 n) (.slice A3 m3 c3) HS3.out
      have hO : Out w _ _ _ _ _ := HO3.out.imp id (fun h => Kd.R_lower (wa_setR (.int .i64 kind) (.int .i64 n) (.slice A3 m3 c3) HS3.out h) HS2.out.below.size)
      refine bodyPost_ret (results_cell_row rfl _ _ (q + 1 + 1 + 1) 24 #[.int .i64 kind, .int .i64 n, .slice A3 m3 c3] (0, 0) _ rfl hd1 Tryz.underlying24 rfl (by kernel_rfl)) rfl ?_
      have hap := HAP.out
      rw [if_neg (by decide), if_neg (by decide), if_neg (by decide), if_neg (by decide), if_neg (by decide), if_pos (by decide)] at hap
      rw [hap]
      exact ⟨_, rfl, hO, hd2⟩
    · clear HCH HKD HX
      have a0 := (kcl HS2.out.b1 0).trans rfl
      have a1 := (kcl HS2.out.b1 1).trans rfl
      have a2 := (kcl HS2.out.b1 2).trans rfl
      have f1 := kfr HS2.out.b1 1
      have f2 := kfr HS2.out.b1 2
      have d0 := (kcl HS2.out.b2 0).trans rfl
      have d1 := (kcl HS2.out.b2 1).trans rfl
      have d2 := (kcl HS2.out.b2 2).trans rfl
      have d3 := (kcl HS2.out.b2 3).trans rfl
      have e0 := (kcl HS2.out.b3 0).trans rfl
      have e1 := (kcl HS2.out.b3 1).trans rfl
      have e2 := (kcl HS2.out.b3 2).trans rfl
      have z0 := (kcl HS2.out.b4 0).trans rfl
      have z1 := (kcl HS2.out.b4 1).trans rfl
      have z2 := (kcl HS2.out.b4 2).trans rfl
      have g0 := kfr HS2.out.b4 0
      have g1 := kfr HS2.out.b4 1
      have g2 := kfr HS2.out.b4 2
      go_wp2_with fail
      refine (adtWithout.calls kind n A c xs text _ (Kd.C_below HR.out HS2.out.below) HC.out HL.out).mono ?_
      rintro e w3 ⟨v, rfl, hO3, hB3⟩
      have HS3 := Z0.mk (HS2.out.step hB3)
      have HO3 := Z0.mk hO3
      obtain ⟨A3, m3, c3, hv3⟩ : ∃ A3 m3 c3, v = .slice A3 m3 c3 := by
        rcases hO3 with ⟨h, -⟩ | h
        · exact ⟨_, _, _, h⟩
        · obtain ⟨A3, c3, h⟩ := Kd.R_slice h
          exact ⟨_, _, _, h⟩
      subst hv3
      clear hO3 hB3 a0 a1 a2 f1 f2 d0 d1 d2 d3 e0 e1 e2 z0 z1 z2 g0 g1 g2
      have z0 := (kcl HS3.out.b4 0).trans rfl
      have z1 := (kcl HS3.out.b4 1).trans rfl
      have z2 := (kcl HS3.out.b4 2).trans rfl
      have g0 := kfr HS3.out.b4 0
      have g1 := kfr HS3.out.b4 1
      have g2 := kfr HS3.out.b4 2
      go_wp2
      obtain ⟨hd1, hd2⟩ := wa_set (.int .i64 kind) (.int .i64 n) (.slice A3 m3 c3) HS3.out
      have hO : Out w _ _ _ _ _ := HO3.out.imp id (fun h => Kd.R_lower (wa_setR (.int .i64 kind) (.int .i64 n) (.slice A3 m3 c3) HS3.out h) HS2.out.below.size)
      refine bodyPost_ret (results_cell_row rfl _ _ (q + 1 + 1 + 1) 24 #[.int .i64 kind, .int .i64 n, .slice A3 m3 c3] (0, 0) _ rfl hd1 Tryz.underlying24 rfl (by kernel_rfl)) rfl ?_
      have hap := HAP.out
      rw [if_neg (by decide), if_neg (by decide), if_neg (by decide), if_neg (by decide), if_neg (by decide), if_neg (by decide)] at hap
      rw [hap]
      exact ⟨_, rfl, hO, hd2⟩
    · clear HCH HKD HX
      have a0 := (kcl HS2.out.b1 0).trans rfl
      have a1 := (kcl HS2.out.b1 1).trans rfl
      have a2 := (kcl HS2.out.b1 2).trans rfl
      have f1 := kfr HS2.out.b1 1
      have f2 := kfr HS2.out.b1 2
      have d0 := (kcl HS2.out.b2 0).trans rfl
      have d1 := (kcl HS2.out.b2 1).trans rfl
      have d2 := (kcl HS2.out.b2 2).trans rfl
      have d3 := (kcl HS2.out.b2 3).trans rfl
      have e0 := (kcl HS2.out.b3 0).trans rfl
      have e1 := (kcl HS2.out.b3 1).trans rfl
      have e2 := (kcl HS2.out.b3 2).trans rfl
      have z0 := (kcl HS2.out.b4 0).trans rfl
      have z1 := (kcl HS2.out.b4 1).trans rfl
      have z2 := (kcl HS2.out.b4 2).trans rfl
      have g0 := kfr HS2.out.b4 0
      have g1 := kfr HS2.out.b4 1
      have g2 := kfr HS2.out.b4 2
      go_wp2_with fail
      refine (adtWithout.calls kind n A c xs text _ (Kd.C_below HR.out HS2.out.below) HC.out HL.out).mono ?_
      rintro e w3 ⟨v, rfl, hO3, hB3⟩
      have HS3 := Z0.mk (HS2.out.step hB3)
      have HO3 := Z0.mk hO3
      obtain ⟨A3, m3, c3, hv3⟩ : ∃ A3 m3 c3, v = .slice A3 m3 c3 := by
        rcases hO3 with ⟨h, -⟩ | h
        · exact ⟨_, _, _, h⟩
        · obtain ⟨A3, c3, h⟩ := Kd.R_slice h
          exact ⟨_, _, _, h⟩
      subst hv3
      clear hO3 hB3 a0 a1 a2 f1 f2 d0 d1 d2 d3 e0 e1 e2 z0 z1 z2 g0 g1 g2
      have z0 := (kcl HS3.out.b4 0).trans rfl
      have z1 := (kcl HS3.out.b4 1).trans rfl
      have z2 := (kcl HS3.out.b4 2).trans rfl
      have g0 := kfr HS3.out.b4 0
      have g1 := kfr HS3.out.b4 1
      have g2 := kfr HS3.out.b4 2
      go_wp2
      obtain ⟨hd1, hd2⟩ := wa_set (.int .i64 kind) (.int .i64 n) (.slice A3 m3 c3) HS3.out
      have hO : Out w _ _ _ _ _ := HO3.out.imp id (fun h => Kd.R_lower (wa_setR (.int .i64 kind) (.int .i64 n) (.slice A3 m3 c3) HS3.out h) HS2.out.below.size)
      refine bodyPost_ret (results_cell_row rfl _ _ (q + 1 + 1 + 1) 24 #[.int .i64 kind, .int .i64 n, .slice A3 m3 c3] (0, 0) _ rfl hd1 Tryz.underlying24 rfl (by kernel_rfl)) rfl ?_
      have hap := HAP.out
      rw [if_neg (by decide), if_neg (by decide), if_neg (by decide), if_neg (by decide), if_neg (by decide), if_neg (by decide)] at hap
      rw [hap]
      exact ⟨_, rfl, hO, hd2⟩
end Go.Proofs.YtjiblcncadekcaaGreat.PA

