import Derived.Test.YtjiblcncadekcaaGreatQOxLVo
import Derived.Test.YtjiblcncadekcaaGreatQOxPAx0
import Derived.Test.YtjiblcncadekcaaGreatQOxCWk
import Derived.Test.YtjiblcncadekcaaGreatQOxPAx4
import Derived.Test.YtjiblcncadekcaaGreatQOxPAx8
namespace Go.Proofs.YtjiblcncadekcaaGreat.PA
set_option linter.unusedSimpArgs false
open Go.RowKit Go.Proofs.YtjiblcncadekcaaGreatW.PrintWords Go.Proofs.YtjiblcncadekcaaGreatW.PrintLast Go.Proofs.YtjiblcncadekcaaGreatW.PrintMore Go.Proofs.YtjiblcncadekcaaGreat Go.Proofs.YtjiblcncadekcaaGreat.PL
attribute [local go_sem] Oper.semAt_some
set_option maxHeartbeats 8000000 in
set_option maxRecDepth 100000 in
theorem listAddFull.calls (g og : Nat) (v : Value) (cs : Array Value) (es : List Ent) (A : Option Addr) (c : Nat) (obj : ByteArray) (x : Stp) (w : World) (hv : v = .slice A es.length c) (hb : w.heap[g]? = some (.cells cs 50 (0, 0))) (ho : cs[og]? = some v) (hl : 12 ≤ es.length) :
    Calls Tryz.prog 12 #[.pointer (some ⟨g, og, none⟩), .string obj, .agg #[.int .i64 x.op, .string x.a, .string x.b, .int .i64 x.n, .int .i64 x.code, .string x.text, .int .i64 x.rn]] w fun e w' => e = .returned (.int .i64 7) ∧ Below w.heap.size w w' := by
  subst hv
  obtain ⟨W1, hW1⟩ : ∃ W1, W1 = w.alloc (.cells #[.int .i64 x.op, .string x.a, .string x.b, .int .i64 x.n, .int .i64 x.code, .string x.text, .int .i64 x.rn] 53) := ⟨_, rfl⟩
  obtain ⟨q, hq⟩ : ∃ q, q = w.heap.size := ⟨_, rfl⟩
  have hB1 : Below w.heap.size w W1 := by rw [hW1]; exact bal (Below.refl _ _) _
  have h12 : (12 : Int) ≤ (es.length : Int) := by omega
  have HB1 := Z0.mk hB1
  have a0 := (kcl (kbl hb hB1) og).trans ho
  clear hb hB1 hl ho
  go_enter Tryz.func12, Tryz.ntmps12
  go_upto_region 1 with fail
  rw [← hW1, ← hq]
  clear hW1 hq
  go_wp2
  go_ret
  exact ⟨rfl, HB1.out⟩
set_option maxHeartbeats 8000000 in
set_option maxRecDepth 100000 in
theorem listAddO.calls (g og : Nat) (v : Value) (cs : Array Value) (es : List Ent) (obj : ByteArray) (x : Stp) (w0 w : World) (hB : Below w0.heap.size w0 w) (hb : w.heap[g]? = some (.cells cs 50 (0, 0))) (ho : cs[og]? = some v) (hv : Kd.R kEnt 60 w w0.heap.size (fun _ => True) v es) (hl : es.length < 12) :
    Calls Tryz.prog 12 #[.pointer (some ⟨g, og, none⟩), .string obj, .agg #[.int .i64 x.op, .string x.a, .string x.b, .int .i64 x.n, .int .i64 x.code, .string x.text, .int .i64 x.rn]] w fun e w' => e = .returned (.int .i64 0) ∧ ∃ v' w1, w' = w1.setCell ⟨g, og, none⟩ v' ∧ w1.heap[g]? = some (.cells cs 50 (0, 0)) ∧ Kd.R kEnt 60 w1 w0.heap.size (fun _ => True) v' (es ++ [entOf obj x]) ∧ Below w0.heap.size w0 w1 ∧ w.grownBy w1 v.ownBlock ∧ (v'.ownBlock = v.ownBlock ∨ ∃ b, v'.ownBlock = some b ∧ w.heap.size ≤ b) := by
  obtain ⟨A, c, hvs⟩ := Kd.R_slice hv
  subst hvs
  obtain ⟨W1, hW1⟩ : ∃ W1, W1 = w.alloc (.cells #[.int .i64 x.op, .string x.a, .string x.b, .int .i64 x.n, .int .i64 x.code, .string x.text, .int .i64 x.rn] 53) := ⟨_, rfl⟩
  obtain ⟨q, hq⟩ : ∃ q, q = w.heap.size := ⟨_, rfl⟩
  have hB1 : Below w0.heap.size w0 W1 := by rw [hW1]; exact bal hB _
  have hg1 : W1.heap[g]? = some (.cells cs 50 (0, 0)) := by rw [hW1]; exact kal hb _
  have hq1 : W1.heap[q]? = some (.cells #[.int .i64 x.op, .string x.a, .string x.b, .int .i64 x.n, .int .i64 x.code, .string x.text, .int .i64 x.rn] 53 (0, 0)) := by rw [hW1, hq]; exact blk_new w _
  have hv1 : Kd.R kEnt 60 W1 w0.heap.size (fun _ => True) (.slice A es.length c) es := by rw [hW1]; exact Kd.R_alloc hv _
  have HGW := Z0.mk (show ∀ r, w.grownBy W1 r from fun r => by rw [hW1]; exact World.grownBy_alloc w _ r)
  have HSZ := Z0.mk (show w.heap.size ≤ W1.heap.size by rw [hW1]; simp)
  have h12 : ¬ ((12 : Int) ≤ (es.length : Int)) := by omega
  have HL := Z0.mk hl
  have HO := Z0.mk ho
  have HB1 := Z0.mk hB1
  have HG1 := Z0.mk hg1
  have HQ1 := Z0.mk hq1
  have HV1 := Z0.mk hv1
  have hne : g ≠ q := by have := klt_ hb; omega
  have hne2 : q ≠ g := fun e => hne e.symm
  have a0 := (kcl hg1 og).trans ho
  clear hB hb hv hB1 hg1 hq1 hv1 hl ho
  go_enter Tryz.func12, Tryz.ntmps12
  go_upto_region 1 with fail
  rw [← hW1, ← hq]
  clear hW1 hq
  go_upto_region 3 with fail
  clear h12 a0
  have n1_ := Z0.mk (bd1 HB1.out)
  have n2_ := Z0.mk (kdw HG1.out)
  have n3_ := Z0.mk (kdw HQ1.out)
  have n4_ := Z0.mk (Kd.R_drew HV1.out)
  have n5_ := Z0.mk (show ∀ r, w.grownBy W1.drew r from fun r => grown_two (HGW.out r) (grown_drew W1 r))
  have n6_ := Z0.mk (show w.heap.size ≤ W1.drew.heap.size from HSZ.out)
  clear HB1 HG1 HQ1 HV1 HGW HSZ
  have HB1 := n1_
  have HG1 := n2_
  have HQ1 := n3_
  have HV1 := n4_
  have HGW := n5_
  have HSZ := n6_
  clear n1_ n2_ n3_ n4_ n5_ n6_
  refine start_ (n := 13) (S := fun w' => w'.cell? ⟨g, og, none⟩ = some (.slice A es.length c) ∧ w'.cell? ⟨q, 0, none⟩ = some (.int .i64 x.op) ∧ w'.cell? ⟨q, 1, none⟩ = some (.string x.a) ∧ w'.cell? ⟨q, 2, none⟩ = some (.string x.b) ∧ w'.cell? ⟨q, 3, none⟩ = some (.int .i64 x.n) ∧ w'.cell? ⟨q, 4, none⟩ = some (.int .i64 x.code) ∧ w'.cell? ⟨q, 5, none⟩ = some (.string x.text) ∧ w'.cell? ⟨q, 6, none⟩ = some (.int .i64 x.rn)) (ds := [12]) #[false,false,false,false,false,false,false,false,false,false,false,false,false] (by kernel_rfl) rfl rfl ⟨(kcl HG1.out og).trans HO.out, (kcl HQ1.out 0).trans rfl, (kcl HQ1.out 1).trans rfl, (kcl HQ1.out 2).trans rfl, (kcl HQ1.out 3).trans rfl, (kcl HQ1.out 4).trans rfl, (kcl HQ1.out 5).trans rfl, (kcl HQ1.out 6).trans rfl⟩ (fun hHeld => ?_)
  generalize W1.drew = W2 at HB1 HG1 HQ1 HV1 HGW HSZ hHeld ⊢
  refine pu_ 0 (some 13) (bA 13 1) ?_
  refine pu_ 1 (some 14) (bA 13 3) ?_
  refine pu_ 2 (some 15) (bA 13 7) ?_
  refine pu_ 3 (some 16) (bA 13 15) ?_
  refine pu_ 5 (some 18) (bA 13 47) ?_
  refine tk_ 4 (some 17) (bA 13 63) hHeld ?_
  refine tk_ 6 (some 19) (bA 13 127) hHeld ?_
  refine pu_ 7 (some 20) (bA 13 255) ?_
  refine one_ (i := 8) (N := some 21) (bA 13 511) rfl rfl (by kernel_rfl) (by decide) (fun K hK => ?_)
  refine value_ (w1 := ?_) (v := ?_) (by rfl) rfl ?_ ?_
  rotate_left 2
  · go_simp
    constructor
    · rfl
    · rfl
  refine hK.out _ _ ⟨(kcl (kal HG1.out _) og).trans HO.out, (kcl (kal HQ1.out _) 0).trans rfl, (kcl (kal HQ1.out _) 1).trans rfl, (kcl (kal HQ1.out _) 2).trans rfl, (kcl (kal HQ1.out _) 3).trans rfl, (kcl (kal HQ1.out _) 4).trans rfl, (kcl (kal HQ1.out _) 5).trans rfl, (kcl (kal HQ1.out _) 6).trans rfl⟩ (fun hHeld => ?_)
  clear hK K
  refine nm_ (some 21) ?_
  refine one_ (i := 9) (N := some 22) (bA 13 1023) rfl rfl (by kernel_rfl) (by decide) (fun K hK => ?_)
  refine Kd.R_append_step kEnt (w0 := w0) w0.heap.size (by rfl) (.tmp 17) (.tmp 21) 48 60 (.agg #[.string ⟨#[]⟩, .int .i64 0, .string ⟨#[]⟩, .string ⟨#[]⟩, .int .i64 0, .int .i64 0, .string ⟨#[]⟩, .int .i64 0]) 96 rfl Tryz.underlying48 infoEnt rfl (by decide) (by omega) (.slice A es.length c) es (entOf obj x) [.string obj, .int .i64 x.op, .string x.a, .string x.b, .int .i64 x.n, .int .i64 x.code, .string x.text, .int .i64 x.rn] (fun _ => True) (fun _ => False) rfl rfl ?aP (fun _ hk => hk.elim) ?aF ?aO ?aB ?aS ?aL ?_
  (case aP => exact kEnt_mkM _ _ _ (entOf obj x))
  (case aB => exact HB1.out)
  (case aF => exact (fun _ _ => trivial))
  (case aO => exact HV1.out)
  (case aS => exact HB1.out.size)
  (case aL => have := HL.out; omega)
  intro v2 w2 ho hb hg hat
  have HO2 := Z0.mk ho
  have HB2 := Z0.mk hb
  have HAT := Z0.mk (show v2.ownBlock = (Value.slice A es.length c).ownBlock ∨ ∃ b, v2.ownBlock = some b ∧ w.heap.size ≤ b from hat.imp id (fun ⟨b, h1, h2⟩ => ⟨b, h1, Nat.le_trans HSZ.out h2⟩))
  have HGR := Z0.mk (grown_two (HGW.out _) hg)
  have HG2 := Z0.mk (kgr_ HG1.out hg (Kd.R_ne (HV1.out) HG1.out (by decide)))
  have HQ2 := Z0.mk (kgr_ HQ1.out hg (Kd.R_ne (HV1.out) HQ1.out (by decide)))
  clear ho hb hg hat
  obtain ⟨A3, c3, hv3⟩ := Kd.R_slice HO2.out
  subst hv3
  refine hK.out _ _ ⟨(kcl HG2.out og).trans HO.out, (kcl HQ2.out 0).trans rfl, (kcl HQ2.out 1).trans rfl, (kcl HQ2.out 2).trans rfl, (kcl HQ2.out 3).trans rfl, (kcl HQ2.out 4).trans rfl, (kcl HQ2.out 5).trans rfl, (kcl HQ2.out 6).trans rfl⟩ (fun hHeld => ?_)
  clear hK K
  refine nm_ (some 22) ?_
  refine pu_ 10 (some 23) (bA 13 2047) ?_
  refine pu_ 11 (some 24) (bA 13 4095) ?_
  refine last_ (i := 12) (N := none) (bA 13 8191) rfl rfl (by kernel_rfl) (by decide) (fun K hK => ?_)
  have hs : w2.cell? ⟨g, og, none⟩ = some (.slice A es.length c) := (kcl HG2.out og).trans HO.out
  have hf := kfr HG2.out og
  refine skip_ (w1 := ?_) (by rfl) rfl ?_ ?_
  rotate_left
  · go_simp
    rfl
  refine hK.out _ _ ?_
  clear hK K
  refine done_ (by kernel_rfl) ?_
  go_wp2
  go_ret
  have ho2 := HO2.out
  have hat2 := HAT.out
  rw [List.length_append] at ho2 hat2
  exact ⟨rfl, _, w2, rfl, HG2.out, ho2, HB2.out, HGR.out, hat2⟩
end Go.Proofs.YtjiblcncadekcaaGreat.PA

namespace Go.Proofs.YtjiblcncadekcaaGreat.PA
set_option linter.unusedSimpArgs false
open Go.RowKit Go.Proofs.YtjiblcncadekcaaGreatW.PrintWords Go.Proofs.YtjiblcncadekcaaGreatW.PrintLast Go.Proofs.YtjiblcncadekcaaGreatW.PrintMore Go.Proofs.YtjiblcncadekcaaGreat Go.Proofs.YtjiblcncadekcaaGreat.PL
attribute [local go_sem] Oper.semAt_some
set_option maxHeartbeats 4000000 in
set_option maxRecDepth 100000 in
theorem cloneEnt.calls (A0 : Option Addr) (c0 : Nat) (l0 : List Ent) (w : World) (hr0 : Kd.C kEnt w A0 l0.length l0) (hl : l0.length < 1000000) :
    Calls Tryz.prog 35 #[.slice A0 l0.length c0] w fun e w' => ∃ v : Value, e = .returned v ∧ Kd.R kEnt 60 w' w.heap.size (fun _ => True) v l0 ∧ Below w.heap.size w w' := by
  have hq : ∀ (W : World) (A : Option Addr) (n c : Nat), (binOp .eql 48 (.slice A n c) (.slice none 0 0)).run Tryz.prog W = .ok (.bool A.isNone) W := fun W A n c => Lib.run_eql_slice_nil W 48 60 A n c 0 0 Tryz.underlying48
  cases A0 with
  | none =>
    have hn : l0 = [] := by
      cases l0 with
      | nil => rfl
      | cons x l => obtain ⟨ad, e, -⟩ := hr0.2.2 (by simp); cases e
    subst hn
    clear hr0 hl
    go_enter Tryz.func35, Tryz.ntmps35
    go_wp2
    go_ret
    exact ⟨_, rfl, Kd.R_nil _ _ _ _ _, Below.refl _ _⟩
  | some ad =>
    have HR0 := Z0.mk hr0
    clear hr0
    have HB := Z0.mk (Below.refl w.heap.size w)
    have HL := Z0.mk hl
    clear hl
    go_enter Tryz.func35, Tryz.ntmps35
    go_wp2_with (first
      | ((with_reducible refine gds (N := 5) rfl ?_); refine Kd.R_lit kEnt _ 60 ?hg (N := 5) ?hd (xs := ([] : List Ent)) (inner := []) (ok := fun _ => True) (okp := fun _ => True) ?hr ?hp (fun _ hk => hk) trivial (Below.refl _ _) (Nat.le_refl _) (by simp) ?_; (case hd => rfl); (case hg => rfl); (case hr => first | (go_simp; done) | (go_simp; rfl)); (case hp => exact (Reps.none _ _)); intro v5 w4 ho5 hb hg_ hnew_; clear hg_ hnew_; have HO5 := Z0.mk ho5; have HB5 := Z0.mk hb; clear ho5 hb)
      | ((with_reducible refine gate_builtin (b := .append) (xs := #[.tmp 5, .tmp 6]) rfl ?_); at_builtin; refine Kd.R_append_rows kEnt (Rr := kEnt.K w4) (w0 := w) w.heap.size rfl (.tmp 5) (.tmp 6) 48 60 (.agg #[.string ⟨#[]⟩, .int .i64 0, .string ⟨#[]⟩, .string ⟨#[]⟩, .int .i64 0, .int .i64 0, .string ⟨#[]⟩, .int .i64 0]) 96 rfl Tryz.underlying48 infoEnt rfl (by decide) (by omega) v5 ([] : List Ent) l0 _ _ _ (fun _ => True) (fun _ => False) rfl rfl ?aO ?aR (fun x cs h => by rw [kEnt_open h]; exact kEnt_mkM _ _ _ x) (fun _ h => h.elim) ?aF ?aB ?aS ?aL ?_; (case aR => exact Kd.C_below HR0.out HB5.out); (case aB => exact HB5.out); (case aF => exact (fun _ _ => trivial)); (case aO => exact HO5.out); (case aS => exact HB5.out.size); (case aL => have := HL.out; simp only [List.length_nil]; omega); intro v7 w6 ho hb hg hat; have HO7 := Z0.mk ho; have HB7 := Z0.mk hb; clear ho hb hg hat))
    go_ret
    exact ⟨_, rfl, HO7.out, HB7.out⟩
set_option maxHeartbeats 4000000 in
set_option maxRecDepth 100000 in
theorem listAll.calls (g og : Nat) (A : Option Addr) (c : Nat) (cs : Array Value) (es : List Ent) (w : World) (hb : w.heap[g]? = some (.cells cs 50 (0, 0))) (ho : cs[og]? = some (.slice A es.length c)) (hC : Kd.C kEnt w A es.length es) (hl : es.length < 1000000) :
    Calls Tryz.prog 14 #[.pointer (some ⟨g, og, none⟩)] w fun e w' => ∃ A2 c2, e = .returned (.slice A2 es.length c2) ∧ Kd.R kEnt 60 w' w.heap.size (fun _ => True) (.slice A2 es.length c2) es ∧ Below w.heap.size w w' := by
  have a0 := (kcl hb og).trans ho
  have HC := Z0.mk hC
  have HL := Z0.mk hl
  clear hb ho hC hl
  go_enter Tryz.func14, Tryz.ntmps14
  go_wp2_with fail
  refine (cloneEnt.calls A c es _ HC.out HL.out).mono ?_
  rintro e w2 ⟨v, rfl, hR, hB⟩
  obtain ⟨A2, c2, rfl⟩ := Kd.R_slice hR
  have HB := Z0.mk hB
  have HC2 := Z0.mk hR
  clear hR hB a0
  go_wp2
  go_ret
  exact ⟨_, _, rfl, HC2.out, HB.out⟩
end Go.Proofs.YtjiblcncadekcaaGreat.PA

namespace Go.Proofs.YtjiblcncadekcaaGreat.PA
set_option linter.unusedSimpArgs false
set_option linter.unusedVariables false
open Go.RowKit Go.Proofs.YtjiblcncadekcaaGreatW.PrintWords Go.Proofs.YtjiblcncadekcaaGreatW.PrintLast Go.Proofs.YtjiblcncadekcaaGreatW.PrintMore Go.Proofs.YtjiblcncadekcaaGreat Go.Proofs.YtjiblcncadekcaaGreat.PL
theorem runR_runS (kind : Int) : ∀ (l : List Stp) (n : Int) (xs : List Rw), runR kind n xs l = runS kind (n, xs) l
  | [], _, _ => rfl
  | x :: l, n, xs => runR_runS kind l _ _
structure L1 (kd n0 : Int) (xs0 : List Rw) (ls : List (List Stp)) (H : List Lck) (i : Nat) : Prop where
  len : ls.length = 4
  legs : ∀ k, k < 4 → Legs kd (n0, xs0) (ls.getD k [])
  held : ∀ k, k < 4 → ∀ s ∈ ls.getD k [], ∃ l ∈ H, l.txn = (k : Int) ∧ stpL l = s
  free : ∀ j k, j < 4 → k < 4 → j ≠ k → FreeL (ls.getD j []) (ls.getD k [])
  sum : lens ls ≤ i
  hl : H.length ≤ i
theorem L1.start (kd n0 : Int) (xs0 : List Rw) : L1 kd n0 xs0 [[], [], [], []] [] 0 := by
  have e : ∀ k, ([[], [], [], []] : List (List Stp)).getD k [] = [] := fun k => by
    match k with
    | 0 | 1 | 2 | 3 => rfl
    | k + 4 => rfl
  refine ⟨rfl, (fun k _ => by rw [e]; exact trivial), (fun k _ s hs => by rw [e] at hs; cases hs), (fun j k _ _ _ x hx => by rw [e] at hx; cases hx), by decide, Nat.le_refl _⟩
theorem L1.skip {kd n0 : Int} {xs0 : List Rw} {ls : List (List Stp)} {H : List Lck} {i j : Nat} (h : L1 kd n0 xs0 ls H i) (hj : i ≤ j) : L1 kd n0 xs0 ls H j := ⟨h.len, h.legs, h.held, h.free, Nat.le_trans h.sum hj, Nat.le_trans h.hl hj⟩
theorem getD_set {α : Type} (l : List α) (k j : Nat) (x d : α) (hk : k < l.length) : (l.set k x).getD j d = if k = j then x else l.getD j d := by
  rw [List.getD_eq_getElem?_getD, List.getElem?_set, List.getD_eq_getElem?_getD]
  split
  · subst_vars
    simp [hk]
  · rfl
theorem lens_set : ∀ (ls : List (List Stp)) (k : Nat) (s : Stp), k < ls.length → lens (ls.set k (ls.getD k [] ++ [s])) = lens ls + 1
  | l :: ls, 0, s, _ => by simp [lens]; omega
  | l :: ls, k + 1, s, h => by
    have := lens_set ls k s (by simpa using h)
    unfold lens at this ⊢
    simp only [List.set_cons_succ, List.flatten_cons, List.length_append, List.getD_cons_succ] at this ⊢
    omega
  | [], k, s, h => absurd h (by simp)
theorem L1.add {kd n0 : Int} {xs0 : List Rw} {ls : List (List Stp)} {H : List Lck} {i k : Nat} {s : Stp} (h : L1 kd n0 xs0 ls H i) (hk : k < 4) (hb : blkR H (k : Int) s = false) (hs : LegS kd (runS kd (n0, xs0) (ls.getD k [])) s) :
    L1 kd n0 xs0 (ls.set k (ls.getD k [] ++ [s])) (H ++ [lckOf (k : Int) s]) (i + 1) := by
  have hkl : k < ls.length := by rw [h.len]; exact hk
  have hg := fun j => getD_set ls k j (ls.getD k [] ++ [s]) [] hkl
  have hfr : ∀ j, j < 4 → j ≠ k → ∀ y ∈ ls.getD j [], Free y s := fun j hj hne y hy => by
    obtain ⟨l, hl, ht, hy2⟩ := h.held j hj y hy
    have hb1 : blk1 (k : Int) s l = false := by
      unfold blkR at hb
      rw [List.any_eq_false] at hb
      simpa using hb l hl
    unfold blk1 at hb1
    have hne2 : (l.txn != (k : Int)) = true := by rw [ht]; simp; omega
    rw [hne2, Bool.true_and, hy2] at hb1
    exact .inl hb1
  refine ⟨by rw [List.length_set]; exact h.len, fun j hj => ?_, fun j hj y hy => ?_, fun a c ha hc hne => ?_, by rw [lens_set _ _ _ hkl]; have := h.sum; omega, by rw [List.length_append]; have := h.hl; simp; omega⟩
  · rw [hg]
    split
    · rw [Legs_append]
      exact ⟨h.legs k hk, hs, trivial⟩
    · exact h.legs j hj
  · rw [hg] at hy
    split at hy
    · rename_i e
      subst e
      rcases List.mem_append.1 hy with hy | hy
      · obtain ⟨l, hl, h2⟩ := h.held _ hj y hy
        exact ⟨l, List.mem_append_left _ hl, h2⟩
      · obtain rfl := List.mem_singleton.1 hy
        exact ⟨_, List.mem_append_right _ (List.mem_singleton.2 rfl), rfl, rfl⟩
    · obtain ⟨l, hl, h2⟩ := h.held j hj y hy
      exact ⟨l, List.mem_append_left _ hl, h2⟩
  · rw [hg, hg]
    by_cases e1 : k = a
    · subst e1
      rw [if_pos rfl, if_neg hne]
      intro x hx y hy
      rcases List.mem_append.1 hx with hx | hx
      · exact h.free _ _ ha hc hne x hx y hy
      · obtain rfl := List.mem_singleton.1 hx
        exact (hfr c hc (fun e => hne e.symm) y hy).symm
    · by_cases e2 : k = c
      · subst e2
        rw [if_neg e1, if_pos rfl]
        intro x hx y hy
        rcases List.mem_append.1 hy with hy | hy
        · exact h.free _ _ ha hc hne x hx y hy
        · obtain rfl := List.mem_singleton.1 hy
          exact hfr a ha hne x hx
      · rw [if_neg e1, if_neg e2]
        exact h.free a c ha hc hne
theorem lens_getD : ∀ (ls : List (List Stp)) (k : Nat), (ls.getD k []).length ≤ lens ls
  | [], k => by simp
  | l :: ls, 0 => by simp [lens]
  | l :: ls, k + 1 => by
    have := lens_getD ls k
    unfold lens at this ⊢
    simp only [List.getD_cons_succ, List.flatten_cons, List.length_append]
    omega
theorem L1.ok {kd n0 : Int} {xs0 : List Rw} {ls : List (List Stp)} {H : List Lck} {i k : Nat} (h : L1 kd n0 xs0 ls H i) (hi : i ≤ 24) (hk : k < 4) (h0 : OkM kd n0 xs0 0) : OkM kd (runS kd (n0, xs0) (ls.getD k [])).1 (runS kd (n0, xs0) (ls.getD k [])).2 24 := by
  have h1 := lens_getD ls k
  have h2 := h.sum
  have h3 : Ok kd (n0, xs0) (24 - (ls.getD k []).length) := ⟨h0.k1, h0.k7, h0.num, fun q => ⟨(h0.acc q).1, by have := (h0.acc q).2; omega⟩, h0.lo, h0.hi, (by show xs0.length ≤ _; have := h0.len; omega), h0.one, h0.row, h0.ord⟩
  have h4 := h3.run (by omega) (h.legs k hk)
  rw [show 24 - (ls.getD k []).length + (ls.getD k []).length = 24 by omega] at h4
  exact h4
def flatO (ls : List (List Stp)) (o : List Nat) : List Stp := (o.map (fun k => ls.getD k [])).flatten
theorem flatO_append (ls : List (List Stp)) (o p : List Nat) : flatO ls (o ++ p) = flatO ls o ++ flatO ls p := by unfold flatO; rw [List.map_append, List.flatten_append]
theorem flatO_one (ls : List (List Stp)) (k : Nat) : flatO ls [k] = ls.getD k [] := by simp [flatO]
theorem ids_flat (ls : List (List Stp)) (h : ls.length = 4) : [0, 1, 2, 3].map (fun k => ls.getD k []) = ls := by
  match ls, h with
  | [a, b, c, d], _ => rfl
theorem L1.perm {kd n0 : Int} {xs0 : List Rw} {ls : List (List Stp)} {H : List Lck} (h : L1 kd n0 xs0 ls H 24) (h0 : OkM kd n0 xs0 0) {o : List Nat} (ho : o.Perm [0, 1, 2, 3]) :
    Legs kd (n0, xs0) (flatO ls o) ∧ runS kd (n0, xs0) (flatO ls o) = runS kd (n0, xs0) (flatO ls [0, 1, 2, 3]) := by
  have hlt : ∀ k ∈ o, k < 4 := fun k hk => by
    have := ho.subset hk
    simp only [List.mem_cons, List.not_mem_nil, or_false] at this
    omega
  have hnd : o.Nodup := ho.nodup_iff.2 (by decide)
  have hp : (o.map (fun k => ls.getD k [])).Perm ls := by
    have := ho.map (fun k => ls.getD k [])
    rwa [ids_flat ls h.len] at this
  have hl4 : lens (o.map (fun k => ls.getD k [])) ≤ 24 := by
    unfold lens
    rw [(hp.flatten).length_eq]
    exact h.sum
  have hleg : ∀ l ∈ o.map (fun k => ls.getD k []), Legs kd (n0, xs0) l := fun l hl => by
    obtain ⟨k, hk, rfl⟩ := List.mem_map.1 hl
    exact h.legs k (hlt k hk)
  have hpw : (o.map (fun k => ls.getD k [])).Pairwise FreeL := by
    rw [List.pairwise_map]
    exact hnd.imp_of_mem (fun {a b} ha hb hne => h.free a b (hlt a ha) (hlt b hb) hne)
  refine ⟨flat_legs (m := 0) (by omega) h0 hleg hpw, ?_⟩
  exact flat_perm (m := 0) (by
    have := ho.map (fun k => ls.getD k [])
    exact this) (by omega) h0 hleg hpw
theorem OkM.uq {kind n : Int} {xs : List Rw} {m : Nat} (h : OkM kind n xs m) : Uq xs := by
  by_cases q : kind = 5
  · exact uq45 (.inr q) h.ord
  · exact uq7 (fun x hx => eps_toL.1 ((h.row x hx).1 q))
end Go.Proofs.YtjiblcncadekcaaGreat.PA

namespace Go.Proofs.YtjiblcncadekcaaGreat.PA
set_option linter.unusedSimpArgs false
set_option linter.unusedVariables false
open Go.RowKit Go.Proofs.YtjiblcncadekcaaGreatW.PrintWords Go.Proofs.YtjiblcncadekcaaGreatW.PrintLast Go.Proofs.YtjiblcncadekcaaGreatW.PrintMore Go.Proofs.YtjiblcncadekcaaGreat Go.Proofs.YtjiblcncadekcaaGreat.PL
def objX : ByteArray := ⟨#[120]⟩
theorem tyE (t : Nat) (ht : 60 ≠ t) : ∀ u, u ∈ 60 :: kEnt.E → u ≠ t := by
  intro u h
  rw [show (60 :: kEnt.E) = [60] from by first | rfl | decide | simp [kEnt]] at h
  simp only [List.mem_singleton] at h
  subst h
  exact ht
theorem tyRw (t : Nat) (ht : 73 ≠ t) : ∀ u, u ∈ 73 :: k73.E → u ≠ t := by
  intro u h
  rw [show (73 :: k73.E) = [73] from by first | rfl | decide | simp [k73]] at h
  simp only [List.mem_singleton] at h
  subst h
  exact ht
theorem kEnt_E : kEnt.E = [] := by first | rfl | decide | simp [kEnt]
def KeepM (w w1 : World) (ts : List Nat) : Prop := w.heap.size ≤ w1.heap.size ∧ ∀ (i : Nat) (o : Obj), w.heap[i]? = some o → (∀ (cs : Array Value) (q : Nat) (fr : Nat × Nat), o = Obj.cells cs q fr → q ∉ ts) → w1.heap[i]? = some o
theorem KeepM.blk {w w1 : World} {ts : List Nat} {g : Nat} {cells : Array Value} {q : Nat} {fr : Nat × Nat} (hk : KeepM w w1 ts) (hb : w.heap[g]? = some (.cells cells q fr)) (hq : q ∉ ts) : w1.heap[g]? = some (.cells cells q fr) := hk.2 g _ hb (fun cs t f e => by injection e with _ e2; rw [← e2]; exact hq)
theorem KeepM.R {α : Type} {d : Kd α} {e base : Nat} {w w1 : World} {ok : Nat → Prop} {v : Value} {xs : List α} {ts : List Nat} (hk : KeepM w w1 ts) (h : d.R e w base ok v xs) (ht : ∀ q, q ∈ e :: d.E → q ∉ ts) : d.R e w1 base ok v xs := by
  refine Kd.R_mono (Kd.R_move (Kd.R_bound h) (fun k hk2 => ?_)) (fun _ h => h.1)
  obtain ⟨_, _, _, q, hq, cells, hc⟩ := hk2
  exact (hk.blk hc (ht q hq)).trans hc.symm
theorem TBo.keep {B : Nat} {w w1 : World} {p b : Nat} {obj : ByteArray} {H : List Lck} {ts : List Nat} (h : TBo B w p b obj H) (hk : KeepM w w1 ts) (h1 : 76 ∉ ts) (h2 : 97 ∉ ts) (h3 : 99 ∉ ts) : TBo B w1 p b obj H := by
  have hm : ∀ {es : Array MapEntry} {c : Nat}, w.heap[b]? = some (.map es c) → w1.heap[b]? = some (.map es c) := fun h => hk.2 b _ h (fun _ _ _ e => by cases e)
  rcases h with ⟨a1, a2, a3, a4, h⟩ | ⟨q, hv, h⟩
  · exact .inl ⟨a1, a2, a3, a4, hk.blk h.box h1, hm h.map⟩
  · refine .inr ⟨q, hv, h.bp, h.bb, h.bq, h.ne, ⟨hk.blk h.tb.box h1, hm h.tb.map⟩, hk.blk h.xq h2, hk.R h.row (fun t ht => ?_)⟩
    rw [show (99 :: kLck.E) = [99] from by first | rfl | decide | simp [kLck]] at ht
    simp only [List.mem_singleton] at ht
    subst ht
    exact h3
structure LO (w W : World) (q7 q8 p b L : Nat) (kd : Int) (c7 : Array Value) (n0 : Int) (vb : Value) (xs0 : List Rw) (vs : List Value) (ls : List (List Stp)) (H : List Lck) : Prop where
  below : Below w.heap.size w W
  g7 : w.heap.size ≤ q7
  g8 : w.heap.size ≤ q8
  gL : w.heap.size ≤ L
  b7 : W.heap[q7]? = some (.cells c7 30 (0, 0))
  b8 : W.heap[q8]? = some (.cells #[.int .i64 kd, .int .i64 n0, vb] 24 (0, 0))
  bL : W.heap[L]? = some (.cells vs.toArray 50 (0, 0))
  lv : vs.length = 4
  rb : Kd.R k73 73 W w.heap.size (fun _ => True) vb xs0
  tb : TBo w.heap.size W p b objX H
  rl : ∀ k, k < 4 → Kd.R kEnt 60 W w.heap.size (fun _ => True) (vs.getD k undef) ((ls.getD k []).map (entOf objX))
  ap : ∀ j k, j < 4 → k < 4 → j ≠ k → ∀ r, (vs.getD j undef).ownBlock = some r → (vs.getD k undef).ownBlock ≠ some r
section
variable {w W W1 : World} {q7 q8 p b L : Nat} {kd : Int} {c7 : Array Value} {n0 : Int} {vb : Value} {xs0 : List Rw} {vs : List Value} {ls : List (List Stp)} {H : List Lck}
theorem LO.step (h : LO w W q7 q8 p b L kd c7 n0 vb xs0 vs ls H) (hB : Below W.heap.size W W1) : LO w W1 q7 q8 p b L kd c7 n0 vb xs0 vs ls H :=
  ⟨bsp h.below hB, h.g7, h.g8, h.gL, kbl h.b7 hB, kbl h.b8 hB, kbl h.bL hB, h.lv, Kd.R_below h.rb hB, h.tb.below hB, fun k hk => Kd.R_below (h.rl k hk) hB, h.ap⟩
theorem LO.grant (h : LO w W q7 q8 p b L kd c7 n0 vb xs0 vs ls H) {H1 : List Lck} (ht : TBo w.heap.size W1 p b objX H1) (hB : Below w.heap.size w W1) (hk : KeepC W W1 [97, 99]) : LO w W1 q7 q8 p b L kd c7 n0 vb xs0 vs ls H1 :=
  ⟨hB, h.g7, h.g8, h.gL, hk.blk h.b7 (by decide), hk.blk h.b8 (by decide), hk.blk h.bL (by decide), h.lv, hk.R h.rb (fun q hq => by
    have e1 := tyRw 97 (by decide) q hq
    have e2 := tyRw 99 (by decide) q hq
    simp [e1, e2]), ht, fun k hk4 => hk.R (h.rl k hk4) (fun q hq => by
    have e1 := tyE 97 (by decide) q hq
    have e2 := tyE 99 (by decide) q hq
    simp [e1, e2]), h.ap⟩
theorem LO.at_ (h : LO w W q7 q8 p b L kd c7 n0 vb xs0 vs ls H) {k : Nat} (hk : k < 4) : vs.toArray[k]? = some (vs.getD k undef) := by
  have := h.lv
  rw [List.getElem?_toArray, List.getD_eq_getElem?_getD, List.getElem?_eq_getElem (by omega)]
  rfl
theorem LO.keepM (h : LO w W q7 q8 p b L kd c7 n0 vb xs0 vs ls H) {k : Nat} (hk : k < 4) (hG : W.grownBy W1 (vs.getD k undef).ownBlock) (v : Value) : KeepM W (W1.setCell ⟨L, k, none⟩ v) [60, 50] := by
  refine ⟨by have := hG.size; simpa using this, fun i o hb ho => ?_⟩
  have h1 : i ≠ L := fun e => by
    rw [e, h.bL] at hb
    have hb := Option.some.inj hb
    exact (ho _ _ _ hb.symm) (by decide)
  have h2 : some i ≠ (vs.getD k undef).ownBlock := fun e => by
    obtain ⟨cs2, hc⟩ := Kd.R_typed (h.rl k hk) i e.symm
    rw [hc] at hb
    have hb := Option.some.inj hb
    exact (ho _ _ _ hb.symm) (by decide)
  exact (Below.heap_setCell W1 ⟨L, k, none⟩ v i h1).trans ((hG.block i (Array.getElem?_eq_some_iff.1 hb).1 h2).trans hb)
theorem LO.add (h : LO w W q7 q8 p b L kd c7 n0 vb xs0 vs ls H) {k : Nat} (hk : k < 4) (hls : ls.length = 4) (hb : W1.heap[L]? = some (.cells vs.toArray 50 (0, 0))) (hB : Below w.heap.size w W1) (hG : W.grownBy W1 (vs.getD k undef).ownBlock) {v' : Value} {x : Stp} (hR : Kd.R kEnt 60 W1 w.heap.size (fun _ => True) v' ((ls.getD k []).map (entOf objX) ++ [entOf objX x])) (hat : v'.ownBlock = (vs.getD k undef).ownBlock ∨ ∃ r, v'.ownBlock = some r ∧ W.heap.size ≤ r) :
    LO w (W1.setCell ⟨L, k, none⟩ v') q7 q8 p b L kd c7 n0 vb xs0 (vs.set k v') (ls.set k (ls.getD k [] ++ [x])) H := by
  have hkm := h.keepM hk hG v'
  have hlt : k < vs.length := by rw [h.lv]; exact hk
  have hgv := fun j => getD_set vs k j v' undef hlt
  have hgl := fun j => getD_set ls k j (ls.getD k [] ++ [x]) [] (by rw [hls]; exact hk)
  have hlt4 : ∀ j, j < 4 → ∀ r, (vs.getD j undef).ownBlock = some r → r < W.heap.size := fun j hj r hr => Kd.R_lt (h.rl j hj) r hr
  refine ⟨bst hB h.gL, h.g7, h.g8, h.gL, hkm.blk h.b7 (by decide), hkm.blk h.b8 (by decide), ?_, by rw [List.length_set]; exact h.lv, hkm.R h.rb (fun q hq => ?_), h.tb.keep hkm (by decide) (by decide) (by decide), fun j hj => ?_, fun i j hi hj hne r hr => ?_⟩
  · rw [blk_set hb]
    simp
  · have e1 := tyRw 60 (by decide) q hq
    have e2 := tyRw 50 (by decide) q hq
    simp [e1, e2]
  · rw [hgv, hgl]
    by_cases e : k = j
    · rw [if_pos e, if_pos e, List.map_append]
      exact Kd.R_set hR hb (tyE _ (by decide)) k v'
    · rw [if_neg e, if_neg e]
      exact Kd.R_set (Kd.R_grown2 (h.rl j hj) kEnt_E hG (fun r hr e2 => h.ap k j hk hj e r hr e2.symm)) hb (tyE _ (by decide)) k v'
  · rw [hgv] at hr ⊢
    by_cases e1 : k = i
    · rw [if_pos e1] at hr
      rw [if_neg (fun e2 => hne (e1.symm.trans e2))]
      rcases hat with hat | ⟨r2, h1, h2⟩
      · rw [hat] at hr
        exact h.ap k j hk hj (fun e => hne (e1.symm.trans e)) r hr
      · intro h3
        have := hlt4 j hj r h3
        rw [hr] at h1
        injection h1 with h1
        omega
    · rw [if_neg e1] at hr
      by_cases e2 : k = j
      · rw [if_pos e2]
        intro h3
        rcases hat with hat | ⟨r2, h1, h2⟩
        · rw [hat] at h3
          exact h.ap i k hi hk (fun e => e1 e.symm) r hr h3
        · have := hlt4 i hi r hr
          rw [h3] at h1
          injection h1 with h1
          omega
      · rw [if_neg e2]
        exact h.ap i j hi hj hne r hr
end
end Go.Proofs.YtjiblcncadekcaaGreat.PA

namespace Go.Proofs.YtjiblcncadekcaaGreat.PA
set_option linter.unusedSimpArgs false
set_option linter.unusedVariables false
open Go.RowKit Go.Proofs.YtjiblcncadekcaaGreatW.PrintWords Go.Proofs.YtjiblcncadekcaaGreatW.PrintLast Go.Proofs.YtjiblcncadekcaaGreatW.PrintMore Go.Proofs.YtjiblcncadekcaaGreat Go.Proofs.YtjiblcncadekcaaGreat.PL
structure LAct where
  kind : Int
  txn : Int
  object : Int
  op : Int
  a : ByteArray
  b : ByteArray
  n : Int
  code : Int
  text : ByteArray
  rn : Int
def zLAct : LAct := ⟨0, 0, 0, 0, ⟨#[]⟩, ⟨#[]⟩, 0, 0, ⟨#[]⟩, 0⟩
def kLAct : Kd LAct := Kd.iso (Kd.pair (Kd.int .i64) (Kd.pair (Kd.int .i64) (Kd.pair (Kd.int .i64) (Kd.pair (Kd.int .i64) (Kd.pair Kd.string (Kd.pair Kd.string (Kd.pair (Kd.int .i64) (Kd.pair (Kd.int .i64) (Kd.pair Kd.string (Kd.int .i64)))))))))) (fun x => (x.kind, x.txn, x.object, x.op, x.a, x.b, x.n, x.code, x.text, x.rn))
theorem kLAct_open {w : World} {x : LAct} {cs : List Value} (h : kLAct.K w x cs) : cs = [.int .i64 x.kind, .int .i64 x.txn, .int .i64 x.object, .int .i64 x.op, .string x.a, .string x.b, .int .i64 x.n, .int .i64 x.code, .string x.text, .int .i64 x.rn] := by
  obtain ⟨_, _, rfl, rfl, _, _, rfl, rfl, _, _, rfl, rfl, _, _, rfl, rfl, _, _, rfl, rfl, _, _, rfl, rfl, _, _, rfl, rfl, _, _, rfl, rfl, _, _, rfl, rfl, rfl⟩ := h
  exact rfl
theorem kLAct_mk (w : World) (x : LAct) : kLAct.K w x [.int .i64 x.kind, .int .i64 x.txn, .int .i64 x.object, .int .i64 x.op, .string x.a, .string x.b, .int .i64 x.n, .int .i64 x.code, .string x.text, .int .i64 x.rn] := ⟨[.int .i64 x.kind], [.int .i64 x.txn, .int .i64 x.object, .int .i64 x.op, .string x.a, .string x.b, .int .i64 x.n, .int .i64 x.code, .string x.text, .int .i64 x.rn], rfl, rfl, ⟨[.int .i64 x.txn], [.int .i64 x.object, .int .i64 x.op, .string x.a, .string x.b, .int .i64 x.n, .int .i64 x.code, .string x.text, .int .i64 x.rn], rfl, rfl, ⟨[.int .i64 x.object], [.int .i64 x.op, .string x.a, .string x.b, .int .i64 x.n, .int .i64 x.code, .string x.text, .int .i64 x.rn], rfl, rfl, ⟨[.int .i64 x.op], [.string x.a, .string x.b, .int .i64 x.n, .int .i64 x.code, .string x.text, .int .i64 x.rn], rfl, rfl, ⟨[.string x.a], [.string x.b, .int .i64 x.n, .int .i64 x.code, .string x.text, .int .i64 x.rn], rfl, rfl, ⟨[.string x.b], [.int .i64 x.n, .int .i64 x.code, .string x.text, .int .i64 x.rn], rfl, rfl, ⟨[.int .i64 x.n], [.int .i64 x.code, .string x.text, .int .i64 x.rn], rfl, rfl, ⟨[.int .i64 x.code], [.string x.text, .int .i64 x.rn], rfl, rfl, ⟨[.string x.text], [.int .i64 x.rn], rfl, rfl, rfl⟩⟩⟩⟩⟩⟩⟩⟩⟩
theorem at_LAct {w : World} {A : Option Addr} {n : Nat} {xs : List LAct} (h : Kd.C kLAct w A n xs) (i : Int) (h0 : 0 ≤ i) (h1 : i < n) : ∃ ad, A = some ad ∧ w.cell? (ad.add (i.toNat * 10)) = some (.int .i64 (xs.getD i.toNat zLAct).kind) ∧ w.cell? ⟨(ad.add (i.toNat * 10)).block, (ad.add (i.toNat * 10)).off + 1, none⟩ = some (.int .i64 (xs.getD i.toNat zLAct).txn) ∧ w.cell? ⟨(ad.add (i.toNat * 10)).block, (ad.add (i.toNat * 10)).off + 2, none⟩ = some (.int .i64 (xs.getD i.toNat zLAct).object) ∧ w.cell? ⟨(ad.add (i.toNat * 10)).block, (ad.add (i.toNat * 10)).off + 3, none⟩ = some (.int .i64 (xs.getD i.toNat zLAct).op) ∧ w.cell? ⟨(ad.add (i.toNat * 10)).block, (ad.add (i.toNat * 10)).off + 4, none⟩ = some (.string (xs.getD i.toNat zLAct).a) ∧ w.cell? ⟨(ad.add (i.toNat * 10)).block, (ad.add (i.toNat * 10)).off + 5, none⟩ = some (.string (xs.getD i.toNat zLAct).b) ∧ w.cell? ⟨(ad.add (i.toNat * 10)).block, (ad.add (i.toNat * 10)).off + 6, none⟩ = some (.int .i64 (xs.getD i.toNat zLAct).n) ∧ w.cell? ⟨(ad.add (i.toNat * 10)).block, (ad.add (i.toNat * 10)).off + 7, none⟩ = some (.int .i64 (xs.getD i.toNat zLAct).code) ∧ w.cell? ⟨(ad.add (i.toNat * 10)).block, (ad.add (i.toNat * 10)).off + 8, none⟩ = some (.string (xs.getD i.toNat zLAct).text) ∧ w.cell? ⟨(ad.add (i.toNat * 10)).block, (ad.add (i.toNat * 10)).off + 9, none⟩ = some (.int .i64 (xs.getD i.toNat zLAct).rn) := by
  obtain ⟨ad, cs, e, _, hK, hc0⟩ := Kd.C_get h zLAct i h0 h1
  have hc : ∀ j u, cs[j]? = some u → w.cell? (ad.add (i.toNat * 10 + j)) = some u := hc0
  obtain rfl := kLAct_open hK
  exact ⟨ad, e, hc 0 _ rfl, by rw [← add_field _ _ 1 (by omega)]; exact hc 1 _ rfl, by rw [← add_field _ _ 2 (by omega)]; exact hc 2 _ rfl, by rw [← add_field _ _ 3 (by omega)]; exact hc 3 _ rfl, by rw [← add_field _ _ 4 (by omega)]; exact hc 4 _ rfl, by rw [← add_field _ _ 5 (by omega)]; exact hc 5 _ rfl, by rw [← add_field _ _ 6 (by omega)]; exact hc 6 _ rfl, by rw [← add_field _ _ 7 (by omega)]; exact hc 7 _ rfl, by rw [← add_field _ _ 8 (by omega)]; exact hc 8 _ rfl, by rw [← add_field _ _ 9 (by omega)]; exact hc 9 _ rfl⟩
set_option maxRecDepth 100000 in
theorem live_f : armoiretop_live.f 400 = some true := by decide +kernel
theorem own_f (kind n : Int) (ys : List Rr) (hl : ys.length < 1000000) : Ev (fun k => armoirelaw11_Own.f k kind n ys) (kind, n, ys.map to68) := by
  have hloop : ∀ (d i : Nat), i + d = ys.length → Ev (fun k => armoirelaw11_Own.l0 k ys (ys.length : Int) (i : Int) kind n ((ys.take i).map to68)) (kind, n, ys.map to68) := by
    intro d
    induction d with
    | zero =>
      intro i hi
      refine Ev.step (f := fun _ => some _) (fun k => ?_) (Ev.now _)
      rw [armoirelaw11_Own.l0, if_neg (by omega), List.take_of_length_le (by omega)]
    | succ d ih =>
      intro i hi
      have hlt : i < ys.length := by omega
      have hw : wrap64 ((i : Int) + 1) = ((i + 1 : Nat) : Int) := by unfold wrap64; omega
      have hx : rd_T72 ys (i : Int) = ys[i] := by simp [rd_T72, hlt]
      have h := ih (i + 1) (by omega)
      rw [List.take_succ_eq_append_getElem hlt, List.map_append] at h
      refine Ev.step (fun k => ?_) h
      rw [armoirelaw11_Own.l0, if_pos (by omega), if_pos (by omega), if_pos (by omega), if_pos (by rw [List.length_map, List.length_take]; omega), hx, hw]
      rfl
  exact hloop ys.length 0 (by omega)
theorem set3_new {W w3 : World} {g t : Nat} {y0 y1 y2 : Value} (hg : g = W.heap.size) (hb : Below W.heap.size W w3) (hx : w3.heap[g]? = some (.cells #[y0, y1, y2] t (0, 0))) (a b c : Value) : Below W.heap.size W (((w3.setCell ⟨g, 0, none⟩ a).setCell ⟨g, 1, none⟩ b).setCell ⟨g, 2, none⟩ c) ∧ (((w3.setCell ⟨g, 0, none⟩ a).setCell ⟨g, 1, none⟩ b).setCell ⟨g, 2, none⟩ c).heap[g]? = some (.cells #[a, b, c] t (0, 0)) := by
  have hge : W.heap.size ≤ g := by omega
  have e0 := kpt hx 0 a (cs' := #[a, y1, y2]) rfl
  have e1 := kpt e0 1 b (cs' := #[a, b, y2]) rfl
  have e2 := kpt e1 2 c (cs' := #[a, b, c]) rfl
  exact ⟨(bst (bst (bst hb hge) hge) hge), e2⟩
theorem set4_new {W w3 : World} {g t : Nat} {y0 y1 y2 y3 : Value} (hg : g = W.heap.size) (hb : Below W.heap.size W w3) (hx : w3.heap[g]? = some (.cells #[y0, y1, y2, y3] t (0, 0))) (a b c d : Value) : Below W.heap.size W ((((w3.setCell ⟨g, 0, none⟩ a).setCell ⟨g, 1, none⟩ b).setCell ⟨g, 2, none⟩ c).setCell ⟨g, 3, none⟩ d) ∧ ((((w3.setCell ⟨g, 0, none⟩ a).setCell ⟨g, 1, none⟩ b).setCell ⟨g, 2, none⟩ c).setCell ⟨g, 3, none⟩ d).heap[g]? = some (.cells #[a, b, c, d] t (0, 0)) := by
  have hge : W.heap.size ≤ g := by omega
  have e0 := kpt hx 0 a (cs' := #[a, y1, y2, y3]) rfl
  have e1 := kpt e0 1 b (cs' := #[a, b, y2, y3]) rfl
  have e2 := kpt e1 2 c (cs' := #[a, b, c, y3]) rfl
  have e3 := kpt e2 3 d (cs' := #[a, b, c, d]) rfl
  exact ⟨(bst (bst (bst (bst hb hge) hge) hge) hge), e3⟩
theorem set7_new {W w3 : World} {g t : Nat} {y0 y1 y2 y3 y4 y5 y6 : Value} (hg : g = W.heap.size) (hb : Below W.heap.size W w3) (hx : w3.heap[g]? = some (.cells #[y0, y1, y2, y3, y4, y5, y6] t (0, 0))) (a b c d e f h : Value) : Below W.heap.size W (((((((w3.setCell ⟨g, 0, none⟩ a).setCell ⟨g, 1, none⟩ b).setCell ⟨g, 2, none⟩ c).setCell ⟨g, 3, none⟩ d).setCell ⟨g, 4, none⟩ e).setCell ⟨g, 5, none⟩ f).setCell ⟨g, 6, none⟩ h) ∧ (((((((w3.setCell ⟨g, 0, none⟩ a).setCell ⟨g, 1, none⟩ b).setCell ⟨g, 2, none⟩ c).setCell ⟨g, 3, none⟩ d).setCell ⟨g, 4, none⟩ e).setCell ⟨g, 5, none⟩ f).setCell ⟨g, 6, none⟩ h).heap[g]? = some (.cells #[a, b, c, d, e, f, h] t (0, 0)) := by
  have hge : W.heap.size ≤ g := by omega
  have e0 := kpt hx 0 a (cs' := #[a, y1, y2, y3, y4, y5, y6]) rfl
  have e1 := kpt e0 1 b (cs' := #[a, b, y2, y3, y4, y5, y6]) rfl
  have e2 := kpt e1 2 c (cs' := #[a, b, c, y3, y4, y5, y6]) rfl
  have e3 := kpt e2 3 d (cs' := #[a, b, c, d, y4, y5, y6]) rfl
  have e4 := kpt e3 4 e (cs' := #[a, b, c, d, e, y5, y6]) rfl
  have e5 := kpt e4 5 f (cs' := #[a, b, c, d, e, f, y6]) rfl
  have e6 := kpt e5 6 h (cs' := #[a, b, c, d, e, f, h]) rfl
  exact ⟨(bst (bst (bst (bst (bst (bst (bst hb hge) hge) hge) hge) hge) hge) hge), e6⟩
theorem one_Stp {w : World} {vb : Nat} {s : Stp} (hx : w.heap[vb]? = some (.cells #[.int .i64 s.op, .string s.a, .string s.b, .int .i64 s.n, .int .i64 s.code, .string s.text, .int .i64 s.rn] 53 (0, 0))) : Kd.C kStp w (some ⟨vb, 0, none⟩) 1 [s] := by
  refine ⟨rfl, by decide, fun _ => ⟨_, rfl, fun j p hj => ?_⟩⟩
  cases j with
  | zero =>
    cases hj
    refine ⟨_, rfl, kStp_mk w s, fun i u hu => ?_⟩
    rw [Nat.zero_mul, Nat.zero_add, add_plain, kcl hx]
    match i, hu with
    | 0, h | 1, h | 2, h | 3, h | 4, h | 5, h | 6, h => exact h
    | i + 7, h => simp at h
  | succ j => simp at hj
theorem infoList : (Tryz.prog.info? 50).map (fun i => (i.zero, i.size, i.bytes)) = some (some (.agg #[.slice none 0 0]), 1, 24) := by kernel_rfl
theorem lists_make (W : World) : (Instr.makeSlice 35 (.int .i64 4) (.int .i64 4)).run Tryz.prog W = .ok (.slice (some ⟨W.heap.size, 0, none⟩) 4 4) (W.alloc (.cells #[.slice none 0 0, .slice none 0 0, .slice none 0 0, .slice none 0 0] 50)) := by
  obtain ⟨i0, hi, hzz⟩ := Option.map_eq_some_iff.1 infoList
  simp only [Prod.mk.injEq] at hzz
  obtain ⟨hz0, hz1, hz2⟩ := hzz
  have hr := run_make (P := Tryz.prog) W 35 50 i0 (.agg #[.slice none 0 0]) Tryz.underlying35 hi hz0 .i64 .i64 4 4 (by omega) (by omega) (by rw [hz2]; decide) (by omega)
  rw [hz1, show madeCells (Value.agg #[.slice none 0 0]).cells (Int.toNat 4 * 1) = #[.slice none 0 0, .slice none 0 0, .slice none 0 0, .slice none 0 0] from by kernel_rfl] at hr
  exact hr
end Go.Proofs.YtjiblcncadekcaaGreat.PA

