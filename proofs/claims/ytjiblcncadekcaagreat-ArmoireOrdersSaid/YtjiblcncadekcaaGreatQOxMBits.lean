import Derived.Test.YtjiblcncadekcaaGreatQOxRAp
import Derived.Test.YtjiblcncadekcaaGreatQOxPAx7
import Derived.Test.YtjiblcncadekcaaGreatQOxPAx11
import Derived.Test.YtjiblcncadekcaaGreatQOxMFold2
import Derived.Test.YtjiblcncadekcaaGreatQOxPAx0
import Derived.RangeFuncNested
import Derived.RangeFuncBound
import Derived.RangeFuncCalls
import Derived.RangeFuncLeaves
import Derived.Shelf.Abstract
import Derived.Shelf.RegionOpen
import Derived.OwnWalkIn
import Derived.TacticsInMore
import Derived.LoopNIn
import Derived.LoopIn
import Derived.Sort.CutIn
import Derived.Test.YtjiblcncadekcaaGreatQOxWWords
import Derived.Test.YtjiblcncadekcaaGreatQOxWMore
import Derived.Lib.Strings
import Derived.Laws.BitsLemmas
namespace Go.Proofs.YtjiblcncadekcaaGreat.PA
set_option linter.unusedSimpArgs false
open Go.RowKit Go.Proofs.YtjiblcncadekcaaGreatW.PrintWords Go.Proofs.YtjiblcncadekcaaGreatW.PrintLast Go.Proofs.YtjiblcncadekcaaGreatW.PrintMore Go.Proofs.YtjiblcncadekcaaGreat Go.Proofs.YtjiblcncadekcaaGreat.PL
attribute [local go_sem] Oper.semAt_some
def maskN (kind n m : Int) : Int := if kind = 3 then Go.bits .and .i64 n m else n
theorem tyR67 : ∀ t, t ∈ 72 :: k72.E → t ≠ 30 := by
  intro t h
  rw [show (72 :: k72.E) = [72] from by first | rfl | decide | simp [k72]] at h
  simp only [List.mem_singleton] at h
  subst h
  decide
structure W13 (w W : World) (q g : Nat) (c1 : Array Value) (x0 x1 v : Value) (ys : List S72) : Prop where
  below : Below w.heap.size w W
  ge : w.heap.size ≤ q
  lt : q < g
  b2 : W.heap[q]? = some (.cells c1 30 (0, 0))
  b3 : W.heap[g]? = some (.cells #[x0, x1, v] 30 (0, 0))
  row : Kd.R k72 72 W w.heap.size (fun _ => True) v ys
theorem W13.put1 {w W : World} {q g : Nat} {c1 : Array Value} {x0 x1 v : Value} {ys : List S72} (h : W13 w W q g c1 x0 x1 v ys) (u : Value) : W13 w (W.setCell ⟨g, 1, none⟩ u) q g c1 x0 u v ys :=
  ⟨bst h.below (by have := h.ge; have := h.lt; omega), h.ge, h.lt, blk_far h.b2 (show q ≠ g by have := h.lt; omega) u, kpt h.b3 1 u rfl, Kd.R_set h.row h.b3 tyR67 1 u⟩
theorem W13.done {w W : World} {q g : Nat} {y0 y1 y2 : Value} {x0 x1 v : Value} {ys : List S72} (h : W13 w W q g #[y0, y1, y2] x0 x1 v ys) :
    (((W.setCell ⟨q, 0, none⟩ x0).setCell ⟨q, 1, none⟩ x1).setCell ⟨q, 2, none⟩ v).heap[q]? = some (.cells #[x0, x1, v] 30 (0, 0)) ∧ Kd.R k72 72 (((W.setCell ⟨q, 0, none⟩ x0).setCell ⟨q, 1, none⟩ x1).setCell ⟨q, 2, none⟩ v) w.heap.size (fun _ => True) v ys ∧ Below w.heap.size w (((W.setCell ⟨q, 0, none⟩ x0).setCell ⟨q, 1, none⟩ x1).setCell ⟨q, 2, none⟩ v) := by
  have b1 := kpt h.b2 0 x0 (cs' := #[x0, y1, y2]) rfl
  have b2 := kpt b1 1 x1 (cs' := #[x0, x1, y2]) rfl
  have b3 := kpt b2 2 v (cs' := #[x0, x1, v]) rfl
  exact ⟨b3, Kd.R_set (Kd.R_set (Kd.R_set h.row h.b2 tyR67 0 x0) b1 tyR67 1 x1) b2 tyR67 2 v, bst (bst (bst h.below h.ge) h.ge) h.ge⟩
set_option maxHeartbeats 8000000 in
set_option maxRecDepth 100000 in
theorem lawState.calls (k : Nat) (kind n : Int) (A : Option Addr) (c : Nat) (xs : List S73) (kd m : Int) (ys : List S72) (w : World) (hr : Kd.C k73 w A xs.length xs) (hc : xs.length ≤ c) (hf : armoirelaw11_Tidy.f k kind n xs = some (kd, m, ys)) :
    Calls Tryz.prog 5 #[.agg #[.int .i64 kind, .int .i64 n, .slice A xs.length c]] w fun e w' => ∃ v : Value, e = .returned (.agg #[.int .i64 kd, .int .i64 (maskN kd m 1125899906842623), v]) ∧ Kd.R k72 72 w' w.heap.size (fun _ => True) v ys ∧ Below w.heap.size w w' := by
  have HR := Z0.mk hr
  have HC := Z0.mk hc
  have HF := Z0.mk hf
  clear hr hc hf
  obtain ⟨W2, hW2⟩ : ∃ W2, W2 = (w.alloc (.cells #[.int .i64 kind, .int .i64 n, .slice A xs.length c] 24)).alloc (.cells #[.int .i64 0, .int .i64 0, .slice none 0 0] 30) := ⟨_, rfl⟩
  obtain ⟨p, hp⟩ : ∃ p, p = w.heap.size := ⟨_, rfl⟩
  have HB2 := Z0.mk (show Below w.heap.size w W2 by rw [hW2]; exact bal (bal (Below.refl _ _) _) _)
  have hb1 : W2.heap[p]? = some (.cells #[.int .i64 kind, .int .i64 n, .slice A xs.length c] 24 (0, 0)) := by rw [hW2, hp]; exact kal (blk_new w _) _
  have hb2 : W2.heap[p + 1]? = some (.cells #[.int .i64 0, .int .i64 0, .slice none 0 0] 30 (0, 0)) := by
    have h := blk_new (w.alloc (.cells #[.int .i64 kind, .int .i64 n, .slice A xs.length c] 24)) (.cells #[.int .i64 0, .int .i64 0, .slice none 0 0] 30)
    rw [show (w.alloc (.cells #[.int .i64 kind, .int .i64 n, .slice A xs.length c] 24)).heap.size = w.heap.size + 1 by simp] at h
    rw [hW2, hp]
    exact h
  have HB1 := Z0.mk hb1
  have HBb := Z0.mk hb2
  have HP := Z0.mk (show w.heap.size ≤ p + 1 by omega)
  have a0 := (kcl hb1 0).trans rfl
  have a1 := (kcl hb1 1).trans rfl
  have a2 := (kcl hb1 2).trans rfl
  clear hb1 hb2
  go_enter Tryz.func5, Tryz.ntmps5
  go_upto_region 1 with fail
  rw [← hW2, ← hp]
  clear hW2 hp
  go_wp2_with fail
  refine (armoirelaw11_Tidy.calls k kind n A c xs kd m ys _ (Kd.C_below HR.out HB2.out) HC.out HF.out).mono ?_
  rintro e w1 ⟨v, rfl, hR1, hB1⟩
  obtain ⟨A1, c1, hv1⟩ := Kd.R_slice hR1
  subst hv1
  have HR1 := Z0.mk hR1
  have HB1' := Z0.mk hB1
  clear hR1 hB1 a0 a1 a2
  go_upto_if 8 with ((with_reducible refine gds (N := 3) rfl ?_); refine bx_ (N := 3) (cs := #[.int .i64 0, .int .i64 0, .slice none 0 0]) (t := 30) ?_; intro g hg w3 hbox hb; have HG := Z0.mk (show p + 1 < g by rw [hg]; exact klt_ (kbl HBb.out HB1'.out)); have HBX := Z0.mk hbox; have HB3 := Z0.mk hb; clear hg hbox hb; have x0 := (kcl HBX.out 0).trans rfl; have x1 := (kcl HBX.out 1).trans rfl; have x2 := (kcl HBX.out 2).trans rfl; have f0 := kfr HBX.out 0; have f1 := kfr HBX.out 1; have f2 := kfr HBX.out 2)
  have hW : W13 w ((((w3.setCell ⟨g, 0, none⟩ (.int .i64 kd)).setCell ⟨g, 1, none⟩ (.int .i64 m)).setCell ⟨g, 2, none⟩ (.slice A1 ys.length c1))) (p + 1) g #[.int .i64 0, .int .i64 0, .slice none 0 0] (.int .i64 kd) (.int .i64 m) (.slice A1 ys.length c1) ys := by
    have hB := bsp (bsp HB2.out HB1'.out) HB3.out
    have hg := HG.out
    have hp := HP.out
    have e1 := kpt HBX.out 0 (.int .i64 kd) (cs' := #[.int .i64 kd, .int .i64 0, .slice none 0 0]) rfl
    have e2 := kpt e1 1 (.int .i64 m) (cs' := #[.int .i64 kd, .int .i64 m, .slice none 0 0]) rfl
    have e3 := kpt e2 2 (.slice A1 ys.length c1) (cs' := #[.int .i64 kd, .int .i64 m, .slice A1 ys.length c1]) rfl
    have r0 := Kd.R_below (Kd.R_lower HR1.out HB2.out.size) HB3.out
    have hne : p + 1 ≠ g := by omega
    exact ⟨bst (bst (bst hB (by omega)) (by omega)) (by omega), hp, hg, blk_far (blk_far (blk_far (kbl (kbl HBb.out HB1'.out) HB3.out) hne _) hne _) hne _, e3,
      Kd.R_set (Kd.R_set (Kd.R_set r0 HBX.out tyR67 0 _) e1 tyR67 1 _) e2 tyR67 2 _⟩
  generalize (((w3.setCell ⟨g, 0, none⟩ (.int .i64 kd)).setCell ⟨g, 1, none⟩ (.int .i64 m)).setCell ⟨g, 2, none⟩ (.slice A1 ys.length c1)) = w4 at hW ⊢
  have HW := Z0.mk hW
  clear hW x0 x1 x2 f0 f1 f2 HR1 HBX HB3 HB1 HBb
  have x0 := (kcl HW.out.b3 0).trans rfl
  have x1 := (kcl HW.out.b3 1).trans rfl
  have x2 := (kcl HW.out.b3 2).trans rfl
  have f1 := kfr HW.out.b3 1
  have z0 := (kcl HW.out.b2 0).trans rfl
  have z1 := (kcl HW.out.b2 1).trans rfl
  have z2 := (kcl HW.out.b2 2).trans rfl
  have g0 := kfr HW.out.b2 0
  have g1 := kfr HW.out.b2 1
  have g2 := kfr HW.out.b2 2
  have hne : p + 1 ≠ g := by have := HG.out; omega
  have hne2 : g ≠ p + 1 := by have := HG.out; omega
  by_cases q3 : kd = 3
  · have HM := Z0.mk (show maskN kd m 1125899906842623 = Go.bits .and .i64 m 1125899906842623 by unfold maskN; rw [if_pos q3])
    have q4 : (kd == 3) = true := beq_iff_eq.2 q3
    rw [q4]
    clear q3 q4
    go_wp2
    obtain ⟨hd1, hd2, hd3⟩ := (HW.out.put1 (.int .i64 (Go.bits .and .i64 m 1125899906842623))).done
    refine bodyPost_ret (results_cell_row rfl _ _ (p + 1) 30 #[.int .i64 kd, .int .i64 (Go.bits .and .i64 m 1125899906842623), .slice A1 ys.length c1] (0, 0) _ rfl hd1 Tryz.underlying30 rfl (by kernel_rfl)) rfl ?_
    rw [HM.out]
    exact ⟨_, rfl, hd2, hd3⟩
  · have HM := Z0.mk (show maskN kd m 1125899906842623 = m by unfold maskN; rw [if_neg q3])
    have q4 : (kd == 3) = false := beq_eq_false_iff_ne.2 q3
    rw [q4]
    clear q3 q4
    go_wp2
    obtain ⟨hd1, hd2, hd3⟩ := HW.out.done
    refine bodyPost_ret (results_cell_row rfl _ _ (p + 1) 30 #[.int .i64 kd, .int .i64 m, .slice A1 ys.length c1] (0, 0) _ rfl hd1 Tryz.underlying30 rfl (by kernel_rfl)) rfl ?_
    rw [HM.out]
    exact ⟨_, rfl, hd2, hd3⟩
end Go.Proofs.YtjiblcncadekcaaGreat.PA

namespace Go.Proofs.YtjiblcncadekcaaGreat.PA
set_option linter.unusedSimpArgs false
open Go.RowKit Go.Proofs.YtjiblcncadekcaaGreatW.PrintWords Go.Proofs.YtjiblcncadekcaaGreatW.PrintLast Go.Proofs.YtjiblcncadekcaaGreatW.PrintMore Go.Proofs.YtjiblcncadekcaaGreat Go.Proofs.YtjiblcncadekcaaGreat.PL
attribute [local go_sem] Oper.semAt_some
structure Stp where
  op : Int
  a : ByteArray
  b : ByteArray
  n : Int
  code : Int
  text : ByteArray
  rn : Int
def zStp : Stp := ⟨0, ⟨#[]⟩, ⟨#[]⟩, 0, 0, ⟨#[]⟩, 0⟩
def kStp : Kd Stp := Kd.iso (Kd.pair (Kd.int .i64) (Kd.pair Kd.string (Kd.pair Kd.string (Kd.pair (Kd.int .i64) (Kd.pair (Kd.int .i64) (Kd.pair Kd.string (Kd.int .i64))))))) (fun x => (x.op, x.a, x.b, x.n, x.code, x.text, x.rn))
theorem kStp_open {w : World} {x : Stp} {cs : List Value} (h : kStp.K w x cs) : cs = [.int .i64 x.op, .string x.a, .string x.b, .int .i64 x.n, .int .i64 x.code, .string x.text, .int .i64 x.rn] := by
  obtain ⟨_, _, rfl, rfl, _, _, rfl, rfl, _, _, rfl, rfl, _, _, rfl, rfl, _, _, rfl, rfl, _, _, rfl, rfl, rfl⟩ := h
  exact rfl
theorem kStp_mk (w : World) (x : Stp) : kStp.K w x [.int .i64 x.op, .string x.a, .string x.b, .int .i64 x.n, .int .i64 x.code, .string x.text, .int .i64 x.rn] := ⟨[.int .i64 x.op], [.string x.a, .string x.b, .int .i64 x.n, .int .i64 x.code, .string x.text, .int .i64 x.rn], rfl, rfl, ⟨[.string x.a], [.string x.b, .int .i64 x.n, .int .i64 x.code, .string x.text, .int .i64 x.rn], rfl, rfl, ⟨[.string x.b], [.int .i64 x.n, .int .i64 x.code, .string x.text, .int .i64 x.rn], rfl, rfl, ⟨[.int .i64 x.n], [.int .i64 x.code, .string x.text, .int .i64 x.rn], rfl, rfl, ⟨[.int .i64 x.code], [.string x.text, .int .i64 x.rn], rfl, rfl, ⟨[.string x.text], [.int .i64 x.rn], rfl, rfl, rfl⟩⟩⟩⟩⟩⟩
theorem at_Stp {w : World} {A : Option Addr} {n : Nat} {xs : List Stp} (h : Kd.C kStp w A n xs) (i : Int) (h0 : 0 ≤ i) (h1 : i < n) : ∃ ad, A = some ad ∧ w.cell? (ad.add (i.toNat * 7)) = some (.int .i64 (xs.getD i.toNat zStp).op) ∧ w.cell? ⟨(ad.add (i.toNat * 7)).block, (ad.add (i.toNat * 7)).off + 1, none⟩ = some (.string (xs.getD i.toNat zStp).a) ∧ w.cell? ⟨(ad.add (i.toNat * 7)).block, (ad.add (i.toNat * 7)).off + 2, none⟩ = some (.string (xs.getD i.toNat zStp).b) ∧ w.cell? ⟨(ad.add (i.toNat * 7)).block, (ad.add (i.toNat * 7)).off + 3, none⟩ = some (.int .i64 (xs.getD i.toNat zStp).n) ∧ w.cell? ⟨(ad.add (i.toNat * 7)).block, (ad.add (i.toNat * 7)).off + 4, none⟩ = some (.int .i64 (xs.getD i.toNat zStp).code) ∧ w.cell? ⟨(ad.add (i.toNat * 7)).block, (ad.add (i.toNat * 7)).off + 5, none⟩ = some (.string (xs.getD i.toNat zStp).text) ∧ w.cell? ⟨(ad.add (i.toNat * 7)).block, (ad.add (i.toNat * 7)).off + 6, none⟩ = some (.int .i64 (xs.getD i.toNat zStp).rn) := by
  obtain ⟨ad, cs, e, _, hK, hc0⟩ := Kd.C_get h zStp i h0 h1
  have hc : ∀ j u, cs[j]? = some u → w.cell? (ad.add (i.toNat * 7 + j)) = some u := hc0
  obtain rfl := kStp_open hK
  exact ⟨ad, e, hc 0 _ rfl, by rw [← add_field _ _ 1 (by omega)]; exact hc 1 _ rfl, by rw [← add_field _ _ 2 (by omega)]; exact hc 2 _ rfl, by rw [← add_field _ _ 3 (by omega)]; exact hc 3 _ rfl, by rw [← add_field _ _ 4 (by omega)]; exact hc 4 _ rfl, by rw [← add_field _ _ 5 (by omega)]; exact hc 5 _ rfl, by rw [← add_field _ _ 6 (by omega)]; exact hc 6 _ rfl⟩
structure Ent where
  object : ByteArray
  op : Int
  a : ByteArray
  b : ByteArray
  n : Int
  code : Int
  text : ByteArray
  rn : Int
def zEnt : Ent := ⟨⟨#[]⟩, 0, ⟨#[]⟩, ⟨#[]⟩, 0, 0, ⟨#[]⟩, 0⟩
def kEnt : Kd Ent := Kd.iso (Kd.pair Kd.string (Kd.pair (Kd.int .i64) (Kd.pair Kd.string (Kd.pair Kd.string (Kd.pair (Kd.int .i64) (Kd.pair (Kd.int .i64) (Kd.pair Kd.string (Kd.int .i64)))))))) (fun x => (x.object, x.op, x.a, x.b, x.n, x.code, x.text, x.rn))
theorem kEnt_open {w : World} {x : Ent} {cs : List Value} (h : kEnt.K w x cs) : cs = [.string x.object, .int .i64 x.op, .string x.a, .string x.b, .int .i64 x.n, .int .i64 x.code, .string x.text, .int .i64 x.rn] := by
  obtain ⟨_, _, rfl, rfl, _, _, rfl, rfl, _, _, rfl, rfl, _, _, rfl, rfl, _, _, rfl, rfl, _, _, rfl, rfl, _, _, rfl, rfl, rfl⟩ := h
  exact rfl
theorem kEnt_mkM (w : World) (base : Nat) (ok : Nat → Prop) (x : Ent) : kEnt.M w base ok x [.string x.object, .int .i64 x.op, .string x.a, .string x.b, .int .i64 x.n, .int .i64 x.code, .string x.text, .int .i64 x.rn] := ⟨[.string x.object], [.int .i64 x.op, .string x.a, .string x.b, .int .i64 x.n, .int .i64 x.code, .string x.text, .int .i64 x.rn], rfl, rfl, ⟨[.int .i64 x.op], [.string x.a, .string x.b, .int .i64 x.n, .int .i64 x.code, .string x.text, .int .i64 x.rn], rfl, rfl, ⟨[.string x.a], [.string x.b, .int .i64 x.n, .int .i64 x.code, .string x.text, .int .i64 x.rn], rfl, rfl, ⟨[.string x.b], [.int .i64 x.n, .int .i64 x.code, .string x.text, .int .i64 x.rn], rfl, rfl, ⟨[.int .i64 x.n], [.int .i64 x.code, .string x.text, .int .i64 x.rn], rfl, rfl, ⟨[.int .i64 x.code], [.string x.text, .int .i64 x.rn], rfl, rfl, ⟨[.string x.text], [.int .i64 x.rn], rfl, rfl, rfl⟩⟩⟩⟩⟩⟩⟩
theorem at_Ent {w : World} {A : Option Addr} {n : Nat} {xs : List Ent} (h : Kd.C kEnt w A n xs) (i : Int) (h0 : 0 ≤ i) (h1 : i < n) : ∃ ad, A = some ad ∧ w.cell? (ad.add (i.toNat * 8)) = some (.string (xs.getD i.toNat zEnt).object) ∧ w.cell? ⟨(ad.add (i.toNat * 8)).block, (ad.add (i.toNat * 8)).off + 1, none⟩ = some (.int .i64 (xs.getD i.toNat zEnt).op) ∧ w.cell? ⟨(ad.add (i.toNat * 8)).block, (ad.add (i.toNat * 8)).off + 2, none⟩ = some (.string (xs.getD i.toNat zEnt).a) ∧ w.cell? ⟨(ad.add (i.toNat * 8)).block, (ad.add (i.toNat * 8)).off + 3, none⟩ = some (.string (xs.getD i.toNat zEnt).b) ∧ w.cell? ⟨(ad.add (i.toNat * 8)).block, (ad.add (i.toNat * 8)).off + 4, none⟩ = some (.int .i64 (xs.getD i.toNat zEnt).n) ∧ w.cell? ⟨(ad.add (i.toNat * 8)).block, (ad.add (i.toNat * 8)).off + 5, none⟩ = some (.int .i64 (xs.getD i.toNat zEnt).code) ∧ w.cell? ⟨(ad.add (i.toNat * 8)).block, (ad.add (i.toNat * 8)).off + 6, none⟩ = some (.string (xs.getD i.toNat zEnt).text) ∧ w.cell? ⟨(ad.add (i.toNat * 8)).block, (ad.add (i.toNat * 8)).off + 7, none⟩ = some (.int .i64 (xs.getD i.toNat zEnt).rn) := by
  obtain ⟨ad, cs, e, _, hK, hc0⟩ := Kd.C_get h zEnt i h0 h1
  have hc : ∀ j u, cs[j]? = some u → w.cell? (ad.add (i.toNat * 8 + j)) = some u := hc0
  obtain rfl := kEnt_open hK
  exact ⟨ad, e, hc 0 _ rfl, by rw [← add_field _ _ 1 (by omega)]; exact hc 1 _ rfl, by rw [← add_field _ _ 2 (by omega)]; exact hc 2 _ rfl, by rw [← add_field _ _ 3 (by omega)]; exact hc 3 _ rfl, by rw [← add_field _ _ 4 (by omega)]; exact hc 4 _ rfl, by rw [← add_field _ _ 5 (by omega)]; exact hc 5 _ rfl, by rw [← add_field _ _ 6 (by omega)]; exact hc 6 _ rfl, by rw [← add_field _ _ 7 (by omega)]; exact hc 7 _ rfl⟩
def runR (kind : Int) : Int → List S73 → List Stp → Int × List S73
  | n, xs, [] => (n, xs)
  | n, xs, x :: l => runR kind (applyR kind n xs x.op x.a x.b x.n x.code x.text).1 (applyR kind n xs x.op x.a x.b x.n x.code x.text).2 l
structure WR (w W : World) (q : Nat) (kind n : Int) (v : Value) (xs : List S73) (c2 : Array Value) : Prop where
  below : Below w.heap.size w W
  ge : w.heap.size ≤ q
  b1 : W.heap[q]? = some (.cells #[.int .i64 kind, .int .i64 n, v] 24 (0, 0))
  b2 : W.heap[q + 1]? = some (.cells c2 24 (0, 0))
  row : Rd w W v xs
theorem WR.step {w W W1 : World} {q : Nat} {kind n : Int} {v : Value} {xs : List S73} {c2 : Array Value} (h : WR w W q kind n v xs c2) (hB : Below W.heap.size W W1) : WR w W1 q kind n v xs c2 :=
  ⟨bsp h.below hB, h.ge, kbl h.b1 hB, kbl h.b2 hB, h.row.below hB⟩
theorem WR.put {w W : World} {q : Nat} {kind n : Int} {v : Value} {xs : List S73} {c2 : Array Value} (h : WR w W q kind n v xs c2) (g i : Nat) (hg : q + 1 < g) {cs : Array Value} {ty : Nat} (hb : W.heap[g]? = some (.cells cs ty (0, 0))) (ht : 73 ≠ ty) (u : Value) : WR w (W.setCell ⟨g, i, none⟩ u) q kind n v xs c2 :=
  ⟨bst h.below (by have := h.ge; omega), h.ge, blk_far h.b1 (show q ≠ g by omega) u, blk_far h.b2 (show q + 1 ≠ g by omega) u, h.row.put hb (by
    intro t h
    rw [show (73 :: k73.E) = [73] from by first | rfl | decide | simp [k73]] at h
    simp only [List.mem_singleton] at h
    subst h
    exact ht) i u⟩
theorem WR.store {w W W1 : World} {q : Nat} {kind n n' : Int} {v v' : Value} {xs ys : List S73} {c2 : Array Value} (h : WR w W q kind n v xs c2) (hB : Below W.heap.size W W1) (hO : Out W W1 v xs v' ys) :
    WR w (((W1.setCell ⟨q, 0, none⟩ (.int .i64 kind)).setCell ⟨q, 1, none⟩ (.int .i64 n')).setCell ⟨q, 2, none⟩ v') q kind n' v' ys c2 := by
  have h1 := h.step hB
  have hr := h.row.out hO h.below.size hB
  have e0 := kpt h1.b1 0 (.int .i64 kind) (cs' := #[.int .i64 kind, .int .i64 n, v]) rfl
  have e1 := kpt e0 1 (.int .i64 n') (cs' := #[.int .i64 kind, .int .i64 n', v]) rfl
  have e2 := kpt e1 2 v' (cs' := #[.int .i64 kind, .int .i64 n', v']) rfl
  have hne : q + 1 ≠ q := by omega
  exact ⟨bst (bst (bst h1.below h1.ge) h1.ge) h1.ge, h1.ge, e2, blk_far (blk_far (blk_far h1.b2 hne _) hne _) hne _, ((hr.put h1.b1 tyR 0 _).put e0 tyR 1 _).put e1 tyR 2 _⟩
theorem WR.done {w W : World} {q : Nat} {kind n : Int} {v : Value} {xs : List S73} {y0 y1 y2 : Value} (h : WR w W q kind n v xs #[y0, y1, y2]) :
    (((W.setCell ⟨q + 1, 0, none⟩ (.int .i64 kind)).setCell ⟨q + 1, 1, none⟩ (.int .i64 n)).setCell ⟨q + 1, 2, none⟩ v).heap[q + 1]? = some (.cells #[.int .i64 kind, .int .i64 n, v] 24 (0, 0)) ∧ Rd w (((W.setCell ⟨q + 1, 0, none⟩ (.int .i64 kind)).setCell ⟨q + 1, 1, none⟩ (.int .i64 n)).setCell ⟨q + 1, 2, none⟩ v) v xs ∧ Below w.heap.size w (((W.setCell ⟨q + 1, 0, none⟩ (.int .i64 kind)).setCell ⟨q + 1, 1, none⟩ (.int .i64 n)).setCell ⟨q + 1, 2, none⟩ v) := by
  have hq := h.ge
  have e0 := kpt h.b2 0 (.int .i64 kind) (cs' := #[.int .i64 kind, y1, y2]) rfl
  have e1 := kpt e0 1 (.int .i64 n) (cs' := #[.int .i64 kind, .int .i64 n, y2]) rfl
  have e2 := kpt e1 2 v (cs' := #[.int .i64 kind, .int .i64 n, v]) rfl
  exact ⟨e2, ((h.row.put h.b2 tyR 0 _).put e0 tyR 1 _).put e1 tyR 2 _, bst (bst (bst h.below (by omega)) (by omega)) (by omega)⟩
end Go.Proofs.YtjiblcncadekcaaGreat.PA

namespace Go.Proofs.YtjiblcncadekcaaGreat.PA
set_option linter.unusedSimpArgs false
open Go.RowKit Go.Proofs.YtjiblcncadekcaaGreatW.PrintWords Go.Proofs.YtjiblcncadekcaaGreatW.PrintLast Go.Proofs.YtjiblcncadekcaaGreatW.PrintMore Go.Proofs.YtjiblcncadekcaaGreat Go.Proofs.YtjiblcncadekcaaGreat.PL
attribute [local go_sem] Oper.semAt_some
def entOf (obj : ByteArray) (x : Stp) : Ent := ⟨obj, x.op, x.a, x.b, x.n, x.code, x.text, x.rn⟩
theorem infoEnt : (Tryz.prog.info? 60).map (fun i => (i.zero, i.size, i.bytes)) = some (some (.agg #[.string ⟨#[]⟩, .int .i64 0, .string ⟨#[]⟩, .string ⟨#[]⟩, .int .i64 0, .int .i64 0, .string ⟨#[]⟩, .int .i64 0]), 8, 96) := by kernel_rfl
end Go.Proofs.YtjiblcncadekcaaGreat.PA

namespace Go.Proofs.YtjiblcncadekcaaGreat.PA
set_option linter.unusedSimpArgs false
set_option linter.unusedVariables false
open Go.RowKit Go.Shelf Go.Proofs.YtjiblcncadekcaaGreatW.PrintWords Go.Proofs.YtjiblcncadekcaaGreatW.PrintLast Go.Proofs.YtjiblcncadekcaaGreatW.PrintMore Go.Proofs.YtjiblcncadekcaaGreat Go.Proofs.YtjiblcncadekcaaGreat.PL
attribute [local go_sem] Oper.semAt_some
def entE (x : Ent) : Array Value := #[.agg #[.string x.object, .int .i64 x.op, .string x.a, .string x.b, .int .i64 x.n, .int .i64 x.code, .string x.text, .int .i64 x.rn]]
def KV (w : World) (p q : Nat) (A B : World) : Prop := Below w.heap.size A B ∧ ∀ k, (k = p ∨ k = q) → k < A.heap.size → B.heap[k]? = A.heap[k]?
theorem KV.trans {w A B C : World} {p q : Nat} (h : KV w p q A B) (k : KV w p q B C) : KV w p q A C :=
  ⟨h.1.trans k.1, fun i hi hl => (k.2 i hi (Nat.lt_of_lt_of_le hl h.1.size)).trans (h.2 i hi hl)⟩
theorem KV.of_below {w A B : World} {p q : Nat} (hw : w.heap.size ≤ A.heap.size) (h : Below A.heap.size A B) : KV w p q A B := ⟨h.mono hw, fun _ _ hl => h.block _ hl⟩
theorem set3_other (W : World) (q : Nat) (a b c : Value) (k : Nat) (hk : k ≠ q) : (((W.setCell ⟨q, 0, none⟩ a).setCell ⟨q, 1, none⟩ b).setCell ⟨q, 2, none⟩ c).heap[k]? = W.heap[k]? :=
  (Below.heap_setCell ((W.setCell ⟨q, 0, none⟩ a).setCell ⟨q, 1, none⟩ b) ⟨q, 2, none⟩ c k hk).trans ((Below.heap_setCell (W.setCell ⟨q, 0, none⟩ a) ⟨q, 1, none⟩ b k hk).trans (Below.heap_setCell W ⟨q, 0, none⟩ a k hk))
theorem withoutR_len (xs : List S73) (key : ByteArray) : (withoutR xs key).length ≤ xs.length := by
  unfold withoutR
  split
  · simp only [List.length_append, List.length_take, List.length_drop]; omega
  · exact Nat.le_refl _
theorem withR_len (kind : Int) (xs : List S73) (r : S73) : (withR kind xs r).length = xs.length + 1 := by
  have := insPos_le kind xs r.f0 xs.length
  unfold withR
  simp only [List.length_append, List.length_take, List.length_cons, List.length_drop]
  omega
theorem applyR_len (kind n : Int) (xs : List S73) (op : Int) (a b : ByteArray) (cn code : Int) (text : ByteArray) : (applyR kind n xs op a b cn code text).2.length ≤ xs.length + 1 := by
  unfold applyR
  have h1 := withoutR_len xs a
  have h2 := withoutR_len xs text
  repeat' split
  all_goals (try simp only [withR_len, List.length_nil, List.length_cons]) <;> omega
theorem runR_len (kind : Int) : ∀ (l : List Stp) (n : Int) (xs : List S73), (runR kind n xs l).2.length ≤ xs.length + l.length
  | [], n, xs => Nat.le_refl _
  | x :: l, n, xs => by
    have h1 := applyR_len kind n xs x.op x.a x.b x.n x.code x.text
    have h2 := runR_len kind l (applyR kind n xs x.op x.a x.b x.n x.code x.text).1 (applyR kind n xs x.op x.a x.b x.n x.code x.text).2
    simp only [runR, List.length_cons]
    omega
theorem runR_append (kind : Int) : ∀ (l : List Stp) (n : Int) (xs : List S73) (x : Stp), runR kind n xs (l ++ [x]) = applyR kind (runR kind n xs l).1 (runR kind n xs l).2 x.op x.a x.b x.n x.code x.text
  | [], n, xs, x => rfl
  | y :: l, n, xs, x => runR_append kind l _ _ x
def stpE (e : Ent) : Stp := ⟨e.op, e.a, e.b, e.n, e.code, e.text, e.rn⟩
theorem k68_E : k73.E = [] := by first | rfl | decide | simp [k73]
theorem Rd.grown {w0 W W1 : World} {v : Value} {xs : List S73} (h : Rd w0 W v xs) {row : Option Nat} (hg : W.grownBy W1 row) (hr : ∀ r, row = some r → ∃ o : Obj, W.heap[r]? = some o ∧ o.isCells = false) : Rd w0 W1 v xs := by
  refine h.imp id (fun h => Kd.R_grown2 h k68_E hg ?_)
  intro k hk he
  rcases (rowR.1 h).2 with ⟨rfl, -⟩ | ⟨k', c, cur, rfl, hb, hk', hn, hc, hs, ht⟩
  · simp [Value.ownBlock] at he
  · obtain ⟨o, ho, hco⟩ := hr k hk
    simp only [Value.ownBlock, if_true, Option.some.injEq] at he
    subst he
    rw [hk'] at ho
    cases ho
    cases hco
theorem WR.grown {w W W1 : World} {q : Nat} {kind n : Int} {v : Value} {xs : List S73} {c2 : Array Value} (h : WR w W q kind n v xs c2) {row : Option Nat} (hg : W.grownBy W1 row) (hB : ∀ r, row = some r → w.heap.size ≤ r) (hr : ∀ r, row = some r → ∃ o : Obj, W.heap[r]? = some o ∧ o.isCells = false) : WR w W1 q kind n v xs c2 := by
  have hne : ∀ k cs t, W.heap[k]? = some (.cells cs t (0, 0)) → some k ≠ row := fun k cs t hk he => by
    obtain ⟨o, ho, hco⟩ := hr k he.symm
    rw [hk] at ho
    cases ho
    cases hco
  exact ⟨pw_below_grown h.below row h.below.size hg hB, h.ge, kgr_ h.b1 hg (hne _ _ _ h.b1), kgr_ h.b2 hg (hne _ _ _ h.b2), h.row.grown hg hr⟩
end Go.Proofs.YtjiblcncadekcaaGreat.PA

namespace Go.Proofs.YtjiblcncadekcaaGreat
open Go.RowKit Go.Proofs.YtjiblcncadekcaaGreatW.PrintWords Go.Proofs.YtjiblcncadekcaaGreatW.PrintLast Go.Proofs.YtjiblcncadekcaaGreatW.PrintMore
theorem bytes_ext {s t : ByteArray} (h : s.data.toList = t.data.toList) : s = t := ByteArray.ext (Array.ext' h)
theorem ba_size (s : ByteArray) : s.size = s.data.toList.length := by rw [Array.length_toList]; rfl
theorem ba_toList (s : ByteArray) : s.toList = s.data.toList := ByteArray.toList_eq s
theorem ba_extract (s : ByteArray) (a b : Nat) : (s.extract a b).data.toList = (s.data.toList.drop a).take (b - a) := Lib.extract_data s a b
theorem i64_mask (j : Nat) (hj : j ≤ 62) (x : Int) : 0 ≤ Go.bits .and .i64 x (((2 ^ j - 1 : Nat) : Int)) ∧ Go.bits .and .i64 x (((2 ^ j - 1 : Nat) : Int)) < 2 ^ j := by
  have hp : (2 : Nat) ^ j ≤ 2 ^ 62 := Nat.pow_le_pow_right (by decide) hj
  have hp1 : 0 < 2 ^ j := Nat.pow_pos (by decide)
  have hc : ((2 ^ j : Nat) : Int) = (2 : Int) ^ j := by simp
  have e : (2 ^ j - 1) % 2 ^ 64 = 2 ^ j - 1 := Nat.mod_eq_of_lt (by omega)
  have hle : (BitVec.ofInt 64 x &&& BitVec.ofInt 64 ((2 ^ j - 1 : Nat) : Int)).toNat ≤ 2 ^ j - 1 := by
    rw [BitVec.ofInt_natCast, BitVec.toNat_and, BitVec.toNat_ofNat, e]
    exact Nat.and_le_right
  simp only [Go.bits]
  show 0 ≤ IntKind.i64.wrap _ ∧ IntKind.i64.wrap _ < _
  rw [IntKind.wrap_i64]
  generalize hq : (BitVec.ofInt 64 x &&& BitVec.ofInt 64 ((2 ^ j - 1 : Nat) : Int)).toNat = q at hle
  have hq2 : (BitVec.ofInt IntKind.i64.bits x &&& BitVec.ofInt IntKind.i64.bits ((2 ^ j - 1 : Nat) : Int)).toNat = q := hq
  rw [hq2, ← hc]
  omega
end Go.Proofs.YtjiblcncadekcaaGreat

