import Derived.Test.YtjiblcncadekcaaQAxLSt
import Derived.Test.YtjiblcncadekcaaQAxPAx13
import Derived.Test.YtjiblcncadekcaaQAxMFold2
import Derived.Test.YtjiblcncadekcaaQAxPAx0
namespace Go.Proofs.Ytjiblcncadekcaa.PA
set_option linter.unusedSimpArgs false
open Go.RowKit Go.Proofs.YtjiblcncadekcaaW.PrintWords Go.Proofs.YtjiblcncadekcaaW.PrintLast Go.Proofs.YtjiblcncadekcaaW.PrintMore Go.Proofs.Ytjiblcncadekcaa Go.Proofs.Ytjiblcncadekcaa.PL
attribute [local go_sem] Oper.semAt_some
structure Stp where
  op : Int
  a : ByteArray
  b : ByteArray
  n : Int
  code : Int
  text : ByteArray
  rn : Int
def zStp : Stp := ⟨0, ⟨#[]⟩, ⟨#[]⟩, 0, 0, ⟨#[]⟩, 0⟩
def kStp : Kd Stp := Kd.iso (Kd.pair (Kd.int .i64) (Kd.pair Kd.string (Kd.pair Kd.string (Kd.pair (Kd.int .i64) (Kd.pair (Kd.int .i64) (Kd.pair Kd.string (Kd.int .i64))))))) (fun x => (x.op, x.a, x.b, x.n, x.code, x.text, x.rn))
theorem kStp_open {w : World} {x : Stp} {cs : List Value} (h : kStp.K w x cs) : cs = [.int .i64 x.op, .string x.a, .string x.b, .int .i64 x.n, .int .i64 x.code, .string x.text, .int .i64 x.rn] := by
  obtain ⟨_, _, rfl, rfl, _, _, rfl, rfl, _, _, rfl, rfl, _, _, rfl, rfl, _, _, rfl, rfl, _, _, rfl, rfl, rfl⟩ := h
  exact rfl
theorem kStp_mkM (w : World) (base : Nat) (ok : Nat → Prop) (x : Stp) : kStp.M w base ok x [.int .i64 x.op, .string x.a, .string x.b, .int .i64 x.n, .int .i64 x.code, .string x.text, .int .i64 x.rn] := ⟨[.int .i64 x.op], [.string x.a, .string x.b, .int .i64 x.n, .int .i64 x.code, .string x.text, .int .i64 x.rn], rfl, rfl, ⟨[.string x.a], [.string x.b, .int .i64 x.n, .int .i64 x.code, .string x.text, .int .i64 x.rn], rfl, rfl, ⟨[.string x.b], [.int .i64 x.n, .int .i64 x.code, .string x.text, .int .i64 x.rn], rfl, rfl, ⟨[.int .i64 x.n], [.int .i64 x.code, .string x.text, .int .i64 x.rn], rfl, rfl, ⟨[.int .i64 x.code], [.string x.text, .int .i64 x.rn], rfl, rfl, ⟨[.string x.text], [.int .i64 x.rn], rfl, rfl, rfl⟩⟩⟩⟩⟩⟩
theorem at_Stp {w : World} {A : Option Addr} {n : Nat} {xs : List Stp} (h : Kd.C kStp w A n xs) (i : Int) (h0 : 0 ≤ i) (h1 : i < n) : ∃ ad, A = some ad ∧ w.cell? (ad.add (i.toNat * 7)) = some (.int .i64 (xs.getD i.toNat zStp).op) ∧ w.cell? ⟨(ad.add (i.toNat * 7)).block, (ad.add (i.toNat * 7)).off + 1, none⟩ = some (.string (xs.getD i.toNat zStp).a) ∧ w.cell? ⟨(ad.add (i.toNat * 7)).block, (ad.add (i.toNat * 7)).off + 2, none⟩ = some (.string (xs.getD i.toNat zStp).b) ∧ w.cell? ⟨(ad.add (i.toNat * 7)).block, (ad.add (i.toNat * 7)).off + 3, none⟩ = some (.int .i64 (xs.getD i.toNat zStp).n) ∧ w.cell? ⟨(ad.add (i.toNat * 7)).block, (ad.add (i.toNat * 7)).off + 4, none⟩ = some (.int .i64 (xs.getD i.toNat zStp).code) ∧ w.cell? ⟨(ad.add (i.toNat * 7)).block, (ad.add (i.toNat * 7)).off + 5, none⟩ = some (.string (xs.getD i.toNat zStp).text) ∧ w.cell? ⟨(ad.add (i.toNat * 7)).block, (ad.add (i.toNat * 7)).off + 6, none⟩ = some (.int .i64 (xs.getD i.toNat zStp).rn) := by
  obtain ⟨ad, cs, e, _, hK, hc0⟩ := Kd.C_get h zStp i h0 h1
  have hc : ∀ j u, cs[j]? = some u → w.cell? (ad.add (i.toNat * 7 + j)) = some u := hc0
  obtain rfl := kStp_open hK
  exact ⟨ad, e, hc 0 _ rfl, by rw [← add_field _ _ 1 (by omega)]; exact hc 1 _ rfl, by rw [← add_field _ _ 2 (by omega)]; exact hc 2 _ rfl, by rw [← add_field _ _ 3 (by omega)]; exact hc 3 _ rfl, by rw [← add_field _ _ 4 (by omega)]; exact hc 4 _ rfl, by rw [← add_field _ _ 5 (by omega)]; exact hc 5 _ rfl, by rw [← add_field _ _ 6 (by omega)]; exact hc 6 _ rfl⟩
structure Ent where
  object : ByteArray
  op : Int
  a : ByteArray
  b : ByteArray
  n : Int
  code : Int
  text : ByteArray
  rn : Int
def zEnt : Ent := ⟨⟨#[]⟩, 0, ⟨#[]⟩, ⟨#[]⟩, 0, 0, ⟨#[]⟩, 0⟩
def kEnt : Kd Ent := Kd.iso (Kd.pair Kd.string (Kd.pair (Kd.int .i64) (Kd.pair Kd.string (Kd.pair Kd.string (Kd.pair (Kd.int .i64) (Kd.pair (Kd.int .i64) (Kd.pair Kd.string (Kd.int .i64)))))))) (fun x => (x.object, x.op, x.a, x.b, x.n, x.code, x.text, x.rn))
theorem kEnt_open {w : World} {x : Ent} {cs : List Value} (h : kEnt.K w x cs) : cs = [.string x.object, .int .i64 x.op, .string x.a, .string x.b, .int .i64 x.n, .int .i64 x.code, .string x.text, .int .i64 x.rn] := by
  obtain ⟨_, _, rfl, rfl, _, _, rfl, rfl, _, _, rfl, rfl, _, _, rfl, rfl, _, _, rfl, rfl, _, _, rfl, rfl, _, _, rfl, rfl, rfl⟩ := h
  exact rfl
theorem kEnt_mkM (w : World) (base : Nat) (ok : Nat → Prop) (x : Ent) : kEnt.M w base ok x [.string x.object, .int .i64 x.op, .string x.a, .string x.b, .int .i64 x.n, .int .i64 x.code, .string x.text, .int .i64 x.rn] := ⟨[.string x.object], [.int .i64 x.op, .string x.a, .string x.b, .int .i64 x.n, .int .i64 x.code, .string x.text, .int .i64 x.rn], rfl, rfl, ⟨[.int .i64 x.op], [.string x.a, .string x.b, .int .i64 x.n, .int .i64 x.code, .string x.text, .int .i64 x.rn], rfl, rfl, ⟨[.string x.a], [.string x.b, .int .i64 x.n, .int .i64 x.code, .string x.text, .int .i64 x.rn], rfl, rfl, ⟨[.string x.b], [.int .i64 x.n, .int .i64 x.code, .string x.text, .int .i64 x.rn], rfl, rfl, ⟨[.int .i64 x.n], [.int .i64 x.code, .string x.text, .int .i64 x.rn], rfl, rfl, ⟨[.int .i64 x.code], [.string x.text, .int .i64 x.rn], rfl, rfl, ⟨[.string x.text], [.int .i64 x.rn], rfl, rfl, rfl⟩⟩⟩⟩⟩⟩⟩
theorem at_Ent {w : World} {A : Option Addr} {n : Nat} {xs : List Ent} (h : Kd.C kEnt w A n xs) (i : Int) (h0 : 0 ≤ i) (h1 : i < n) : ∃ ad, A = some ad ∧ w.cell? (ad.add (i.toNat * 8)) = some (.string (xs.getD i.toNat zEnt).object) ∧ w.cell? ⟨(ad.add (i.toNat * 8)).block, (ad.add (i.toNat * 8)).off + 1, none⟩ = some (.int .i64 (xs.getD i.toNat zEnt).op) ∧ w.cell? ⟨(ad.add (i.toNat * 8)).block, (ad.add (i.toNat * 8)).off + 2, none⟩ = some (.string (xs.getD i.toNat zEnt).a) ∧ w.cell? ⟨(ad.add (i.toNat * 8)).block, (ad.add (i.toNat * 8)).off + 3, none⟩ = some (.string (xs.getD i.toNat zEnt).b) ∧ w.cell? ⟨(ad.add (i.toNat * 8)).block, (ad.add (i.toNat * 8)).off + 4, none⟩ = some (.int .i64 (xs.getD i.toNat zEnt).n) ∧ w.cell? ⟨(ad.add (i.toNat * 8)).block, (ad.add (i.toNat * 8)).off + 5, none⟩ = some (.int .i64 (xs.getD i.toNat zEnt).code) ∧ w.cell? ⟨(ad.add (i.toNat * 8)).block, (ad.add (i.toNat * 8)).off + 6, none⟩ = some (.string (xs.getD i.toNat zEnt).text) ∧ w.cell? ⟨(ad.add (i.toNat * 8)).block, (ad.add (i.toNat * 8)).off + 7, none⟩ = some (.int .i64 (xs.getD i.toNat zEnt).rn) := by
  obtain ⟨ad, cs, e, _, hK, hc0⟩ := Kd.C_get h zEnt i h0 h1
  have hc : ∀ j u, cs[j]? = some u → w.cell? (ad.add (i.toNat * 8 + j)) = some u := hc0
  obtain rfl := kEnt_open hK
  exact ⟨ad, e, hc 0 _ rfl, by rw [← add_field _ _ 1 (by omega)]; exact hc 1 _ rfl, by rw [← add_field _ _ 2 (by omega)]; exact hc 2 _ rfl, by rw [← add_field _ _ 3 (by omega)]; exact hc 3 _ rfl, by rw [← add_field _ _ 4 (by omega)]; exact hc 4 _ rfl, by rw [← add_field _ _ 5 (by omega)]; exact hc 5 _ rfl, by rw [← add_field _ _ 6 (by omega)]; exact hc 6 _ rfl, by rw [← add_field _ _ 7 (by omega)]; exact hc 7 _ rfl⟩
def runR (kind : Int) : Int → List S68 → List Stp → Int × List S68
  | n, xs, [] => (n, xs)
  | n, xs, x :: l => runR kind (applyR kind n xs x.op x.a x.b x.n x.code x.text).1 (applyR kind n xs x.op x.a x.b x.n x.code x.text).2 l
def AllLegal (kind : Int) : Int → List S68 → List Stp → Prop
  | _, _, [] => True
  | n, xs, x :: l => xs.length < 1000000 ∧ (∃ k, adt_Legal.f k kind n xs x.op x.a x.b x.n x.code x.text x.rn = some true) ∧ AllLegal kind (applyR kind n xs x.op x.a x.b x.n x.code x.text).1 (applyR kind n xs x.op x.a x.b x.n x.code x.text).2 l
structure WR (w W : World) (q : Nat) (kind n : Int) (v : Value) (xs : List S68) (c2 : Array Value) : Prop where
  below : Below w.heap.size w W
  ge : w.heap.size ≤ q
  b1 : W.heap[q]? = some (.cells #[.int .i64 kind, .int .i64 n, v] 24 (0, 0))
  b2 : W.heap[q + 1]? = some (.cells c2 24 (0, 0))
  row : Rd w W v xs
theorem WR.step {w W W1 : World} {q : Nat} {kind n : Int} {v : Value} {xs : List S68} {c2 : Array Value} (h : WR w W q kind n v xs c2) (hB : Below W.heap.size W W1) : WR w W1 q kind n v xs c2 :=
  ⟨bsp h.below hB, h.ge, kbl h.b1 hB, kbl h.b2 hB, h.row.below hB⟩
theorem WR.put {w W : World} {q : Nat} {kind n : Int} {v : Value} {xs : List S68} {c2 : Array Value} (h : WR w W q kind n v xs c2) (g i : Nat) (hg : q + 1 < g) {cs : Array Value} {ty : Nat} (hb : W.heap[g]? = some (.cells cs ty (0, 0))) (ht : 68 ≠ ty) (u : Value) : WR w (W.setCell ⟨g, i, none⟩ u) q kind n v xs c2 :=
  ⟨bst h.below (by have := h.ge; omega), h.ge, blk_far h.b1 (show q ≠ g by omega) u, blk_far h.b2 (show q + 1 ≠ g by omega) u, h.row.put hb (by
    intro t h
    rw [show (68 :: k68.E) = [68] from by first | rfl | decide | simp [k68]] at h
    simp only [List.mem_singleton] at h
    subst h
    exact ht) i u⟩
theorem WR.store {w W W1 : World} {q : Nat} {kind n n' : Int} {v v' : Value} {xs ys : List S68} {c2 : Array Value} (h : WR w W q kind n v xs c2) (hB : Below W.heap.size W W1) (hO : Out W W1 v xs v' ys) :
    WR w (((W1.setCell ⟨q, 0, none⟩ (.int .i64 kind)).setCell ⟨q, 1, none⟩ (.int .i64 n')).setCell ⟨q, 2, none⟩ v') q kind n' v' ys c2 := by
  have h1 := h.step hB
  have hr := h.row.out hO h.below.size hB
  have e0 := kpt h1.b1 0 (.int .i64 kind) (cs' := #[.int .i64 kind, .int .i64 n, v]) rfl
  have e1 := kpt e0 1 (.int .i64 n') (cs' := #[.int .i64 kind, .int .i64 n', v]) rfl
  have e2 := kpt e1 2 v' (cs' := #[.int .i64 kind, .int .i64 n', v']) rfl
  have hne : q + 1 ≠ q := by omega
  exact ⟨bst (bst (bst h1.below h1.ge) h1.ge) h1.ge, h1.ge, e2, blk_far (blk_far (blk_far h1.b2 hne _) hne _) hne _, ((hr.put h1.b1 tyR 0 _).put e0 tyR 1 _).put e1 tyR 2 _⟩
theorem WR.done {w W : World} {q : Nat} {kind n : Int} {v : Value} {xs : List S68} {y0 y1 y2 : Value} (h : WR w W q kind n v xs #[y0, y1, y2]) :
    (((W.setCell ⟨q + 1, 0, none⟩ (.int .i64 kind)).setCell ⟨q + 1, 1, none⟩ (.int .i64 n)).setCell ⟨q + 1, 2, none⟩ v).heap[q + 1]? = some (.cells #[.int .i64 kind, .int .i64 n, v] 24 (0, 0)) ∧ Rd w (((W.setCell ⟨q + 1, 0, none⟩ (.int .i64 kind)).setCell ⟨q + 1, 1, none⟩ (.int .i64 n)).setCell ⟨q + 1, 2, none⟩ v) v xs ∧ Below w.heap.size w (((W.setCell ⟨q + 1, 0, none⟩ (.int .i64 kind)).setCell ⟨q + 1, 1, none⟩ (.int .i64 n)).setCell ⟨q + 1, 2, none⟩ v) := by
  have hq := h.ge
  have e0 := kpt h.b2 0 (.int .i64 kind) (cs' := #[.int .i64 kind, y1, y2]) rfl
  have e1 := kpt e0 1 (.int .i64 n) (cs' := #[.int .i64 kind, .int .i64 n, y2]) rfl
  have e2 := kpt e1 2 v (cs' := #[.int .i64 kind, .int .i64 n, v]) rfl
  exact ⟨e2, ((h.row.put h.b2 tyR 0 _).put e0 tyR 1 _).put e1 tyR 2 _, bst (bst (bst h.below (by omega)) (by omega)) (by omega)⟩
theorem stp_box {W : World} {g : Nat} {v0 v1 v2 v3 v4 v5 v6 : Value} (hb : W.heap[g]? = some (.cells #[v0, v1, v2, v3, v4, v5, v6] 49 (0, 0))) (a b c d e f h : Value) {w : World} {q : Nat} {kind n : Int} {v : Value} {xs : List S68} {c2 : Array Value} (hS : WR w W q kind n v xs c2) (hg : q + 1 < g) :
    WR w (((((((W.setCell ⟨g, 0, none⟩ a).setCell ⟨g, 1, none⟩ b).setCell ⟨g, 2, none⟩ c).setCell ⟨g, 3, none⟩ d).setCell ⟨g, 4, none⟩ e).setCell ⟨g, 5, none⟩ f).setCell ⟨g, 6, none⟩ h) q kind n v xs c2 ∧ (((((((W.setCell ⟨g, 0, none⟩ a).setCell ⟨g, 1, none⟩ b).setCell ⟨g, 2, none⟩ c).setCell ⟨g, 3, none⟩ d).setCell ⟨g, 4, none⟩ e).setCell ⟨g, 5, none⟩ f).setCell ⟨g, 6, none⟩ h).heap[g]? = some (.cells #[a, b, c, d, e, f, h] 49 (0, 0)) := by
  have e0 := kpt hb 0 a (cs' := #[a, v1, v2, v3, v4, v5, v6]) rfl
  have e1 := kpt e0 1 b (cs' := #[a, b, v2, v3, v4, v5, v6]) rfl
  have e2 := kpt e1 2 c (cs' := #[a, b, c, v3, v4, v5, v6]) rfl
  have e3 := kpt e2 3 d (cs' := #[a, b, c, d, v4, v5, v6]) rfl
  have e4 := kpt e3 4 e (cs' := #[a, b, c, d, e, v5, v6]) rfl
  have e5 := kpt e4 5 f (cs' := #[a, b, c, d, e, f, v6]) rfl
  have e6 := kpt e5 6 h (cs' := #[a, b, c, d, e, f, h]) rfl
  have ht : 68 ≠ 49 := by decide
  exact ⟨((((((hS.put g 0 hg hb ht a).put g 1 hg e0 ht b).put g 2 hg e1 ht c).put g 3 hg e2 ht d).put g 4 hg e3 ht e).put g 5 hg e4 ht f).put g 6 hg e5 ht h, e6⟩
set_option maxHeartbeats 8000000 in
set_option maxRecDepth 100000 in
theorem adtRun.calls (kind n : Int) (A : Option Addr) (c : Nat) (xs : List S68) (A2 : Option Addr) (c2 : Nat) (l : List Stp) (w : World) (hr : Kd.C k68 w A xs.length xs) (hc : xs.length ≤ c) (hl : Kd.C kStp w A2 l.length l) (hle : AllLegal kind n xs l) :
    Calls Try.prog 13 #[.agg #[.int .i64 kind, .int .i64 n, .slice A xs.length c], .slice A2 l.length c2] w fun e w' => ∃ v : Value, e = .returned (.tuple #[.agg #[.int .i64 kind, .int .i64 (runR kind n xs l).1, v], .int .i64 (l.length : Int)]) ∧ Rd w w' v (runR kind n xs l).2 ∧ Below w.heap.size w w' := by
  have hm9 : l.length ≤ 9223372036854775807 := Kd.C_max hl
  have HLL := Aside0.mk hl
  have HLE := Aside0.mk hle
  obtain ⟨W2, hW2⟩ : ∃ W2, W2 = (w.alloc (.cells #[.int .i64 kind, .int .i64 n, .slice A xs.length c] 24)).alloc (.cells #[.int .i64 0, .int .i64 0, .slice none 0 0] 24) := ⟨_, rfl⟩
  obtain ⟨q, hq⟩ : ∃ q, q = w.heap.size := ⟨_, rfl⟩
  have HS2 := Aside0.mk (show WR w W2 q kind n (.slice A xs.length c) xs #[.int .i64 0, .int .i64 0, .slice none 0 0] by
    have h := WT.new w #[.int .i64 kind, .int .i64 n, .slice A xs.length c] #[.int .i64 0, .int .i64 0, .slice none 0 0]
    rw [← hW2, ← hq] at h
    exact ⟨h.below, h.ge, h.b1, h.b2, .inl ⟨A, c, rfl, hc, hr⟩⟩)
  clear hr hc hl hle
  go_enter Try.func13, Try.ntmps13
  go_upto_region 1 with fail
  rw [← hW2, ← hq]
  clear hW2 hq
  go_wp2
  go_loopw [10] (fun v10 wr => ∃ (j : Nat) (nj : Int) (vj : Value) (xj : List S68), v10 = .int .i64 j ∧ j ≤ l.length ∧ Aside0 (runR kind nj xj (l.drop j) = runR kind n xs l) ∧ Aside0 (AllLegal kind nj xj (l.drop j)) ∧ Aside0 (WR w wr q kind nj vj xj #[.int .i64 0, .int .i64 0, .slice none 0 0])) (fun v10 _ => l.length - (intOf v10).toNat)
  case atStart => exact ⟨0, n, _, xs, rfl, Nat.zero_le _, ⟨rfl⟩, HLE, HS2⟩
  case round =>
    clear HS2 HLE
    obtain ⟨j, nj, vj, xj, rfl, hj, HRN, HLE, HS⟩ := hrel
    obtain ⟨Aj, cj, hvj, hcj, hCj⟩ := HS.out.row.here HS.out.below
    subst hvj
    have HCj := Aside0.mk hCj
    have Hcj := Aside0.mk hcj
    clear hCj hcj
    by_cases q1 : j < l.length
    · obtain ⟨x, hx⟩ : ∃ x, x = l.getD j zStp := ⟨_, rfl⟩
      have hdr : l.drop j = x :: l.drop (j + 1) := by
        rw [hx, List.drop_eq_getElem_cons q1]
        simp [q1]
      have hle := HLE.out
      have hrn := HRN.out
      rw [hdr] at hle hrn
      obtain ⟨hl6, ⟨k, hk⟩, hle2⟩ := hle
      have HL6 := Aside0.mk hl6
      have HK := Aside0.mk hk
      have HLE2 := Aside0.mk hle2
      have HRN2 := Aside0.mk (show runR kind (applyR kind nj xj x.op x.a x.b x.n x.code x.text).1 (applyR kind nj xj x.op x.a x.b x.n x.code x.text).2 (l.drop (j + 1)) = runR kind n xs l from hrn)
      clear hrn hl6 hk hle2 hdr
      have p0 : (0 : Int) ≤ (j : Int) := by omega
      have p1 : (j : Int) < (l.length : Int) := by omega
      obtain ⟨ad, e1, x0, x1, x2, x3, x4, x5, x6⟩ := at_Stp (Kd.C_below HLL.out HS.out.below) (j : Int) p0 p1
      subst e1
      rw [Int.toNat_natCast, ← hx] at x0 x1 x2 x3 x4 x5 x6
      have HX := Aside0.mk hx
      clear hx
      go_upto_region 4 with ((with_reducible refine gds (N := 7) rfl ?_); refine bx_ (N := 7) (cs := #[.int .i64 0, .string ⟨#[]⟩, .string ⟨#[]⟩, .int .i64 0, .int .i64 0, .string ⟨#[]⟩, .int .i64 0]) (t := 49) ?_; intro g hg w3 hbox hb; have HG := Aside0.mk (show q + 1 < g by rw [hg]; exact blk_lt HS.out.b2); have HBX := Aside0.mk hbox; have HB3 := Aside0.mk hb; have HS3 := Aside0.mk (HS.out.step hb); clear hg hbox hb; have b0 := (kcl HBX.out 0).trans rfl; have z0 := kfr HBX.out 0; have b1 := (kcl HBX.out 1).trans rfl; have z1 := kfr HBX.out 1; have b2 := (kcl HBX.out 2).trans rfl; have z2 := kfr HBX.out 2; have b3 := (kcl HBX.out 3).trans rfl; have z3 := kfr HBX.out 3; have b4 := (kcl HBX.out 4).trans rfl; have z4 := kfr HBX.out 4; have b5 := (kcl HBX.out 5).trans rfl; have z5 := kfr HBX.out 5; have b6 := (kcl HBX.out 6).trans rfl; have z6 := kfr HBX.out 6)
      have hW := stp_box HBX.out (.int .i64 x.op) (.string x.a) (.string x.b) (.int .i64 x.n) (.int .i64 x.code) (.string x.text) (.int .i64 x.rn) HS3.out HG.out
      generalize (((((((w3.setCell ⟨g, 0, none⟩ (.int .i64 x.op)).setCell ⟨g, 1, none⟩ (.string x.a)).setCell ⟨g, 2, none⟩ (.string x.b)).setCell ⟨g, 3, none⟩ (.int .i64 x.n)).setCell ⟨g, 4, none⟩ (.int .i64 x.code)).setCell ⟨g, 5, none⟩ (.string x.text)).setCell ⟨g, 6, none⟩ (.int .i64 x.rn)) = w4 at hW ⊢
      have HW := Aside0.mk hW.1
      have HWB := Aside0.mk hW.2
      clear hW b0 b1 b2 b3 b4 b5 b6 z0 z1 z2 z3 z4 z5 z6 x0 x1 x2 x3 x4 x5 x6 HBX HB3 HS3 HS
      have a0 := (kcl HW.out.b1 0).trans rfl
      have a1 := (kcl HW.out.b1 1).trans rfl
      have a2 := (kcl HW.out.b1 2).trans rfl
      have b0 := (kcl HWB.out 0).trans rfl
      have b1 := (kcl HWB.out 1).trans rfl
      have b2 := (kcl HWB.out 2).trans rfl
      have b3 := (kcl HWB.out 3).trans rfl
      have b4 := (kcl HWB.out 4).trans rfl
      have b5 := (kcl HWB.out 5).trans rfl
      have b6 := (kcl HWB.out 6).trans rfl
      have HCw := Aside0.mk (show Kd.C k68 w4 Aj xj.length xj from by
        obtain ⟨A', c', he, -, hC⟩ := HW.out.row.here HW.out.below
        cases he
        exact hC)
      go_wp2_with fail
      refine (adt_Legal.calls k kind nj Aj cj xj x.op x.a x.b x.n x.code x.text x.rn true _ HCw.out Hcj.out HK.out).mono ?_
      rintro e w5 ⟨rfl, hB5⟩
      have HW5 := Aside0.mk (HW.out.step hB5)
      have HWB5 := Aside0.mk (kbl HWB.out hB5)
      have HC5 := Aside0.mk (Kd.C_below HCw.out hB5)
      clear hB5 a0 a1 a2 b0 b1 b2 b3 b4 b5 b6 HW HWB HCw
      have a0 := (kcl HW5.out.b1 0).trans rfl
      have a1 := (kcl HW5.out.b1 1).trans rfl
      have a2 := (kcl HW5.out.b1 2).trans rfl
      have b0 := (kcl HWB5.out 0).trans rfl
      have b1 := (kcl HWB5.out 1).trans rfl
      have b2 := (kcl HWB5.out 2).trans rfl
      have b3 := (kcl HWB5.out 3).trans rfl
      have b4 := (kcl HWB5.out 4).trans rfl
      have b5 := (kcl HWB5.out 5).trans rfl
      have b6 := (kcl HWB5.out 6).trans rfl
      go_wp2_with fail
      refine (adtApply.calls kind nj Aj cj xj x.op x.a x.b x.n x.code x.text x.rn _ HC5.out Hcj.out HL6.out).mono ?_
      rintro e w6 ⟨v6, rfl, hO6, hB6⟩
      have HS6 := Aside0.mk (HW5.out.step hB6)
      have HST := Aside0.mk (HW5.out.store (n' := (applyR kind nj xj x.op x.a x.b x.n x.code x.text).1) hB6 hO6)
      generalize applyR kind nj xj x.op x.a x.b x.n x.code x.text = y at HRN2 HLE2 hO6 HST ⊢
      obtain ⟨n6, xs6⟩ := y
      dsimp only at HRN2 HLE2 hO6 HST ⊢
      obtain ⟨A6, m6, c6, hv6⟩ : ∃ A6 m6 c6, v6 = .slice A6 m6 c6 := by
        rcases hO6 with ⟨h, -⟩ | h
        · exact ⟨_, _, _, h⟩
        · obtain ⟨A3, c3, h⟩ := Kd.R_slice h
          exact ⟨_, _, _, h⟩
      subst hv6
      clear hO6 hB6 a0 a1 a2 b0 b1 b2 b3 b4 b5 b6
      have a0 := (kcl HS6.out.b1 0).trans rfl
      have a1 := (kcl HS6.out.b1 1).trans rfl
      have a2 := (kcl HS6.out.b1 2).trans rfl
      have f0 := kfr HS6.out.b1 0
      have f1 := kfr HS6.out.b1 1
      have f2 := kfr HS6.out.b1 2
      have k1 : wrap64 ((j : Int) + 1) = (j : Int) + 1 := by unfold wrap64; omega
      have K1 := Aside0.mk k1
      clear k1
      have k1 := K1.out
      go_wp2
      clear k1
      go_roundw
      case rel => exact ⟨j + 1, n6, _, xs6, by go_num, q1, HRN2, HLE2, HST⟩
      case measure => simp [intOf]; omega
    · obtain rfl : j = l.length := by omega
      have hrn := HRN.out
      rw [List.drop_length] at hrn
      have HE1 := Aside0.mk (show nj = (runR kind n xs l).1 by rw [← hrn]; rfl)
      have HE2 := Aside0.mk (show xj = (runR kind n xs l).2 by rw [← hrn]; rfl)
      clear hrn HRN HLE
      have a0 := (kcl HS.out.b1 0).trans rfl
      have a1 := (kcl HS.out.b1 1).trans rfl
      have a2 := (kcl HS.out.b1 2).trans rfl
      have z0 := (kcl HS.out.b2 0).trans rfl
      have z1 := (kcl HS.out.b2 1).trans rfl
      have z2 := (kcl HS.out.b2 2).trans rfl
      have g0 := kfr HS.out.b2 0
      have g1 := kfr HS.out.b2 1
      have g2 := kfr HS.out.b2 2
      go_wp2
      obtain ⟨hd1, hd2, hd3⟩ := HS.out.done
      refine bodyPost_ret (results_ct rfl _ _ (q + 1) 24 #[.int .i64 kind, .int .i64 nj, .slice Aj xj.length cj] (0, 0) _ rfl hd1 Try.underlying24 rfl (by kernel_rfl)) rfl ?_
      rw [← HE1.out, ← HE2.out]
      exact ⟨_, rfl, hd2, hd3⟩
end Go.Proofs.Ytjiblcncadekcaa.PA

namespace Go.Proofs.Ytjiblcncadekcaa.PA
set_option linter.unusedSimpArgs false
open Go.RowKit Go.Proofs.YtjiblcncadekcaaW.PrintWords Go.Proofs.YtjiblcncadekcaaW.PrintLast Go.Proofs.YtjiblcncadekcaaW.PrintMore Go.Proofs.Ytjiblcncadekcaa Go.Proofs.Ytjiblcncadekcaa.PL
attribute [local go_sem] Oper.semAt_some
def entOf (obj : ByteArray) (x : Stp) : Ent := ⟨obj, x.op, x.a, x.b, x.n, x.code, x.text, x.rn⟩
theorem infoEnt : (Try.prog.info? 79).map (fun i => (i.zero, i.size, i.bytes)) = some (some (.agg #[.string ⟨#[]⟩, .int .i64 0, .string ⟨#[]⟩, .string ⟨#[]⟩, .int .i64 0, .int .i64 0, .string ⟨#[]⟩, .int .i64 0]), 8, 96) := by kernel_rfl
theorem infoStp : (Try.prog.info? 49).map (fun i => (i.zero, i.size, i.bytes)) = some (some (.agg #[.int .i64 0, .string ⟨#[]⟩, .string ⟨#[]⟩, .int .i64 0, .int .i64 0, .string ⟨#[]⟩, .int .i64 0]), 7, 80) := by kernel_rfl
set_option maxHeartbeats 8000000 in
set_option maxRecDepth 100000 in
theorem listAdd.calls (g : Nat) (v : Value) (es : List Ent) (obj : ByteArray) (x : Stp) (w0 w : World) (hB : Below w0.heap.size w0 w) (hg : w0.heap.size ≤ g) (hb : w.heap[g]? = some (.cells #[v] 34 (0, 0))) (hv : Kd.R kEnt 79 w w0.heap.size (fun _ => True) v es) (hl : es.length < 12) :
    Calls Try.prog 10 #[.pointer (some ⟨g, 0, none⟩), .string obj, .agg #[.int .i64 x.op, .string x.a, .string x.b, .int .i64 x.n, .int .i64 x.code, .string x.text, .int .i64 x.rn]] w fun e w' => e = .returned (.int .i64 0) ∧ ∃ v' w1, w' = w1.setCell ⟨g, 0, none⟩ v' ∧ w1.heap[g]? = some (.cells #[v] 34 (0, 0)) ∧ Kd.R kEnt 79 w1 w0.heap.size (fun _ => True) v' (es ++ [entOf obj x]) ∧ Below w0.heap.size w0 w1 ∧ w.grownBy w1 v.ownBlock := by
  obtain ⟨A, c, hvs⟩ := Kd.R_slice hv
  subst hvs
  obtain ⟨W1, hW1⟩ : ∃ W1, W1 = w.alloc (.cells #[.int .i64 x.op, .string x.a, .string x.b, .int .i64 x.n, .int .i64 x.code, .string x.text, .int .i64 x.rn] 49) := ⟨_, rfl⟩
  obtain ⟨q, hq⟩ : ∃ q, q = w.heap.size := ⟨_, rfl⟩
  have hB1 : Below w0.heap.size w0 W1 := by rw [hW1]; exact bal hB _
  have hg1 : W1.heap[g]? = some (.cells #[.slice A es.length c] 34 (0, 0)) := by rw [hW1]; exact kal hb _
  have hq1 : W1.heap[q]? = some (.cells #[.int .i64 x.op, .string x.a, .string x.b, .int .i64 x.n, .int .i64 x.code, .string x.text, .int .i64 x.rn] 49 (0, 0)) := by rw [hW1, hq]; exact blk_new w _
  have hv1 : Kd.R kEnt 79 W1 w0.heap.size (fun _ => True) (.slice A es.length c) es := by rw [hW1]; exact Kd.R_alloc hv _
  have HGW := Aside0.mk (show ∀ r, w.grownBy W1 r from fun r => by rw [hW1]; exact World.grownBy_alloc w _ r)
  have h12 : ¬ ((12 : Int) ≤ (es.length : Int)) := by omega
  have HL := Aside0.mk hl
  have HB1 := Aside0.mk hB1
  have HG1 := Aside0.mk hg1
  have HQ1 := Aside0.mk hq1
  have HV1 := Aside0.mk hv1
  have HG0 := Aside0.mk hg
  have hne : g ≠ q := by have := blk_lt hb; omega
  have hne2 : q ≠ g := fun e => hne e.symm
  have a0 := (kcl hg1 0).trans rfl
  clear hB hb hv hB1 hg1 hq1 hv1 hl hg
  go_enter Try.func10, Try.ntmps10
  go_upto_region 1 with fail
  rw [← hW1, ← hq]
  clear hW1 hq
  go_upto_region 3 with fail
  clear h12 a0
  have n1_ := Aside0.mk (bd1 HB1.out)
  have n2_ := Aside0.mk (kdw HG1.out)
  have n3_ := Aside0.mk (kdw HQ1.out)
  have n4_ := Aside0.mk (Kd.R_drew HV1.out)
  have n5_ := Aside0.mk (show ∀ r, w.grownBy W1.drew r from fun r => grown_two (HGW.out r) (grown_drew W1 r))
  clear HB1 HG1 HQ1 HV1 HGW
  have HB1 := n1_
  have HG1 := n2_
  have HQ1 := n3_
  have HV1 := n4_
  have HGW := n5_
  clear n1_ n2_ n3_ n4_ n5_
  refine start_ (n := 13) (S := fun w' => w'.cell? ⟨g, 0, none⟩ = some (.slice A es.length c) ∧ w'.cell? ⟨q, 0, none⟩ = some (.int .i64 x.op) ∧ w'.cell? ⟨q, 1, none⟩ = some (.string x.a) ∧ w'.cell? ⟨q, 2, none⟩ = some (.string x.b) ∧ w'.cell? ⟨q, 3, none⟩ = some (.int .i64 x.n) ∧ w'.cell? ⟨q, 4, none⟩ = some (.int .i64 x.code) ∧ w'.cell? ⟨q, 5, none⟩ = some (.string x.text) ∧ w'.cell? ⟨q, 6, none⟩ = some (.int .i64 x.rn)) (ds := [12]) #[false,false,false,false,false,false,false,false,false,false,false,false,false] (by kernel_rfl) rfl rfl ⟨(kcl HG1.out 0).trans rfl, (kcl HQ1.out 0).trans rfl, (kcl HQ1.out 1).trans rfl, (kcl HQ1.out 2).trans rfl, (kcl HQ1.out 3).trans rfl, (kcl HQ1.out 4).trans rfl, (kcl HQ1.out 5).trans rfl, (kcl HQ1.out 6).trans rfl⟩ (fun hHeld => ?_)
  generalize W1.drew = W2 at HB1 HG1 HQ1 HV1 HGW hHeld ⊢
  refine pu_ 0 (some 13) #[true,false,false,false,false,false,false,false,false,false,false,false,false] ?_
  refine pu_ 1 (some 14) #[true,true,false,false,false,false,false,false,false,false,false,false,false] ?_
  refine pu_ 2 (some 15) #[true,true,true,false,false,false,false,false,false,false,false,false,false] ?_
  refine pu_ 3 (some 16) #[true,true,true,true,false,false,false,false,false,false,false,false,false] ?_
  refine pu_ 5 (some 18) #[true,true,true,true,false,true,false,false,false,false,false,false,false] ?_
  refine tk_ 4 (some 17) #[true,true,true,true,true,true,false,false,false,false,false,false,false] hHeld ?_
  refine tk_ 6 (some 19) #[true,true,true,true,true,true,true,false,false,false,false,false,false] hHeld ?_
  refine pu_ 7 (some 20) #[true,true,true,true,true,true,true,true,false,false,false,false,false] ?_
  refine one_ (i := 8) (N := some 21) #[true,true,true,true,true,true,true,true,true,false,false,false,false] rfl rfl (by kernel_rfl) (by decide) (fun K hK => ?_)
  refine value_ (w1 := ?_) (v := ?_) (by rfl) rfl ?_ ?_
  rotate_left 2
  · go_simp
    constructor
    · rfl
    · rfl
  refine hK.out _ _ ⟨(kcl (kal HG1.out _) 0).trans rfl, (kcl (kal HQ1.out _) 0).trans rfl, (kcl (kal HQ1.out _) 1).trans rfl, (kcl (kal HQ1.out _) 2).trans rfl, (kcl (kal HQ1.out _) 3).trans rfl, (kcl (kal HQ1.out _) 4).trans rfl, (kcl (kal HQ1.out _) 5).trans rfl, (kcl (kal HQ1.out _) 6).trans rfl⟩ (fun hHeld => ?_)
  clear hK K
  refine nm_ (some 21) ?_
  refine one_ (i := 9) (N := some 22) #[true,true,true,true,true,true,true,true,true,true,false,false,false] rfl rfl (by kernel_rfl) (by decide) (fun K hK => ?_)
  refine Kd.R_append_step kEnt (w0 := w0) w0.heap.size (by rfl) (.tmp 17) (.tmp 21) 32 79 (.agg #[.string ⟨#[]⟩, .int .i64 0, .string ⟨#[]⟩, .string ⟨#[]⟩, .int .i64 0, .int .i64 0, .string ⟨#[]⟩, .int .i64 0]) 96 rfl Try.underlying32 infoEnt rfl (by decide) (by omega) (.slice A es.length c) es (entOf obj x) [.string obj, .int .i64 x.op, .string x.a, .string x.b, .int .i64 x.n, .int .i64 x.code, .string x.text, .int .i64 x.rn] (fun _ => True) (fun _ => False) rfl rfl ?aP (fun _ hk => hk.elim) ?aF ?aO ?aB ?aS ?aL ?_
  (case aP => exact kEnt_mkM _ _ _ (entOf obj x))
  (case aB => exact HB1.out)
  (case aF => exact (fun _ _ => trivial))
  (case aO => exact HV1.out)
  (case aS => exact HB1.out.size)
  (case aL => have := HL.out; omega)
  intro v2 w2 ho hb hg hat
  have HO2 := Aside0.mk ho
  have HB2 := Aside0.mk hb
  have HGR := Aside0.mk (grown_two (HGW.out _) hg)
  have HG2 := Aside0.mk (blk_grown HG1.out hg (Kd.R_ne (HV1.out) HG1.out (by decide)))
  have HQ2 := Aside0.mk (blk_grown HQ1.out hg (Kd.R_ne (HV1.out) HQ1.out (by decide)))
  clear ho hb hg hat
  obtain ⟨A3, c3, hv3⟩ := Kd.R_slice HO2.out
  subst hv3
  refine hK.out _ _ ⟨(kcl HG2.out 0).trans rfl, (kcl HQ2.out 0).trans rfl, (kcl HQ2.out 1).trans rfl, (kcl HQ2.out 2).trans rfl, (kcl HQ2.out 3).trans rfl, (kcl HQ2.out 4).trans rfl, (kcl HQ2.out 5).trans rfl, (kcl HQ2.out 6).trans rfl⟩ (fun hHeld => ?_)
  clear hK K
  refine nm_ (some 22) ?_
  refine pu_ 10 (some 23) #[true,true,true,true,true,true,true,true,true,true,true,false,false] ?_
  refine pu_ 11 (some 24) #[true,true,true,true,true,true,true,true,true,true,true,true,false] ?_
  refine last_ (i := 12) (N := none) #[true,true,true,true,true,true,true,true,true,true,true,true,true] rfl rfl (by kernel_rfl) (by decide) (fun K hK => ?_)
  have hs : w2.cell? ⟨g, 0, none⟩ = some (.slice A es.length c) := (kcl HG2.out 0).trans rfl
  have hf := kfr HG2.out 0
  refine skip_ (w1 := ?_) (by rfl) rfl ?_ ?_
  rotate_left
  · go_simp
    rfl
  refine hK.out _ _ ?_
  clear hK K
  refine done_ (by kernel_rfl) ?_
  go_wp2
  go_ret
  have ho2 := HO2.out
  rw [List.length_append] at ho2
  exact ⟨rfl, _, w2, rfl, HG2.out, ho2, HB2.out, HGR.out⟩
end Go.Proofs.Ytjiblcncadekcaa.PA

