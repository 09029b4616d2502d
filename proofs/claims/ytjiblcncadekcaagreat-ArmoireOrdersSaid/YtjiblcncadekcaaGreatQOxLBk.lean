import Derived.Test.YtjiblcncadekcaaGreatQOxCCf
import Derived.Test.YtjiblcncadekcaaGreatQOxPAx0
import Derived.Shelf.Sort.Plain
import Derived.Ground.Names2Prog
import Derived.Shelf.Slices.CompactI
import Derived.Shelf.Slices.In.SortNone
import Derived.Test.YtjiblcncadekcaaGreatProg
import Derived.Lib.OwnBridge
namespace Go.Proofs.YtjiblcncadekcaaGreat.PA
set_option linter.unusedSimpArgs false
set_option linter.unusedVariables false
open Go.RowKit Go.Proofs.YtjiblcncadekcaaGreatW.PrintWords Go.Proofs.YtjiblcncadekcaaGreatW.PrintLast Go.Proofs.YtjiblcncadekcaaGreatW.PrintMore Go.Proofs.YtjiblcncadekcaaGreat Go.Proofs.YtjiblcncadekcaaGreat.PL
attribute [local go_sem] Oper.semAt_some
structure Tb (W : World) (p b : Nat) (es : Array MapEntry) (c : Nat) : Prop where
  box : W.heap[p]? = some (.cells #[.map (some b)] 76 (0, 0))
  map : W.heap[b]? = some (.map es c)
set_option maxHeartbeats 4000000 in
set_option maxRecDepth 100000 in
theorem lockNew.calls (w : World) : Calls Tryz.prog 7 #[] w fun e w' => ∃ p b, e = .returned (.pointer (some ⟨p, 0, none⟩)) ∧ Tb w' p b #[] 0 ∧ w.heap.size ≤ p ∧ w.heap.size ≤ b ∧ Below w.heap.size w w' := by
  obtain ⟨b, hb⟩ : ∃ b, b = w.heap.size := ⟨_, rfl⟩
  obtain ⟨W0, hW0⟩ : ∃ W0, W0 = w.alloc (.map #[] 0) := ⟨_, rfl⟩
  have r0 : (Instr.makeMap 74 none).run Tryz.prog w = .ok (.map (some b)) W0 := by rw [hb, hW0]; rfl
  have m0 : W0.heap[b]? = some (.map #[] 0) := by rw [hb, hW0]; exact (Go.MapKept.heap_alloc w _).1
  have B0 : Below w.heap.size w W0 := by rw [hW0]; exact bal (Below.refl _ _) _
  have hu := Tryz.underlying76
  have HM := Z0.mk m0
  have HB := Z0.mk B0
  have HBB := Z0.mk (show w.heap.size ≤ b by omega)
  clear hb hW0 m0 B0
  go_enter Tryz.func7, Tryz.ntmps7
  go_wp2_with ((with_reducible refine gds (N := 3) rfl ?_); refine bx_ (N := 3) (cs := #[.map (some b)]) (t := 76) ?_; intro g hg w3 hbox hb3; have HX := Z0.mk hbox; have HB3 := Z0.mk hb3; have HG := Z0.mk hg; clear hbox hb3 hg)
  go_ret
  exact ⟨g, b, rfl, ⟨HX.out, map_below HM.out HB3.out⟩, by rw [HG.out]; exact HB.out.size, HBB.out, bsp HB.out HB3.out⟩
end Go.Proofs.YtjiblcncadekcaaGreat.PA

namespace Go.Proofs.YtjiblcncadekcaaGreat.PA
set_option linter.unusedSimpArgs false
set_option linter.unusedVariables false
open Go.RowKit Go.Proofs.YtjiblcncadekcaaGreatW.PrintWords Go.Proofs.YtjiblcncadekcaaGreatW.PrintLast Go.Proofs.YtjiblcncadekcaaGreatW.PrintMore Go.Proofs.YtjiblcncadekcaaGreat Go.Proofs.YtjiblcncadekcaaGreat.PL
attribute [local go_sem] Oper.semAt_some
set_option maxHeartbeats 4000000 in
set_option maxRecDepth 100000 in
theorem indexNone.calls (f : Value) (w : World) : Calls Tryz.prog 69 #[.slice none 0 0, f] w fun e w' => e = .returned (.int .i64 (-1)) ∧ Below w.heap.size w w' := by
  have HB := Z0.mk (Below.refl w.heap.size w)
  go_enter Tryz.func69, Tryz.ntmps69
  go_wp2
  go_loopw [8] (fun v8 wr => v8 = .int .i64 0 ∧ Z0 (Below w.heap.size w wr)) (fun _ _ => 0)
  case atStart => exact ⟨rfl, HB⟩
  case round =>
    clear HB
    obtain ⟨rfl, HB⟩ := hrel
    go_wp2
    go_ret
    exact ⟨rfl, HB.out⟩
set_option maxHeartbeats 4000000 in
set_option maxRecDepth 100000 in
theorem placeNone.calls (txn : Int) (w : World) : Calls Tryz.prog 54 #[.slice none 0 0, .int .i64 txn] w fun e w' => e = .returned (.int .i64 (-1)) ∧ Below w.heap.size w w' := by
  go_enter Tryz.func54, Tryz.ntmps54
  go_wp2_with ((with_reducible refine gds (N := 3) rfl ?_); refine bx_ (N := 3) (cs := #[.int .i64 txn]) (t := 3) ?_; intro g hg w3 hbox hb3; have HB3 := Z0.mk hb3; clear hbox hb3 hg)
  refine (indexNone.calls _ _).mono ?_
  rintro e w4 ⟨rfl, hB4⟩
  have HB4 := Z0.mk (bsp HB3.out hB4)
  clear hB4 HB3
  go_wp2
  go_ret
  exact ⟨rfl, HB4.out⟩
end Go.Proofs.YtjiblcncadekcaaGreat.PA

namespace Go.Proofs.YtjiblcncadekcaaGreat.PA
set_option linter.unusedSimpArgs false
set_option linter.unusedVariables false
open Go.RowKit Go.Proofs.YtjiblcncadekcaaGreatW.PrintWords Go.Proofs.YtjiblcncadekcaaGreatW.PrintLast Go.Proofs.YtjiblcncadekcaaGreatW.PrintMore Go.Proofs.YtjiblcncadekcaaGreat Go.Proofs.YtjiblcncadekcaaGreat.PL
attribute [local go_sem] Oper.semAt_some
def entX (obj : ByteArray) (q : Nat) : Array MapEntry := #[⟨.string obj, .pointer (some ⟨q, 0, none⟩), 0⟩]
theorem zero_obj (w : World) : (zeroValue 93).run Tryz.prog w = .ok (.pointer none) w := by
  obtain ⟨i0, hi, hz0, hz1, hz2⟩ := info_parts (show (Tryz.prog.info? 93).map (fun i => (i.zero, i.size, i.bytes)) = some (some (.pointer none), 1, 8) by kernel_rfl)
  simp [zeroValue, typeInfo, Sem.run, hi, hz0, Result.andThen]
theorem look_non {w : World} {b : Nat} (h : w.heap[b]? = some (.map #[] 0)) (obj : ByteArray) : (Instr.lookup 74 (.map (some b)) (.string obj) false).run Tryz.prog w = .ok (.pointer none) w :=
  map_none Tryz.underlying74 Tryz.underlying9 trivial h rfl (zero_obj w)
theorem look_one {w : World} {b q : Nat} {obj : ByteArray} (h : w.heap[b]? = some (.map (entX obj q) 1)) : (Instr.lookup 74 (.map (some b)) (.string obj) false).run Tryz.prog w = .ok (.pointer (some ⟨q, 0, none⟩)) w :=
  map_look (i := 0) Tryz.underlying74 Tryz.underlying9 trivial h (by
    have e : (obj == obj) = true := by
      rw [show (obj == obj) = (obj.data == obj.data) from rfl]
      simp
    simp [entX, Instr.findNow, Instr.sameNow, e])
theorem store_one {w : World} {b q : Nat} {obj : ByteArray} (h : w.heap[b]? = some (.map #[] 0)) : ∃ w', (Instr.mapUpdate 74 (.map (some b)) (.string obj) (.pointer (some ⟨q, 0, none⟩))).run Tryz.prog w = .ok () w' ∧ w'.heap[b]? = some (.map (entX obj q) 1) ∧ w'.heap.size = w.heap.size ∧ (∀ j, j ≠ b → w'.heap[j]? = w.heap[j]?) ∧ ∀ n, n ≤ b → Below n w w' :=
  map_store (key := .string obj) (.pointer (some ⟨q, 0, none⟩)) Tryz.underlying74 Tryz.underlying9 trivial h rfl
set_option maxHeartbeats 4000000 in
set_option maxRecDepth 100000 in
theorem unqueueNon.calls (p b : Nat) (obj : ByteArray) (txn : Int) (w : World) (h : Tb w p b #[] 0) : Calls Tryz.prog 33 #[.pointer (some ⟨p, 0, none⟩), .string obj, .int .i64 txn] w fun e w' => e = .returned (.bool false) ∧ Below w.heap.size w w' := by
  have hu := Tryz.underlying76
  have HT := Z0.mk h
  clear h
  go_enter Tryz.func33, Tryz.ntmps33
  go_upto_region 2 with ((with_reducible refine gds (N := 5) rfl ?_); refine bx_ (N := 5) (cs := #[.int .i64 txn]) (t := 3) ?_; intro g hg w3 hbox hb3; have HB3 := Z0.mk hb3; have hlk := look_non (map_below HT.out.map hb3) obj; have hc := (kcl (kbl HT.out.box hb3) 0).trans rfl; clear hbox hb3 hg)
  clear hc hlk
  refine start_ (n := 11) (S := fun w' => True) (ds := []) #[false,false,false,false,false,false,false,false,false,false,false] (by kernel_rfl) rfl rfl trivial (fun hHeld => ?_)
  have HB4 := Z0.mk (bd1 HB3.out)
  generalize w3.drew = w4 at HB4 hHeld ⊢
  refine pu_ 0 (some 14) (bA 11 1) ?_
  refine pu_ 1 (some 15) (bA 11 3) ?_
  refine pu_ 2 (some 16) (bA 11 7) ?_
  refine pn_ 3 (some 17) (bA 11 15) ?_
  refine pn_ 4 (some 18) (bA 11 31) ?_
  refine pn_ 5 (some 19) (bA 11 63) ?_
  refine pn_ 6 (some 20) (bA 11 127) ?_
  refine pn_ 7 (some 21) (bA 11 255) ?_
  refine pn_ 8 (some 22) (bA 11 511) ?_
  refine pn_ 9 (some 23) (bA 11 1023) ?_
  refine pu_ 10 (some 24) (bA 11 2047) ?_
  refine done_ (by kernel_rfl) ?_
  go_wp2
  go_ret
  exact ⟨rfl, HB4.out⟩
set_option maxHeartbeats 4000000 in
set_option maxRecDepth 100000 in
theorem unqueueOne.calls (p b q : Nat) (hv : Value) (obj : ByteArray) (txn : Int) (w : World) (h : Tb w p b (entX obj q) 1) (hq : w.heap[q]? = some (.cells #[hv, .slice none 0 0] 97 (0, 0))) : Calls Tryz.prog 33 #[.pointer (some ⟨p, 0, none⟩), .string obj, .int .i64 txn] w fun e w' => e = .returned (.bool false) ∧ Below w.heap.size w w' := by
  have hu := Tryz.underlying76
  have hu2 := Tryz.underlying97
  have HT := Z0.mk h
  have HQ := Z0.mk hq
  clear h hq
  go_enter Tryz.func33, Tryz.ntmps33
  go_upto_region 2 with ((with_reducible refine gds (N := 5) rfl ?_); refine bx_ (N := 5) (cs := #[.int .i64 txn]) (t := 3) ?_; intro g hg w3 hbox hb3; have HB3 := Z0.mk hb3; have HX3 := Z0.mk hbox; have HQ3 := Z0.mk (kbl HQ.out hb3); have hlk := look_one (map_below HT.out.map hb3); have hc := (kcl (kbl HT.out.box hb3) 0).trans rfl; clear hbox hb3 hg)
  clear hc hlk
  refine start_ (n := 11) (S := fun w' => w'.cell? ⟨q, 1, none⟩ = some (.slice none 0 0) ∧ w'.cell? ⟨g, 0, none⟩ = some (.int .i64 txn)) (ds := []) #[false,false,false,false,false,false,false,false,false,false,false] (by kernel_rfl) rfl rfl ⟨(kcl (kdw HQ3.out) 1).trans rfl, (kcl (kdw HX3.out) 0).trans rfl⟩ (fun hHeld => ?_)
  have HB4 := Z0.mk (bd1 HB3.out)
  have HQ4 := Z0.mk (kdw HQ3.out)
  have HX4 := Z0.mk (kdw HX3.out)
  generalize w3.drew = w4 at HB4 HQ4 HX4 hHeld ⊢
  refine pu_ 0 (some 14) (bA 11 1) ?_
  refine pu_ 1 (some 15) (bA 11 3) ?_
  refine pu_ 2 (some 16) (bA 11 7) ?_
  refine pu_ 3 (some 17) (bA 11 15) ?_
  refine pu_ 4 (some 18) (bA 11 31) ?_
  refine pu_ 5 (some 19) (bA 11 63) ?_
  refine tk_ 6 (some 20) (bA 11 127) hHeld ?_
  refine tk_ 7 (some 21) (bA 11 255) hHeld ?_
  refine one_ (i := 8) (N := some 22) (bA 11 511) rfl rfl (by kernel_rfl) (by decide) (fun K hK => ?_)
  refine goes_ Tryz.func54 (by kernel_rfl) rfl #[.slice none 0 0, .int .i64 txn] (by rfl) rfl rfl (by (try simp only [List.map_toArray, List.map_cons, List.map_nil]); first | done | rfl | (simp only [Act.eval, Array.getD_eq_getD_getElem?, Option.getD_some, *]; done)) ?_
  with_reducible refine (placeNone.calls txn _).mono ?_
  rintro e w5 ⟨rfl, hB5⟩
  refine ⟨_, rfl, ?_⟩
  have HB5 := Z0.mk (bsp HB4.out hB5)
  have HQ5 := Z0.mk (kbl HQ4.out hB5)
  have HX5 := Z0.mk (kbl HX4.out hB5)
  clear hB5
  refine hK.out _ _ ⟨(kcl HQ5.out 1).trans rfl, (kcl HX5.out 0).trans rfl⟩ (fun hHeld => ?_)
  clear hK K
  refine nm_ (some 22) ?_
  refine pu_ 9 (some 23) (bA 11 1023) ?_
  refine pu_ 10 (some 24) (bA 11 2047) ?_
  refine done_ (by kernel_rfl) ?_
  go_wp2
  go_ret
  exact ⟨rfl, HB5.out⟩
end Go.Proofs.YtjiblcncadekcaaGreat.PA

namespace Go.Proofs.YtjiblcncadekcaaGreat.PA
set_option linter.unusedSimpArgs false
set_option linter.unusedVariables false
open Go.RowKit Go.Proofs.YtjiblcncadekcaaGreatW.PrintWords Go.Proofs.YtjiblcncadekcaaGreatW.PrintLast Go.Proofs.YtjiblcncadekcaaGreatW.PrintMore Go.Proofs.YtjiblcncadekcaaGreat Go.Proofs.YtjiblcncadekcaaGreat.PL
attribute [local go_sem] Oper.semAt_some
set_option maxHeartbeats 4000000 in
set_option maxRecDepth 100000 in
theorem getOne.calls (p b q : Nat) (obj : ByteArray) (w : World) (h : Tb w p b (entX obj q) 1) : Calls Tryz.prog 34 #[.pointer (some ⟨p, 0, none⟩), .string obj] w fun e w' => e = .returned (.pointer (some ⟨q, 0, none⟩)) ∧ w' = w := by
  have hu := Tryz.underlying76
  have hlk := look_one h.map
  have hc := (kcl h.box 0).trans rfl
  clear h
  go_enter Tryz.func34, Tryz.ntmps34
  go_wp2
  go_ret
  exact ⟨rfl, rfl⟩
set_option maxHeartbeats 4000000 in
set_option maxRecDepth 100000 in
theorem getNon.calls (p b : Nat) (obj : ByteArray) (w0 w : World) (h : Tb w p b #[] 0) (hB : Below w0.heap.size w0 w) (hp : w0.heap.size ≤ p) (hb : w0.heap.size ≤ b) (hne : p ≠ b) : Calls Tryz.prog 34 #[.pointer (some ⟨p, 0, none⟩), .string obj] w fun e w' => ∃ q, e = .returned (.pointer (some ⟨q, 0, none⟩)) ∧ q = w.heap.size ∧ Tb w' p b (entX obj q) 1 ∧ w'.heap[q]? = some (.cells #[.slice none 0 0, .slice none 0 0] 97 (0, 0)) ∧ Below w0.heap.size w0 w' ∧ (∀ j, j ≠ b → j < w.heap.size → w'.heap[j]? = w.heap[j]?) := by
  have hu := Tryz.underlying76
  have hu2 := Tryz.underlying97
  have HT := Z0.mk h
  have HB := Z0.mk hB
  have HBB := Z0.mk hb
  have HNE := Z0.mk hne
  have hlk := look_non h.map obj
  have hc := (kcl h.box 0).trans rfl
  clear h hB hb hp hne
  go_enter Tryz.func34, Tryz.ntmps34
  go_wp2_with ((with_reducible refine gds (N := 18) rfl ?_); refine bx_ (N := 18) (cs := #[.slice none 0 0, .slice none 0 0]) (t := 97) ?_; intro g hg w3 hbox hb3; obtain ⟨w4, hst, hm4, hs4, ho4, hB4⟩ := store_one (q := g) (obj := obj) (map_below HT.out.map hb3); have HG := Z0.mk hg; have HNG := Z0.mk (show g ≠ b by have := (Array.getElem?_eq_some_iff.1 HT.out.map).1; omega); have hx4 := (ho4 p HNE.out).trans (kbl HT.out.box hb3); have HX := Z0.mk ((ho4 g HNG.out).trans hbox); have HT4 := Z0.mk (Tb.mk hx4 hm4); have HB5 := Z0.mk ((bsp HB.out hb3).trans (hB4 _ HBB.out)); have HO := Z0.mk (show ∀ j, j ≠ b → j < w.heap.size → w4.heap[j]? = w.heap[j]? from fun j h1 h2 => (ho4 j h1).trans (hb3.block j h2)); have hlk4 := look_one hm4; have hc4 := (kcl hx4 0).trans rfl; clear hbox hb3 hg hm4 hs4 ho4 hB4 hx4)
  go_ret
  exact ⟨g, rfl, HG.out, HT4.out, HX.out, HB5.out, HO.out⟩
end Go.Proofs.YtjiblcncadekcaaGreat.PA

namespace Go.Proofs.YtjiblcncadekcaaGreat.PA
set_option linter.unusedSimpArgs false
set_option linter.unusedVariables false
open Go.RowKit Go.Proofs.YtjiblcncadekcaaGreatW.PrintWords Go.Proofs.YtjiblcncadekcaaGreatW.PrintLast Go.Proofs.YtjiblcncadekcaaGreatW.PrintMore Go.Proofs.YtjiblcncadekcaaGreat Go.Proofs.YtjiblcncadekcaaGreat.PL
attribute [local go_sem] Oper.semAt_some
structure Lck where
  txn : Int
  op : Int
  a : ByteArray
  b : ByteArray
  n : Int
  code : Int
  text : ByteArray
  rn : Int
def zLck : Lck := ⟨0, 0, ⟨#[]⟩, ⟨#[]⟩, 0, 0, ⟨#[]⟩, 0⟩
def kLck : Kd Lck := Kd.iso (Kd.pair (Kd.int .i64) (Kd.pair (Kd.int .i64) (Kd.pair Kd.string (Kd.pair Kd.string (Kd.pair (Kd.int .i64) (Kd.pair (Kd.int .i64) (Kd.pair Kd.string (Kd.int .i64)))))))) (fun x => (x.txn, x.op, x.a, x.b, x.n, x.code, x.text, x.rn))
theorem kLck_open {w : World} {x : Lck} {cs : List Value} (h : kLck.K w x cs) : cs = [.int .i64 x.txn, .int .i64 x.op, .string x.a, .string x.b, .int .i64 x.n, .int .i64 x.code, .string x.text, .int .i64 x.rn] := by
  obtain ⟨_, _, rfl, rfl, _, _, rfl, rfl, _, _, rfl, rfl, _, _, rfl, rfl, _, _, rfl, rfl, _, _, rfl, rfl, _, _, rfl, rfl, rfl⟩ := h
  exact rfl
theorem kLck_mkM (w : World) (base : Nat) (ok : Nat → Prop) (x : Lck) : kLck.M w base ok x [.int .i64 x.txn, .int .i64 x.op, .string x.a, .string x.b, .int .i64 x.n, .int .i64 x.code, .string x.text, .int .i64 x.rn] := ⟨[.int .i64 x.txn], [.int .i64 x.op, .string x.a, .string x.b, .int .i64 x.n, .int .i64 x.code, .string x.text, .int .i64 x.rn], rfl, rfl, ⟨[.int .i64 x.op], [.string x.a, .string x.b, .int .i64 x.n, .int .i64 x.code, .string x.text, .int .i64 x.rn], rfl, rfl, ⟨[.string x.a], [.string x.b, .int .i64 x.n, .int .i64 x.code, .string x.text, .int .i64 x.rn], rfl, rfl, ⟨[.string x.b], [.int .i64 x.n, .int .i64 x.code, .string x.text, .int .i64 x.rn], rfl, rfl, ⟨[.int .i64 x.n], [.int .i64 x.code, .string x.text, .int .i64 x.rn], rfl, rfl, ⟨[.int .i64 x.code], [.string x.text, .int .i64 x.rn], rfl, rfl, ⟨[.string x.text], [.int .i64 x.rn], rfl, rfl, rfl⟩⟩⟩⟩⟩⟩⟩
theorem at_Lck {w : World} {A : Option Addr} {n : Nat} {xs : List Lck} (h : Kd.C kLck w A n xs) (i : Int) (h0 : 0 ≤ i) (h1 : i < n) : ∃ ad, A = some ad ∧ w.cell? (ad.add (i.toNat * 8)) = some (.int .i64 (xs.getD i.toNat zLck).txn) ∧ w.cell? ⟨(ad.add (i.toNat * 8)).block, (ad.add (i.toNat * 8)).off + 1, none⟩ = some (.int .i64 (xs.getD i.toNat zLck).op) ∧ w.cell? ⟨(ad.add (i.toNat * 8)).block, (ad.add (i.toNat * 8)).off + 2, none⟩ = some (.string (xs.getD i.toNat zLck).a) ∧ w.cell? ⟨(ad.add (i.toNat * 8)).block, (ad.add (i.toNat * 8)).off + 3, none⟩ = some (.string (xs.getD i.toNat zLck).b) ∧ w.cell? ⟨(ad.add (i.toNat * 8)).block, (ad.add (i.toNat * 8)).off + 4, none⟩ = some (.int .i64 (xs.getD i.toNat zLck).n) ∧ w.cell? ⟨(ad.add (i.toNat * 8)).block, (ad.add (i.toNat * 8)).off + 5, none⟩ = some (.int .i64 (xs.getD i.toNat zLck).code) ∧ w.cell? ⟨(ad.add (i.toNat * 8)).block, (ad.add (i.toNat * 8)).off + 6, none⟩ = some (.string (xs.getD i.toNat zLck).text) ∧ w.cell? ⟨(ad.add (i.toNat * 8)).block, (ad.add (i.toNat * 8)).off + 7, none⟩ = some (.int .i64 (xs.getD i.toNat zLck).rn) := by
  obtain ⟨ad, cs, e, _, hK, hc0⟩ := Kd.C_get h zLck i h0 h1
  have hc : ∀ j u, cs[j]? = some u → w.cell? (ad.add (i.toNat * 8 + j)) = some u := hc0
  obtain rfl := kLck_open hK
  exact ⟨ad, e, hc 0 _ rfl, by rw [← add_field _ _ 1 (by omega)]; exact hc 1 _ rfl, by rw [← add_field _ _ 2 (by omega)]; exact hc 2 _ rfl, by rw [← add_field _ _ 3 (by omega)]; exact hc 3 _ rfl, by rw [← add_field _ _ 4 (by omega)]; exact hc 4 _ rfl, by rw [← add_field _ _ 5 (by omega)]; exact hc 5 _ rfl, by rw [← add_field _ _ 6 (by omega)]; exact hc 6 _ rfl, by rw [← add_field _ _ 7 (by omega)]; exact hc 7 _ rfl⟩
def lckOf (t : Int) (x : Stp) : Lck := ⟨t, x.op, x.a, x.b, x.n, x.code, x.text, x.rn⟩
theorem infoLck : (Tryz.prog.info? 99).map (fun i => (i.zero, i.size, i.bytes)) = some (some (.agg #[.int .i64 0, .int .i64 0, .string ⟨#[]⟩, .string ⟨#[]⟩, .int .i64 0, .int .i64 0, .string ⟨#[]⟩, .int .i64 0]), 8, 88) := by kernel_rfl
end Go.Proofs.YtjiblcncadekcaaGreat.PA

namespace Go.Proofs
open Go.Shelf
def Tryz.lays189_ren : Go.Shelf.Ren := ⟨fun | 189 => 56 | 125 => 74 | 257 => 73 | 128 => 94 | 129 => 95 | 294 => 85 | 295 => 86 | 296 => 87 | 297 => 88 | 298 => 89 | 299 => 90 | 216 => 91 | 300 => 92 | 301 => 93 | 328 => 99 | 329 => 100 | 330 => 101 | 331 => 102 | 332 => 103 | 215 => 104 | 343 => 106 | n => n, fun | 28 => 26 | 3 => 3 | 46 => 140 | 0 => 0 | 51 => 67 | 53 => 139 | 4 => 4 | 183 => 156 | 182 => 155 | 131 => 80 | 5 => 5 | 9 => 9 | 218 => 164 | 222 => 168 | 228 => 171 | 229 => 172 | n => n, fun | n => n⟩
theorem Tryz.lays189 : Go.Proofs.Lays.n189 Tryz.prog Tryz.lays189_ren := {
  mixed := by kernel_rfl
  f125 := Tryz.func74.trans (congrArg some (by kernel_rfl))
  f128 := Tryz.func94.trans (congrArg some (by kernel_rfl))
  f129 := Tryz.func95.trans (congrArg some (by kernel_rfl))
  f189 := Tryz.func56.trans (congrArg some (by kernel_rfl))
  f215 := Tryz.func104.trans (congrArg some (by kernel_rfl))
  f216 := Tryz.func91.trans (congrArg some (by kernel_rfl))
  f257 := Tryz.func73.trans (congrArg some (by kernel_rfl))
  f294 := Tryz.func85.trans (congrArg some (by kernel_rfl))
  f295 := Tryz.func86.trans (congrArg some (by kernel_rfl))
  f296 := Tryz.func87.trans (congrArg some (by kernel_rfl))
  f297 := Tryz.func88.trans (congrArg some (by kernel_rfl))
  f298 := Tryz.func89.trans (congrArg some (by kernel_rfl))
  f299 := Tryz.func90.trans (congrArg some (by kernel_rfl))
  f300 := Tryz.func92.trans (congrArg some (by kernel_rfl))
  f301 := Tryz.func93.trans (congrArg some (by kernel_rfl))
  f328 := Tryz.func99.trans (congrArg some (by kernel_rfl))
  f329 := Tryz.func100.trans (congrArg some (by kernel_rfl))
  f330 := Tryz.func101.trans (congrArg some (by kernel_rfl))
  f331 := Tryz.func102.trans (congrArg some (by kernel_rfl))
  f332 := Tryz.func103.trans (congrArg some (by kernel_rfl))
  f343 := Tryz.func106.trans (congrArg some (by kernel_rfl))
  t0 := Tryz.underlying0
  a0 := Tryz.isAgg0
  z0 := Tryz.sizeOf0
  v0 := Tryz.zeroValue0
  t3 := Tryz.underlying3
  a3 := Tryz.isAgg3
  z3 := Tryz.sizeOf3
  v3 := Tryz.zeroValue3
  t4 := Tryz.underlying4
  a4 := Tryz.isAgg4
  z4 := Tryz.sizeOf4
  v4 := Tryz.zeroValue4
  t5 := Tryz.underlying5
  a5 := Tryz.isAgg5
  z5 := Tryz.sizeOf5
  v5 := Tryz.zeroValue5
  t9 := Tryz.underlying9
  a9 := Tryz.isAgg9
  z9 := Tryz.sizeOf9
  v9 := Tryz.zeroValue9
  t28 := Tryz.underlying26
  a28 := Tryz.isAgg26
  z28 := Tryz.sizeOf26
  v28 := Tryz.zeroValue26
  t46 := Tryz.underlying140
  a46 := Tryz.isAgg140
  z46 := Tryz.sizeOf140
  v46 := Tryz.zeroValue140
  t51 := Tryz.underlying67
  a51 := Tryz.isAgg67
  z51 := Tryz.sizeOf67
  v51 := Tryz.zeroValue67
  t53 := Tryz.underlying139
  a53 := Tryz.isAgg139
  z53 := Tryz.sizeOf139
  v53 := Tryz.zeroValue139
  t131 := Tryz.underlying80
  a131 := Tryz.isAgg80
  z131 := Tryz.sizeOf80
  v131 := Tryz.zeroValue80
  t182 := Tryz.underlying155
  a182 := Tryz.isAgg155
  z182 := Tryz.sizeOf155
  v182 := Tryz.zeroValue155
  t183 := Tryz.underlying156
  a183 := Tryz.isAgg156
  z183 := Tryz.sizeOf156
  v183 := Tryz.zeroValue156
  t218 := Tryz.underlying164
  a218 := Tryz.isAgg164
  z218 := Tryz.sizeOf164
  v218 := Tryz.zeroValue164
  t222 := Tryz.underlying168
  a222 := Tryz.isAgg168
  z222 := Tryz.sizeOf168
  v222 := Tryz.zeroValue168
  t228 := Tryz.underlying171
  a228 := Tryz.isAgg171
  z228 := Tryz.sizeOf171
  v228 := Tryz.zeroValue171
  t229 := Tryz.underlying172
  a229 := Tryz.isAgg172
  z229 := Tryz.sizeOf172
  v229 := Tryz.zeroValue172 }
open Go.Sort Go.RowKit in
theorem Tryz.slices_Sort_int (blk off cap : Nat) (zs : List Int) (w : World) (hH : Holds (Value.int .i64) w blk off zs.toArray) (hblk : blk < w.heap.size) (hsz : zs.length < 4611686018427387904) :
    Calls Tryz.prog 56 #[.slice (some ⟨blk, off, none⟩) zs.length cap] w fun e w' =>
      e = .returned (.tuple #[]) ∧ ∃ n os, w' = grow (putRow (Value.int .i64) (Sort.ahead w n) blk off (zs.mergeSort fun x y => decide (x ≤ y)).toArray) os := Any.slices_Sort_int Tryz.lays189 blk off cap zs w hH hblk hsz
def Tryz.laysNm220_ren : Go.Shelf.Ren := ⟨fun | 20 => 57 | n => n, fun | 22 => 26 | 3 => 3 | 4 => 4 | 0 => 0 | n => n, fun | n => n⟩
theorem Tryz.laysNm220 : Go.Proofs.Lays2.n20 Tryz.prog Tryz.laysNm220_ren := {
  mixed := by kernel_rfl
  f20 := Tryz.func57.trans (congrArg some (by kernel_rfl))
  t0 := Tryz.underlying0
  a0 := Tryz.isAgg0
  z0 := Tryz.sizeOf0
  v0 := Tryz.zeroValue0
  t3 := Tryz.underlying3
  a3 := Tryz.isAgg3
  z3 := Tryz.sizeOf3
  v3 := Tryz.zeroValue3
  t4 := Tryz.underlying4
  a4 := Tryz.isAgg4
  z4 := Tryz.sizeOf4
  v4 := Tryz.zeroValue4
  t22 := Tryz.underlying26
  a22 := Tryz.isAgg26
  z22 := Tryz.sizeOf26
  v22 := Tryz.zeroValue26
  i3 := by kernel_rfl }
open Go.RowKit Go.Lib Go.Sort in
theorem Tryz.slices_Compact_int (blk off cap : Nat) (zs : List Int) (w : World) (hH : Holds (Value.int .i64) w blk off zs.toArray) (hsz : zs.length ≤ 9223372036854775807) (hcap : zs.length ≤ cap) :
    Calls Tryz.prog 57 #[.slice (some ⟨blk, off, none⟩) zs.length cap] w fun e w' => e = .returned (.slice (some ⟨blk, off, none⟩) (Lib.compact zs).length cap) ∧ ∃ q, w' = putRow (Value.int .i64) (Sort.ahead w q) blk off (Lib.compact zs ++ List.replicate (zs.length - (Lib.compact zs).length) 0).toArray := Any.slices_Compact_int Tryz.laysNm220 blk off cap zs w hH hsz hcap
open Go.RowKit Go.Lib Go.Sort in
theorem Tryz.slices_Compact_int_empty (a : Option Addr) (cap : Nat) (w : World) :
    Calls Tryz.prog 57 #[.slice a 0 cap] w fun e w' => e = .returned (.slice a 0 cap) ∧ w' = w := Any.slices_Compact_int_empty Tryz.laysNm220 a cap w
open Go.RowKit Go.Sort in
theorem Tryz.slices_Sort_int_none (p : Option Addr) (cap : Nat) (w : World) :
    Calls Tryz.prog 56 #[.slice p 0 cap] w fun e w' => e = .returned (.tuple #[]) ∧ w' = w := Any.slices_Sort_int_none Tryz.lays189 p cap w
end Go.Proofs

namespace Go.Proofs.YtjiblcncadekcaaGreat.PA
set_option linter.unusedSimpArgs false
set_option linter.unusedVariables false
open Go.RowKit Go.Sort Go.Proofs.YtjiblcncadekcaaGreatW.PrintWords Go.Proofs.YtjiblcncadekcaaGreatW.PrintLast Go.Proofs.YtjiblcncadekcaaGreatW.PrintMore Go.Proofs.YtjiblcncadekcaaGreat Go.Proofs.YtjiblcncadekcaaGreat.PL
theorem below_gr (w : World) (os : Array Obj) : Below w.heap.size w (grow w os) :=
  ⟨rfl, rfl, rfl, by show w.heap.size ≤ (w.heap ++ os).size; rw [Array.size_append]; omega, fun _ hj => Sort.heap_grow_old w os hj⟩
def Ow (w : World) (base : Nat) (v : Value) (xs : List Int) : Prop := w.ownsRow base 3 1 v xs.length (xs.map (Value.int .i64))
theorem ow_of {w : World} {base : Nat} {ok : Nat → Prop} {v : Value} {xs : List Int} (h : Kd.R (Kd.int .i64) 3 w base ok v xs) : Ow w base v xs := Kd.own_of_R h
theorem ow_form {w : World} {base : Nat} {v : Value} {xs : List Int} (h : Ow w base v xs) (hne : xs ≠ []) : ∃ g cap, v = .slice (some ⟨g, 0, none⟩) xs.length cap ∧ base ≤ g ∧ g < w.heap.size ∧ xs.length ≤ cap ∧ Holds (Value.int .i64) w g 0 xs.toArray := by
  obtain ⟨g, cap, e, hb, hg, hc, _, _, hH⟩ := Go.Lib.holds_of_ownsRow h (by
    intro e
    rw [e] at h
    rcases h.2 with ⟨_, h0⟩ | ⟨g, cap, cur, e1, _⟩
    · exact hne (List.length_eq_zero_iff.1 h0)
    · cases e1)
  exact ⟨g, cap, e, hb, hg, hc, hH⟩
theorem sortInt.calls (w0 : World) (v : Value) (xs : List Int) (w : World) (h : Ow w w0.heap.size v xs) (hne : xs ≠ []) (hB : Below w0.heap.size w0 w) (hl : xs.length < 1000000) :
    Calls Tryz.prog 56 #[v] w fun e w' => e = .returned (.tuple #[]) ∧ ∃ ys : List Int, ys.length = xs.length ∧ Ow w' w0.heap.size v ys ∧ Below w0.heap.size w0 w' := by
  obtain ⟨g, cap, rfl, hb, hg, hc, hH⟩ := ow_form h hne
  refine (Tryz.slices_Sort_int g 0 cap xs w hH hg (by omega)).mono ?_
  rintro e w' ⟨rfl, n, os, rfl⟩
  have hlen : (xs.mergeSort fun x y => decide (x ≤ y)).length = xs.length := List.length_mergeSort _
  have h1 := Go.Lib.ownsRow_putRow (q := n) (k := xs.length) (ys := xs.mergeSort fun x y => decide (x ≤ y)) h hlen (Nat.le_refl _)
  rw [List.take_of_length_le (by omega)] at h1
  have hb1 := Go.Lib.below_putRow (enc := Value.int .i64) (q := n) (d := (xs.mergeSort fun x y => decide (x ≤ y)).toArray) hB hb
  have hgw := below_gr (putRow (Value.int .i64) (Sort.ahead w n) g 0 (xs.mergeSort fun x y => decide (x ≤ y)).toArray) os
  refine ⟨rfl, _, hlen, ?_, ?_⟩
  · unfold Ow
    rw [hlen]
    exact pw_own_below h1 hgw
  · exact bsp hb1 hgw
theorem compact_nil (xs : List Int) (h : xs ≠ []) : Go.Lib.compact xs ≠ [] := by
  have hp : 0 < xs.length := List.length_pos_iff.2 h
  intro e
  have hm : xs.toArray[0]! ∈ Go.Lib.compact xs := by
    unfold Go.Lib.compact Go.Lib.compactUpTo
    exact List.mem_map.2 ⟨0, List.mem_filter.2 ⟨List.mem_range.2 hp, by simp [Go.Lib.keeps]⟩, rfl⟩
  rw [e] at hm
  cases hm
theorem compactInt.calls (w0 : World) (v : Value) (xs : List Int) (w : World) (h : Ow w w0.heap.size v xs) (hne : xs ≠ []) (hB : Below w0.heap.size w0 w) (hl : xs.length < 1000000) :
    Calls Tryz.prog 57 #[v] w fun e w' => ∃ A L c, e = .returned (.slice A L c) ∧ L ≠ 0 ∧ Below w0.heap.size w0 w' := by
  obtain ⟨g, cap, rfl, hb, hg, hc, hH⟩ := ow_form h hne
  refine (Tryz.slices_Compact_int g 0 cap xs w hH (by omega) hc).mono ?_
  rintro e w' ⟨rfl, q, rfl⟩
  exact ⟨_, _, _, rfl, fun e => compact_nil xs hne (List.length_eq_zero_iff.1 e), Go.Lib.below_putRow hB hb⟩
end Go.Proofs.YtjiblcncadekcaaGreat.PA

namespace Go.Proofs.YtjiblcncadekcaaGreat.PA
set_option linter.unusedSimpArgs false
set_option linter.unusedVariables false
open Go.RowKit Go.Proofs.YtjiblcncadekcaaGreatW.PrintWords Go.Proofs.YtjiblcncadekcaaGreatW.PrintLast Go.Proofs.YtjiblcncadekcaaGreatW.PrintMore Go.Proofs.YtjiblcncadekcaaGreat Go.Proofs.YtjiblcncadekcaaGreat.PL
attribute [local go_sem] Oper.semAt_some
def stpL (l : Lck) : Stp := ⟨l.op, l.a, l.b, l.n, l.code, l.text, l.rn⟩
def blk1 (txn : Int) (s : Stp) (l : Lck) : Bool := l.txn != txn && conflictR (stpL l) s
def blkR (H : List Lck) (txn : Int) (s : Stp) : Bool := H.any (blk1 txn s)
set_option maxHeartbeats 4000000 in
set_option maxRecDepth 100000 in
theorem blockersNon.calls (p b : Nat) (obj : ByteArray) (txn : Int) (s : Stp) (w : World) (h : Tb w p b #[] 0) : Calls Tryz.prog 32 #[.pointer (some ⟨p, 0, none⟩), .string obj, .int .i64 txn, .agg #[.int .i64 s.op, .string s.a, .string s.b, .int .i64 s.n, .int .i64 s.code, .string s.text, .int .i64 s.rn]] w fun e w' => e = .returned (.slice none 0 0) ∧ Below w.heap.size w w' := by
  have hu := Tryz.underlying76
  have HT := Z0.mk h
  clear h
  obtain ⟨W1, hW1⟩ : ∃ W1, W1 = w.alloc (.cells #[.int .i64 s.op, .string s.a, .string s.b, .int .i64 s.n, .int .i64 s.code, .string s.text, .int .i64 s.rn] 53) := ⟨_, rfl⟩
  obtain ⟨q, hq⟩ : ∃ q, q = w.heap.size := ⟨_, rfl⟩
  have HB1 := Z0.mk (show Below w.heap.size w W1 by rw [hW1]; exact bal (Below.refl _ _) _)
  go_enter Tryz.func32, Tryz.ntmps32
  go_upto_region 1 with fail
  rw [← hW1, ← hq]
  clear hW1 hq
  have hlk := look_non (map_below HT.out.map HB1.out) obj
  have hc := (kcl (kbl HT.out.box HB1.out) 0).trans rfl
  go_wp2
  go_ret
  exact ⟨rfl, HB1.out⟩
structure TO (w : World) (p b q : Nat) (obj : ByteArray) (A : Option Addr) (c : Nat) (H : List Lck) : Prop where
  tb : Tb w p b (entX obj q) 1
  bq : w.heap[q]? = some (.cells #[.slice A H.length c, .slice none 0 0] 97 (0, 0))
  rc : Kd.C kLck w A H.length H
theorem TO.below {w w' : World} {p b q : Nat} {obj : ByteArray} {A : Option Addr} {c : Nat} {H : List Lck} (h : TO w p b q obj A c H) (hB : Below w.heap.size w w') : TO w' p b q obj A c H :=
  ⟨⟨kbl h.tb.box hB, map_below h.tb.map hB⟩, kbl h.bq hB, Kd.C_below h.rc hB⟩
theorem infoInt : (Tryz.prog.info? 3).map (fun i => (i.zero, i.size, i.bytes)) = some (some (.int .i64 0), 1, 8) := by kernel_rfl
set_option maxHeartbeats 8000000 in
set_option maxRecDepth 100000 in
theorem blockersOne.calls (p b q : Nat) (obj : ByteArray) (A : Option Addr) (c : Nat) (H : List Lck) (txn : Int) (s : Stp) (w : World) (h : TO w p b q obj A c H) (hl : H.length < 100000) : Calls Tryz.prog 32 #[.pointer (some ⟨p, 0, none⟩), .string obj, .int .i64 txn, .agg #[.int .i64 s.op, .string s.a, .string s.b, .int .i64 s.n, .int .i64 s.code, .string s.text, .int .i64 s.rn]] w fun e w' => ∃ A2 L c2, e = .returned (.slice A2 L c2) ∧ (decide (L = 0)) = !(blkR H txn s) ∧ Below w.heap.size w w' := by
  have hu := Tryz.underlying76
  have hu2 := Tryz.underlying97
  obtain ⟨W1, hW1⟩ : ∃ W1, W1 = w.alloc (.cells #[.int .i64 s.op, .string s.a, .string s.b, .int .i64 s.n, .int .i64 s.code, .string s.text, .int .i64 s.rn] 53) := ⟨_, rfl⟩
  obtain ⟨g, hg⟩ : ∃ g, g = w.heap.size := ⟨_, rfl⟩
  have HB1 := Z0.mk (show Below w.heap.size w W1 by rw [hW1]; exact bal (Below.refl _ _) _)
  have HG1 := Z0.mk (show W1.heap[g]? = some (.cells #[.int .i64 s.op, .string s.a, .string s.b, .int .i64 s.n, .int .i64 s.code, .string s.text, .int .i64 s.rn] 53 (0, 0)) by rw [hW1, hg]; exact blk_new w _)
  have HGE := Z0.mk (show w.heap.size ≤ g by omega)
  have HT := Z0.mk h
  have HL := Z0.mk hl
  clear h hl
  go_enter Tryz.func32, Tryz.ntmps32
  go_upto_region 1 with fail
  rw [← hW1, ← hg]
  clear hW1 hg
  have HT1 := Z0.mk (HT.out.below HB1.out)
  have hlk := look_one HT1.out.tb.map
  have hc := (kcl HT1.out.tb.box 0).trans rfl
  have h1 := (kcl HT1.out.bq 1).trans rfl
  go_wp2_with fail
  refine (placeNone.calls txn _).mono ?_
  rintro e w2 ⟨rfl, hB2⟩
  have HT2 := Z0.mk (HT1.out.below hB2)
  have HB2 := Z0.mk (bsp HB1.out hB2)
  have HG2 := Z0.mk (kbl HG1.out hB2)
  clear hlk hc h1 hB2 HT1 HB1 HG1
  have h0 := (kcl HT2.out.bq 0).trans rfl
  obtain ⟨W3, hW3⟩ : ∃ W3, W3 = w2.alloc (.cells #[.slice A H.length c, .slice none 0 0] 95) := ⟨_, rfl⟩
  obtain ⟨r, hr⟩ : ∃ r, r = w2.heap.size := ⟨_, rfl⟩
  have HR3 := Z0.mk (show W3.heap[r]? = some (.cells #[.slice A H.length c, .slice none 0 0] 95 (0, 0)) by rw [hW3, hr]; exact blk_new w2 _)
  have hB3 : Below w2.heap.size w2 W3 := by rw [hW3]; exact bal (Below.refl _ _) _
  have HB3 := Z0.mk (bsp HB2.out hB3)
  have HT3 := Z0.mk (HT2.out.below hB3)
  have HG3 := Z0.mk (kbl HG2.out hB3)
  clear hB3
  go_upto_block 0 with fail
  rw [← hW3, ← hr]
  clear hW3 hr h0 HT2 HG2 HB2
  go_wp2_with fail
  go_loopw [12, 44] (fun v12 v44 wr => ∃ (k : Nat) (xs : List Int), v44 = .int .i64 k ∧ k ≤ 2 ∧ Z0 (Kd.R (Kd.int .i64) 3 wr W3.heap.size (fun _ => True) v12 xs) ∧ Z0 (xs = [] ↔ (k = 0 ∨ blkR H txn s = false)) ∧ Z0 (xs.length ≤ k * H.length) ∧ Z0 (Below W3.heap.size W3 wr)) (fun _ v44 _ => 2 - (intOf v44).toNat)
  case atStart => exact ⟨0, [], rfl, by decide, ⟨Kd.R_nil _ _ _ _ _⟩, ⟨by simp⟩, ⟨by simp⟩, ⟨Below.refl _ _⟩⟩
  case round =>
    obtain ⟨k, xs, rfl, hk, HV, HX, HN, HB⟩ := hrel
    by_cases q1 : k < 2
    · obtain ⟨Ak, ck, Hk, hck, hCk, hLk, hX2⟩ : ∃ Ak ck Hk, W3.cell? ⟨r, k, none⟩ = some (.slice Ak Hk.length ck) ∧ Kd.C kLck W3 Ak Hk.length Hk ∧ Hk.length ≤ H.length ∧ (∀ ys : List Int, (ys = [] ↔ (xs = [] ∧ blkR Hk txn s = false)) → (ys = [] ↔ (k + 1 = 0 ∨ blkR H txn s = false))) := by
        have hx := HX.out
        obtain rfl | rfl : k = 0 ∨ k = 1 := by omega
        · exact ⟨A, c, H, (kcl HR3.out 0).trans rfl, HT3.out.rc, Nat.le_refl _, fun ys hy => by rw [hy]; simp at hx; simp [hx]⟩
        · exact ⟨none, 0, [], (kcl HR3.out 1).trans rfl, Kd.C_nil _ _, Nat.zero_le _, fun ys hy => by rw [hy]; simp at hx; simp [hx, blkR]⟩
      have hk2 : (k : Int) < 2 := by omega
      have hk0 : (0 : Int) ≤ (k : Int) := by omega
      have HCK := Z0.mk hCk
      have HLK := Z0.mk hLk
      have HX2 := Z0.mk hX2
      have a0 := pcb_ HB.out hck
      clear hck hCk hLk hX2
      go_wp2_with fail
      go_loopw [12, 50] (fun v12 v50 wi => ∃ (j : Nat) (ys : List Int), v50 = .int .i64 j ∧ j ≤ Hk.length ∧ Z0 (Kd.R (Kd.int .i64) 3 wi W3.heap.size (fun _ => True) v12 ys) ∧ Z0 (ys = [] ↔ (xs = [] ∧ blkR (Hk.take j) txn s = false)) ∧ Z0 (ys.length ≤ xs.length + j) ∧ Z0 (Below W3.heap.size W3 wi)) (fun _ v50 _ => Hk.length - (intOf v50).toNat)
      case atStart => exact ⟨0, xs, rfl, Nat.zero_le _, HV, ⟨by simp [blkR]⟩, ⟨by omega⟩, HB⟩
      case round =>
        clear HV HB a0 HX
        obtain ⟨j, ys, rfl, hj, HV, HX, HN2, HB⟩ := hrel
        by_cases q2 : j < Hk.length
        · obtain ⟨x, hx⟩ : ∃ x, x = Hk.getD j zLck := ⟨_, rfl⟩
          have hgx : Hk[j] = x := by rw [hx]; simp [q2]
          have HTK := Z0.mk (show blkR (Hk.take (j + 1)) txn s = (blkR (Hk.take j) txn s || blk1 txn s x) by rw [List.take_succ_eq_append_getElem q2, hgx]; unfold blkR; rw [List.any_append]; simp)
          have hp0 : (0 : Int) ≤ (j : Int) := by omega
          have hp1 : (j : Int) < (Hk.length : Int) := by omega
          have hp2 : (j : Int) < 100000 := by have := HLK.out; have := HL.out; omega
          obtain ⟨ad, e1, y0, y1, y2, y3, y4, y5, y6, y7⟩ := at_Lck (Kd.C_below HCK.out (HB.out.mono (Nat.le_refl _))) (j : Int) hp0 hp1
          subst e1
          rw [Int.toNat_natCast, ← hx] at y0 y1 y2 y3 y4 y5 y6 y7
          clear hgx hx
          obtain ⟨W5, hW5⟩ : ∃ W5, W5 = wr.alloc (.cells #[.int .i64 x.txn, .int .i64 x.op, .string x.a, .string x.b, .int .i64 x.n, .int .i64 x.code, .string x.text, .int .i64 x.rn] 99) := ⟨_, rfl⟩
          obtain ⟨e, he⟩ : ∃ e, e = wr.heap.size := ⟨_, rfl⟩
          have hBB : Below wr.heap.size wr W5 := by rw [hW5]; exact bal (Below.refl _ _) _
          have HE5 := Z0.mk (show W5.heap[e]? = some (.cells #[.int .i64 x.txn, .int .i64 x.op, .string x.a, .string x.b, .int .i64 x.n, .int .i64 x.code, .string x.text, .int .i64 x.rn] 99 (0, 0)) by rw [hW5, he]; exact blk_new wr _)
          have HB5 := Z0.mk (bsp HB.out hBB)
          have HV5 := Z0.mk (Kd.R_below HV.out hBB)
          have HG5 := Z0.mk (kbl HG3.out HB5.out)
          have k1 : wrap64 ((j : Int) + 1) = (j : Int) + 1 := by have := HLK.out; have := HL.out; unfold wrap64; omega
          have K1 := Z0.mk k1
          clear hBB k1
          go_upto_region 15 with fail
          rw [← hW5, ← he]
          clear hW5 he y0 y1 y2 y3 y4 y5 y6 y7 HV HB
          by_cases q3 : x.txn = txn
          · have HBF := Z0.mk (show blk1 txn s x = false by unfold blk1; rw [q3]; simp)
            have b0 := (kcl HE5.out 0).trans rfl
            rw [q3] at b0
            clear q3
            have k1 := K1.out
            go_wp2
            clear k1 b0
            go_roundw
            case rel => exact ⟨j + 1, ys, by go_num, by omega, HV5, ⟨by rw [HX.out, HTK.out, HBF.out, Bool.or_false]⟩, ⟨by have := HN2.out; omega⟩, HB5⟩
            case measure => simp [intOf]; omega
          · obtain ⟨cb, hcb⟩ : ∃ cb, cb = conflictR (stpL x) s := ⟨_, rfl⟩
            have HBF := Z0.mk (show blk1 txn s x = cb by unfold blk1; rw [← hcb]; simp [q3])
            have HCF := Z0.mk (show ∀ W, Calls Tryz.prog 55 #[.agg #[.int .i64 x.op, .string x.a, .string x.b, .int .i64 x.n, .int .i64 x.code, .string x.text, .int .i64 x.rn], .agg #[.int .i64 s.op, .string s.a, .string s.b, .int .i64 s.n, .int .i64 s.code, .string s.text, .int .i64 s.rn]] W (fun e w' => e = .returned (.bool cb) ∧ Below W.heap.size W w') from fun W => by
              rw [hcb]
              exact commConflict.calls x.op x.a x.b x.n x.code x.text x.rn s.op s.a s.b s.n s.code s.text s.rn W)
            have q5 : (x.txn != txn) = true := by simp [q3]
            clear q3
            have b0 := (kcl HE5.out 0).trans rfl
            have b1 := (kcl HE5.out 1).trans rfl
            have b2 := (kcl HE5.out 2).trans rfl
            have b3 := (kcl HE5.out 3).trans rfl
            have b4 := (kcl HE5.out 4).trans rfl
            have b5 := (kcl HE5.out 5).trans rfl
            have b6 := (kcl HE5.out 6).trans rfl
            have b7 := (kcl HE5.out 7).trans rfl
            have g0 := (kcl HG5.out 0).trans rfl
            have g1 := (kcl HG5.out 1).trans rfl
            have g2 := (kcl HG5.out 2).trans rfl
            have g3 := (kcl HG5.out 3).trans rfl
            have g4 := (kcl HG5.out 4).trans rfl
            have g5 := (kcl HG5.out 5).trans rfl
            have g6 := (kcl HG5.out 6).trans rfl
            clear hcb
            go_wp2_with fail
            refine (HCF.out _).mono ?_
            rintro e9 w6 ⟨rfl, hB6⟩
            have HB6 := Z0.mk (bsp HB5.out hB6)
            have HV6 := Z0.mk (Kd.R_below HV5.out hB6)
            have HE6 := Z0.mk (kbl HE5.out hB6)
            clear hB6 HB5 HV5 HE5 HG5 b0 b1 b2 b3 b4 b5 b6 b7 g0 g1 g2 g3 g4 g5 g6
            have b0 := (kcl HE6.out 0).trans rfl
            cases cb
            · have k1 := K1.out
              go_wp2
              clear k1 b0 q5
              go_roundw
              case rel => exact ⟨j + 1, ys, by go_num, by omega, HV6, ⟨by rw [HX.out, HTK.out, HBF.out, Bool.or_false]⟩, ⟨by have := HN2.out; omega⟩, HB6⟩
              case measure => simp [intOf]; omega
            · have k1 := K1.out
              have HLA := Z0.mk (show ys.length < 300000 by have := HN.out; have := HN2.out; have := HLK.out; have := HL.out; have : k * H.length ≤ 2 * H.length := Nat.mul_le_mul_right _ hk; omega)
              go_wp2_with ((with_reducible refine gate_builtin (b := .append) (xs := #[.tmp 64, .tmp 67]) rfl ?_); at_builtin; refine Kd.R_append (Kd.int .i64) (w0 := W3) W3.heap.size rfl (.tmp 64) (.tmp 67) 26 3 (.int .i64 0) 8 rfl Tryz.underlying26 infoInt rfl (by decide) (by omega) u12 ys x.txn [.int .i64 x.txn] (fun _ => True) (fun _ => False) rfl (by first | (go_simp; done) | (go_simp; rfl)) ?aP (fun _ hk => hk.elim) ?aF ?aO ?aB ?aS ?aL ?_; (case aP => exact rfl); (case aB => exact HB6.out); (case aF => exact (fun _ _ => trivial)); (case aO => exact HV6.out); (case aS => exact HB6.out.size); (case aL => have := HLA.out; omega); intro v8 w19 ho hb hg hat; have HO19 := Z0.mk ho; have HB19 := Z0.mk hb; clear ho hb hg hat)
              clear k1 b0 q5
              go_roundw
              case rel => exact ⟨j + 1, ys ++ [x.txn], by go_num, by omega, HO19, ⟨by rw [HTK.out, HBF.out]; simp⟩, ⟨by rw [List.length_append]; have := HN2.out; simp only [List.length_cons, List.length_nil]; omega⟩, HB19⟩
              case measure => simp [intOf]; omega
        · have HX3 := Z0.mk (HX2.out ys (by rw [HX.out, List.take_of_length_le (by omega)]))
          have k1 : wrap64 ((k : Int) + 1) = (k : Int) + 1 := by unfold wrap64; omega
          have HN3 := Z0.mk (show ys.length ≤ (k + 1) * H.length by have := HN.out; have := HN2.out; have := HLK.out; rw [Nat.add_mul]; omega)
          go_wp2
          clear k1
          go_roundw
          case rel => exact ⟨k + 1, ys, by go_num, by omega, HV, HX3, HN3, HB⟩
          case measure => simp [intOf]; omega
    · obtain rfl : k = 2 := by omega
      have HXF : Z0 (xs = [] ↔ blkR H txn s = false) := ⟨by have := HX.out; simpa using this⟩
      have HN2 := Z0.mk (show xs.length < 1000000 by have := HN.out; have := HL.out; omega)
      clear HX HN
      by_cases q2 : xs = []
      · subst q2
        have HBT := Z0.mk (show blkR H txn s = false from HXF.out.1 rfl)
        obtain ⟨A4, c4, hv4⟩ := Kd.R_slice HV.out
        subst hv4
        go_wp2_with fail
        refine (Tryz.slices_Sort_int_none _ _ _).mono ?_
        rintro e9 w9 ⟨rfl, rfl⟩
        go_wp2_with fail
        refine (Tryz.slices_Compact_int_empty _ _ _).mono ?_
        rintro e9 w9 ⟨rfl, rfl⟩
        go_wp2
        go_ret
        exact ⟨_, _, _, rfl, by rw [HBT.out]; rfl, bsp HB3.out HB.out⟩
      · have HQ2 := Z0.mk q2
        have HBT := Z0.mk (show blkR H txn s = true by
          cases h : blkR H txn s
          · exact absurd (HXF.out.2 h) q2
          · rfl)
        clear q2
        go_wp2_with fail
        refine (sortInt.calls W3 u12 xs _ (ow_of HV.out) HQ2.out HB.out HN2.out).mono ?_
        rintro e9 w9 ⟨rfl, zs, hz, hO, hB9⟩
        have HQ9 := Z0.mk (show zs ≠ [] from fun e => HQ2.out (by rw [e] at hz; exact List.length_eq_zero_iff.1 hz.symm))
        have HZ9 := Z0.mk (show zs.length < 1000000 by have := HN2.out; omega)
        have HO9 := Z0.mk hO
        have HB9 := Z0.mk hB9
        clear hz hO hB9
        go_wp2_with fail
        refine (compactInt.calls W3 u12 zs _ HO9.out HQ9.out HB9.out HZ9.out).mono ?_
        rintro e9 w10 ⟨A5, L5, c5, rfl, hL, hB10⟩
        have HL5 := Z0.mk hL
        have HB10 := Z0.mk hB10
        clear hL hB10
        go_wp2
        go_ret
        exact ⟨_, _, _, rfl, by rw [HBT.out]; simp [HL5.out], bsp HB3.out HB10.out⟩
end Go.Proofs.YtjiblcncadekcaaGreat.PA

