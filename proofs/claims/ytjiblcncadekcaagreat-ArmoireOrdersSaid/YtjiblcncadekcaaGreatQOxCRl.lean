import Derived.Test.YtjiblcncadekcaaGreatQOxWWords
import Derived.Test.YtjiblcncadekcaaGreatQOxWMore
import Derived.Carry
import Derived.MapKept
import Derived.Test.YtjiblcncadekcaaGreatQOxCWk
import Derived.Test.YtjiblcncadekcaaGreatQOxPAx0
namespace Go.Proofs.YtjiblcncadekcaaGreat
open Go.RowKit Go.Proofs.YtjiblcncadekcaaGreatW.PrintWords Go.Proofs.YtjiblcncadekcaaGreatW.PrintLast Go.Proofs.YtjiblcncadekcaaGreatW.PrintMore
open Go.MapKept
theorem map_store {P : Program} {w : World} {b : Nat} {es : Array MapEntry} {clock : Nat} {t k e : TypeId} {d : TypeDesc} {key : Value} (v : Value) (ht : P.underlying t = some (.map k e)) (hd : P.underlying k = some d) (hk : IsKey d key) (hb : w.heap[b]? = some (.map es clock)) (h1 : Instr.findNow d key es.toList 0 = some none) :
    ∃ w', (Instr.mapUpdate t (.map (some b)) key v).run P w = .ok () w' ∧ w'.heap[b]? = some (.map (es.push ⟨key, v, clock⟩) (clock + 1)) ∧ w'.heap.size = w.heap.size ∧ (∀ j, j ≠ b → w'.heap[j]? = w.heap[j]?) ∧ ∀ n, n ≤ b → Below n w w' := by
  have hlt : b < w.heap.size := (Array.getElem?_eq_some_iff.1 hb).1
  have hoth : ∀ (o : Obj) (j : Nat), j ≠ b → (w.heap.setIfInBounds b o)[j]? = w.heap[j]? := fun o j hj => by rw [Array.getElem?_setIfInBounds, if_neg (fun e => hj e.symm)]
  refine ⟨{ w with heap := w.heap.setIfInBounds b (.map (es.push ⟨key, v, clock⟩) (clock + 1)) }, ?_, ?_, ?_, ?_, ?_⟩
  · simp [Instr.mapUpdate, run_underlying ht, Go.MapKept.run_getObj_map hb, Go.MapKept.run_checkKey hd hk, Go.MapKept.run_findKey hd h1, Go.MapKept.run_setObj_map _ hb, Result.andThen]
  · show (w.heap.setIfInBounds b _)[b]? = _
    rw [Array.getElem?_setIfInBounds, if_pos rfl, if_pos hlt]
  · show (w.heap.setIfInBounds b _).size = _
    rw [Array.size_setIfInBounds]
  · exact fun j hj => hoth _ j hj
  · exact fun n hn => ⟨rfl, rfl, rfl, by show _ ≤ (w.heap.setIfInBounds b _).size; rw [Array.size_setIfInBounds]; exact Nat.le_refl _, fun j hj => hoth _ j (by omega)⟩
theorem map_look {P : Program} {w : World} {b : Nat} {es : Array MapEntry} {clock : Nat} {t k e : TypeId} {d : TypeDesc} {key v : Value} {i : Nat} (ht : P.underlying t = some (.map k e)) (hd : P.underlying k = some d) (hk : IsKey d key) (hb : w.heap[b]? = some (.map es clock)) (h1 : Instr.findNow d key es.toList 0 = some (some (i, v))) :
    (Instr.lookup t (.map (some b)) key false).run P w = .ok v w := by
  simp [Instr.lookup, run_underlying ht, Go.MapKept.run_getObj_map hb, Go.MapKept.run_checkKey hd hk, Go.MapKept.run_findKey hd h1, Result.andThen]
theorem map_none {P : Program} {w : World} {b : Nat} {es : Array MapEntry} {clock : Nat} {t k e : TypeId} {d : TypeDesc} {key z : Value} (ht : P.underlying t = some (.map k e)) (hd : P.underlying k = some d) (hk : IsKey d key) (hb : w.heap[b]? = some (.map es clock)) (h1 : Instr.findNow d key es.toList 0 = some none) (hz : (zeroValue e).run P w = .ok z w) :
    (Instr.lookup t (.map (some b)) key false).run P w = .ok z w := by
  simp [Instr.lookup, run_underlying ht, Go.MapKept.run_getObj_map hb, Go.MapKept.run_checkKey hd hk, Go.MapKept.run_findKey hd h1, hz, Result.andThen]
end Go.Proofs.YtjiblcncadekcaaGreat

namespace Go.Proofs.YtjiblcncadekcaaGreat.PA
set_option linter.unusedSimpArgs false
set_option linter.unusedVariables false
open Go.RowKit Go.Proofs.YtjiblcncadekcaaGreatW.PrintWords Go.Proofs.YtjiblcncadekcaaGreatW.PrintLast Go.Proofs.YtjiblcncadekcaaGreatW.PrintMore Go.Proofs.YtjiblcncadekcaaGreat Go.Proofs.YtjiblcncadekcaaGreat.PL
attribute [local go_sem] Oper.semAt_some
def rulesM : Array MapEntry := #[⟨.int .i64 1, .func (.func 78) #[] #[], 0⟩, ⟨.int .i64 2, .func (.func 79) #[] #[], 1⟩, ⟨.int .i64 3, .func (.func 80) #[] #[], 2⟩, ⟨.int .i64 4, .func (.func 81) #[] #[], 3⟩, ⟨.int .i64 5, .func (.func 81) #[] #[], 4⟩, ⟨.int .i64 6, .func (.func 82) #[] #[], 5⟩, ⟨.int .i64 7, .func (.func 83) #[] #[], 6⟩]
set_option maxHeartbeats 4000000 in
set_option maxRecDepth 100000 in
theorem commRules.calls (w : World) : Calls Tryz.prog 71 #[] w fun e w' => ∃ b, e = .returned (.map (some b)) ∧ w'.heap[b]? = some (.map rulesM 7) ∧ Below w.heap.size w w' := by
  have hT := Tryz.underlying146
  have hK := Tryz.underlying3
  obtain ⟨b, hb⟩ : ∃ b, b = w.heap.size := ⟨_, rfl⟩
  obtain ⟨W0, hW0⟩ : ∃ W0, W0 = w.alloc (.map #[] 0) := ⟨_, rfl⟩
  have r0 : (Instr.makeMap 146 none).run Tryz.prog w = .ok (.map (some b)) W0 := by rw [hb, hW0]; rfl
  have m0 : W0.heap[b]? = some (.map #[] 0) := by rw [hb, hW0]; exact (Go.MapKept.heap_alloc w _).1
  have B0 : Below w.heap.size w W0 := by rw [hW0]; exact bal (Below.refl _ _) _
  obtain ⟨W1, r1, m1, s1, -, C1⟩ := map_store (w := W0) (.func (.func 78) #[] #[]) hT hK (show Go.MapKept.IsKey (.int .i64) (.int .i64 1) from rfl) m0 rfl
  have B1 : Below w.heap.size w W1 := B0.trans (C1 _ (by omega))
  obtain ⟨W2, r2, m2, s2, -, C2⟩ := map_store (w := W1) (.func (.func 79) #[] #[]) hT hK (show Go.MapKept.IsKey (.int .i64) (.int .i64 2) from rfl) m1 rfl
  have B2 : Below w.heap.size w W2 := B1.trans (C2 _ (by omega))
  obtain ⟨W3, r3, m3, s3, -, C3⟩ := map_store (w := W2) (.func (.func 80) #[] #[]) hT hK (show Go.MapKept.IsKey (.int .i64) (.int .i64 3) from rfl) m2 rfl
  have B3 : Below w.heap.size w W3 := B2.trans (C3 _ (by omega))
  obtain ⟨W4, r4, m4, s4, -, C4⟩ := map_store (w := W3) (.func (.func 81) #[] #[]) hT hK (show Go.MapKept.IsKey (.int .i64) (.int .i64 4) from rfl) m3 rfl
  have B4 : Below w.heap.size w W4 := B3.trans (C4 _ (by omega))
  obtain ⟨W5, r5, m5, s5, -, C5⟩ := map_store (w := W4) (.func (.func 81) #[] #[]) hT hK (show Go.MapKept.IsKey (.int .i64) (.int .i64 5) from rfl) m4 rfl
  have B5 : Below w.heap.size w W5 := B4.trans (C5 _ (by omega))
  obtain ⟨W6, r6, m6, s6, -, C6⟩ := map_store (w := W5) (.func (.func 82) #[] #[]) hT hK (show Go.MapKept.IsKey (.int .i64) (.int .i64 6) from rfl) m5 rfl
  have B6 : Below w.heap.size w W6 := B5.trans (C6 _ (by omega))
  obtain ⟨W7, r7, m7, s7, -, C7⟩ := map_store (w := W6) (.func (.func 83) #[] #[]) hT hK (show Go.MapKept.IsKey (.int .i64) (.int .i64 7) from rfl) m6 rfl
  have B7 : Below w.heap.size w W7 := B6.trans (C7 _ (by omega))
  have HB := Z0.mk B7
  have HM := Z0.mk m7
  clear B0 B1 B2 B3 B4 B5 B6 B7 m0 m1 m2 m3 m4 m5 m6 m7 C1 C2 C3 C4 C5 C6 C7 s1 s2 s3 s4 s5 s6 s7 hb hW0 hT hK
  go_enter Tryz.func71, Tryz.ntmps71
  go_wp2
  go_ret
  exact ⟨b, rfl, HM.out, HB.out⟩
end Go.Proofs.YtjiblcncadekcaaGreat.PA

