import Derived.Test.YtfllpmmfjbjgoaaQRsMDevBack
import Derived.Lib.ConvBytes
import Derived.Laws.BytesArg
import Derived.Laws.BitsLemmas
import Derived.Below
import Derived.WalkKit
import Derived.Test.YtfllpmmfjbjgoaaQRsWWords
namespace Go.Proofs.Ytfllpmmfjbjgoaa
open Go.RowKit Go.Shelf Go.Proofs.YtfllpmmfjbjgoaaW.PrintWords Go.Proofs.YtfllpmmfjbjgoaaW.PrintLast
attribute [local go_sem] Oper.semAt_some
def readB (d : Dv) (at_ : Int) : ByteArray := match d.cache.reverse.find? (fun x => x.at_ == at_) with
  | some x => x.text
  | none => d.sec.getD at_.toNat ByteArray.empty
def dvRead (d : Dv) (at_ : Int) : ByteArray × Int := if at_ < 0 ∨ (d.sec.length : Int) ≤ at_ then (⟨#[]⟩, 4) else if d.down then (⟨#[]⟩, 16) else (readB d at_, 0)
theorem upTo_back (xs : List Wr) (k : Nat) (h : k ≤ xs.length) : (upTo (bwF xs) k).map (·.2) = xs.reverse.take k := by
  refine List.ext_getElem (by simp [upTo]; omega) fun i h1 h2 => ?_
  have h3 : i < k := by simpa [upTo] using h1
  have h4 : xs.length - 1 - i < xs.length := by omega
  simp [upTo, bwF, List.getElem?_eq_getElem h4]
theorem readB_none {d : Dv} {a1 : Int} (h : ∀ p ∈ upTo (bwF d.cache) d.cache.length, p.2.at_ ≠ a1) : readB d a1 = d.sec.getD a1.toNat ByteArray.empty := by
  have e := upTo_back d.cache d.cache.length (Nat.le_refl _)
  rw [List.take_of_length_le (by simp)] at e
  have hn : d.cache.reverse.find? (fun x => x.at_ == a1) = none := by
    rw [← e, List.find?_eq_none]
    intro x hx
    obtain ⟨p, hp, rfl⟩ := List.mem_map.1 hx
    simpa using h p hp
  simp only [readB, hn]
theorem readB_some {d : Dv} {a1 : Int} {k : Nat} {ini : List (Nat × Wr)} {last : Nat × Wr} (hk : k ≤ d.cache.length) (e1 : upTo (bwF d.cache) k = ini ++ [last]) (e2 : ∀ p ∈ ini, p.2.at_ ≠ a1) (e3 : last.2.at_ = a1) : readB d a1 = last.2.text := by
  have e := upTo_back d.cache k hk
  rw [e1] at e
  have hs : d.cache.reverse.find? (fun x => x.at_ == a1) = some last.2 := by
    rw [← List.take_append_drop k d.cache.reverse, ← e, List.find?_append, List.map_append, List.find?_append]
    have h0 : (List.map (fun x : Nat × Wr => x.2) ini).find? (fun x => x.at_ == a1) = none := by
      rw [List.find?_eq_none]
      intro x hx
      obtain ⟨p, hp, rfl⟩ := List.mem_map.1 hx
      simpa using e2 p hp
    simp [h0, e3]
  simp only [readB, hs]
set_option linter.unusedSimpArgs false
set_option maxHeartbeats 2000000 in
set_option maxRecDepth 100000 in
theorem read_in (F : Fence) (n : Nat) (h15 : F.fn 44) (h32 : F.fn 54) (h39 : F.fn 68) (hro : F.round = none) (hn : 3 ≤ n)
    (g : Nat) (d : Dv) (a1 : Int) (w0 w : World) (hI : IsDev w0 w g d) (h0 : 0 ≤ a1) (h1 : a1 < (d.sec.length : Int)) (hd : d.down = false) :
    CallsIn F n Try.prog 44 #[.pointer (some ⟨g, 0, none⟩), .int .i64 a1] w fun e w' => e = .returned (.tuple #[.string (readB d a1), .int .i64 0]) ∧ Below w.heap.size w w' := by
  have hn1 : 1 ≤ n := by omega
  obtain ⟨vs, vc, hI⟩ := hI
  obtain ⟨b0, c, rfl⟩ := R_head hI.sec (by omega)
  obtain ⟨A2, c2, rfl⟩ : ∃ A c, vc = .slice A d.cache.length c := Kd.R_slice hI.cache
  have hqs : d.sec.length ≤ 9223372036854775807 := Kd.C_max (Kd.R_reads' hI.sec).2.2
  have hA0 := fun o1 o2 o3 => ((((hI.alloc o1).alloc o2).alloc o3)).c0
  have hA1 := fun o1 o2 o3 => ((((hI.alloc o1).alloc o2).alloc o3)).c1
  have hA3 := fun o1 o2 o3 => ((((hI.alloc o1).alloc o2).alloc o3)).c3
  rw [hd] at hA3
  have q1 : decide (a1 < 0) = false := decide_eq_false (by omega)
  have q2 : decide ((d.sec.length : Int) ≤ a1) = false := decide_eq_false (by omega)
  have HI := Aside0.mk hI
  clear hI
  refine callsIn_of_wp_marks Try.func44 rfl h15 ?_ hro
  simp only [Try.ntmps44, List.size_toArray, List.length_cons, List.length_nil, Nat.reduceAdd, Nat.reduceSub, Array.replicate_succ, Array.replicate_zero, List.push_toArray, List.append_toArray, List.nil_append, List.cons_append]
  gi_wp2
  gi_region
  all_goals
    gi_wp2
    refine (bw_in F (n-1) h32 hro _ _ _ _).mono ?_
    rintro e w' ⟨rfl, rfl⟩
    gi_wp2
    obtain ⟨wb, hwb⟩ : ∃ wb, (((((w.alloc (.cells #[.int .i64 a1] 3)).alloc (.cells #[.string ⟨#[]⟩] 9)).alloc (.cells #[.int .i64 0] 23)).alloc (.cells #[.slice A2 d.cache.length c2] 75)).drew) = wb := ⟨_, rfl⟩
    have bA : Boxed wb w.heap.size 3 (.int .i64 a1) := by
      rw [← hwb]; exact (((Boxed.new w _ _).alloc _).alloc _).alloc _
    have bS : Boxed wb (w.heap.size + 1) 9 (.string ⟨#[]⟩) := by
      rw [← hwb]; have := Boxed.new (w.alloc (.cells #[.int .i64 a1] 3)) 9 (.string ⟨#[]⟩); rw [World.size_alloc] at this; exact (this.alloc _).alloc _
    have bE : Boxed wb (w.heap.size + 1 + 1) 23 (.int .i64 0) := by
      rw [← hwb]; have := Boxed.new ((w.alloc (.cells #[.int .i64 a1] 3)).alloc (.cells #[.string ⟨#[]⟩] 9)) 23 (.int .i64 0); rw [World.size_alloc, World.size_alloc] at this; exact this.alloc _
    have bN : Boxed wb (w.heap.size + 1 + 1 + 1) 75 (.slice A2 d.cache.length c2) := by
      rw [← hwb]; have := Boxed.new (((w.alloc (.cells #[.int .i64 a1] 3)).alloc (.cells #[.string ⟨#[]⟩] 9)).alloc (.cells #[.int .i64 0] 23)) 75 (.slice A2 d.cache.length c2); rw [World.size_alloc, World.size_alloc, World.size_alloc] at this; exact this
    have hB0 : Below w.heap.size w wb := by
      rw [← hwb]; exact (((((Below.refl _ w).alloc (Nat.le_refl _) _).alloc (by simp) _).alloc (by simp; omega) _).alloc (by simp; omega) _).drew
    have hsz : wb.heap.size = w.heap.size + 1 + 1 + 1 + 1 := by rw [← hwb]; simp
    rw [hwb]
    clear hwb
    have hws : w.heap.size ≤ wb.heap.size := hB0.size
    refine wpIn_rangeFunc_ownH hro hn1 (gf := 68) (lb := #[.pointer (some ⟨w.heap.size + 1 + 1 + 1, 0, none⟩)]) rfl h39 (enters_of Try.func68 (by kernel_rfl) rfl)
      (bw_stops F (n - 1) h39 hro (by omega) (w.heap.size + 1 + 1 + 1) wb A2 c2 d.cache (Kd.R_reads' (HI.out.below hB0).cache).2.2 bN.cell) belowK_t (belowK_b (Nat.le_refl _)) (Below.refl _ _) (fun _ => rfl)
      (fun pre W => (∀ p ∈ pre, p.2.at_ ≠ a1) ∧ (Boxed W w.heap.size 3 (.int .i64 a1) ∧ Boxed W (w.heap.size + 1) 9 (.string ⟨#[]⟩)) ∧ (Boxed W (w.heap.size + 1 + 1) 23 (.int .i64 0) ∧ Below wb.heap.size wb W))
      (fun c pre W => (c = .ret ∧ ∃ ini last, pre = ini ++ [last] ∧ (∀ p ∈ ini, p.2.at_ ≠ a1) ∧ last.2.at_ = a1 ∧ Boxed W (w.heap.size + 1) 9 (.string last.2.text) ∧ Boxed W (w.heap.size + 1 + 1) 23 (.int .i64 0)) ∧ Below w.heap.size w W)
      (OwnFrom.and (ownFrom_pure _ _) (OwnFrom.and (OwnFrom.and (Own.from (boxed_own _ _ _) _) (Own.from (boxed_own _ _ _) _)) (OwnFrom.and (Own.from (boxed_own _ _ _) _) (ownFrom_below (Nat.le_refl _) (Nat.le_refl _)))))
      (fun c => OwnFrom.and (Own.from (fun s A B row hs hg hr => by
        obtain ⟨hc, ini, last, e1, e2, e3, e4, e5⟩ := hs
        exact ⟨hc, ini, last, e1, e2, e3, boxed_own _ _ (fun (_ : Unit) => Value.string last.2.text) () A B row e4 hg hr, boxed_own _ _ (fun (_ : Unit) => Value.int .i64 0) () A B row e5 hg hr⟩) _) (ownFrom_below (Nat.le_refl _) hws))
      ⟨by simp, ⟨bA, bS⟩, bE, Below.refl _ _⟩
      (fun x a' W => ∃ Bx, w.heap.size + 1 + 1 + 1 < Bx ∧ W.heap[Bx]? = some (.cells #[.int .i64 x.2.at_, .string x.2.text] 87 (0, 0)) ∧ a' = { tmps := #[.pointer (some ⟨g, 0, none⟩), .int .i64 a1, undef, .pointer (some ⟨w.heap.size, 0, none⟩), .pointer (some ⟨w.heap.size + 1, 0, none⟩), .pointer (some ⟨w.heap.size + 1 + 1, 0, none⟩), undef, .pointer (some ⟨Bx, 0, none⟩), .bool false, .int .i64 a1, .bool false, .bool false, .int .i64 a1, .pointer (some ⟨g, 0, none⟩), .pointer (some ⟨g, 0, none⟩), .pointer (some ⟨g, 0, none⟩), .slice (some ⟨b0, 0, none⟩) d.sec.length c, .int .i64 d.sec.length, .bool false, .bool false, .bool false, .pointer (some ⟨g, 0, none⟩), .pointer (some ⟨g, 0, none⟩), .pointer (some ⟨g, 3, none⟩), .bool false, .pointer (some ⟨g, 0, none⟩), .pointer (some ⟨g, 0, none⟩), .pointer (some ⟨g, 1, none⟩), .slice A2 d.cache.length c2, .func (.func 68) #[] #[.pointer (some ⟨w.heap.size + 1 + 1 + 1, 0, none⟩)], .int .i64 (x.1 : Int), .agg #[.int .i64 x.2.at_, .string x.2.text], undef, undef, undef, undef, undef, undef, undef, undef, undef, undef, undef, undef, undef], defers := [] })
      (fun x a' _ X Y row hs hg hr => by
        obtain ⟨Bx, e1, e2, e3⟩ := hs
        exact ⟨Bx, e1, (hg.block Bx (Array.getElem?_eq_some_iff.1 e2).1 (fun e => by obtain ⟨_, o, ho, hc⟩ := hr Bx e.symm; rw [e2] at ho; cases ho; cases hc)).trans e2, e3⟩)
      ?assign ?body ?done ?stop
    case assign =>
      rintro l pre x W K ⟨hp, ⟨b1, b2⟩, b3, hB⟩ hK
      unfold bwE
      gi_wp2
      exact hK _ _ ((KeepsOthers.alloc _ _).from _) ((Below.refl _ W).alloc hB.size _) ⟨hp, ⟨b1.alloc _, b2.alloc _⟩, b3.alloc _, hB.alloc hB.size _⟩ ⟨W.heap.size, by have := hB.size; omega, World.alloc_heap_new W _, rfl⟩
    case body =>
      rintro l pre x a' W hl ⟨r, hr⟩ ⟨hp, ⟨b1, b2⟩, b3, hB⟩ ⟨Bx, hBx, bX, rfl⟩ hlt
      have x1 := b1.cell
      have x2 := b2.cell
      have x3 := b3.cell
      have y0 : W.cell? ⟨Bx, 0, none⟩ = some (.int .i64 x.2.at_) := (kcl bX 0).trans rfl
      have y1 : W.cell? ⟨Bx, 1, none⟩ = some (.string x.2.text) := (kcl bX 1).trans rfl
      have f2 := b2.frozen
      have f3 := b3.frozen
      have HB := Aside0.mk hB
      have HP := Aside0.mk hp
      clear hB hp
      gi_wp2
      · have hx : x.2.at_ = a1 := beq_iff_eq.1 (by assumption)
        have hw1 : w.heap.size + 1 ≠ w.heap.size + 1 + 1 := by omega
        have hw2 : wb.heap.size ≤ W.heap.size := HB.out.size
        exact ⟨((KeepsOthers.setCell _ _ _).from _).trans ((KeepsOthers.setCell _ _ _).from _), ⟨rfl, pre, x, rfl, HP.out, hx, (b2.set _).other hw1 _, (b3.other (Ne.symm hw1) _).set _⟩, ((hB0.trans (HB.out.mono hws)).setCell (p := ⟨w.heap.size + 1, 0, none⟩) (Nat.le_succ _) _).setCell (p := ⟨w.heap.size + 1 + 1, 0, none⟩) (by simp; omega) _⟩
      · have hx : x.2.at_ ≠ a1 := beq_eq_false_iff_ne.1 (by assumption)
        exact ⟨KeepsFrom.refl _ _, Below.refl _ _, fun p hp' => (List.mem_append.1 hp').elim (HP.out p) (fun e => by simp at e; subst e; exact hx), ⟨b1, b2⟩, b3, HB.out⟩
    case done =>
      rintro D ys W hD rfl ⟨hp, ⟨b1, b2⟩, b3, hB⟩ hK
      have hBw := hB0.trans (hB.mono hws)
      have ⟨z1, z2⟩ := (HI.out.below hBw).secCell a1 h0 h1
      have ⟨z3, z4⟩ : W.cell? ⟨g, 0, none⟩ = _ ∧ _ := ⟨(HI.out.below hBw).c0, (HI.out.below hBw).fr 0⟩
      have x1 := b1.cell
      have x2 := b2.cell
      have x3 := b3.cell
      have f2 := b2.frozen
      have f3 := b3.frozen
      have EN := Aside0.mk (readB_none hp)
      have HB := Aside0.mk hBw
      clear hp hB hBw
      gi_wp2
      gi_region
      all_goals
        gi_wp2
        have hlt : a1.toNat < d.sec.length := by omega
        have hne : w.heap.size + 1 ≠ w.heap.size + 1 + 1 := by omega
        obtain ⟨t, ht⟩ : ∃ t, t = d.sec[a1.toNat] := ⟨_, rfl⟩
        rw [← ht]
        have hE : readB d a1 = t := by rw [EN.out, ht, List.getD_eq_getElem?_getD, List.getElem?_eq_getElem hlt]; rfl
        have hK1 : (((W.setCell ⟨w.heap.size + 1, 0, none⟩ (.string t)).setCell ⟨w.heap.size + 1 + 1, 0, none⟩ (.int .i64 0)).drew).heap[D]? = some (.deferred (some [])) := (KeepsOthers.setCell _ _ _).same D _ ((KeepsOthers.setCell _ _ _).same D _ hK rfl) rfl
        have c2' : Boxed (((W.setCell ⟨w.heap.size + 1, 0, none⟩ (.string t)).setCell ⟨w.heap.size + 1 + 1, 0, none⟩ (.int .i64 0)).drew) (w.heap.size + 1) 9 (.string t) := (b2.set _).other hne _
        have c3' : Boxed (((W.setCell ⟨w.heap.size + 1, 0, none⟩ (.string t)).setCell ⟨w.heap.size + 1 + 1, 0, none⟩ (.int .i64 0)).drew) (w.heap.size + 1 + 1) 23 (.int .i64 0) := (b3.other (Ne.symm hne) _).set _
        have hBz : Below w.heap.size w (((W.setCell ⟨w.heap.size + 1, 0, none⟩ (.string t)).setCell ⟨w.heap.size + 1 + 1, 0, none⟩ (.int .i64 0)).drew) := ((HB.out.setCell (p := ⟨w.heap.size + 1, 0, none⟩) (Nat.le_succ _) _).setCell (p := ⟨w.heap.size + 1 + 1, 0, none⟩) (by simp; omega) _).drew
        revert hK1 c2' c3' hBz
        generalize (((W.setCell ⟨w.heap.size + 1, 0, none⟩ (.string t)).setCell ⟨w.heap.size + 1 + 1, 0, none⟩ (.int .i64 0)).drew) = Wz
        intro hK1 c2' c3' hBz
        have hg := grownBy_putObj' Wz D (.deferred none)
        have hc2 := cell_kept c2'.cell hg (fun r e => by cases e; exact ⟨_, hK1, rfl⟩)
        have hc3 := cell_kept c3'.cell hg (fun r e => by cases e; exact ⟨_, hK1, rfl⟩)
        refine ⟨by simp, .inl ⟨_, _, rfl, run_takeDeferred hK1, ?_⟩⟩
        refine ⟨.tuple #[.string (readB d a1), .int .i64 0], ?_, rfl, hBz.trans (belowK_b (w := w) (Nat.le_refl _) Wz D _ _ (by omega) hK1 rfl rfl)⟩
        rw [hE]
        simp [results, Try.f44, go_sem, hc2, hc3]
    case stop =>
      rintro D c pre W hD ⟨k, hk, rfl⟩ ⟨⟨rfl, ini, last, e1, e2, e3, b2, b3⟩, hB⟩ hK
      have EN := Aside0.mk (readB_some hk e1 e2 e3)
      clear e1 e2 e3
      gi_wp2
      refine ⟨by simp, .inl ⟨_, _, rfl, run_takeDeferred hK, ?_⟩⟩
      have hg := grownBy_putObj' W D (.deferred none)
      have hc2 := cell_kept b2.cell hg (fun r e => by cases e; exact ⟨_, hK, rfl⟩)
      have hc3 := cell_kept b3.cell hg (fun r e => by cases e; exact ⟨_, hK, rfl⟩)
      refine ⟨.tuple #[.string (readB d a1), .int .i64 0], ?_, rfl, hB.trans (belowK_b (w := w) (Nat.le_refl _) W D _ _ (by omega) hK rfl rfl)⟩
      rw [EN.out]
      simp [results, Try.f44, go_sem, hc2, hc3]
theorem boxes3 (w : World) (v1 v2 v3 : Value) (t1 t2 t3 : TypeId) : (((w.alloc (.cells #[v1] t1)).alloc (.cells #[v2] t2)).alloc (.cells #[v3] t3)).drew.cell? ⟨w.heap.size + 1, 0, none⟩ = some v2 ∧ (((w.alloc (.cells #[v1] t1)).alloc (.cells #[v2] t2)).alloc (.cells #[v3] t3)).drew.cell? ⟨w.heap.size + 1 + 1, 0, none⟩ = some v3 ∧ Below w.heap.size w (((w.alloc (.cells #[v1] t1)).alloc (.cells #[v2] t2)).alloc (.cells #[v3] t3)).drew := by
  have b1 := Boxed.new (w.alloc (.cells #[v1] t1)) t2 v2
  rw [World.size_alloc] at b1
  have b2 := Boxed.new ((w.alloc (.cells #[v1] t1)).alloc (.cells #[v2] t2)) t3 v3
  rw [World.size_alloc, World.size_alloc] at b2
  exact ⟨(b1.alloc (.cells #[v3] t3)).cell, b2.cell, ((((Below.refl _ w).alloc (Nat.le_refl _) _).alloc (by simp) _).alloc (by simp; omega) _).drew⟩
set_option maxHeartbeats 1000000 in
theorem read_out (F : Fence) (n : Nat) (h15 : F.fn 44) (hro : F.round = none)
    (g : Nat) (d : Dv) (a1 : Int) (w0 w : World) (hI : IsDev w0 w g d) (h01 : a1 < 0 ∨ (d.sec.length : Int) ≤ a1) :
    CallsIn F n Try.prog 44 #[.pointer (some ⟨g, 0, none⟩), .int .i64 a1] w fun e w' => e = .returned (.tuple #[.string ⟨#[]⟩, .int .i64 4]) ∧ Below w.heap.size w w' := by
  obtain ⟨vs, vc, hI⟩ := hI
  obtain ⟨A, c, rfl⟩ : ∃ A c, vs = .slice A d.sec.length c := Kd.R_slice hI.sec
  have hqs : d.sec.length ≤ 9223372036854775807 := Kd.C_max (Kd.R_reads' hI.sec).2.2
  have hA0 := fun o1 o2 o3 => ((((hI.alloc o1).alloc o2).alloc o3)).c0
  have HI := Aside0.mk hI
  clear hI
  refine callsIn_of_wp_marks Try.func44 rfl h15 ?_ hro
  simp only [Try.ntmps44, List.size_toArray, List.length_cons, List.length_nil, Nat.reduceAdd, Nat.reduceSub, Array.replicate_succ, Array.replicate_zero, List.push_toArray, List.append_toArray, List.nil_append, List.cons_append]
  by_cases h2 : a1 < 0
  · have q1 : decide (a1 < 0) = true := decide_eq_true h2
    clear h01
    gi_wp2
    gi_region
    all_goals gi_wp2
    all_goals exact ⟨.tuple #[.string ⟨#[]⟩, .int .i64 4], by simp [results, Try.f44, go_sem, (boxes3 w (.int .i64 a1) (.string ⟨#[]⟩) (.int .i64 4) 3 9 23).1, (boxes3 w (.int .i64 a1) (.string ⟨#[]⟩) (.int .i64 4) 3 9 23).2.1], rfl, (boxes3 w _ _ _ _ _ _).2.2⟩
  · have q1 : decide (a1 < 0) = false := decide_eq_false h2
    have q2 : decide ((d.sec.length : Int) ≤ a1) = true := decide_eq_true (by omega)
    clear h01
    gi_wp2
    gi_region
    all_goals gi_wp2
    all_goals exact ⟨.tuple #[.string ⟨#[]⟩, .int .i64 4], by simp [results, Try.f44, go_sem, (boxes3 w (.int .i64 a1) (.string ⟨#[]⟩) (.int .i64 4) 3 9 23).1, (boxes3 w (.int .i64 a1) (.string ⟨#[]⟩) (.int .i64 4) 3 9 23).2.1], rfl, (boxes3 w _ _ _ _ _ _).2.2⟩
set_option maxHeartbeats 1000000 in
theorem read_down (F : Fence) (n : Nat) (h15 : F.fn 44) (hro : F.round = none)
    (g : Nat) (d : Dv) (a1 : Int) (w0 w : World) (hI : IsDev w0 w g d) (h0 : 0 ≤ a1) (h1 : a1 < (d.sec.length : Int)) (hd : d.down = true) :
    CallsIn F n Try.prog 44 #[.pointer (some ⟨g, 0, none⟩), .int .i64 a1] w fun e w' => e = .returned (.tuple #[.string ⟨#[]⟩, .int .i64 16]) ∧ Below w.heap.size w w' := by
  obtain ⟨vs, vc, hI⟩ := hI
  obtain ⟨A, c, rfl⟩ : ∃ A c, vs = .slice A d.sec.length c := Kd.R_slice hI.sec
  have hqs : d.sec.length ≤ 9223372036854775807 := Kd.C_max (Kd.R_reads' hI.sec).2.2
  have hA0 := fun o1 o2 o3 => ((((hI.alloc o1).alloc o2).alloc o3)).c0
  have hA3 := fun o1 o2 o3 => ((((hI.alloc o1).alloc o2).alloc o3)).c3
  rw [hd] at hA3
  have HI := Aside0.mk hI
  clear hI
  refine callsIn_of_wp_marks Try.func44 rfl h15 ?_ hro
  simp only [Try.ntmps44, List.size_toArray, List.length_cons, List.length_nil, Nat.reduceAdd, Nat.reduceSub, Array.replicate_succ, Array.replicate_zero, List.push_toArray, List.append_toArray, List.nil_append, List.cons_append]
  have q1 : decide (a1 < 0) = false := decide_eq_false (by omega)
  have q2 : decide ((d.sec.length : Int) ≤ a1) = false := decide_eq_false (by omega)
  gi_wp2
  gi_region
  all_goals gi_wp2
  all_goals exact ⟨.tuple #[.string ⟨#[]⟩, .int .i64 16], by simp [results, Try.f44, go_sem, (boxes3 w (.int .i64 a1) (.string ⟨#[]⟩) (.int .i64 16) 3 9 23).1, (boxes3 w (.int .i64 a1) (.string ⟨#[]⟩) (.int .i64 16) 3 9 23).2.1], rfl, (boxes3 w _ _ _ _ _ _).2.2⟩
theorem device_Read.calls (g : Nat) (d : Dv) (a1 : Int) (w0 w : World) (hI : IsDev w0 w g d) :
    Calls Try.prog 44 #[.pointer (some ⟨g, 0, none⟩), .int .i64 a1] w fun e w' => e = .returned (.tuple #[.string (dvRead d a1).1, .int .i64 (dvRead d a1).2]) ∧ Below w.heap.size w w' := by
  refine (callsIn_wide (n := 3)).1 ?_
  unfold dvRead
  by_cases h : a1 < 0 ∨ (d.sec.length : Int) ≤ a1
  · rw [if_pos h]; exact read_out _ 3 trivial rfl g d a1 w0 w hI h
  · rw [if_neg h]
    have h0 : 0 ≤ a1 := by omega
    have h1 : a1 < (d.sec.length : Int) := by omega
    cases hd : d.down with
    | false => exact read_in _ 3 trivial trivial trivial rfl (Nat.le_refl _) g d a1 w0 w hI h0 h1 hd
    | true => exact read_down _ 3 trivial rfl g d a1 w0 w hI h0 h1 hd
end Go.Proofs.Ytfllpmmfjbjgoaa

namespace Go.Proofs.Ytfllpmmfjbjgoaa
open Go.RowKit Go.Proofs.YtfllpmmfjbjgoaaW.PrintWords Go.Proofs.YtfllpmmfjbjgoaaW.PrintLast
section
variable {w0 w W W1 : World} {g : Nat} {vs vc v1 : Value} {d : Dv}
theorem Dev.lower (h : Dev w W g vs vc d) (hw : w0.heap.size ≤ w.heap.size) : Dev w0 W g vs vc d := ⟨Nat.le_trans hw h.ge, h.blk, Kd.R_lower h.sec hw, Kd.R_lower h.cache hw⟩
theorem Dev.secPushed {p : ByteArray} (h : Dev w0 W g vs vc d) (hg : W.grownBy W1 vs.ownBlock) (ho : Kd.R Kd.string 9 W1 w0.heap.size (fun _ => True) v1 (d.sec ++ [p])) :
    Dev w0 (W1.setCell ⟨g, 0, none⟩ v1) g v1 vc { d with sec := d.sec ++ [p] } := by
  have hb := blk_grown h.blk hg (Kd.R_ne h.sec h.blk (by decide))
  refine ⟨h.ge, by simpa using blk_set hb 0 v1, Kd.R_set ho hb (fun q hq => by rw [secE hq]; decide) 0 v1, Kd.R_set ?_ hb (fun q hq => by rw [cacheE hq]; decide) 0 v1⟩
  exact Kd.R_mono (Kd.R_grown (R_row (fun h => flatWr h) h.cache) hg (fun k hk e => h.ne_rows e.symm hk)) (fun _ _ => trivial)
end
section
variable {P : Program} {ops : Array Oper} {o : Oper} {a : Act} {Q : Exit → Act → World → Prop} {Kc : Act → World → Prop}
theorem str_step {E : Prop} {w0 w1 : World} (W : World) (hgd : o.guard = none) (s x : Operand) (t e : TypeId) (ho : o.op = .call { callee := .builtin .append, args := #[s, x], argTypes := #[t, t] })
    (ht : P.underlying t = some (.slice e)) (hinfo : (P.info? e).map (fun i => (i.zero, i.size, i.bytes)) = some (some (.string ByteArray.empty), 1, 16))
    (v : Value) (xs : List ByteArray) (p : ByteArray) (hw1 : w1 = W.alloc (.cells #[.string p] e)) (hs : a.eval s = v) (hx : a.eval x = .slice (some ⟨W.heap.size, 0, none⟩) 1 1)
    (HO : Kd.R Kd.string e W w0.heap.size (fun _ => True) v xs) (HB : Below w0.heap.size w0 W) (hl : (xs.length + 1) * 16 ≤ 140737488355328)
    (h : ∀ v1 w1, Kd.R Kd.string e w1 w0.heap.size (fun _ => True) v1 (xs ++ [p]) → Below w0.heap.size w0 w1 → W.grownBy w1 v.ownBlock → (v1.ownBlock = v.ownBlock ∨ ∃ b, v1.ownBlock = some b ∧ W.heap.size ≤ b) → Kc (a.put o.dst v1) w1) :
    if Region.wanted o (yielded ops a.tmps) = true then Oper.wp P o a w1 Kc Q else E := by
  subst hw1
  have hw : Region.wanted o (yielded ops a.tmps) = true := by simp [Region.wanted, hgd]
  have h1 := Kd.R_append_step (P := P) (Q := Q) (Kc := Kc) Kd.string (w0 := w0) (W := W) w0.heap.size hw s x t e (.string ByteArray.empty) 16 ho ht hinfo rfl (by decide) (by omega) v xs p [.string p] (fun _ => True) (fun _ => False) hs hx rfl (fun _ hk => hk.elim) (fun _ _ => trivial) HO HB HB.size (by omega) h
  rw [if_pos hw] at h1 ⊢
  exact h1
end
theorem infoStr : (Try.prog.info? 9).map (fun i => (i.zero, i.size, i.bytes)) = some (some (.string ByteArray.empty), 1, 16) := by kernel_rfl
def dvNew (n : Nat) : Dv := { sec := List.replicate n Z64, cache := [], left := -1, down := false, calls := 0 }
theorem dev_new (w0 w : World) (hB : Below w0.heap.size w0 w) : Dev w0 (w.alloc (.cells #[.slice none 0 0, .slice none 0 0, .int .i64 (-1), .bool false, .int .i64 0] 77)) w.heap.size (.slice none 0 0) (.slice none 0 0) (dvNew 0) :=
  ⟨hB.size, heap_alloc_new w _, Kd.R_nil _ _ _ _ _, Kd.R_nil _ _ _ _ _⟩
set_option maxHeartbeats 4000000 in
theorem device_New_good (n : Nat) (w0 w : World) (hB : Below w0.heap.size w0 w) (h1 : 1 ≤ n) (h2 : n ≤ 65536) :
    Calls Try.prog 10 #[.int .i64 n] w fun e w' => e = .returned (.tuple #[.pointer (some ⟨w.heap.size, 0, none⟩), .int .i64 0]) ∧ IsDev w0 w' w.heap.size (dvNew n) ∧ Below w0.heap.size w0 w' ∧ Below w.heap.size w w' := by
  have q1 : decide ((n : Int) < 1) = false := decide_eq_false (by omega)
  have q2 : decide ((65536 : Int) < (n : Int)) = false := decide_eq_false (by omega)
  have HD := Aside0.mk (dev_new w w (Below.refl _ _))
  have HB := Aside0.mk hB
  have HW := Aside0.mk ((Below.refl w.heap.size w).alloc (Nat.le_refl _) (.cells #[.slice none 0 0, .slice none 0 0, .int .i64 (-1), .bool false, .int .i64 0] 77))
  clear hB
  go_enter Try.func10, Try.ntmps10
  go_wp2
  go_loopw [14] (fun v14 wr => ∃ i : Nat, v14 = .int .i64 i ∧ i ≤ n ∧ Aside0 (∃ vs, Dev w wr w.heap.size vs (.slice none 0 0) (dvNew i)) ∧ Aside0 (Below w.heap.size w wr)) (fun v14 _ => n - (intOf v14).toNat)
  case atStart => exact ⟨0, rfl, Nat.zero_le _, ⟨_, HD.out⟩, HW⟩
  case round =>
    obtain ⟨i, rfl, hi, HD1, HW1⟩ := hrel
    clear HD HW
    obtain ⟨vs, hD⟩ := HD1.out
    clear HD1
    by_cases c1 : i < n
    · obtain ⟨A1, k1, e1⟩ := Kd.R_slice hD.sec
      have e2 : (dvNew i).sec.length = i := List.length_replicate
      rw [e2] at e1
      subst e1
      have hcell := hD.c0
      have hcell2 := (hD.alloc zObj).c0
      have hcell3 : ∀ o, ((wr.alloc zObj).alloc o).cell? ⟨w.heap.size, 0, none⟩ = some (.slice A1 i k1) := fun o => ((hD.alloc zObj).alloc o).c0
      have HD2 := Aside0.mk hD
      have HDz : Aside0 (Dev w (wr.alloc zObj).drew w.heap.size (.slice A1 i k1) (.slice none 0 0) (dvNew i)) := ⟨(hD.alloc zObj).drew⟩
      have T1 := fun (ops : Array Oper) (o : Oper) (a : Act) (Q : Exit → Act → World → Prop) (Kc : Act → World → Prop) (E : Prop) (hgd : o.guard = none) (ho : o.op = .call { callee := .builtin .append, args := #[(.tmp 20), (.tmp 22)], argTypes := #[69, 69] }) => str_step (P := Try.prog) (ops := ops) (o := o) (a := a) (Q := Q) (Kc := Kc) (E := E) (w0 := w) (w1 := ((wr.alloc zObj).alloc (.cells #[.string Z64] 9)).drew) (wr.alloc zObj).drew hgd (.tmp 20) (.tmp 22) 69 9 ho Try.underlying69 infoStr (.slice A1 i k1) (dvNew i).sec Z64 rfl
      have T2 := fun ops o a Q Kc E hgd ho hs hx h => T1 ops o a Q Kc E hgd ho hs hx HDz.out.sec (bal HW1.out zObj).drew (by rw [e2]; omega) h
      have HT2 := Aside0.mk T2
      clear T1 T2 hD e2
      go_wp2
      go_region_law (first | (refine HT2.out _ _ _ _ _ _ rfl rfl (by simp [Act.eval]) (by simp [Act.eval]) ?_; intro v1 w2 ho hb hg1 hat; have hb2 := blk_grown HDz.out.blk hg1 (Kd.R_ne HDz.out.sec HDz.out.blk (by decide)); have hce := (kcl hb2 0).trans rfl; have hfe := kfr hb2 0; obtain ⟨A2, k2, e2⟩ := Kd.R_slice ho; subst e2; clear hb2; have HO := Aside0.mk ho; have HB2 := Aside0.mk hb; have HG := Aside0.mk hg1; clear ho hb hg1 hat) | (go_simp; go_at_call 36; refine (zeros_calls _).mono ?_; rintro e wz ⟨rfl, rfl⟩))
      all_goals
        have hp := HDz.out.secPushed HG.out HO.out
        have e9 : (⟨(dvNew i).sec ++ [Z64], (dvNew i).cache, (dvNew i).left, (dvNew i).down, (dvNew i).calls⟩ : Dv) = dvNew (i + 1) := by
          simp [dvNew, List.replicate_succ']
        rw [e9] at hp
        simp only [List.length_append, List.length_cons, List.length_nil, Nat.zero_add] at hp
        have HP := Aside0.mk hp
        clear hp e9
        go_wp2
        go_roundw
        case rel => exact ⟨i + 1, by go_num, by omega, ⟨_, HP.out⟩, ⟨HB2.out.setCell (p := ⟨w.heap.size, 0, none⟩) (Nat.le_refl _) _⟩⟩
        case measure => simp [intOf]; omega
    · obtain rfl : i = n := by omega
      have HD2 := Aside0.mk hD
      clear hD
      go_wp2
      go_ret2
      exact ⟨rfl, ⟨_, _, HD2.out.lower HB.out.size⟩, below_weaken HB.out HB.out.size HW1.out, HW1.out⟩
end Go.Proofs.Ytfllpmmfjbjgoaa

namespace Go.Proofs.Ytfllpmmfjbjgoaa
open Go.RowKit
structure Up (d : Dv) (sec : List ByteArray) (cache : List Wr) : Prop where
  sec : d.sec = sec
  cache : d.cache = cache
  left : d.left = -1
  down : d.down = false
theorem Up.call {d : Dv} {sec : List ByteArray} {cache : List Wr} (h : Up d sec cache) : (dvCall d).1 = true ∧ Up (dvCall d).2 sec cache := by
  unfold dvCall
  rw [if_neg (by rw [h.down]; decide), if_neg (by rw [h.left]; decide), if_neg (by rw [h.left]; decide)]
  exact ⟨rfl, h.sec, h.cache, h.left, h.down⟩
theorem Up.write {d : Dv} {sec : List ByteArray} {cache : List Wr} (h : Up d sec cache) (a : Int) (s : ByteArray) (h0 : 0 ≤ a) (h1 : a < sec.length) (hs : s.size ≤ 64) : (dvWrite d a s).1 = 0 ∧ Up (dvWrite d a s).2 sec (cache ++ [⟨a, pad s⟩]) := by
  have hl := congrArg List.length h.sec
  obtain ⟨e, hu⟩ := h.call
  unfold dvWrite
  rw [if_neg (by omega), if_neg (by rw [e]; decide)]
  exact ⟨rfl, hu.sec, by simp only [hu.cache], hu.left, hu.down⟩
theorem Up.flush {d : Dv} {sec : List ByteArray} {cache : List Wr} (h : Up d sec cache) : (dvFlush d).1 = 0 ∧ Up (dvFlush d).2 (lastB sec cache) [] := by
  obtain ⟨e, hu⟩ := h.call
  unfold dvFlush
  rw [if_neg (by rw [e]; decide)]
  exact ⟨rfl, by simp only [h.sec, h.cache], rfl, hu.left, hu.down⟩
theorem Up.read {d : Dv} {sec : List ByteArray} {cache : List Wr} (h : Up d sec cache) (a : Int) : dvRead d a = if a < 0 ∨ (sec.length : Int) ≤ a then (⟨#[]⟩, 4) else (readB { sec := sec, cache := cache, left := 0, down := false, calls := 0 } a, 0) := by
  have hl := congrArg List.length h.sec
  unfold dvRead
  rw [hl, h.down]
  split
  · rfl
  · unfold readB; simp only [h.cache, h.sec]; rfl
theorem pad_full (s : ByteArray) (h : s.size = 64) : pad s = s := by
  unfold pad
  rw [h, show Z64.extract 64 64 = ⟨#[]⟩ from by decide +kernel]; exact ByteArray.append_empty
end Go.Proofs.Ytfllpmmfjbjgoaa

namespace Go.Proofs.Ytfllpmmfjbjgoaa
open Go.RowKit Go.Proofs.YtfllpmmfjbjgoaaW.PrintWords Go.Proofs.YtfllpmmfjbjgoaaW.PrintLast
def IdxOk (l : List Int) (x : Int) (e : Ending) : Prop := ∃ n : Int, e = .returned (.int .i64 n) ∧ decide (0 ≤ n) = l.contains x
set_option maxHeartbeats 1000000 in
theorem index_calls (A : Option Addr) (c : Nat) (l : List Int) (x : Int) (w : World) (hC : Kd.C (Kd.int .i64) w A l.length l) :
    Calls Try.prog 60 #[.slice A l.length c, .int .i64 x] w fun e w' => IdxOk l x e ∧ w' = w := by
  have hm := Kd.C_max hC
  have HC := Aside0.mk hC
  clear hC
  go_enter Try.func60, Try.ntmps60
  go_wp2
  go_loop [8] (fun v8 => ∃ i : Nat, v8 = .int .i64 i ∧ i ≤ l.length ∧ Aside0 (l.contains x = (l.drop i).contains x)) (fun v8 => l.length - (intOf v8).toNat)
  case atStart => exact ⟨0, rfl, Nat.zero_le _, ⟨rfl⟩⟩
  case round =>
    obtain ⟨i, rfl, hi, HS⟩ := hrel
    by_cases c1 : i < l.length
    · have hp : (0 : Int) ≤ (i : Int) := by omega
      have hq : (i : Int) < (l.length : Int) := by omega
      obtain ⟨ad, e1, hx⟩ := Kd.at_int HC.out (i : Int) hp hq
      cases e1
      have he : rd l (i : Int) = l[i] := by simp [rd, List.getD_eq_getElem?_getD, c1]
      rw [he, Int.toNat_natCast] at hx
      obtain ⟨y, hy⟩ : ∃ y, y = l[i] := ⟨_, rfl⟩
      rw [← hy] at hx
      have hS := HS.out
      rw [List.drop_eq_getElem_cons c1, ← hy, List.contains_cons] at hS
      have HS2 := Aside0.mk hS
      clear hS hy he
      by_cases c2 : x = y
      · subst c2
        have hb : (x == x) = true := by simp
        go_wp2
        go_ret
        exact ⟨⟨_, rfl, by rw [HS2.out]; simp⟩, rfl⟩
      · have hb : (x == y) = false := beq_eq_false_iff_ne.2 c2
        have HC2 := Aside0.mk c2
        clear c2
        go_wp2
        go_round
        case rel => exact ⟨i + 1, by go_num, by omega, ⟨by rw [HS2.out, hb, Bool.false_or]⟩⟩
        case measure => simp [intOf]; omega
    · obtain rfl : i = l.length := by omega
      go_wp2
      go_ret
      exact ⟨⟨_, rfl, by rw [HS.out]; simp⟩, rfl⟩
set_option maxHeartbeats 1000000 in
theorem contains_calls (A : Option Addr) (c : Nat) (l : List Int) (x : Int) (w : World) (hC : Kd.C (Kd.int .i64) w A l.length l) :
    Calls Try.prog 46 #[.slice A l.length c, .int .i64 x] w fun e w' => e = .returned (.bool (l.contains x)) ∧ w' = w := by
  have hc := index_calls A c l x w hC
  clear hC
  go_enter Try.func46, Try.ntmps46
  go_wp2_with (go_at_call 60; refine hc.mono ?_; rintro e w' ⟨⟨n, rfl, hn⟩, rfl⟩; have HN := Aside0.mk hn; clear hn)
  go_ret
  exact ⟨by rw [← HN.out]; rfl, rfl⟩
def pick (keep : List Int) (l : List Wr) : List Wr := (l.zipIdx.filter fun p => keep.contains (p.2 : Int)).map (·.1)
theorem pick_snoc (keep : List Int) (l : List Wr) (x : Wr) : pick keep (l ++ [x]) = pick keep l ++ (if keep.contains (l.length : Int) then [x] else []) := by
  unfold pick
  rw [List.zipIdx_append, List.filter_append, List.map_append]
  congr 1
  simp only [List.zipIdx_cons, List.zipIdx_nil, Nat.zero_add, List.filter_cons, List.filter_nil]
  split <;> rfl
def dvCrash (d : Dv) (keep : List Int) : Dv := { sec := lastB d.sec (pick keep d.cache), cache := [], left := -1, down := false, calls := d.calls }
set_option maxHeartbeats 4000000 in
theorem device_Crash.calls (g : Nat) (d : Dv) (A1 : Option Addr) (k1 : Nat) (keep : List Int) (w0 w : World) (hI : IsDev w0 w g d) (hB : Below w0.heap.size w0 w) (hok : DvOk d) (hf : ∀ W_, Kept w W_ (Foot w g) → Kd.C (Kd.int .i64) W_ A1 keep.length keep) :
    Calls Try.prog 33 #[.pointer (some ⟨g, 0, none⟩), .slice A1 keep.length k1] w fun e w' => e = .returned (.tuple #[]) ∧ IsDev w0 w' g (dvCrash d keep) ∧ Below w0.heap.size w0 w' ∧ DevKeep w w' g := by
  obtain ⟨vs, vc, hI⟩ := hI
  obtain ⟨sec1, cache1, left1, down1, calls1⟩ := d
  unfold dvCrash
  unfold DvOk at hok
  dsimp only at hok ⊢
  have HI := Aside0.mk hI
  have HB := Aside0.mk hB
  have HOK2 := Aside0.mk hok
  have HF := Aside0.mk hf
  obtain ⟨A2, k2, rfl⟩ : ∃ A c, vc = .slice A cache1.length c := Kd.R_slice HI.out.cache
  have hcm : cache1.length ≤ 9223372036854775807 := Kd.C_max (Kd.R_reads' HI.out.cache).2.2
  have hce := HI.out.c1
  clear hI hB hok hf
  go_enter Try.func33, Try.ntmps33
  go_wp2
  have HK := Aside0.mk (DevKeep.refl w g)
  go_loopw [11] (fun v11 wr => ∃ (i : Nat) (s : List ByteArray), v11 = .int .i64 i ∧ i ≤ cache1.length ∧ Aside0 (s = lastB sec1 (pick keep (cache1.take i))) ∧ Aside0 (Dev w0 wr g vs (.slice A2 cache1.length k2) ⟨s, cache1, left1, down1, calls1⟩) ∧ Aside0 (Below w0.heap.size w0 wr) ∧ Aside0 (DevKeep w wr g)) (fun v11 _ => cache1.length - (intOf v11).toNat)
  case atStart => exact ⟨0, sec1, rfl, Nat.zero_le _, ⟨rfl⟩, HI, HB, HK⟩
  case round =>
    obtain ⟨i, s, rfl, hi, HS, HD2, HB2, HK2⟩ := hrel
    clear HK hce
    by_cases c1 : i < cache1.length
    · obtain ⟨x, hx⟩ : ∃ x, x = cache1[i] := ⟨_, rfl⟩
      have hm : x ∈ cache1 := by rw [hx]; exact List.getElem_mem c1
      have hr := HOK2.out x hm
      have hgx : cache1.getD i ⟨0, ByteArray.empty⟩ = x := by rw [List.getD_eq_getElem?_getD, List.getElem?_eq_getElem c1, hx]; rfl
      have hsl : s.length = sec1.length := by rw [HS.out, lastB_length]
      obtain ⟨bs, cs, rfl⟩ := R_head HD2.out.sec (by dsimp only; omega)
      obtain ⟨ad, rfl, hc1, hc2⟩ := HD2.out.cacheCell (i : Int) (by omega) (by dsimp only; omega)
      dsimp only at hc1 hc2
      rw [Int.toNat_natCast, hgx] at hc1 hc2
      have hp0 : (0 : Int) ≤ (i : Int) := by omega
      have hp1 : (i : Int) < (cache1.length : Int) := by omega
      have hq0 := hr.1
      have hq1 : x.at_ < (s.length : Int) := by omega
      have hD3 : ∀ o, Dev w0 (wr.alloc o) g (.slice (some ⟨bs, 0, none⟩) s.length cs) (.slice (some ad) cache1.length k2) ⟨s, cache1, left1, down1, calls1⟩ := fun o => HD2.out.alloc o
      have hz0 := fun o => (hD3 o).c0
      have hz1 := fun o => ((hD3 o).secCell x.at_ hq0 hq1).1
      have hz2 := fun o => ((hD3 o).secCell x.at_ hq0 hq1).2
      have hpk : pick keep (cache1.take (i + 1)) = pick keep (cache1.take i) ++ (if keep.contains (i : Int) then [x] else []) := by
        rw [List.take_succ_eq_append_getElem c1, pick_snoc, ← hx, List.length_take, Nat.min_eq_left (by omega)]
      have HPK := Aside0.mk hpk
      have HD3 := Aside0.mk hD3
      have hqs : s.length ≤ 9223372036854775807 := Kd.C_max (Kd.R_reads' HD2.out.sec).2.2
      have hcon := contains_calls A1 k1 keep (i : Int) (wr.alloc (.cells #[.int .i64 x.at_, .string x.text] 87)) (HF.out _ (HK2.out.kept.alloc _))
      have HCON := Aside0.mk hcon
      clear hx hm hr hgx hD3 hpk hcon
      cases hbk : keep.contains (i : Int) with
      | false =>
        rw [hbk] at HCON HPK
        clear hbk
        go_wp2_with (go_at_call 46; refine HCON.out.mono ?_; rintro e w' ⟨rfl, rfl⟩)
        go_roundw
        case rel => exact ⟨i + 1, s, by go_num, by omega, ⟨by rw [HPK.out, HS.out]; simp⟩, ⟨HD3.out _⟩, ⟨bal HB2.out _⟩, ⟨HK2.out.below HD2.out.lt (bal (Below.refl _ _) _)⟩⟩
        case measure => simp [intOf]; omega
      | true =>
        rw [hbk] at HCON HPK
        clear hbk
        go_wp2_with (go_at_call 46; refine HCON.out.mono ?_; rintro e w' ⟨rfl, rfl⟩)
        go_region
        all_goals
          go_wp2
          go_roundw
          case rel => exact ⟨i + 1, s.set x.at_.toNat x.text, by go_num, by omega, ⟨by rw [HPK.out]; simp only [if_true]; rw [lastB_snoc, ← HS.out]⟩, ⟨((HD3.out _).secPut x.at_ x.text).drew⟩,
            ⟨((bal HB2.out _).setCell (p := ⟨bs, x.at_.toNat, none⟩) ((HD3.out (.cells #[] 0)).foot_lt (.inr ⟨_, (HD3.out (.cells #[] 0)).blk, _, .inl rfl, rfl⟩)).2 _).drew⟩, ⟨((HK2.out.below HD2.out.lt (bal (Below.refl _ _) _)).secPut (HD3.out _) x.at_ x.text).drew⟩⟩
          case measure => simp [intOf]; omega
    · obtain rfl : i = cache1.length := by omega
      have hS := HS.out
      rw [List.take_length] at hS
      subst hS
      have hd1 := HD2.out.dry
      have hd2 : Dev w0 ((wr.setCell ⟨g, 1, none⟩ (.slice none 0 0)).setCell ⟨g, 3, none⟩ (.bool false)) g vs (.slice none 0 0) ⟨lastB sec1 (pick keep cache1), [], left1, false, calls1⟩ := hd1.num rfl rfl rfl
      have hd3 : Dev w0 (((wr.setCell ⟨g, 1, none⟩ (.slice none 0 0)).setCell ⟨g, 3, none⟩ (.bool false)).setCell ⟨g, 2, none⟩ (.int .i64 (-1))) g vs (.slice none 0 0) ⟨lastB sec1 (pick keep cache1), [], -1, false, calls1⟩ := hd2.num rfl rfl rfl
      have hk3 := ((HK2.out.dry HD2.out).num hd1 hd2).num hd2 hd3
      have z1 := HD2.out.c1
      have z2 := HD2.out.fr 1
      have z3 := hd1.c3
      have z4 := hd1.fr 3
      have z5 := hd2.c2
      have z6 := hd2.fr 2
      have HDD := Aside0.mk hd3
      have HKK := Aside0.mk hk3
      clear hd1 hd2 hd3 hk3
      go_wp2
      go_end0
      exact ⟨rfl, ⟨_, _, HDD.out⟩, ((HB2.out.setCell (p := ⟨g, 1, none⟩) HD2.out.ge _).setCell (p := ⟨g, 3, none⟩) HD2.out.ge _).setCell (p := ⟨g, 2, none⟩) HD2.out.ge _, HKK.out⟩
end Go.Proofs.Ytfllpmmfjbjgoaa

namespace Go.Proofs.Ytfllpmmfjbjgoaa
open Go.RowKit Go.Proofs.YtfllpmmfjbjgoaaW.PrintWords
def ByteRow (w : World) (e g : Nat) (l : List UInt8) : Prop :=
  ∃ pad m, w.heap[g]? = some (.cells ((l.map fun b => Value.int .u8 b.toNat) ++ pad).toArray e m) ∧ l.length ≤ m.1
theorem ByteRow.cell {w : World} {e g : Nat} {l : List UInt8} (h : ByteRow w e g l) (i : Nat) (hi : i < l.length) : w.cell? ⟨g, i, none⟩ = some (.int .u8 (l.getD i 0).toNat) := by
  obtain ⟨pad, m, hb, hm⟩ := h
  simp [World.cell?, hb, List.getElem?_append, hi]
theorem ByteRow.frozen {w : World} {e g : Nat} {l : List UInt8} (h : ByteRow w e g l) (i : Nat) (hi : i < l.length) : w.frozen? ⟨g, i, none⟩ = false := by
  obtain ⟨pad, m, hb, hm⟩ := h
  simp [World.frozen?, hb]
  omega
theorem ByteRow.set {w : World} {e g : Nat} {l : List UInt8} (h : ByteRow w e g l) (i : Nat) (hi : i < l.length) (b : UInt8) : ByteRow (w.setCell ⟨g, i, none⟩ (.int .u8 b.toNat)) e g (l.set i b) := by
  obtain ⟨pad, m, hb, hm⟩ := h
  refine ⟨pad, m, ?_, by simpa using hm⟩
  simp [World.setCell, Array.getElem?_modify, hb, hi, List.map_set]
theorem ByteRow.drew {w : World} {e g : Nat} {l : List UInt8} (h : ByteRow w e g l) (n : Nat) : ByteRow (w.drewN n) e g l := h
theorem ByteRow.lt {w : World} {e g : Nat} {l : List UInt8} (h : ByteRow w e g l) : g < w.heap.size := by
  obtain ⟨pad, m, hb, hm⟩ := h
  exact blk_lt hb
theorem ByteRow.of_conv (w : World) (e : Nat) (s : ByteArray) : ByteRow (Lib.bytesWorld w e s) e w.heap.size s.data.toList := by
  refine ⟨List.replicate (grownCap w s.size 0 e - s.size) (.int .u8 0), ((Lib.bytesCells w e s).size, (Lib.bytesCells w e s).size + 1), ?_, ?_⟩
  · rw [Lib.bytesWorld_at_new]
    congr 2
    apply Array.ext'
    simp [Lib.bytesCells]
  · simp [Lib.bytesCells]
theorem below_conv (w : World) (e : Nat) (s : ByteArray) : Below w.heap.size w (Lib.bytesWorld w e s) :=
  ⟨rfl, rfl, rfl, by rw [Lib.bytesWorld_size]; omega, fun k hk => Lib.bytesWorld_at_old w e s k hk⟩
theorem bits_xor_nat (k : IntKind) (j : Nat) (hj : j = k.bits) (hk : ∀ n : Int, 0 ≤ n → n < 2 ^ j → k.wrap n = n) (a b : Nat) (ha : a < 2 ^ j) (hb : b < 2 ^ j) :
    Go.bits .xor k a b = ((a ^^^ b : Nat) : Int) := by
  subst hj
  have cast : ∀ n : Nat, n < 2 ^ k.bits → ((n : Nat) : Int) < 2 ^ k.bits := fun n h => by exact_mod_cast h
  simp only [Go.bits, BitVec.ofInt_natCast, BitVec.toNat_xor, BitVec.toNat_ofNat, Nat.mod_eq_of_lt ha, Nat.mod_eq_of_lt hb]
  exact hk _ (Int.natCast_nonneg _) (cast _ (Nat.xor_lt_two_pow ha hb))
theorem bits_xor_32 (a b : Nat) (ha : a < 4294967296) (hb : b < 4294967296) : Go.bits .xor .u32 a b = ((a ^^^ b : Nat) : Int) :=
  bits_xor_nat .u32 32 rfl (fun n h0 h1 => by rw [IntKind.wrap_u32]; omega) a b ha hb
theorem bits_and_32 (a b : Nat) (ha : a < 4294967296) (hb : b < 4294967296) : Go.bits .and .u32 a b = ((a &&& b : Nat) : Int) :=
  (bits_nat .u32 32 (by decide) (fun n h0 h1 => by rw [IntKind.wrap_u32]; omega) a b ha hb).1
end Go.Proofs.Ytfllpmmfjbjgoaa

namespace Go.Proofs.Ytfllpmmfjbjgoaa.CrcM
def poly : Nat := 3988292384
def bstep (n : Nat) : Nat := n / 2 ^^^ (if n % 2 = 1 then poly else 0)
def iter : Nat → Nat → Nat
  | 0, n => n
  | k + 1, n => iter k (bstep n)
def byteStep (n c : Nat) : Nat := iter 8 (n ^^^ c)
def run (n : Nat) (l : List UInt8) : Nat := l.foldl (fun n c => byteStep n c.toNat) n
def sum (l : List UInt8) : Nat := 4294967295 ^^^ run 4294967295 l
def num : List UInt8 → Nat
  | [] => 0
  | c :: l => c.toNat ^^^ (num l <<< 8)
theorem poly_lt : poly < 2 ^ 32 := by decide
theorem bstep_lt (x : Nat) (h : x < 2 ^ 32) : bstep x < 2 ^ 32 := by
  unfold bstep
  refine Nat.xor_lt_two_pow (by omega) ?_
  split
  · exact poly_lt
  · decide
theorem iter_lt (k : Nat) : ∀ x, x < 2 ^ 32 → iter k x < 2 ^ 32 := by
  induction k with
  | zero => intro x h; exact h
  | succ k ih => intro x h; exact ih _ (bstep_lt x h)
theorem run_lt (n : Nat) (l : List UInt8) (h : n < 2 ^ 32) : run n l < 2 ^ 32 := by
  induction l generalizing n with
  | nil => exact h
  | cons c l ih => exact ih _ (iter_lt 8 _ (Nat.xor_lt_two_pow h (Nat.lt_trans c.toNat_lt (by decide))))
theorem sum_lt (l : List UInt8) : sum l < 2 ^ 32 := Nat.xor_lt_two_pow (by decide) (run_lt _ l (by decide))
theorem run_append (n : Nat) (l m : List UInt8) : run n (l ++ m) = run (run n l) m := by simp [run, List.foldl_append]
end Go.Proofs.Ytfllpmmfjbjgoaa.CrcM

