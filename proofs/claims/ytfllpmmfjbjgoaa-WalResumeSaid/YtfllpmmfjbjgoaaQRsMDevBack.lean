import Derived.Test.YtfllpmmfjbjgoaaProg
import Derived.Test.YtfllpmmfjbjgoaaQRsWMore
import Derived.Test.YtfllpmmfjbjgoaaQRsWWords
import Derived.RegionTactic
import Derived.ChangeAlike
import Derived.OwnWalk
import Derived.Deep.DeepMust
import Derived.Deep.RegionLaw
import Derived.Deep.LoopGhost
import Derived.Deep.QuietTactic
import Derived.BigQuiet
import Derived.RangeFuncNested
import Derived.RangeFuncBound
import Derived.RangeFuncCalls
import Derived.RangeFuncLeaves
import Derived.Shelf.Abstract
import Derived.Shelf.RegionOpen
import Derived.OwnWalkIn
import Derived.TacticsInMore
import Derived.LoopNIn
import Derived.LoopIn
namespace Go.Proofs.Ytfllpmmfjbjgoaa
open Go.RowKit Go.Proofs.YtfllpmmfjbjgoaaW.PrintWords Go.Proofs.YtfllpmmfjbjgoaaW.PrintLast
structure Wr where
  at_ : Int
  text : ByteArray
structure Dv where
  sec : List ByteArray
  cache : List Wr
  left : Int
  down : Bool
  calls : Int
def kWr : Kd Wr := Kd.iso (Kd.pair (Kd.int .i64) Kd.string) (fun x => (x.at_, x.text))
theorem kWr_open {w : World} {x : Wr} {cs : List Value} (h : kWr.K w x cs) : cs = [.int .i64 x.at_, .string x.text] := by
  obtain ⟨_, _, rfl, rfl, rfl⟩ := h
  exact rfl
theorem kWr_mkM (w : World) (base : Nat) (ok : Nat → Prop) (x : Wr) : kWr.M w base ok x [.int .i64 x.at_, .string x.text] := ⟨[.int .i64 x.at_], [.string x.text], rfl, rfl, rfl⟩
structure Dev (w0 W : World) (g : Nat) (vs vc : Value) (d : Dv) : Prop where
  ge : w0.heap.size ≤ g
  blk : W.heap[g]? = some (.cells #[vs, vc, .int .i64 d.left, .bool d.down, .int .i64 d.calls] 77 (0, 0))
  sec : Kd.R Kd.string 9 W w0.heap.size (fun _ => True) vs d.sec
  cache : Kd.R kWr 87 W w0.heap.size (fun _ => True) vc d.cache
def IsDev (w0 W : World) (g : Nat) (d : Dv) : Prop := ∃ vs vc, Dev w0 W g vs vc d
def Foot (W : World) (g : Nat) (k : Nat) : Prop := k = g ∨ ∃ cs, W.heap[g]? = some (.cells cs 77 (0, 0)) ∧ ∃ v, (cs[0]? = some v ∨ cs[1]? = some v) ∧ v.ownBlock = some k
structure DevKeep (w W : World) (g : Nat) : Prop where
  kept : Kept w W (Foot w g)
  foot : ∀ k, Foot W g k → Foot w g k ∨ w.heap.size ≤ k
section
variable {w0 w W W1 : World} {g : Nat} {vs vc : Value} {d : Dv}
theorem Dev.lt (h : Dev w0 W g vs vc d) : g < W.heap.size := blk_lt h.blk
theorem Dev.foot_iff (h : Dev w0 W g vs vc d) (k : Nat) : Foot W g k ↔ k = g ∨ vs.ownBlock = some k ∨ vc.ownBlock = some k := by
  constructor
  · rintro (h1 | ⟨cs, hb, v, hv, hk⟩)
    · exact .inl h1
    · rw [h.blk] at hb
      injection hb with hb
      injection hb with hb _ _
      subst hb
      rcases hv with hv | hv
      · simp at hv; subst hv; exact .inr (.inl hk)
      · simp at hv; subst hv; exact .inr (.inr hk)
  · rintro (h1 | h1 | h1)
    · exact .inl h1
    · exact .inr ⟨_, h.blk, vs, .inl rfl, h1⟩
    · exact .inr ⟨_, h.blk, vc, .inr rfl, h1⟩
theorem R_own_lt {α : Type} {k : Kd α} {e base : Nat} {ok : Nat → Prop} {v : Value} {xs : List α} (h : k.R e W base ok v xs) (b : Nat) (hb : v.ownBlock = some b) : b < W.heap.size ∧ base ≤ b ∧ ∃ cs, W.heap[b]? = some (.cells cs e (0, 0)) := by
  obtain ⟨cs, hc⟩ := Kd.R_typed h b hb
  obtain ⟨inner, ho⟩ := Kd.R_own h
  exact ⟨blk_lt hc, own_base ho b hb, cs, hc⟩
theorem Dev.foot_lt (h : Dev w0 W g vs vc d) {k : Nat} (hk : Foot W g k) : k < W.heap.size ∧ w0.heap.size ≤ k := by
  rcases (h.foot_iff k).1 hk with rfl | h1 | h1
  · exact ⟨h.lt, h.ge⟩
  · obtain ⟨a, b, _⟩ := R_own_lt h.sec k h1; exact ⟨a, b⟩
  · obtain ⟨a, b, _⟩ := R_own_lt h.cache k h1; exact ⟨a, b⟩
theorem flatStr {α : Type} {enc : α → Value} {h1 : ∀ x : α, (enc x).oneCell' = true} {w1 : World} {base : Nat} {ok ok' : Nat → Prop} {x : α} {cs : List Value} (h : (Kd.scalar enc h1).M w1 base ok x cs) : (Kd.scalar enc h1).M w1 base ok' x cs := h
theorem flatWr {w1 : World} {base : Nat} {ok ok' : Nat → Prop} {x : Wr} {cs : List Value} (h : kWr.M w1 base ok x cs) : kWr.M w1 base ok' x cs := h
theorem R_row {α : Type} {k : Kd α} {e base : Nat} {v : Value} {xs : List α} (hf : ∀ {ok1 ok2 : Nat → Prop} {x : α} {cs : List Value}, k.M W base ok1 x cs → k.M W base ok2 x cs) (h : k.R e W base (fun _ => True) v xs) : k.R e W base (fun b => v.ownBlock = some b) v xs := by
  obtain ⟨_, inner, ho, hr⟩ := h
  exact ⟨fun _ hk => hk, inner, ho, hr.imp_ (fun _ _ hp => hf hp)⟩
theorem Dev.move (h : Dev w0 W g vs vc d) (hm : ∀ k, Foot W g k → W1.heap[k]? = W.heap[k]?) : Dev w0 W1 g vs vc d :=
  ⟨h.ge, (hm g (.inl rfl)).trans h.blk, Kd.R_mono (Kd.R_move (R_row (fun h => flatStr h) h.sec) (fun k hk => hm k ((h.foot_iff k).2 (.inr (.inl hk))))) (fun _ _ => trivial),
    Kd.R_mono (Kd.R_move (R_row (fun h => flatWr h) h.cache) (fun k hk => hm k ((h.foot_iff k).2 (.inr (.inr hk))))) (fun _ _ => trivial)⟩
theorem Dev.kept {S : Nat → Prop} (h : Dev w0 W g vs vc d) (hk : Kept W W1 S) (hs : ∀ k, Foot W g k → ¬ S k) : Dev w0 W1 g vs vc d :=
  h.move (fun k hf => hk.2 k (h.foot_lt hf).1 (hs k hf))
theorem Dev.below (h : Dev w0 W g vs vc d) (hb : Below W.heap.size W W1) : Dev w0 W1 g vs vc d := h.kept (Kept.of_below hb (fun _ => False)) (fun _ _ h => h)
theorem IsDev.below (h : IsDev w0 W g d) (hb : Below W.heap.size W W1) : IsDev w0 W1 g d := by obtain ⟨vs, vc, h⟩ := h; exact ⟨vs, vc, h.below hb⟩
theorem Dev.alloc (h : Dev w0 W g vs vc d) (o : Obj) : Dev w0 (W.alloc o) g vs vc d := h.below (bal (Below.refl _ _) o)
theorem Dev.drewN (h : Dev w0 W g vs vc d) (m : Nat) : Dev w0 (W.drewN m) g vs vc d := ⟨h.ge, h.blk, h.sec, h.cache⟩
theorem Dev.drew (h : Dev w0 W g vs vc d) : Dev w0 W.drew g vs vc d := ⟨h.ge, h.blk, h.sec, h.cache⟩
theorem foot_same (hm : W1.heap[g]? = W.heap[g]?) (k : Nat) : Foot W1 g k ↔ Foot W g k := by unfold Foot; rw [hm]
theorem DevKeep.refl (w : World) (g : Nat) : DevKeep w w g := ⟨Kept.refl _ _, fun _ h => .inl h⟩
theorem DevKeep.trans (h : DevKeep w W g) (k : DevKeep W W1 g) : DevKeep w W1 g :=
  ⟨h.kept.then_ k.kept h.foot, fun b hb => (k.foot b hb).elim (h.foot b) (fun h2 => .inr (Nat.le_trans h.kept.1 h2))⟩
theorem DevKeep.of_below (hd : g < W.heap.size) (hb : Below W.heap.size W W1) : DevKeep W W1 g :=
  ⟨Kept.of_below hb _, fun k hk => .inl ((foot_same (hb.block g hd) k).1 hk)⟩
theorem DevKeep.below (h : DevKeep w W g) (hd : g < W.heap.size) (hb : Below W.heap.size W W1) : DevKeep w W1 g := h.trans (DevKeep.of_below hd hb)
theorem DevKeep.drewN (h : DevKeep w W g) (m : Nat) : DevKeep w (W.drewN m) g := ⟨h.kept, h.foot⟩
theorem DevKeep.drew (h : DevKeep w W g) : DevKeep w W.drew g := ⟨h.kept, h.foot⟩
theorem Dev.num {u : Value} {d2 : Dv} {i : Nat} (h : Dev w0 W g vs vc d) (hs : (#[vs, vc, .int .i64 d.left, .bool d.down, .int .i64 d.calls] : Array Value).setIfInBounds i u = #[vs, vc, .int .i64 d2.left, .bool d2.down, .int .i64 d2.calls]) (e1 : d2.sec = d.sec) (e2 : d2.cache = d.cache) :
    Dev w0 (W.setCell ⟨g, i, none⟩ u) g vs vc d2 :=
  ⟨h.ge, hs ▸ blk_set h.blk i u, e1 ▸ Kd.R_set h.sec h.blk (by intro q hq; rcases List.mem_cons.1 hq with rfl | hq; decide; exact absurd (show q ∈ ([] : List Nat) from hq) (by simp)) i u,
    e2 ▸ Kd.R_set h.cache h.blk (by intro q hq; rcases List.mem_cons.1 hq with rfl | hq; decide; exact absurd (show q ∈ ([] : List Nat) from hq) (by simp)) i u⟩
theorem DevKeep.set {vs2 vc2 : Value} {d2 : Dv} {i : Nat} {u : Value} (h : DevKeep w W g) (h2 : Dev w0 (W.setCell ⟨g, i, none⟩ u) g vs2 vc2 d2) (hg : Foot w g g ∨ w.heap.size ≤ g)
    (hr : ∀ k, vs2.ownBlock = some k ∨ vc2.ownBlock = some k → Foot w g k ∨ w.heap.size ≤ k) : DevKeep w (W.setCell ⟨g, i, none⟩ u) g :=
  ⟨h.kept.setCell hg u, fun k hk => by
    rcases (h2.foot_iff k).1 hk with rfl | hk
    · exact hg
    · exact hr k hk⟩
theorem Dev.rows (h : Dev w0 W g vs vc d) (hk : DevKeep w W g) : ∀ k, vs.ownBlock = some k ∨ vc.ownBlock = some k → Foot w g k ∨ w.heap.size ≤ k := fun k h1 => hk.foot k ((h.foot_iff k).2 (.inr h1))
theorem DevKeep.num {u : Value} {d2 : Dv} {i : Nat} (h : DevKeep w W g) (hd : Dev w0 W g vs vc d) (h2 : Dev w0 (W.setCell ⟨g, i, none⟩ u) g vs vc d2) : DevKeep w (W.setCell ⟨g, i, none⟩ u) g :=
  h.set h2 (.inl (.inl rfl)) (hd.rows h)
end
end Go.Proofs.Ytfllpmmfjbjgoaa

namespace Go.Proofs.Ytfllpmmfjbjgoaa
open Go.RowKit Go.Proofs.YtfllpmmfjbjgoaaW.PrintWords Go.Proofs.YtfllpmmfjbjgoaaW.PrintLast
def Z64 : ByteArray := ⟨(List.replicate 64 (0 : UInt8)).toArray⟩
def zObj : Obj := .cells (madeCells #[.int .u8 0] 64) 5
theorem infoU8d : (Try.prog.info? 5).map (fun i => (i.zero, i.size, i.bytes)) = some (some (.int .u8 0), 1, 1) := by kernel_rfl
theorem str_zeros : strOfNums (List.replicate 64 (0 : Int)) = Z64 := by decide +kernel
theorem zeros_make (W : World) : (Instr.makeSlice 79 (.int .i64 64) (.int .i64 64)).run Try.prog W = .ok (.slice (some ⟨W.heap.size, 0, none⟩) 64 64) (W.alloc zObj) :=
  print_make_int (P := Try.prog) 79 5 (.int .u8 0) 1 Try.underlying79 infoU8d rfl (by decide) 64 (by decide) (by decide) W
theorem zeros_conv (W : World) : (convert 79 9 (.slice (some ⟨W.heap.size, 0, none⟩) 64 64)).run Try.prog (W.alloc zObj) = .ok (.string Z64) (W.alloc zObj) := by
  have h := own_made' W 0 5 .u8 64 (Nat.zero_le _) (by decide)
  have hr := own_reads' h
  have h2 := string_of_reads (P := Try.prog) (c := 64) Try.underlying79 Try.underlying5 Try.underlying9 hr
  rw [str_zeros] at h2
  exact h2
set_option maxHeartbeats 1000000 in
theorem zeros_calls (w : World) : Calls Try.prog 36 #[] w fun e w' => e = .returned (.string Z64) ∧ w' = w.alloc zObj := by
  have h1 := zeros_make
  have h2 := zeros_conv
  go_enter Try.func36, Try.ntmps36
  go_wp2
  go_ret
  exact ⟨rfl, rfl⟩
def dvCall (d : Dv) : Bool × Dv :=
  if d.down then (false, d) else if d.left = 0 then (false, { d with down := true }) else if d.left > 0 then (true, { d with left := d.left - 1, calls := wrap64 (d.calls + 1) }) else (true, { d with calls := wrap64 (d.calls + 1) })
theorem Dev.c0 {w0 W : World} {g : Nat} {vs vc : Value} {d : Dv} (h : Dev w0 W g vs vc d) : W.cell? ⟨g, 0, none⟩ = some vs := (kcl h.blk 0).trans rfl
theorem Dev.c1 {w0 W : World} {g : Nat} {vs vc : Value} {d : Dv} (h : Dev w0 W g vs vc d) : W.cell? ⟨g, 1, none⟩ = some vc := (kcl h.blk 1).trans rfl
theorem Dev.c2 {w0 W : World} {g : Nat} {vs vc : Value} {d : Dv} (h : Dev w0 W g vs vc d) : W.cell? ⟨g, 2, none⟩ = some (.int .i64 d.left) := (kcl h.blk 2).trans rfl
theorem Dev.c3 {w0 W : World} {g : Nat} {vs vc : Value} {d : Dv} (h : Dev w0 W g vs vc d) : W.cell? ⟨g, 3, none⟩ = some (.bool d.down) := (kcl h.blk 3).trans rfl
theorem Dev.c4 {w0 W : World} {g : Nat} {vs vc : Value} {d : Dv} (h : Dev w0 W g vs vc d) : W.cell? ⟨g, 4, none⟩ = some (.int .i64 d.calls) := (kcl h.blk 4).trans rfl
theorem Dev.fr {w0 W : World} {g : Nat} {vs vc : Value} {d : Dv} (h : Dev w0 W g vs vc d) (i : Nat) : W.frozen? ⟨g, i, none⟩ = false := kfr h.blk i
set_option maxHeartbeats 1000000 in
theorem device_Len.calls (g : Nat) (vs vc : Value) (d : Dv) (w0 w : World) (hI : Dev w0 w g vs vc d) :
    Calls Try.prog 48 #[.pointer (some ⟨g, 0, none⟩)] w fun e w' => e = .returned (.int .i64 d.sec.length) ∧ w' = w := by
  obtain ⟨A, c, rfl⟩ := Kd.R_slice hI.sec
  have h0 := hI.c0
  go_enter Try.func48, Try.ntmps48
  go_wp2
  go_ret
  exact ⟨rfl, rfl⟩
set_option maxHeartbeats 1000000 in
theorem device_Loose.calls (g : Nat) (vs vc : Value) (d : Dv) (w0 w : World) (hI : Dev w0 w g vs vc d) :
    Calls Try.prog 27 #[.pointer (some ⟨g, 0, none⟩)] w fun e w' => e = .returned (.int .i64 d.cache.length) ∧ w' = w := by
  obtain ⟨A, c, rfl⟩ := Kd.R_slice hI.cache
  have h0 := hI.c1
  go_enter Try.func27, Try.ntmps27
  go_wp2
  go_ret
  exact ⟨rfl, rfl⟩
set_option maxHeartbeats 1000000 in
theorem device_Arm.calls (g : Nat) (vs vc : Value) (d : Dv) (n : Int) (w0 w : World) (hI : Dev w0 w g vs vc d) :
    Calls Try.prog 32 #[.pointer (some ⟨g, 0, none⟩), .int .i64 n] w fun e w' => e = .returned (.tuple #[]) ∧ w' = w.setCell ⟨g, 2, none⟩ (.int .i64 n) := by
  have h0 := hI.c2
  have h1 := hI.fr 2
  go_enter Try.func32, Try.ntmps32
  go_wp2
  go_end0
  exact ⟨rfl, rfl⟩
set_option maxHeartbeats 2000000 in
theorem device_call.calls (g : Nat) (vs vc : Value) (d : Dv) (w0 w : World) (hI : Dev w0 w g vs vc d) (hl : -9223372036854775808 ≤ d.left ∧ d.left < 9223372036854775808) :
    Calls Try.prog 43 #[.pointer (some ⟨g, 0, none⟩)] w fun e w' => e = .returned (.bool (dvCall d).1) ∧ Dev w0 w' g vs vc (dvCall d).2 ∧ DevKeep w w' g ∧ (Below w0.heap.size w0 w → Below w0.heap.size w0 w') := by
  have h2 := hI.c2
  have h3 := hI.c3
  have h4 := hI.c4
  have f2 := hI.fr 2
  have f3 := hI.fr 3
  have f4 := hI.fr 4
  obtain ⟨sec, cache, left, down, calls⟩ := d
  dsimp only at h2 h3 h4 hl
  have HI := Aside0.mk hI
  clear hI
  cases down with
  | true =>
    go_enter Try.func43, Try.ntmps43
    go_wp2
    go_ret
    exact ⟨rfl, HI.out, DevKeep.refl _ _, fun h => h⟩
  | false =>
    by_cases c0 : left = 0
    · subst c0
      go_enter Try.func43, Try.ntmps43
      go_wp2
      go_ret
      have hd : Dev w0 (w.setCell ⟨g, 3, none⟩ (.bool true)) g vs vc ⟨sec, cache, 0, true, calls⟩ := HI.out.num rfl rfl rfl
      exact ⟨rfl, hd, (DevKeep.refl _ _).num HI.out hd, fun h => h.setCell (p := ⟨g, 3, none⟩) HI.out.ge _⟩
    · have c0' : (left == 0) = false := beq_eq_false_iff_ne.2 c0
      by_cases c1 : left > 0
      · have hd1 : Dev w0 (w.setCell ⟨g, 2, none⟩ (.int .i64 (left - 1))) g vs vc ⟨sec, cache, left - 1, false, calls⟩ := HI.out.num rfl rfl rfl
        have hd : Dev w0 ((w.setCell ⟨g, 2, none⟩ (.int .i64 (left - 1))).setCell ⟨g, 4, none⟩ (.int .i64 (wrap64 (calls + 1)))) g vs vc ⟨sec, cache, left - 1, false, wrap64 (calls + 1)⟩ := hd1.num rfl rfl rfl
        have hk : DevKeep w ((w.setCell ⟨g, 2, none⟩ (.int .i64 (left - 1))).setCell ⟨g, 4, none⟩ (.int .i64 (wrap64 (calls + 1)))) g := ((DevKeep.refl _ _).num HI.out hd1).num hd1 hd
        have hv : dvCall ⟨sec, cache, left, false, calls⟩ = (true, ⟨sec, cache, left - 1, false, wrap64 (calls + 1)⟩) := by
          unfold dvCall; simp [c0, c1]
        rw [hv]
        have HD := Aside0.mk hd
        have HK := Aside0.mk hk
        have h5 := hd1.c4
        have f5 := hd1.fr 4
        have hbx : -9223372036854775808 ≤ left - 1 := by omega
        have hby : left - 1 < 9223372036854775808 := by omega
        clear hd hk hd1 hv c0
        go_enter Try.func43, Try.ntmps43
        go_wp2
        go_ret
        exact ⟨rfl, HD.out, HK.out, fun h => (h.setCell (p := ⟨g, 2, none⟩) HI.out.ge _).setCell (p := ⟨g, 4, none⟩) HI.out.ge _⟩
      · have hd : Dev w0 (w.setCell ⟨g, 4, none⟩ (.int .i64 (wrap64 (calls + 1)))) g vs vc ⟨sec, cache, left, false, wrap64 (calls + 1)⟩ := HI.out.num rfl rfl rfl
        have hk : DevKeep w (w.setCell ⟨g, 4, none⟩ (.int .i64 (wrap64 (calls + 1)))) g := (DevKeep.refl _ _).num HI.out hd
        have hv : dvCall ⟨sec, cache, left, false, calls⟩ = (true, ⟨sec, cache, left, false, wrap64 (calls + 1)⟩) := by
          unfold dvCall; simp [c0, c1]
        rw [hv]
        have HD := Aside0.mk hd
        have HK := Aside0.mk hk
        clear hd hk hv c0
        go_enter Try.func43, Try.ntmps43
        go_wp2
        go_ret
        exact ⟨rfl, HD.out, HK.out, fun h => h.setCell (p := ⟨g, 4, none⟩) HI.out.ge _⟩
end Go.Proofs.Ytfllpmmfjbjgoaa

namespace Go.Proofs.Ytfllpmmfjbjgoaa
open Go.RowKit Go.Proofs.YtfllpmmfjbjgoaaW.PrintWords Go.Proofs.YtfllpmmfjbjgoaaW.PrintLast
section
variable {w0 w W W1 : World} {g : Nat} {vs vc v1 : Value} {d : Dv}
theorem Dev.ne_rows (h : Dev w0 W g vs vc d) {k : Nat} (h1 : vs.ownBlock = some k) (h2 : vc.ownBlock = some k) : False := by
  obtain ⟨cs, hc⟩ := Kd.R_typed h.sec k h1
  obtain ⟨cs2, hc2⟩ := Kd.R_typed h.cache k h2
  rw [hc] at hc2
  injection hc2 with hc2
  injection hc2 with _ e _
  exact absurd e (by decide)
theorem secE {q : Nat} (hq : q ∈ 9 :: Kd.string.E) : q = 9 := by
  rcases List.mem_cons.1 hq with h | h
  · exact h
  · exact absurd (show q ∈ ([] : List Nat) from h) (by simp)
theorem cacheE {q : Nat} (hq : q ∈ 87 :: kWr.E) : q = 87 := by
  rcases List.mem_cons.1 hq with h | h
  · exact h
  · exact absurd (show q ∈ ([] : List Nat) from h) (by simp)
theorem Dev.pushed {p : Wr} (h : Dev w0 W g vs vc d) (hg : W.grownBy W1 vc.ownBlock) (ho : Kd.R kWr 87 W1 w0.heap.size (fun _ => True) v1 (d.cache ++ [p])) :
    Dev w0 (W1.setCell ⟨g, 1, none⟩ v1) g vs v1 { d with cache := d.cache ++ [p] } := by
  have hb := blk_grown h.blk hg (Kd.R_ne h.cache h.blk (by decide))
  refine ⟨h.ge, by simpa using blk_set hb 1 v1, Kd.R_set ?_ hb (fun q hq => by rw [secE hq]; decide) 1 v1, Kd.R_set ho hb (fun q hq => by rw [cacheE hq]; decide) 1 v1⟩
  exact Kd.R_mono (Kd.R_grown (R_row (fun h => flatStr h) h.sec) hg (fun k hk e => h.ne_rows hk e.symm)) (fun _ _ => trivial)
theorem DevKeep.pushed {p : Wr} (hk : DevKeep w W g) (h : Dev w0 W g vs vc d) (hg : W.grownBy W1 vc.ownBlock) (ho : Kd.R kWr 87 W1 w0.heap.size (fun _ => True) v1 (d.cache ++ [p]))
    (hat : v1.ownBlock = vc.ownBlock ∨ ∃ b, v1.ownBlock = some b ∧ W.heap.size ≤ b) : DevKeep w (W1.setCell ⟨g, 1, none⟩ v1) g := by
  have h2 := h.pushed hg ho
  have hr := h.rows hk
  have k1 : Kept w W1 (Foot w g) := Kept.of_grown hg hk.kept (fun k e => hr k (.inr e))
  refine ⟨k1.setCell (.inl (.inl rfl)) _, fun k hf => ?_⟩
  rcases (h2.foot_iff k).1 hf with rfl | h3 | h3
  · exact .inl (.inl rfl)
  · exact hr k (.inl h3)
  · rcases hat with e | ⟨b, e, hb⟩
    · exact hr k (.inr (e ▸ h3))
    · rw [e] at h3
      obtain rfl : b = k := by simpa using h3
      exact .inr (Nat.le_trans hk.kept.1 hb)
end
section
variable {P : Program} {ops : Array Oper} {o : Oper} {a : Act} {Q : Exit → Act → World → Prop} {Kc : Act → World → Prop}
theorem wr_step {E : Prop} {w0 w1 : World} (W : World) (hgd : o.guard = none) (s x : Operand) (t e : TypeId) (ho : o.op = .call { callee := .builtin .append, args := #[s, x], argTypes := #[t, t] })
    (ht : P.underlying t = some (.slice e)) (hinfo : (P.info? e).map (fun i => (i.zero, i.size, i.bytes)) = some (some (.agg #[.int .i64 0, .string ByteArray.empty]), 2, 24))
    (v : Value) (xs : List Wr) (p : Wr) (hw1 : w1 = W.alloc (.cells #[.int .i64 p.at_, .string p.text] e)) (hs : a.eval s = v) (hx : a.eval x = .slice (some ⟨W.heap.size, 0, none⟩) 1 1)
    (HO : Kd.R kWr e W w0.heap.size (fun _ => True) v xs) (HB : Below w0.heap.size w0 W) (hl : (xs.length + 1) * 24 ≤ 140737488355328)
    (h : ∀ v1 w1, Kd.R kWr e w1 w0.heap.size (fun _ => True) v1 (xs ++ [p]) → Below w0.heap.size w0 w1 → W.grownBy w1 v.ownBlock → (v1.ownBlock = v.ownBlock ∨ ∃ b, v1.ownBlock = some b ∧ W.heap.size ≤ b) → Kc (a.put o.dst v1) w1) :
    if Region.wanted o (yielded ops a.tmps) = true then Oper.wp P o a w1 Kc Q else E := by
  subst hw1
  have hw : Region.wanted o (yielded ops a.tmps) = true := by simp [Region.wanted, hgd]
  have h1 := Kd.R_append_step (P := P) (Q := Q) (Kc := Kc) kWr (w0 := w0) (W := W) w0.heap.size hw s x t e (.agg #[.int .i64 0, .string ByteArray.empty]) 24 ho ht hinfo rfl (by decide) (by omega) v xs p [.int .i64 p.at_, .string p.text] (fun _ => True) (fun _ => False) hs hx (kWr_mkM _ _ _ p) (fun _ hk => hk.elim) (fun _ _ => trivial) HO HB HB.size (by omega) h
  rw [if_pos hw] at h1 ⊢
  exact h1
end
theorem infoWr : (Try.prog.info? 87).map (fun i => (i.zero, i.size, i.bytes)) = some (some (.agg #[.int .i64 0, .string ByteArray.empty]), 2, 24) := by kernel_rfl
def pad (s : ByteArray) : ByteArray := s ++ Z64.extract s.size 64
def dvWrite (d : Dv) (at_ : Int) (s : ByteArray) : Int × Dv :=
  if at_ < 0 ∨ (d.sec.length : Int) ≤ at_ ∨ 64 < s.size then (4, d) else if (dvCall d).1 = false then (16, (dvCall d).2) else (0, { (dvCall d).2 with cache := (dvCall d).2.cache ++ [⟨at_, pad s⟩] })
theorem dvCall_rows (d : Dv) : (dvCall d).2.sec = d.sec ∧ (dvCall d).2.cache = d.cache := by
  unfold dvCall; repeat' split
  all_goals exact ⟨rfl, rfl⟩
theorem Z64_size : Z64.size = 64 := by decide +kernel
set_option maxHeartbeats 4000000 in
theorem device_Write.calls (g : Nat) (d : Dv) (a1 : Int) (a2 : ByteArray) (w0 w : World) (hI : IsDev w0 w g d) (hB : Below w0.heap.size w0 w) (hl : -9223372036854775808 ≤ d.left ∧ d.left < 9223372036854775808) (hn : d.cache.length ≤ 1000000) (hz : a2.size ≤ 9223372036854775807) :
    Calls Try.prog 41 #[.pointer (some ⟨g, 0, none⟩), .int .i64 a1, .string a2] w fun e w' => e = .returned (.int .i64 (dvWrite d a1 a2).1) ∧ IsDev w0 w' g (dvWrite d a1 a2).2 ∧ Below w0.heap.size w0 w' ∧ DevKeep w w' g := by
  obtain ⟨vs, vc, hI⟩ := hI
  obtain ⟨A, c, rfl⟩ := Kd.R_slice hI.sec
  have hlen : (d.sec.length : Int) ≤ 9223372036854775807 := by have := Kd.C_max (Kd.R_reads' hI.sec).2.2; omega
  have h0 := hI.c0
  have HI := Aside0.mk hI
  have HB := Aside0.mk hB
  by_cases c1 : a1 < 0
  · have hv : dvWrite d a1 a2 = (4, d) := by unfold dvWrite; rw [if_pos (.inl c1)]
    rw [hv]
    clear hI hB hl hn hv
    go_enter Try.func41, Try.ntmps41
    go_wp2
    go_ret
    exact ⟨rfl, ⟨_, _, HI.out⟩, HB.out, DevKeep.refl _ _⟩
  by_cases c2 : (d.sec.length : Int) ≤ a1
  · have hv : dvWrite d a1 a2 = (4, d) := by unfold dvWrite; rw [if_pos (.inr (.inl c2))]
    rw [hv]
    have q1 : decide (a1 < 0) = false := decide_eq_false c1
    have q2 : decide ((d.sec.length : Int) ≤ a1) = true := decide_eq_true c2
    clear hI hB hl hn hv
    go_enter Try.func41, Try.ntmps41
    go_wp2
    go_ret
    exact ⟨rfl, ⟨_, _, HI.out⟩, HB.out, DevKeep.refl _ _⟩
  have q1 : decide (a1 < 0) = false := decide_eq_false c1
  have q2 : decide ((d.sec.length : Int) ≤ a1) = false := decide_eq_false c2
  by_cases c3 : 64 < a2.size
  · have hv : dvWrite d a1 a2 = (4, d) := by unfold dvWrite; rw [if_pos (.inr (.inr c3))]
    rw [hv]
    have q3 : decide ((64 : Int) < (a2.size : Int)) = true := decide_eq_true (by omega)
    have q4 : decide (64 < a2.size) = true := decide_eq_true c3
    clear hI hB hl hn hv
    go_enter Try.func41, Try.ntmps41
    go_wp2
    go_ret
    exact ⟨rfl, ⟨_, _, HI.out⟩, HB.out, DevKeep.refl _ _⟩
  have q3 : decide ((64 : Int) < (a2.size : Int)) = false := decide_eq_false (by omega)
  have q4 : decide (64 < a2.size) = false := decide_eq_false c3
  have hcl := device_call.calls g _ vc d w0 w hI hl
  have hv0 : dvWrite d a1 a2 = if (dvCall d).1 = false then (16, (dvCall d).2) else (0, { (dvCall d).2 with cache := (dvCall d).2.cache ++ [⟨a1, pad a2⟩] }) := by unfold dvWrite; rw [if_neg (by omega)]
  rw [hv0]
  have hrow := dvCall_rows d
  generalize dvCall d = r at hcl hrow
  obtain ⟨b, d1⟩ := r
  dsimp only at hcl hrow ⊢
  have hn1 : d1.cache.length ≤ 1000000 := by rw [hrow.2]; exact hn
  clear hv0 hrow hI hB hl hn
  cases b with
  | false =>
    simp only [if_true]
    go_enter Try.func41, Try.ntmps41
    go_wp2_with (go_at_call 43; refine hcl.mono ?_; rintro e w1 ⟨rfl, hd, hk, hb⟩; have HD := Aside0.mk hd; have HK := Aside0.mk hk; have HB1 := Aside0.mk (hb HB.out); clear hd hk hb)
    go_ret
    exact ⟨rfl, ⟨_, _, HD.out⟩, HB1.out, HK.out⟩
  | true =>
    rw [if_neg (by decide)]
    obtain ⟨A1, k1, rfl⟩ : ∃ A c, vc = .slice A d.cache.length c := Kd.R_slice HI.out.cache
    go_enter Try.func41, Try.ntmps41
    go_wp2_with (go_at_call 43; refine hcl.mono ?_; rintro e w1 ⟨rfl, hd, hk, hb⟩; have HD := Aside0.mk hd; have HK := Aside0.mk hk; have HB1 := Aside0.mk (hb HB.out); clear hd hk hb)
    have hcell : w1.cell? ⟨g, 1, none⟩ = some (.slice A1 d.cache.length k1) := HD.out.c1
    have hcell2 : (w1.alloc zObj).cell? ⟨g, 1, none⟩ = some (.slice A1 d.cache.length k1) := (HD.out.alloc zObj).c1
    have hcell3 : ∀ o, ((w1.alloc zObj).alloc o).cell? ⟨g, 1, none⟩ = some (.slice A1 d.cache.length k1) := fun o => ((HD.out.alloc zObj).alloc o).c1
    have hZ : Z64.size = 64 := Z64_size
    have r1 : (0 : Int) ≤ (a2.size : Int) := by omega
    have r2 : (a2.size : Int) ≤ 64 := by omega
    have r3 : a2.size + (Z64.extract a2.size 64).size ≤ 9223372036854775807 := by rw [ByteArray.size_extract]; omega
    have r4 : (9223372036854775807 < a2.size + (64 - a2.size)) = False := eq_false (by omega)
    have HDz : Aside0 (Dev w0 (w1.alloc zObj).drew g (.slice A d.sec.length c) (.slice A1 d.cache.length k1) d1) := ⟨(HD.out.alloc zObj).drew⟩
    have T1 := fun (ops : Array Oper) (o : Oper) (a : Act) (Q : Exit → Act → World → Prop) (Kc : Act → World → Prop) (E : Prop) (hgd : o.guard = none) (ho : o.op = .call { callee := .builtin .append, args := #[(.tmp 32), (.tmp 41)], argTypes := #[75, 75] }) => wr_step (P := Try.prog) (ops := ops) (o := o) (a := a) (Q := Q) (Kc := Kc) (E := E) (w0 := w0) (w1 := ((w1.alloc zObj).alloc (.cells #[.int .i64 a1, .string (pad a2)] 87)).drew) (w1.alloc zObj).drew hgd (.tmp 32) (.tmp 41) 75 87 ho Try.underlying75 infoWr (.slice A1 d.cache.length k1) d1.cache ⟨a1, pad a2⟩ rfl
    have T2 := fun ops o a Q Kc E hgd ho hs hx h => T1 ops o a Q Kc E hgd ho hs hx HDz.out.cache (bal HB1.out zObj).drew (by omega) h
    have HT2 := Aside0.mk T2
    clear T1 T2
    go_region_law (first | (refine HT2.out _ _ _ _ _ _ rfl rfl (by simp [Act.eval]) (by simp [Act.eval]) ?_; intro v1 w2 ho hb hg1 hat; have hb2 := blk_grown HDz.out.blk hg1 (Kd.R_ne HDz.out.cache HDz.out.blk (by decide)); have hce := (kcl hb2 1).trans rfl; have hfe := kfr hb2 1; obtain ⟨A2, k2, e2⟩ := Kd.R_slice ho; subst e2; clear hb2; have HO := Aside0.mk ho; have HB2 := Aside0.mk hb; have HG := Aside0.mk hg1; have HA := Aside0.mk hat; clear ho hb hg1 hat) | (go_simp; go_at_call 36; refine (zeros_calls _).mono ?_; rintro e wz ⟨rfl, rfl⟩))
    all_goals
      have hp := HDz.out.pushed HG.out HO.out
      have hk := ((HK.out.below HD.out.lt (bal (Below.refl _ _) zObj)).drew).pushed HDz.out HG.out HO.out HA.out
      simp only [List.length_append, List.length_cons, List.length_nil, Nat.zero_add] at hp hk
      have HP := Aside0.mk hp
      have HQ := Aside0.mk hk
      clear hp hk
      go_wp2
      go_ret
      exact ⟨rfl, ⟨_, _, HP.out⟩, HB2.out.setCell (p := ⟨g, 1, none⟩) HD.out.ge _, HQ.out⟩
end Go.Proofs.Ytfllpmmfjbjgoaa

namespace Go.Proofs.Ytfllpmmfjbjgoaa
open Go.RowKit Go.Proofs.YtfllpmmfjbjgoaaW.PrintWords Go.Proofs.YtfllpmmfjbjgoaaW.PrintLast
theorem R_head {α : Type} {k : Kd α} {W : World} {e base : Nat} {ok : Nat → Prop} {v : Value} {xs : List α} (h : k.R e W base ok v xs) (hn : 0 < xs.length) : ∃ b c, v = .slice (some ⟨b, 0, none⟩) xs.length c := by
  obtain ⟨_, inner, ho, _⟩ := h
  rcases ho.2 with ⟨rfl, h0⟩ | ⟨b, cap, cur, rfl, _⟩
  · omega
  · exact ⟨b, cap, rfl⟩
section
variable {w0 w W W1 : World} {g b n c : Nat} {vs vc : Value} {d : Dv}
theorem Dev.secCell (h : Dev w0 W g (.slice (some ⟨b, 0, none⟩) n c) vc d) (i : Int) (h0 : 0 ≤ i) (h1 : i < n) : W.cell? ⟨b, i.toNat, none⟩ = some (.string (d.sec.getD i.toNat ByteArray.empty)) ∧ W.frozen? ⟨b, i.toNat, none⟩ = false := by
  obtain ⟨cs, _, hM, hc, hf⟩ := Kd.R_elem h.sec ByteArray.empty i h0 h1
  obtain rfl : cs = [.string (d.sec.getD i.toNat ByteArray.empty)] := hM
  have e : i.toNat * Kd.string.sz = i.toNat := Nat.mul_one _
  have h2 := hc 0 _ rfl
  have h3 := hf 0
  rw [e] at h2 h3
  exact ⟨h2, h3⟩
theorem Dev.secPut (h : Dev w0 W g (.slice (some ⟨b, 0, none⟩) n c) vc d) (i : Int) (t : ByteArray) : Dev w0 (W.setCell ⟨b, i.toNat, none⟩ (.string t)) g (.slice (some ⟨b, 0, none⟩) n c) vc { d with sec := d.sec.set i.toNat t } := by
  have hb : (Value.slice (some ⟨b, 0, none⟩) n c).ownBlock = some b := rfl
  have hne : g ≠ b := fun e => by
    obtain ⟨cs, hc⟩ := Kd.R_typed h.sec b hb
    have h2 := h.blk
    rw [e, hc] at h2
    injection h2 with h2
    injection h2 with _ e2 _
    exact absurd e2 (by decide)
  refine ⟨h.ge, blk_far h.blk hne _, Kd.R_putn h.sec i t, ?_⟩
  exact Kd.R_mono (Kd.R_far (p := ⟨b, i.toNat, none⟩) (R_row (fun h => flatWr h) h.cache) (fun k hk e => by subst e; exact h.ne_rows hb hk) _) (fun _ _ => trivial)
theorem DevKeep.secPut (hk : DevKeep w W g) (h : Dev w0 W g (.slice (some ⟨b, 0, none⟩) n c) vc d) (i : Int) (t : ByteArray) : DevKeep w (W.setCell ⟨b, i.toNat, none⟩ (.string t)) g := by
  have h2 := h.secPut i t
  have hr := h.rows hk
  refine ⟨hk.kept.setCell (hr b (.inl rfl)) _, fun k hf => ?_⟩
  rcases (h2.foot_iff k).1 hf with rfl | h3
  · exact .inl (.inl rfl)
  · exact hr k h3
theorem Dev.dry (h : Dev w0 W g vs vc d) : Dev w0 (W.setCell ⟨g, 1, none⟩ (.slice none 0 0)) g vs (.slice none 0 0) { d with cache := [] } :=
  ⟨h.ge, by simpa using blk_set h.blk 1 (.slice none 0 0), Kd.R_set h.sec h.blk (fun q hq => by rw [secE hq]; decide) 1 _, Kd.R_nil _ _ _ _ _⟩
theorem DevKeep.dry (hk : DevKeep w W g) (h : Dev w0 W g vs vc d) : DevKeep w (W.setCell ⟨g, 1, none⟩ (.slice none 0 0)) g :=
  hk.set h.dry (.inl (.inl rfl)) (fun k h1 => h1.elim (fun h2 => h.rows hk k (.inl h2)) (fun h2 => by simp [Value.ownBlock] at h2))
theorem Dev.cacheCell {A : Option Addr} {m k : Nat} (h : Dev w0 W g vs (.slice A m k) d) (i : Int) (h0 : 0 ≤ i) (h1 : i < d.cache.length) :
    ∃ ad, A = some ad ∧ W.cell? (ad.add (i.toNat * 2)) = some (.int .i64 (d.cache.getD i.toNat ⟨0, ByteArray.empty⟩).at_) ∧ W.cell? ⟨(ad.add (i.toNat * 2)).block, (ad.add (i.toNat * 2)).off + 1, none⟩ = some (.string (d.cache.getD i.toNat ⟨0, ByteArray.empty⟩).text) := by
  obtain ⟨ad, cs, e, _, hK, hc0⟩ := Kd.C_get (Kd.R_reads' h.cache).2.2 ⟨0, ByteArray.empty⟩ i h0 h1
  have hc : ∀ j u, cs[j]? = some u → W.cell? (ad.add (i.toNat * 2 + j)) = some u := hc0
  obtain rfl := kWr_open hK
  exact ⟨ad, e, hc 0 _ rfl, by rw [← add_field _ _ 1 (by omega)]; exact hc 1 _ rfl⟩
end
def lastB (l : List ByteArray) (ws : List Wr) : List ByteArray := ws.foldl (fun l x => l.set x.at_.toNat x.text) l
theorem lastB_length (ws : List Wr) : ∀ l, (lastB l ws).length = l.length := by
  unfold lastB
  induction ws with
  | nil => intro l; rfl
  | cons x ws ih => intro l; rw [List.foldl_cons, ih, List.length_set]
theorem lastB_snoc (l : List ByteArray) (ws : List Wr) (x : Wr) : lastB l (ws ++ [x]) = (lastB l ws).set x.at_.toNat x.text := by
  unfold lastB; rw [List.foldl_append]; rfl
def dvFlush (d : Dv) : Int × Dv := if (dvCall d).1 = false then (16, (dvCall d).2) else (0, { (dvCall d).2 with sec := lastB d.sec d.cache, cache := [] })
def DvOk (d : Dv) : Prop := ∀ x ∈ d.cache, 0 ≤ x.at_ ∧ x.at_ < d.sec.length
set_option maxHeartbeats 4000000 in
theorem device_Flush.calls (g : Nat) (d : Dv) (w0 w : World) (hI : IsDev w0 w g d) (hB : Below w0.heap.size w0 w) (hl : -9223372036854775808 ≤ d.left ∧ d.left < 9223372036854775808) (hok : DvOk d) :
    Calls Try.prog 19 #[.pointer (some ⟨g, 0, none⟩)] w fun e w' => e = .returned (.int .i64 (dvFlush d).1) ∧ IsDev w0 w' g (dvFlush d).2 ∧ Below w0.heap.size w0 w' ∧ DevKeep w w' g := by
  obtain ⟨vs, vc, hI⟩ := hI
  have hcl := device_call.calls g vs vc d w0 w hI hl
  have hrow := dvCall_rows d
  unfold dvFlush
  have HI := Aside0.mk hI
  have HB := Aside0.mk hB
  have HOK := Aside0.mk hok
  generalize dvCall d = r at hcl hrow
  obtain ⟨b, d1⟩ := r
  dsimp only at hcl hrow ⊢
  clear hI hB hl hok
  cases b with
  | false =>
    clear hrow
    simp only [if_true]
    go_enter Try.func19, Try.ntmps19
    go_wp2_with (go_at_call 43; refine hcl.mono ?_; rintro e w1 ⟨rfl, hd, hk, hb⟩; have HD := Aside0.mk hd; have HK := Aside0.mk hk; have HB1 := Aside0.mk (hb HB.out); clear hd hk hb)
    go_ret
    exact ⟨rfl, ⟨_, _, HD.out⟩, HB1.out, HK.out⟩
  | true =>
    rw [if_neg (by decide)]
    obtain ⟨sec1, cache1, left1, down1, calls1⟩ := d1
    obtain ⟨sec, cache, left, down, calls⟩ := d
    dsimp only at hrow hcl HI ⊢
    obtain ⟨rfl, rfl⟩ := hrow
    have hok := HOK.out
    unfold DvOk at hok
    dsimp only at hok
    have HOK2 := Aside0.mk hok
    clear hok HOK
    obtain ⟨A1, k1, rfl⟩ : ∃ A c, vc = .slice A cache1.length c := Kd.R_slice HI.out.cache
    have hcm : cache1.length ≤ 9223372036854775807 := Kd.C_max (Kd.R_reads' HI.out.cache).2.2
    go_enter Try.func19, Try.ntmps19
    go_wp2_with (go_at_call 43; refine hcl.mono ?_; rintro e w1 ⟨rfl, hd, hk, hb⟩; have hce := hd.c1; have HD := Aside0.mk hd; have HK := Aside0.mk hk; have HB1 := Aside0.mk (hb HB.out); clear hd hk hb)
    go_loopw [13] (fun v13 wr => ∃ (i : Nat) (s : List ByteArray), v13 = .int .i64 i ∧ i ≤ cache1.length ∧ Aside0 (s = lastB sec1 (cache1.take i)) ∧ Aside0 (Dev w0 wr g vs (.slice A1 cache1.length k1) ⟨s, cache1, left1, down1, calls1⟩) ∧ Aside0 (Below w0.heap.size w0 wr) ∧ Aside0 (DevKeep w wr g)) (fun v13 _ => cache1.length - (intOf v13).toNat)
    case atStart => exact ⟨0, sec1, rfl, Nat.zero_le _, ⟨rfl⟩, HD, HB1, HK⟩
    case round =>
      obtain ⟨i, s, rfl, hi, HS, HD2, HB2, HK2⟩ := hrel
      clear HD HK HB1 hce
      by_cases c1 : i < cache1.length
      · obtain ⟨x, hx⟩ : ∃ x, x = cache1[i] := ⟨_, rfl⟩
        have hm : x ∈ cache1 := by rw [hx]; exact List.getElem_mem c1
        have hr := HOK2.out x hm
        have hgx : cache1.getD i ⟨0, ByteArray.empty⟩ = x := by rw [List.getD_eq_getElem?_getD, List.getElem?_eq_getElem c1, hx]; rfl
        have hsl : s.length = sec1.length := by rw [HS.out, lastB_length]
        obtain ⟨bs, cs, rfl⟩ := R_head HD2.out.sec (by dsimp only; omega)
        obtain ⟨ad, rfl, hc1, hc2⟩ := HD2.out.cacheCell (i : Int) (by omega) (by dsimp only; omega)
        dsimp only at hc1 hc2
        rw [Int.toNat_natCast, hgx] at hc1 hc2
        have hp0 : (0 : Int) ≤ (i : Int) := by omega
        have hp1 : (i : Int) < (cache1.length : Int) := by omega
        have hq0 := hr.1
        have hq1 : x.at_ < (s.length : Int) := by omega
        have hD3 : ∀ o, Dev w0 (wr.alloc o) g (.slice (some ⟨bs, 0, none⟩) s.length cs) (.slice (some ad) cache1.length k1) ⟨s, cache1, left1, down1, calls1⟩ := fun o => HD2.out.alloc o
        have hz0 := fun o => (hD3 o).c0
        have hz1 := fun o => ((hD3 o).secCell x.at_ hq0 hq1).1
        have hz2 := fun o => ((hD3 o).secCell x.at_ hq0 hq1).2
        have HX := Aside0.mk hx
        have HD3 := Aside0.mk hD3
        have hqs : s.length ≤ 9223372036854775807 := Kd.C_max (Kd.R_reads' HD2.out.sec).2.2
        clear hx hm hr hgx hD3
        go_wp2
        go_region
        all_goals
          go_wp2
          go_roundw
          case rel => exact ⟨i + 1, s.set x.at_.toNat x.text, by go_num, by omega, ⟨by rw [List.take_succ_eq_append_getElem c1, lastB_snoc, ← HX.out, ← HS.out]⟩, ⟨((HD3.out _).secPut x.at_ x.text).drew⟩,
            ⟨((bal HB2.out _).setCell (p := ⟨bs, x.at_.toNat, none⟩) ((HD3.out (.cells #[] 0)).foot_lt (.inr ⟨_, (HD3.out (.cells #[] 0)).blk, _, .inl rfl, rfl⟩)).2 _).drew⟩, ⟨((HK2.out.below HD2.out.lt (bal (Below.refl _ _) _)).secPut (HD3.out _) x.at_ x.text).drew⟩⟩
          case measure => simp [intOf]; omega
      · obtain rfl : i = cache1.length := by omega
        have hS := HS.out
        rw [List.take_length] at hS
        subst hS
        have hz := HD2.out.c1
        have hz2 := HD2.out.fr 1
        go_wp2
        go_ret
        exact ⟨rfl, ⟨_, _, HD2.out.dry⟩, HB2.out.setCell (p := ⟨g, 1, none⟩) HD2.out.ge _, HK2.out.dry HD2.out⟩
end Go.Proofs.Ytfllpmmfjbjgoaa

namespace Go.Proofs.Ytfllpmmfjbjgoaa
open Go.RowKit Go.Shelf Go.Proofs.YtfllpmmfjbjgoaaW.PrintWords Go.Proofs.YtfllpmmfjbjgoaaW.PrintLast
attribute [local go_sem] Oper.semAt_some
def upTo {α : Type} (f : Nat → α) (k : Nat) : List α := (List.range k).map f
theorem upTo_succ {α : Type} (f : Nat → α) (k : Nat) : upTo f (k + 1) = upTo f k ++ [f k] := by simp [upTo, List.range_succ]
theorem upTo_length {α : Type} (f : Nat → α) (k : Nat) : (upTo f k).length = k := by simp [upTo]
def z0Wr : Wr := ⟨0, ByteArray.empty⟩
def bwF (xs : List Wr) (j : Nat) : Nat × Wr := (xs.length - 1 - j, xs.getD (xs.length - 1 - j) z0Wr)
def bwE (x : Nat × Wr) : Array Value := #[.int .i64 (x.1 : Int), .agg #[.int .i64 x.2.at_, .string x.2.text]]
theorem at_Wr {w : World} {A : Option Addr} {n : Nat} {xs : List Wr} (h : Kd.C kWr w A n xs) (i : Int) (h0 : 0 ≤ i) (h1 : i < n) : ∃ ad, A = some ad ∧ w.cell? (ad.add (i.toNat * 2)) = some (.int .i64 (xs.getD i.toNat z0Wr).at_) ∧ w.cell? ⟨(ad.add (i.toNat * 2)).block, (ad.add (i.toNat * 2)).off + 1, none⟩ = some (.string (xs.getD i.toNat z0Wr).text) := by
  obtain ⟨ad, cs, e, _, hK, hc0⟩ := Kd.C_get h z0Wr i h0 h1
  have hc : ∀ j u, cs[j]? = some u → w.cell? (ad.add (i.toNat * 2 + j)) = some u := hc0
  obtain rfl := kWr_open hK
  exact ⟨ad, e, hc 0 _ rfl, by rw [← add_field _ _ 1 (by omega)]; exact hc 1 _ rfl⟩
set_option maxRecDepth 100000 in
set_option maxHeartbeats 2000000 in
theorem bw1_in (F : Fence) (n : Nat) (hf : F.fn 68) (hro : F.round = none) (hn : 1 ≤ n) (l Bs : Nat) (wb : World) (A : Option Addr) (c : Nat) (xs : List Wr) (hC : Kd.C kWr wb A xs.length xs) (hB : wb.cell? ⟨Bs, 0, none⟩ = some (.slice A xs.length c))
    (J Jx : List (Nat × Wr) → World → Prop)
    (hY : ∀ pre x W, J pre W → pre.length < xs.length → YieldAt F (n - 1) Try.prog l (bwE x) W fun e W' =>
      (e = .returned (.bool true) ∧ J (pre ++ [x]) W' ∧ Below wb.heap.size W W') ∨ (e = .returned (.bool false) ∧ Jx (pre ++ [x]) W'))
    (W : World) (hW : Below wb.heap.size wb W) (h0 : J [] W) :
    CallsIn F n Try.prog 68 #[.func (.yield l) #[] #[], .pointer (some ⟨Bs, 0, none⟩)] W fun e W' => (∃ v, e = .returned v) ∧
      ((∃ ys, ys = upTo (bwF xs) xs.length ∧ J ys W') ∨ (∃ pre, (∃ k, k ≤ xs.length ∧ pre = upTo (bwF xs) k) ∧ Jx pre W')) := by
  have hm : xs.length ≤ 9223372036854775807 := Kd.C_max hC
  have hlt := World.block_lt_of_cell? wb _ hB
  have HC := Aside0.mk hC
  have HBs := Aside0.mk hB
  have HW := Aside0.mk hW
  have hb1 := (hW.cell (p := ⟨Bs, 0, none⟩) hlt).trans hB
  clear hC hB hW
  refine callsIn_of_wp Try.func68 rfl hf ?_ hro
  simp only [Try.ntmps68, List.size_toArray, List.length_cons, List.length_nil, Nat.reduceAdd, Nat.reduceSub, Array.replicate_succ, Array.replicate_zero, List.push_toArray, List.append_toArray, List.nil_append, List.cons_append]
  gi_wp2
  gi_loopw [3] (fun i wr => ∃ k : Nat, k ≤ xs.length ∧ i = .int .i64 (((xs.length - k : Nat) : Int) - 1) ∧ J (upTo (bwF xs) k) wr ∧ Aside0 (Below wb.heap.size wb wr))
    (fun i _ => ((intOf i) + 1).toNat)
  case atStart => exact ⟨0, Nat.zero_le _, rfl, h0, HW⟩
  case round =>
    obtain ⟨k, hk, rfl, hJs, HN⟩ := hrel
    clear hb1 HW
    have hb1 := (HN.out.cell (p := ⟨Bs, 0, none⟩) hlt).trans HBs.out
    by_cases c1 : k < xs.length
    · obtain ⟨q, hq⟩ : ∃ q : Nat, q = xs.length - k - 1 := ⟨_, rfl⟩
      rw [show (((xs.length - k : Nat) : Int) - 1) = (q : Int) by omega]
      have hq2 : q < xs.length := by omega
      have hp0 : (0 : Int) ≤ (q : Int) := by omega
      have hp1 : (q : Int) < (xs.length : Int) := by omega
      obtain ⟨ad, e1, hx1, hx2⟩ := at_Wr (Kd.C_below HC.out HN.out) (q : Int) hp0 hp1
      subst e1
      rw [Int.toNat_natCast] at hx1 hx2
      have hgf : bwF xs k = (q, xs.getD q z0Wr) := by unfold bwF; rw [hq, Nat.sub_right_comm]
      obtain ⟨y, hy0⟩ : ∃ y, y = xs.getD q z0Wr := ⟨_, rfl⟩
      rw [← hy0] at hx1 hx2 hgf
      obtain ⟨fn, tmps, assign, body, hy, hR⟩ := hY _ (q, y) wr hJs (by rw [upTo_length]; exact c1)
      unfold bwE at hy
      dsimp only at hy
      have HGF := Aside0.mk hgf
      have HQ := Aside0.mk hq
      have HR := Aside0.mk hR
      clear hgf hy0 hq hR
      gi_wp2
      refine HR.out.mono ?_
      rintro e W3 (⟨rfl, hJ3, hk3⟩ | ⟨rfl, hJx3⟩)
      · gi_wp2
        go_roundw
        case rel => exact ⟨k + 1, by omega, by rw [show ((xs.length - (k + 1) : Nat) : Int) = (q : Int) by have := HQ.out; omega], by rw [upTo_succ, HGF.out]; exact hJ3, ⟨HN.out.trans hk3⟩⟩
        case measure => simp [intOf]
      · gi_wp2
        refine bodyPost_ret (results_none rfl _ _ _) rfl ?_
        exact ⟨⟨_, rfl⟩, .inr ⟨_, ⟨k + 1, by omega, by rw [upTo_succ, HGF.out]⟩, hJx3⟩⟩
    · obtain rfl : k = xs.length := by omega
      rw [Nat.sub_self]
      gi_wp2
      go_end0
      exact ⟨⟨_, rfl⟩, .inl ⟨_, rfl, hJs⟩⟩
set_option maxHeartbeats 1000000 in
theorem bw_in (F : Fence) (n : Nat) (hf : F.fn 54) (hro : F.round = none) (A : Option Addr) (m c : Nat) (w : World) :
    CallsIn F n Try.prog 54 #[.slice A m c] w fun e w' => e = .returned (.func (.func 68) #[] #[.pointer (some ⟨w.heap.size, 0, none⟩)]) ∧ w' = w.alloc (.cells #[.slice A m c] 75) := by
  refine callsIn_of_wp Try.func54 rfl hf ?_ hro
  simp only [Try.ntmps54, List.size_toArray, List.length_cons, List.length_nil, Nat.reduceAdd, Nat.reduceSub, Array.replicate_succ, Array.replicate_zero, List.push_toArray, List.append_toArray, List.nil_append, List.cons_append]
  gi_wp2
  go_ret
  exact ⟨rfl, rfl⟩
theorem bw_stops (F : Fence) (n : Nat) (hf : F.fn 68) (hro : F.round = none) (hn : 1 ≤ n) (Bs : Nat) (wb : World) (A : Option Addr) (c : Nat) (xs : List Wr) (hC : Kd.C kWr wb A xs.length xs) (hB : wb.cell? ⟨Bs, 0, none⟩ = some (.slice A xs.length c)) :
    SeqStopsK F n Try.prog 68 #[.pointer (some ⟨Bs, 0, none⟩)] bwE (Below wb.heap.size) (fun ys => ys = upTo (bwF xs) xs.length) (fun pre => ∃ k, k ≤ xs.length ∧ pre = upTo (bwF xs) k) xs.length wb :=
  fun l J Jx W hW _ _ hY h0 => bw1_in F n hf hro hn l Bs wb A c xs hC hB J Jx hY W hW h0
end Go.Proofs.Ytfllpmmfjbjgoaa

