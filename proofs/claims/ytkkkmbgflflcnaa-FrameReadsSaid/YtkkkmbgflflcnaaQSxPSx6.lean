import Derived.Test.YtkkkmbgflflcnaaProg
import Derived.Below
import Derived.Deep.Draws
import Derived.Deep.AppendLies
import Derived.Maps.AppendAt
import Derived.OwnWalk
import Derived.Laws.BytesArg
import Derived.Laws.MakeOwn
import Derived.Laws.OwnMore
import Derived.Deep.OwnRows
import Derived.Tactics
import Derived.Lib.ConvBytes
import Derived.Laws.Slices
import Derived.WalkKit
import Derived.KernelRfl
import Derived.RowKit3
import Derived.Deep.LoopGhost
import Derived.Deep.QuietTactic
import Derived.BigQuiet
import Derived.WideLaws
import Derived.Deep.DeepCutAuto
import Derived.Deep.CutBlock
import Derived.Deep.RegionHeld3
import Derived.Laws.Rows
import Derived.Lib.AppendStr
import Derived.ArgAppend
import Derived.Laws.IdiomCopy
import Derived.OrdersHeld
import Derived.Laws.BitsLemmas
import Derived.RowKit
import Derived.Test.YtkkkmbgflflcnaaQSxMOutN
import Derived.Test.YtkkkmbgflflcnaaQSxMOutText
import Derived.Test.YtkkkmbgflflcnaaQSxMFold
import Derived.RegionTactic
import Derived.ChangeAlike
import Derived.Test.YtkkkmbgflflcnaaQSxWWords
import Derived.Test.YtkkkmbgflflcnaaQSxWMore
import Derived.Test.YtkkkmbgflflcnaaQSxWGuard
namespace Go.Proofs.Ytkkkmbgflflcnaa.PS
open Go.Proofs.Ytkkkmbgflflcnaa.PL
open Go.RowKit Go.Proofs.YtkkkmbgflflcnaaW.PrintWords Go.Proofs.YtkkkmbgflflcnaaW.PrintLast Go.Proofs.YtkkkmbgflflcnaaW.PrintMore
attribute [local go_sem] max2_int min2_int max_two min_two max_three min_three max_four min_four
set_option linter.unusedVariables false
set_option linter.unusedSimpArgs false
def errW : Option Int → Value
  | none => .nilIface
  | some c => .iface 0 (.int .i64 c)
theorem errW_none : errW none = .nilIface := rfl
theorem errW_some (c : Int) : errW (some c) = .iface 0 (.int .i64 c) := rfl
def bA (n m : Nat) : Array Bool := ((List.range n).map fun i => m.testBit i).toArray
theorem emp1_ (l : List UInt8) : Value.bool (!l.isEmpty) = Value.bool (l != []) := by cases l <;> rfl
theorem emp2_ (l : List UInt8) : Value.bool l.isEmpty = Value.bool (l == []) := by cases l <;> rfl
theorem sgn_u8_ : IntKind.u8.signed = false := rfl
theorem max_u8_ : IntKind.u8.max = 255 := rfl
theorem sgn_u16_ : IntKind.u16.signed = false := rfl
theorem max_u16_ : IntKind.u16.max = 65535 := rfl
theorem sgn_u32_ : IntKind.u32.signed = false := rfl
theorem max_u32_ : IntKind.u32.max = 4294967295 := rfl
theorem sgn_u64_ : IntKind.u64.signed = false := rfl
theorem max_u64_ : IntKind.u64.max = 18446744073709551615 := rfl
structure S104 where
  f0 : Int
  f1 : ByteArray
  f2 : Bool
  f3 : Bool
  f4 : Bool
def z104 : S104 := ⟨(0 : Int), (⟨#[]⟩ : ByteArray), false, false, false⟩
def k104 : Kd S104 := Kd.iso (Kd.pair (Kd.int .i64) (Kd.pair Kd.string (Kd.pair Kd.bool (Kd.pair Kd.bool Kd.bool)))) (fun x : S104 => (x.f0, x.f1, x.f2, x.f3, x.f4))
theorem k104_open {w : World} {x : S104} {cs : List Value} (h : k104.K w x cs) : cs = [.int .i64 x.f0, .string x.f1, .bool x.f2, .bool x.f3, .bool x.f4] := by
  obtain ⟨_, _, rfl, rfl, ⟨_, _, rfl, rfl, ⟨_, _, rfl, rfl, ⟨_, _, rfl, rfl, rfl⟩⟩⟩⟩ := h
  exact rfl
theorem k104_mkM (w : World) (base : Nat) (ok : Nat → Prop) (x : S104)  : k104.M w base ok x [.int .i64 x.f0, .string x.f1, .bool x.f2, .bool x.f3, .bool x.f4] := ⟨[.int .i64 x.f0], [.string x.f1, .bool x.f2, .bool x.f3, .bool x.f4], rfl, rfl, ⟨[.string x.f1], [.bool x.f2, .bool x.f3, .bool x.f4], rfl, rfl, ⟨[.bool x.f2], [.bool x.f3, .bool x.f4], rfl, rfl, ⟨[.bool x.f3], [.bool x.f4], rfl, rfl, rfl⟩⟩⟩⟩
def rd_T104 (xs : List S104) (i : Int) : S104 := xs.getD i.toNat z104
theorem at_T104 {w : World} {A : Option Addr} {n : Nat} {xs : List S104} (h : Kd.C k104 w A n xs) (i : Int) (h0 : 0 ≤ i) (h1 : i < n) : ∃ ad , A = some ad ∧ w.cell? (ad.add (i.toNat * 5)) = some (.int .i64 (rd_T104 xs i).f0) ∧ w.cell? ⟨(ad.add (i.toNat * 5)).block, (ad.add (i.toNat * 5)).off + 1, none⟩ = some (.string (rd_T104 xs i).f1) ∧ w.cell? ⟨(ad.add (i.toNat * 5)).block, (ad.add (i.toNat * 5)).off + 2, none⟩ = some (.bool (rd_T104 xs i).f2) ∧ w.cell? ⟨(ad.add (i.toNat * 5)).block, (ad.add (i.toNat * 5)).off + 3, none⟩ = some (.bool (rd_T104 xs i).f3) ∧ w.cell? ⟨(ad.add (i.toNat * 5)).block, (ad.add (i.toNat * 5)).off + 4, none⟩ = some (.bool (rd_T104 xs i).f4) := by
  obtain ⟨ad, c, e, _, hK, hc0⟩ := Kd.C_get h z104 i h0 h1
  have hc : ∀ j u, c[j]? = some u → w.cell? (ad.add (i.toNat * 5 + j)) = some u := hc0
  obtain rfl := k104_open hK
  exact ⟨ad, e, hc 0 _ rfl, by rw [← add_field _ _ 1 (by omega)]; exact hc 1 _ rfl, by rw [← add_field _ _ 2 (by omega)]; exact hc 2 _ rfl, by rw [← add_field _ _ 3 (by omega)]; exact hc 3 _ rfl, by rw [← add_field _ _ 4 (by omega)]; exact hc 4 _ rfl⟩
end Go.Proofs.Ytkkkmbgflflcnaa.PS

namespace Go.Proofs.Ytkkkmbgflflcnaa.PS
open Go.Proofs.Ytkkkmbgflflcnaa.PL
open Go.RowKit Go.Proofs.YtkkkmbgflflcnaaW.PrintWords Go.Proofs.YtkkkmbgflflcnaaW.PrintLast Go.Proofs.YtkkkmbgflflcnaaW.PrintMore
attribute [local go_sem] max2_int min2_int max_two min_two max_three min_three max_four min_four
set_option linter.unusedVariables false
set_option linter.unusedSimpArgs false
theorem eqA34 (d : Nat) (w : World) (x0 y0 : Int) (x1 y1 : ByteArray) (x2 y2 : ByteArray) (x3 y3 : Int) :
    (Op.equalIn (d + 2) 34 (.agg #[.int .i64 x0, .string x1, .string x2, .int .i64 x3]) (.agg #[.int .i64 y0, .string y1, .string y2, .int .i64 y3])).run Try.prog w = .ok (x0 == y0 && (x1.toList == y1.toList && (x2.toList == y2.toList && (x3 == y3)))) w := by
  refine eqA_of Try.underlying34 (by kernel_rfl) ?_
  refine eqf_cons (by rfl) (by go_simp; rfl) (by go_simp; rfl) (by go_simp) ?_
  refine eqf_cons (by rfl) (by go_simp; rfl) (by go_simp; rfl) (by go_simp) ?_
  refine eqf_cons (by rfl) (by go_simp; rfl) (by go_simp; rfl) (by go_simp) ?_
  exact eqf_last (by rfl) (by go_simp; rfl) (by go_simp; rfl) (by go_simp)
end Go.Proofs.Ytkkkmbgflflcnaa.PS

namespace Go.Proofs.Ytkkkmbgflflcnaa.PS
open Go.Proofs.Ytkkkmbgflflcnaa.PL
open Go.RowKit Go.Proofs.YtkkkmbgflflcnaaW.PrintWords Go.Proofs.YtkkkmbgflflcnaaW.PrintLast Go.Proofs.YtkkkmbgflflcnaaW.PrintMore
attribute [local go_sem] max2_int min2_int max_two min_two max_three min_three max_four min_four
set_option linter.unusedVariables false
set_option linter.unusedSimpArgs false
theorem eqA36 (d : Nat) (w : World) (x0 y0 : Int) (x1 y1 : Int) (x2 y2 : ByteArray) (x3 y3 : Int) (x4 y4 : ByteArray) (x5 y5 : ByteArray) (x6 y6 : Int) :
    (Op.equalIn (d + 3) 36 (.agg #[.int .i64 x0, .int .i64 x1, .string x2, .int .i64 x3, .string x4, .string x5, .int .i64 x6]) (.agg #[.int .i64 y0, .int .i64 y1, .string y2, .int .i64 y3, .string y4, .string y5, .int .i64 y6])).run Try.prog w = .ok (x0 == y0 && (x1 == y1 && (x2.toList == y2.toList && ((x3 == y3 && (x4.toList == y4.toList && (x5.toList == y5.toList && (x6 == y6)))))))) w := by
  refine eqA_of Try.underlying36 (by kernel_rfl) ?_
  refine eqf_cons (by rfl) (by go_simp; rfl) (by go_simp; rfl) (by go_simp) ?_
  refine eqf_cons (by rfl) (by go_simp; rfl) (by go_simp; rfl) (by go_simp) ?_
  refine eqf_cons (by rfl) (by go_simp; rfl) (by go_simp; rfl) (by go_simp) ?_
  exact eqf_last (by rfl) (by go_simp) (by go_simp) (eqA34 (d + 0) w _ _ _ _ _ _ _ _)
end Go.Proofs.Ytkkkmbgflflcnaa.PS

namespace Go.Proofs.Ytkkkmbgflflcnaa.PS
open Go.Proofs.Ytkkkmbgflflcnaa.PL
open Go.RowKit Go.Proofs.YtkkkmbgflflcnaaW.PrintWords Go.Proofs.YtkkkmbgflflcnaaW.PrintLast Go.Proofs.YtkkkmbgflflcnaaW.PrintMore
attribute [local go_sem] max2_int min2_int max_two min_two max_three min_three max_four min_four
set_option linter.unusedVariables false
set_option linter.unusedSimpArgs false
theorem eqA56 (d : Nat) (w : World) (x0 y0 : Int) (x1 y1 : ByteArray) (x2 y2 : Int) :
    (Op.equalIn (d + 2) 56 (.agg #[.int .i64 x0, .string x1, .int .i64 x2]) (.agg #[.int .i64 y0, .string y1, .int .i64 y2])).run Try.prog w = .ok (x0 == y0 && (x1.toList == y1.toList && (x2 == y2))) w := by
  refine eqA_of Try.underlying56 (by kernel_rfl) ?_
  refine eqf_cons (by rfl) (by go_simp; rfl) (by go_simp; rfl) (by go_simp) ?_
  refine eqf_cons (by rfl) (by go_simp; rfl) (by go_simp; rfl) (by go_simp) ?_
  exact eqf_last (by rfl) (by go_simp; rfl) (by go_simp; rfl) (by go_simp)
end Go.Proofs.Ytkkkmbgflflcnaa.PS

namespace Go.Proofs.Ytkkkmbgflflcnaa.PS
open Go.Proofs.Ytkkkmbgflflcnaa.PL
open Go.RowKit Go.Proofs.YtkkkmbgflflcnaaW.PrintWords Go.Proofs.YtkkkmbgflflcnaaW.PrintLast Go.Proofs.YtkkkmbgflflcnaaW.PrintMore
attribute [local go_sem] max2_int min2_int max_two min_two max_three min_three max_four min_four
set_option linter.unusedVariables false
set_option linter.unusedSimpArgs false
attribute [local go_sem] sgn_u8_ sgn_u16_ sgn_u32_ sgn_u64_ max_u8_ max_u16_ max_u32_ max_u64_
def crc_step.l0 : Nat → Int → Int → Option (Int)
  | 0, _, _ => none
  | k + 1, x0, x10 => if x10 < 8 then (crc_step.l0 k (Go.bits .xor .u32 (x0 / 2) (Go.bits .and .u32 3988292384 ((-(Go.bits .and .u32 x0 1)) % 4294967296))) (wrap64 (x10 + 1))) else (some x0)
def crc_step.f (k : Nat) (a0 : Int) (a1 : Int) : Option (Int) := crc_step.l0 k (Go.bits .xor .u32 a0 ((a1) % 4294967296)) 0
set_option maxHeartbeats 2000000 in
set_option maxRecDepth 100000 in
theorem crc_step.calls (k : Nat) (a0 : Int) (a1 : Int) (r : Int) (w : World) (h : crc_step.f k a0 a1 = some r) :
    Calls Try.prog 78 #[.int .u32 a0, .int .u8 a1] w fun e w' => e = .returned (.int .u32 r) ∧ Drawn0 w w' := by
  have H : (crc_step.l0 k (Go.bits .xor .u32 a0 ((a1) % 4294967296)) 0) = some r := h
  clear h
  have H' := Aside0.mk H
  clear H
  go_enter Try.func78, Try.ntmps78
  go_wp2
  go_loopg [0, 10] k (fun kq v0 v10 w' => ∃ (x0_1 : Int) (x10_1 : Int), v0 = .int .u32 x0_1 ∧ v10 = .int .i64 x10_1 ∧ Aside0 (crc_step.l0 kq x0_1 x10_1 = some r) ∧ Aside0 (kq ≤ k) ∧ Drawn0 w w')
  case atStart => exact ⟨(Go.bits .xor .u32 a0 ((a1) % 4294967296)), (0), (by first | rfl | (simp; done) | (simp [*]; done) | exact emp1_ _ | exact (emp1_ _).symm | exact emp2_ _ | exact (emp2_ _).symm), (by first | rfl | (simp; done) | (simp [*]; done) | exact emp1_ _ | exact (emp1_ _).symm | exact emp2_ _ | exact (emp2_ _).symm), H', ⟨Nat.le_refl _⟩, by repeat (first | exact Drawn0.refl _ | apply Drawn0.step)⟩
  clear H'
  try clear p2
  obtain ⟨x0_1, x10_1, rfl, rfl, HA, HK1, ⟨m1, rfl⟩⟩ := hrel
  cases gk with
  | zero => exact absurd HA.out (by simp [crc_step.l0])
  | succ k1 =>
    have H := HA.out
    clear HA
    simp only [crc_step.l0] at H
    by_cases c3 : x10_1 < 8
    rotate_left
    · rw [if_neg c3] at H
      have c3b0 : decide (x10_1 < 8) = false := decide_eq_false c3
      clear c3
      obtain rfl := Option.some.inj H
      go_wp2
      go_ret
      exact ⟨by first | rfl | (simp; done) | (simp [*]; done), by repeat (first | exact Drawn0.refl _ | apply Drawn0.step)⟩
    rw [if_pos c3] at H
    have c3b0 : decide (x10_1 < 8) = true := decide_eq_true c3
    clear c3
    have H' := Aside0.mk H
    clear H
    go_wp2
    go_roundg k1
    case measure => have := HK1.out; omega
    case rel => exact ⟨(Go.bits .xor .u32 (x0_1 / 2) (Go.bits .and .u32 3988292384 ((-(Go.bits .and .u32 x0_1 1)) % 4294967296))), (wrap64 (x10_1 + 1)), (by first | rfl | (simp; done) | (simp [*]; done) | exact emp1_ _ | exact (emp1_ _).symm | exact emp2_ _ | exact (emp2_ _).symm), (by first | rfl | (simp; done) | (simp [*]; done) | exact emp1_ _ | exact (emp1_ _).symm | exact emp2_ _ | exact (emp2_ _).symm), H', ⟨by have := HK1.out; omega⟩, by repeat (first | exact Drawn0.refl _ | apply Drawn0.step)⟩
def IsS127 (w0 W : World) (g : Nat) (f0 : Int) : Prop := W.heap[g]? = some (.cells #[.int .u32 f0] 127 (0, 0)) ∧ w0.heap.size ≤ g
theorem IsS127.grown {w0 W : World} {g : Nat} {f0 : Int} {W1 : World} {row : Option Nat} (h : IsS127 w0 W g f0) (hw : W.grownBy W1 row) (hne : some g ≠ row) : IsS127 w0 W1 g f0 := by
  obtain ⟨hb, hg⟩ := h
  exact ⟨blk_grown hb hw hne, hg⟩
theorem IsS127.kept {w0 W : World} {g : Nat} {f0 : Int} {W1 : World} {S : Nat → Prop} (h : IsS127 w0 W g f0) (hk : Kept W W1 S) (hne : ¬ S g) : IsS127 w0 W1 g f0 := by
  obtain ⟨hb, hg⟩ := h
  exact ⟨blk_kept hb hk hne, hg⟩
theorem IsS127.below {w0 W : World} {g : Nat} {f0 : Int} {W1 : World} (h : IsS127 w0 W g f0) (hw : Below W.heap.size W W1) : IsS127 w0 W1 g f0 := h.grown (grown_of_below hw none) (by simp)
theorem IsS127.alloc {w0 W : World} {g : Nat} {f0 : Int} (h : IsS127 w0 W g f0) (o : Obj) : IsS127 w0 (W.alloc o) g f0 := h.below (bal (Below.refl _ _) o)
theorem IsS127.drewN {w0 W : World} {g : Nat} {f0 : Int} (h : IsS127 w0 W g f0) (m : Nat) : IsS127 w0 (W.drewN m) g f0 := h
theorem IsS127.drew {w0 W : World} {g : Nat} {f0 : Int} (h : IsS127 w0 W g f0) : IsS127 w0 W.drew g f0 := h
theorem IsS127.at_ {w0 W : World} {g : Nat} {f0 : Int} {w' : World} {m : Nat} (hq : W.drewN m = w') (h : IsS127 w0 W g f0) : IsS127 w0 w' g f0 := by subst hq; exact IsS127.drewN h m
theorem IsS127.apart {w0 W : World} {g : Nat} {f0 : Int} {α : Type} {d : Kd α} {e : Nat} {base : Nat} {ok : Nat → Prop} {v : Value} {xs : List α} (h : IsS127 w0 W g f0) (ho : d.R e W base ok v xs) (ht : ∀ q, q ∈ e :: d.E → q ≠ 127) : d.R e W base (fun k => ok k ∧ k ≠ g) v xs := by
  obtain ⟨hb, hg⟩ := h
  exact Kd.R_types ho hb ht
theorem IsS127.lt {w0 W : World} {g : Nat} {f0 : Int} (h : IsS127 w0 W g f0) : g < W.heap.size := by
  obtain ⟨hb, hg⟩ := h
  exact blk_lt hb
theorem IsS127.ge {w0 W : World} {g : Nat} {f0 : Int} (h : IsS127 w0 W g f0) : w0.heap.size ≤ g := by
  obtain ⟨hb, hg⟩ := h
  exact hg
theorem IsS127.ne_blk {w0 W : World} {g : Nat} {f0 : Int} {a : Nat} {cs : Array Value} {t : TypeId} {fr : Nat × Nat} (h : IsS127 w0 W g f0) (hb2 : W.heap[a]? = some (.cells cs t fr)) (ht : t ≠ 127) : g ≠ a := by
  obtain ⟨hb, hg⟩ := h
  rintro rfl
  rw [hb] at hb2
  injection hb2 with hb2
  injection hb2 with _ ht2
  exact ht ht2.symm
theorem IsS127.far {w0 W : World} {g : Nat} {f0 : Int} {p : Addr} (h : IsS127 w0 W g f0) (hne : g ≠ p.block) (u : Value) : IsS127 w0 (W.setCell p u) g f0 := by
  obtain ⟨hb, hg⟩ := h
  exact ⟨blk_far hb hne u, hg⟩
theorem cellS127_0 {W : World} {g : Nat} {f0 : Int} (h : W.heap[g]? = some (.cells #[.int .u32 f0] 127 (0, 0))) : W.cell? ⟨g, 0, none⟩ = some (.int .u32 f0) := (kcl h 0).trans rfl
theorem IsS127.set_0 {w0 W : World} {g : Nat} {f0 : Int} (h : IsS127 w0 W g f0) (x : Int) : IsS127 w0 (W.setCell ⟨g, 0, none⟩ (.int .u32 x)) g x := by
  obtain ⟨hb, hg⟩ := h
  exact ⟨by simpa using blk_set hb 0 (.int .u32 x), hg⟩
def crc_Sum_Add.l0 : Nat → ByteArray → Int → Int → Int → Option (Int)
  | 0, _, _, _, _ => none
  | k + 1, x1, x4, x12, x13 => if x13 < x12 then (if 0 ≤ x13 then (if x13 < (x1.size : Int) then ((crc_step.f k x4 (bt x1 x13)).bind fun t101 => (crc_Sum_Add.l0 k x1 t101 x12 (wrap64 (x13 + 1)))) else (none)) else (none)) else (some (Go.bits .xor .u32 4294967295 x4))
def crc_Sum_Add.f (k : Nat) (s0_0 : Int) (a1 : ByteArray) : Option (Int) := crc_Sum_Add.l0 k a1 (Go.bits .xor .u32 4294967295 s0_0) (a1.size : Int) 0
set_option maxHeartbeats 2000000 in
set_option maxRecDepth 100000 in
theorem crc_Sum_Add.calls (k : Nat) (g : Nat) (s0_0 : Int) (a1 : ByteArray) (r : Int) (w0 w : World) (hI : IsS127 w0 w g s0_0) (hB : Below w0.heap.size w0 w) (h : crc_Sum_Add.f k s0_0 a1 = some r) :
    Calls Try.prog 76 #[.pointer (some ⟨g, 0, none⟩), .string a1] w fun e w' => e = .returned (.tuple #[]) ∧ IsS127 w0 w' g r ∧ Below w0.heap.size w0 w' ∧ KeepBut w w' g none := by
  have HI0 := Aside0.mk hI
  have HK := Aside0.mk (KeepBut.refl w g none)
  have HL := Aside0.mk hB.size
  clear hI
  have HW0 := Aside0.mk hB.size
  have HB := Aside0.mk hB
  clear hB
  have H : (crc_Sum_Add.l0 k a1 (Go.bits .xor .u32 4294967295 s0_0) (a1.size : Int) 0) = some r := h
  clear h
  have H' := Aside0.mk H
  clear H
  obtain ⟨HGz3, hgz3⟩ := HI0.out
  have hcz3_0 := cellS127_0 HGz3
  have hfz3_0 := kfr HGz3 0
  clear HGz3 hgz3
  go_enter Try.func76, Try.ntmps76
  go_wp2
  go_loopg [4, 13] k (fun kq v4 v13 w' => ∃ (x4_1 : Int) (x13_1 : Int), v4 = .int .u32 x4_1 ∧ v13 = .int .i64 x13_1 ∧ Aside0 (crc_Sum_Add.l0 kq a1 x4_1 (a1.size : Int) x13_1 = some r) ∧ Aside0 (kq ≤ k) ∧ Aside0 (IsS127 w0 w' g s0_0) ∧ Aside0 (KeepBut w w' g none) ∧ Aside0 (Below w0.heap.size w0 w'))
  case atStart => exact ⟨(Go.bits .xor .u32 4294967295 s0_0), (0), (by first | rfl | (simp; done) | (simp [*]; done) | exact emp1_ _ | exact (emp1_ _).symm | exact emp2_ _ | exact (emp2_ _).symm), (by first | rfl | (simp; done) | (simp [*]; done) | exact emp1_ _ | exact (emp1_ _).symm | exact emp2_ _ | exact (emp2_ _).symm), H', ⟨Nat.le_refl _⟩, ⟨by repeat (first | (with_reducible first | exact HI0.out | apply IsS127.alloc | apply IsS127.drewN | apply IsS127.drew | apply IsS127.set_0) | exact HI0.out)⟩, ⟨by repeat (first | (with_reducible first | exact HK.out | apply KeepBut.set_ | apply edn | apply edw | apply eal) | exact HK.out)⟩, ⟨by repeat (first | (with_reducible first | exact HB.out | apply bal | apply bdn | apply bd1 | refine bst ?_ (IsS127.ge HI0.out)) | exact HB.out)⟩⟩
  clear H'
  try clear p2
  try clear hcz3_0
  try clear hfz3_0
  obtain ⟨x4_1, x13_1, rfl, rfl, HA, HK1, HI0, HK, HB⟩ := hrel
  cases gk with
  | zero => exact absurd HA.out (by simp [crc_Sum_Add.l0])
  | succ k1 =>
    have H := HA.out
    clear HA
    simp only [crc_Sum_Add.l0] at H
    by_cases c4 : x13_1 < (a1.size : Int)
    rotate_left
    · rw [if_neg c4] at H
      have c4b0 : decide (x13_1 < (a1.size : Int)) = false := decide_eq_false c4
      clear c4
      obtain rfl := Option.some.inj H
      obtain ⟨HGz9, hgz9⟩ := HI0.out
      have hcz9_0 := cellS127_0 HGz9
      have hfz9_0 := kfr HGz9 0
      clear HGz9 hgz9
      go_wp2
      first | go_end0 | ((try simp only [Exit.inBlock, Exit.then]); refine bodyPost_ret (results_none rfl _ _ _) rfl ?_)
      exact ⟨er_, by repeat (first | (with_reducible first | exact HI0.out | apply IsS127.alloc | apply IsS127.drewN | apply IsS127.drew | apply IsS127.set_0) | exact HI0.out), by repeat (first | (with_reducible first | exact HB.out | apply bal | apply bdn | apply bd1 | refine bst ?_ (IsS127.ge HI0.out)) | exact HB.out), by repeat (first | (with_reducible first | exact HK.out | apply KeepBut.set_ | apply edn | apply edw | apply eal) | exact HK.out)⟩
    rw [if_pos c4] at H
    have c4b0 : decide (x13_1 < (a1.size : Int)) = true := decide_eq_true c4
    clear c4
    by_cases c5 : 0 ≤ x13_1
    rotate_left
    · rw [if_neg c5] at H
      exact absurd H (by simp)
    rw [if_pos c5] at H
    have c5b0 : decide (0 ≤ x13_1) = true := decide_eq_true c5
    clear c5
    by_cases c6 : x13_1 < (a1.size : Int)
    rotate_left
    · rw [if_neg c6] at H
      exact absurd H (by simp)
    rw [if_pos c6] at H
    have c6b0 : decide (x13_1 < (a1.size : Int)) = true := decide_eq_true c6
    clear c6
    replace H := Option.bind_eq_some_iff.mp H
    obtain ⟨t101, A80, H⟩ := H
    replace H : (crc_Sum_Add.l0 k1 a1 t101 (a1.size : Int) (wrap64 (x13_1 + 1))) = some r := H
    have A8 := Aside0.mk A80
    clear A80
    have H' := Aside0.mk H
    clear H
    have p7 : 0 ≤ (x13_1 : Int) := of_decide_eq_true (by first | (with_reducible assumption) | assumption)
    have q7 : x13_1 < (a1.size : Int) := of_decide_eq_true (by first | (with_reducible assumption) | assumption)
    have hx7 := bt_at a1 x13_1
    replace p7 := eq_true p7
    replace q7 := eq_true q7
    go_wp2_with (first | ((with_reducible refine gcl (f := 78) rfl ?_); refine gl_ (some 20) rfl rfl Try.func78 (by kernel_rfl) rfl #[.int .u32 x4_1, .int .u8 (bt a1 x13_1)] rfl ar_ ?_; (with_reducible refine (crc_step.calls k1 x4_1 (bt a1 x13_1) t101 _ A8.out).mono ?_); rintro e w' ⟨rfl, ⟨nd, rfl⟩⟩; refine ⟨_, rfl, ?_⟩))
    go_roundg k1
    case measure => have := HK1.out; omega
    case rel => exact ⟨(t101), (wrap64 (x13_1 + 1)), (by first | rfl | (simp; done) | (simp [*]; done) | exact emp1_ _ | exact (emp1_ _).symm | exact emp2_ _ | exact (emp2_ _).symm), (by first | rfl | (simp; done) | (simp [*]; done) | exact emp1_ _ | exact (emp1_ _).symm | exact emp2_ _ | exact (emp2_ _).symm), H', ⟨by have := HK1.out; omega⟩, ⟨by repeat (first | (with_reducible first | exact HI0.out | apply IsS127.alloc | apply IsS127.drewN | apply IsS127.drew | apply IsS127.set_0) | exact HI0.out)⟩, ⟨by repeat (first | (with_reducible first | exact HK.out | apply KeepBut.set_ | apply edn | apply edw | apply eal) | exact HK.out)⟩, ⟨by repeat (first | (with_reducible first | exact HB.out | apply bal | apply bdn | apply bd1 | refine bst ?_ (IsS127.ge HI0.out)) | exact HB.out)⟩⟩
def armoirelaw01_Cut.f (a0 : ByteArray) (a1 : Int) : Option (ByteArray) := if (a0.size : Int) > a1 then (if 0 ≤ a1 then (if a1 ≤ (a0.size : Int) then (some (a0.extract 0 (a1 : Int).toNat)) else (none)) else (none)) else (some a0)
set_option maxHeartbeats 2000000 in
set_option maxRecDepth 100000 in
theorem armoirelaw01_Cut.calls (a0 : ByteArray) (a1 : Int) (r : ByteArray) (w : World) (h : armoirelaw01_Cut.f a0 a1 = some r) :
    Calls Try.prog 7 #[.string a0, .int .i64 a1] w fun e w' => e = .returned (.string r) ∧ Drawn0 w w' := by
  have H : (if (a0.size : Int) > a1 then (if 0 ≤ a1 then (if a1 ≤ (a0.size : Int) then (some (a0.extract 0 (a1 : Int).toNat)) else (none)) else (none)) else (some a0)) = some r := h
  clear h
  by_cases c3 : (a0.size : Int) > a1
  rotate_left
  · rw [if_neg c3] at H
    have c3b0 : decide (a1 < (a0.size : Int)) = false := decide_eq_false c3
    clear c3
    obtain rfl := Option.some.inj H
    go_enter Try.func7, Try.ntmps7
    go_wp2
    go_ret
    exact ⟨by first | rfl | (simp; done) | (simp [*]; done), by repeat (first | exact Drawn0.refl _ | apply Drawn0.step)⟩
  rw [if_pos c3] at H
  have c3b0 : decide (a1 < (a0.size : Int)) = true := decide_eq_true c3
  clear c3
  by_cases c4 : 0 ≤ a1
  rotate_left
  · rw [if_neg c4] at H
    exact absurd H (by simp)
  rw [if_pos c4] at H
  have c4b0 := eq_true c4
  have c4b1 : decide (0 ≤ a1) = true := decide_eq_true c4
  clear c4
  by_cases c5 : a1 ≤ (a0.size : Int)
  rotate_left
  · rw [if_neg c5] at H
    exact absurd H (by simp)
  rw [if_pos c5] at H
  have c5b0 := eq_true c5
  have c5b1 : decide (a1 ≤ (a0.size : Int)) = true := decide_eq_true c5
  clear c5
  obtain rfl := Option.some.inj H
  go_enter Try.func7, Try.ntmps7
  go_wp2
  go_ret
  exact ⟨by first | rfl | (simp; done) | (simp [*]; done), by repeat (first | exact Drawn0.refl _ | apply Drawn0.step)⟩
def method_shapes.f  : Option ((List (S104))) := some (([(⟨1, (⟨#[114, 101, 97, 100]⟩ : ByteArray), false, false, false⟩ : S104), (⟨1, (⟨#[119, 114, 105, 116, 101]⟩ : ByteArray), true, false, false⟩ : S104), (⟨2, (⟨#[97, 100, 100]⟩ : ByteArray), false, false, true⟩ : S104), (⟨2, (⟨#[99, 111, 117, 110, 116]⟩ : ByteArray), false, false, false⟩ : S104), (⟨3, (⟨#[99, 114, 101, 100, 105, 116]⟩ : ByteArray), false, false, true⟩ : S104), (⟨3, (⟨#[100, 101, 98, 105, 116]⟩ : ByteArray), false, false, true⟩ : S104), (⟨3, (⟨#[98, 97, 108, 97, 110, 99, 101]⟩ : ByteArray), false, false, false⟩ : S104), (⟨4, (⟨#[105, 110, 115, 101, 114, 116]⟩ : ByteArray), true, false, false⟩ : S104), (⟨4, (⟨#[114, 101, 109, 111, 118, 101]⟩ : ByteArray), true, false, false⟩ : S104), (⟨4, (⟨#[104, 97, 115]⟩ : ByteArray), true, false, false⟩ : S104), (⟨5, (⟨#[98, 105, 110, 100]⟩ : ByteArray), true, true, false⟩ : S104), (⟨5, (⟨#[117, 110, 98, 105, 110, 100]⟩ : ByteArray), true, false, false⟩ : S104), (⟨5, (⟨#[108, 111, 111, 107]⟩ : ByteArray), true, false, false⟩ : S104), (⟨6, (⟨#[101, 110, 113]⟩ : ByteArray), true, false, false⟩ : S104), (⟨6, (⟨#[100, 101, 113]⟩ : ByteArray), false, false, false⟩ : S104), (⟨7, (⟨#[112, 117, 116]⟩ : ByteArray), true, false, false⟩ : S104), (⟨7, (⟨#[116, 97, 107, 101]⟩ : ByteArray), false, false, false⟩ : S104)] : List (S104)))
set_option maxHeartbeats 2000000 in
set_option maxRecDepth 100000 in
theorem method_shapes.calls  (r : List (S104)) (w : World) (h : method_shapes.f  = some r) :
    Calls Try.prog 75 #[] w fun e w' => ∃ v0_ : Value, e = .returned (v0_) ∧ Kd.R k104 104 w' w.heap.size (fun _ => True) v0_ r ∧ Below w.heap.size w w' := by
  have hu104 := Try.underlying104
  have HB := Aside0.mk (Below.refl w.heap.size w)
  have H : (some (([(⟨1, (⟨#[114, 101, 97, 100]⟩ : ByteArray), false, false, false⟩ : S104), (⟨1, (⟨#[119, 114, 105, 116, 101]⟩ : ByteArray), true, false, false⟩ : S104), (⟨2, (⟨#[97, 100, 100]⟩ : ByteArray), false, false, true⟩ : S104), (⟨2, (⟨#[99, 111, 117, 110, 116]⟩ : ByteArray), false, false, false⟩ : S104), (⟨3, (⟨#[99, 114, 101, 100, 105, 116]⟩ : ByteArray), false, false, true⟩ : S104), (⟨3, (⟨#[100, 101, 98, 105, 116]⟩ : ByteArray), false, false, true⟩ : S104), (⟨3, (⟨#[98, 97, 108, 97, 110, 99, 101]⟩ : ByteArray), false, false, false⟩ : S104), (⟨4, (⟨#[105, 110, 115, 101, 114, 116]⟩ : ByteArray), true, false, false⟩ : S104), (⟨4, (⟨#[114, 101, 109, 111, 118, 101]⟩ : ByteArray), true, false, false⟩ : S104), (⟨4, (⟨#[104, 97, 115]⟩ : ByteArray), true, false, false⟩ : S104), (⟨5, (⟨#[98, 105, 110, 100]⟩ : ByteArray), true, true, false⟩ : S104), (⟨5, (⟨#[117, 110, 98, 105, 110, 100]⟩ : ByteArray), true, false, false⟩ : S104), (⟨5, (⟨#[108, 111, 111, 107]⟩ : ByteArray), true, false, false⟩ : S104), (⟨6, (⟨#[101, 110, 113]⟩ : ByteArray), true, false, false⟩ : S104), (⟨6, (⟨#[100, 101, 113]⟩ : ByteArray), false, false, false⟩ : S104), (⟨7, (⟨#[112, 117, 116]⟩ : ByteArray), true, false, false⟩ : S104), (⟨7, (⟨#[116, 97, 107, 101]⟩ : ByteArray), false, false, false⟩ : S104)] : List (S104)))) = some r := h
  clear h
  obtain ⟨y102, hy102⟩ : ∃ y_ : List (S104), y_ = (([(⟨1, (⟨#[114, 101, 97, 100]⟩ : ByteArray), false, false, false⟩ : S104), (⟨1, (⟨#[119, 114, 105, 116, 101]⟩ : ByteArray), true, false, false⟩ : S104), (⟨2, (⟨#[97, 100, 100]⟩ : ByteArray), false, false, true⟩ : S104), (⟨2, (⟨#[99, 111, 117, 110, 116]⟩ : ByteArray), false, false, false⟩ : S104), (⟨3, (⟨#[99, 114, 101, 100, 105, 116]⟩ : ByteArray), false, false, true⟩ : S104), (⟨3, (⟨#[100, 101, 98, 105, 116]⟩ : ByteArray), false, false, true⟩ : S104), (⟨3, (⟨#[98, 97, 108, 97, 110, 99, 101]⟩ : ByteArray), false, false, false⟩ : S104), (⟨4, (⟨#[105, 110, 115, 101, 114, 116]⟩ : ByteArray), true, false, false⟩ : S104), (⟨4, (⟨#[114, 101, 109, 111, 118, 101]⟩ : ByteArray), true, false, false⟩ : S104), (⟨4, (⟨#[104, 97, 115]⟩ : ByteArray), true, false, false⟩ : S104), (⟨5, (⟨#[98, 105, 110, 100]⟩ : ByteArray), true, true, false⟩ : S104), (⟨5, (⟨#[117, 110, 98, 105, 110, 100]⟩ : ByteArray), true, false, false⟩ : S104), (⟨5, (⟨#[108, 111, 111, 107]⟩ : ByteArray), true, false, false⟩ : S104), (⟨6, (⟨#[101, 110, 113]⟩ : ByteArray), true, false, false⟩ : S104), (⟨6, (⟨#[100, 101, 113]⟩ : ByteArray), false, false, false⟩ : S104), (⟨7, (⟨#[112, 117, 116]⟩ : ByteArray), true, false, false⟩ : S104), (⟨7, (⟨#[116, 97, 107, 101]⟩ : ByteArray), false, false, false⟩ : S104)] : List (S104))) := ⟨_, rfl⟩
  replace H : (some y102) = some r := by first | (rw [hy102]; with_reducible exact H) | (have H2_ := (Option.bind_some _ _).symm.trans H; rw [hy102]; with_reducible exact H2_) | (have H2_ := (Option.bind_some _ _).symm.trans H; with_reducible exact H2_) | with_reducible exact H | (rw [hy102]; exact H) | exact H
  have Ny102 := Aside0.mk hy102
  clear hy102
  obtain rfl := Option.some.inj H
  go_enter Try.func75, Try.ntmps75
  go_wp2_with (first | ((with_reducible refine gds (N := 18) rfl ?_); refine Kd.R_lit k104 _ 104 ?hg (N := 18) ?hd (xs := ([(⟨1, (⟨#[114, 101, 97, 100]⟩ : ByteArray), false, false, false⟩ : S104), (⟨1, (⟨#[119, 114, 105, 116, 101]⟩ : ByteArray), true, false, false⟩ : S104), (⟨2, (⟨#[97, 100, 100]⟩ : ByteArray), false, false, true⟩ : S104), (⟨2, (⟨#[99, 111, 117, 110, 116]⟩ : ByteArray), false, false, false⟩ : S104), (⟨3, (⟨#[99, 114, 101, 100, 105, 116]⟩ : ByteArray), false, false, true⟩ : S104), (⟨3, (⟨#[100, 101, 98, 105, 116]⟩ : ByteArray), false, false, true⟩ : S104), (⟨3, (⟨#[98, 97, 108, 97, 110, 99, 101]⟩ : ByteArray), false, false, false⟩ : S104), (⟨4, (⟨#[105, 110, 115, 101, 114, 116]⟩ : ByteArray), true, false, false⟩ : S104), (⟨4, (⟨#[114, 101, 109, 111, 118, 101]⟩ : ByteArray), true, false, false⟩ : S104), (⟨4, (⟨#[104, 97, 115]⟩ : ByteArray), true, false, false⟩ : S104), (⟨5, (⟨#[98, 105, 110, 100]⟩ : ByteArray), true, true, false⟩ : S104), (⟨5, (⟨#[117, 110, 98, 105, 110, 100]⟩ : ByteArray), true, false, false⟩ : S104), (⟨5, (⟨#[108, 111, 111, 107]⟩ : ByteArray), true, false, false⟩ : S104), (⟨6, (⟨#[101, 110, 113]⟩ : ByteArray), true, false, false⟩ : S104), (⟨6, (⟨#[100, 101, 113]⟩ : ByteArray), false, false, false⟩ : S104), (⟨7, (⟨#[112, 117, 116]⟩ : ByteArray), true, false, false⟩ : S104), (⟨7, (⟨#[116, 97, 107, 101]⟩ : ByteArray), false, false, false⟩ : S104)] : List (S104))) (inner := [.int .i64 1, .string (⟨#[114, 101, 97, 100]⟩ : ByteArray), .bool false, .bool false, .bool false, .int .i64 1, .string (⟨#[119, 114, 105, 116, 101]⟩ : ByteArray), .bool true, .bool false, .bool false, .int .i64 2, .string (⟨#[97, 100, 100]⟩ : ByteArray), .bool false, .bool false, .bool true, .int .i64 2, .string (⟨#[99, 111, 117, 110, 116]⟩ : ByteArray), .bool false, .bool false, .bool false, .int .i64 3, .string (⟨#[99, 114, 101, 100, 105, 116]⟩ : ByteArray), .bool false, .bool false, .bool true, .int .i64 3, .string (⟨#[100, 101, 98, 105, 116]⟩ : ByteArray), .bool false, .bool false, .bool true, .int .i64 3, .string (⟨#[98, 97, 108, 97, 110, 99, 101]⟩ : ByteArray), .bool false, .bool false, .bool false, .int .i64 4, .string (⟨#[105, 110, 115, 101, 114, 116]⟩ : ByteArray), .bool true, .bool false, .bool false, .int .i64 4, .string (⟨#[114, 101, 109, 111, 118, 101]⟩ : ByteArray), .bool true, .bool false, .bool false, .int .i64 4, .string (⟨#[104, 97, 115]⟩ : ByteArray), .bool true, .bool false, .bool false, .int .i64 5, .string (⟨#[98, 105, 110, 100]⟩ : ByteArray), .bool true, .bool true, .bool false, .int .i64 5, .string (⟨#[117, 110, 98, 105, 110, 100]⟩ : ByteArray), .bool true, .bool false, .bool false, .int .i64 5, .string (⟨#[108, 111, 111, 107]⟩ : ByteArray), .bool true, .bool false, .bool false, .int .i64 6, .string (⟨#[101, 110, 113]⟩ : ByteArray), .bool true, .bool false, .bool false, .int .i64 6, .string (⟨#[100, 101, 113]⟩ : ByteArray), .bool false, .bool false, .bool false, .int .i64 7, .string (⟨#[112, 117, 116]⟩ : ByteArray), .bool true, .bool false, .bool false, .int .i64 7, .string (⟨#[116, 97, 107, 101]⟩ : ByteArray), .bool false, .bool false, .bool false]) (ok := fun _ => True) (okp := fun _ => True) ?hr ?hp (fun _ hk => hk) trivial (Below.refl _ _) (Nat.le_refl _) (by simp) ?_; (case hd => rfl); (case hg => rfl); (case hr => first | (go_simp; done) | (go_simp; rfl)); (case hp => exact (Reps.c5 (show Kd.M k104 _ _ _ (⟨1, (⟨#[114, 101, 97, 100]⟩ : ByteArray), false, false, false⟩ : S104) [.int .i64 1, .string (⟨#[114, 101, 97, 100]⟩ : ByteArray), .bool false, .bool false, .bool false] from (k104_mkM _ _ _ (⟨1, (⟨#[114, 101, 97, 100]⟩ : ByteArray), false, false, false⟩ : S104) )) (Reps.c5 (show Kd.M k104 _ _ _ (⟨1, (⟨#[119, 114, 105, 116, 101]⟩ : ByteArray), true, false, false⟩ : S104) [.int .i64 1, .string (⟨#[119, 114, 105, 116, 101]⟩ : ByteArray), .bool true, .bool false, .bool false] from (k104_mkM _ _ _ (⟨1, (⟨#[119, 114, 105, 116, 101]⟩ : ByteArray), true, false, false⟩ : S104) )) (Reps.c5 (show Kd.M k104 _ _ _ (⟨2, (⟨#[97, 100, 100]⟩ : ByteArray), false, false, true⟩ : S104) [.int .i64 2, .string (⟨#[97, 100, 100]⟩ : ByteArray), .bool false, .bool false, .bool true] from (k104_mkM _ _ _ (⟨2, (⟨#[97, 100, 100]⟩ : ByteArray), false, false, true⟩ : S104) )) (Reps.c5 (show Kd.M k104 _ _ _ (⟨2, (⟨#[99, 111, 117, 110, 116]⟩ : ByteArray), false, false, false⟩ : S104) [.int .i64 2, .string (⟨#[99, 111, 117, 110, 116]⟩ : ByteArray), .bool false, .bool false, .bool false] from (k104_mkM _ _ _ (⟨2, (⟨#[99, 111, 117, 110, 116]⟩ : ByteArray), false, false, false⟩ : S104) )) (Reps.c5 (show Kd.M k104 _ _ _ (⟨3, (⟨#[99, 114, 101, 100, 105, 116]⟩ : ByteArray), false, false, true⟩ : S104) [.int .i64 3, .string (⟨#[99, 114, 101, 100, 105, 116]⟩ : ByteArray), .bool false, .bool false, .bool true] from (k104_mkM _ _ _ (⟨3, (⟨#[99, 114, 101, 100, 105, 116]⟩ : ByteArray), false, false, true⟩ : S104) )) (Reps.c5 (show Kd.M k104 _ _ _ (⟨3, (⟨#[100, 101, 98, 105, 116]⟩ : ByteArray), false, false, true⟩ : S104) [.int .i64 3, .string (⟨#[100, 101, 98, 105, 116]⟩ : ByteArray), .bool false, .bool false, .bool true] from (k104_mkM _ _ _ (⟨3, (⟨#[100, 101, 98, 105, 116]⟩ : ByteArray), false, false, true⟩ : S104) )) (Reps.c5 (show Kd.M k104 _ _ _ (⟨3, (⟨#[98, 97, 108, 97, 110, 99, 101]⟩ : ByteArray), false, false, false⟩ : S104) [.int .i64 3, .string (⟨#[98, 97, 108, 97, 110, 99, 101]⟩ : ByteArray), .bool false, .bool false, .bool false] from (k104_mkM _ _ _ (⟨3, (⟨#[98, 97, 108, 97, 110, 99, 101]⟩ : ByteArray), false, false, false⟩ : S104) )) (Reps.c5 (show Kd.M k104 _ _ _ (⟨4, (⟨#[105, 110, 115, 101, 114, 116]⟩ : ByteArray), true, false, false⟩ : S104) [.int .i64 4, .string (⟨#[105, 110, 115, 101, 114, 116]⟩ : ByteArray), .bool true, .bool false, .bool false] from (k104_mkM _ _ _ (⟨4, (⟨#[105, 110, 115, 101, 114, 116]⟩ : ByteArray), true, false, false⟩ : S104) )) (Reps.c5 (show Kd.M k104 _ _ _ (⟨4, (⟨#[114, 101, 109, 111, 118, 101]⟩ : ByteArray), true, false, false⟩ : S104) [.int .i64 4, .string (⟨#[114, 101, 109, 111, 118, 101]⟩ : ByteArray), .bool true, .bool false, .bool false] from (k104_mkM _ _ _ (⟨4, (⟨#[114, 101, 109, 111, 118, 101]⟩ : ByteArray), true, false, false⟩ : S104) )) (Reps.c5 (show Kd.M k104 _ _ _ (⟨4, (⟨#[104, 97, 115]⟩ : ByteArray), true, false, false⟩ : S104) [.int .i64 4, .string (⟨#[104, 97, 115]⟩ : ByteArray), .bool true, .bool false, .bool false] from (k104_mkM _ _ _ (⟨4, (⟨#[104, 97, 115]⟩ : ByteArray), true, false, false⟩ : S104) )) (Reps.c5 (show Kd.M k104 _ _ _ (⟨5, (⟨#[98, 105, 110, 100]⟩ : ByteArray), true, true, false⟩ : S104) [.int .i64 5, .string (⟨#[98, 105, 110, 100]⟩ : ByteArray), .bool true, .bool true, .bool false] from (k104_mkM _ _ _ (⟨5, (⟨#[98, 105, 110, 100]⟩ : ByteArray), true, true, false⟩ : S104) )) (Reps.c5 (show Kd.M k104 _ _ _ (⟨5, (⟨#[117, 110, 98, 105, 110, 100]⟩ : ByteArray), true, false, false⟩ : S104) [.int .i64 5, .string (⟨#[117, 110, 98, 105, 110, 100]⟩ : ByteArray), .bool true, .bool false, .bool false] from (k104_mkM _ _ _ (⟨5, (⟨#[117, 110, 98, 105, 110, 100]⟩ : ByteArray), true, false, false⟩ : S104) )) (Reps.c5 (show Kd.M k104 _ _ _ (⟨5, (⟨#[108, 111, 111, 107]⟩ : ByteArray), true, false, false⟩ : S104) [.int .i64 5, .string (⟨#[108, 111, 111, 107]⟩ : ByteArray), .bool true, .bool false, .bool false] from (k104_mkM _ _ _ (⟨5, (⟨#[108, 111, 111, 107]⟩ : ByteArray), true, false, false⟩ : S104) )) (Reps.c5 (show Kd.M k104 _ _ _ (⟨6, (⟨#[101, 110, 113]⟩ : ByteArray), true, false, false⟩ : S104) [.int .i64 6, .string (⟨#[101, 110, 113]⟩ : ByteArray), .bool true, .bool false, .bool false] from (k104_mkM _ _ _ (⟨6, (⟨#[101, 110, 113]⟩ : ByteArray), true, false, false⟩ : S104) )) (Reps.c5 (show Kd.M k104 _ _ _ (⟨6, (⟨#[100, 101, 113]⟩ : ByteArray), false, false, false⟩ : S104) [.int .i64 6, .string (⟨#[100, 101, 113]⟩ : ByteArray), .bool false, .bool false, .bool false] from (k104_mkM _ _ _ (⟨6, (⟨#[100, 101, 113]⟩ : ByteArray), false, false, false⟩ : S104) )) (Reps.c5 (show Kd.M k104 _ _ _ (⟨7, (⟨#[112, 117, 116]⟩ : ByteArray), true, false, false⟩ : S104) [.int .i64 7, .string (⟨#[112, 117, 116]⟩ : ByteArray), .bool true, .bool false, .bool false] from (k104_mkM _ _ _ (⟨7, (⟨#[112, 117, 116]⟩ : ByteArray), true, false, false⟩ : S104) )) (Reps.c5 (show Kd.M k104 _ _ _ (⟨7, (⟨#[116, 97, 107, 101]⟩ : ByteArray), false, false, false⟩ : S104) [.int .i64 7, .string (⟨#[116, 97, 107, 101]⟩ : ByteArray), .bool false, .bool false, .bool false] from (k104_mkM _ _ _ (⟨7, (⟨#[116, 97, 107, 101]⟩ : ByteArray), false, false, false⟩ : S104) )) (Reps.none _ _))))))))))))))))))); intro v103 w1 ho2 hb hg_ hnew_; clear hg_ hnew_; (first | rw [← Ny102.out] at ho2 | (simp only [Int.reduceToNat] at ho2; rw [← Ny102.out] at ho2)); have n0_ := Aside0.mk (Kd.R_lower ho2 (bsz bl_)); have n1_ := Aside0.mk (bsp bl_ hb); clear HB; have HO104 := n0_; have HB := n1_; clear n0_ n1_; clear hb ho2))
  go_ret
  exact ⟨_, er_, by (with_reducible repeat (first | apply Kd.R_alloc | apply Kd.R_drewN | apply Kd.R_drew)); exact HO104.out, bl_⟩
def method_Op_shape.f (a0 : Int) : Option (Int × ByteArray × Bool × Bool × Bool) := if a0 < 1 then (some (0, (⟨#[]⟩ : ByteArray), false, false, false)) else (if a0 > 17 then (some (0, (⟨#[]⟩ : ByteArray), false, false, false)) else ((method_shapes.f).bind fun t106 => (if 0 ≤ (wrap64 (a0 - 1)) then (if (wrap64 (a0 - 1)) < (t106.length : Int) then (some ((rd_T104 t106 (wrap64 (a0 - 1))).f0, (rd_T104 t106 (wrap64 (a0 - 1))).f1, (rd_T104 t106 (wrap64 (a0 - 1))).f2, (rd_T104 t106 (wrap64 (a0 - 1))).f3, (rd_T104 t106 (wrap64 (a0 - 1))).f4)) else (none)) else (none))))
set_option maxHeartbeats 2000000 in
set_option maxRecDepth 100000 in
theorem method_Op_shape.calls (a0 : Int) (r1 : Int) (r2 : ByteArray) (r3 : Bool) (r4 : Bool) (r5 : Bool) (w : World) (h : method_Op_shape.f a0 = some (r1, r2, r3, r4, r5)) :
    Calls Try.prog 60 #[.int .i64 a0] w fun e w' => e = .returned (.agg #[.int .i64 r1, .string r2, .bool r3, .bool r4, .bool r5]) ∧ Below w.heap.size w w' := by
  have hu104 := Try.underlying104
  have HB := Aside0.mk (Below.refl w.heap.size w)
  have H : (if a0 < 1 then (some (0, (⟨#[]⟩ : ByteArray), false, false, false)) else (if a0 > 17 then (some (0, (⟨#[]⟩ : ByteArray), false, false, false)) else ((method_shapes.f).bind fun t106 => (if 0 ≤ (wrap64 (a0 - 1)) then (if (wrap64 (a0 - 1)) < (t106.length : Int) then (some ((rd_T104 t106 (wrap64 (a0 - 1))).f0, (rd_T104 t106 (wrap64 (a0 - 1))).f1, (rd_T104 t106 (wrap64 (a0 - 1))).f2, (rd_T104 t106 (wrap64 (a0 - 1))).f3, (rd_T104 t106 (wrap64 (a0 - 1))).f4)) else (none)) else (none))))) = some (r1, r2, r3, r4, r5) := h
  clear h
  by_cases c2 : a0 < 1
  · rw [if_pos c2] at H
    have c2b0 : decide (a0 < 1) = true := decide_eq_true c2
    clear c2
    simp only [Option.some.injEq, Prod.mk.injEq] at H
    obtain ⟨rfl, rfl, rfl, rfl, rfl⟩ := H
    go_enter Try.func60, Try.ntmps60
    go_wp2_with (first | ((with_reducible refine gds (N := 2) rfl ?_); refine bev ?hg (N := 2) ?hd (cs := #[.int .i64 0, .string (⟨#[]⟩ : ByteArray), .bool false, .bool false, .bool false]) (t := 104) ?hr ?_; (case hd => rfl); (case hg => rfl); (case hr => first | (go_simp; done) | (go_simp; rfl)); intro gb105 hg w3 hbox hb; have n0_ := Aside0.mk (bsp bl_ hb); have n1_ := Aside0.mk (hbox); have n2_ := Aside0.mk ((by rw [hg]; exact bsz bl_ : w.heap.size ≤ gb105)); have n3_ := Aside0.mk ((by rw [hg]; exact bsz bl_ : w.heap.size ≤ gb105)); clear HB; have HB := n0_; have BK105 := n1_; have GW105 := n2_; have GE105 := n3_; clear n0_ n1_ n2_ n3_; clear hb hbox hg; have hcz4 := bc5 BK105.out))
    refine bodyPost_ret (results_cell_row rfl _ _ gb105 104 #[.int .i64 0, .string (⟨#[]⟩ : ByteArray), .bool false, .bool false, .bool false] (0, 0) _ rfl bk_ Try.underlying104 rfl (by kernel_rfl)) rfl ?_
    exact ⟨er_, bl_⟩
  rw [if_neg c2] at H
  have c2b0 : decide (a0 < 1) = false := decide_eq_false c2
  clear c2
  have HS5 := Aside0.mk H
  clear H
  go_enter Try.func60, Try.ntmps60
  go_upto_if 8 with (first | ((with_reducible refine gds (N := 2) rfl ?_); refine bev ?hg (N := 2) ?hd (cs := #[.int .i64 0, .string (⟨#[]⟩ : ByteArray), .bool false, .bool false, .bool false]) (t := 104) ?hr ?_; (case hd => rfl); (case hg => rfl); (case hr => first | (go_simp; done) | (go_simp; rfl)); intro gb105 hg w6 hbox hb; have n0_ := Aside0.mk (bsp bl_ hb); have n1_ := Aside0.mk (hbox); have n2_ := Aside0.mk ((by rw [hg]; exact bsz bl_ : w.heap.size ≤ gb105)); have n3_ := Aside0.mk ((by rw [hg]; exact bsz bl_ : w.heap.size ≤ gb105)); clear HB; have HB := n0_; have BK105 := n1_; have GW105 := n2_; have GE105 := n3_; clear n0_ n1_ n2_ n3_; clear hb hbox hg))
  (try simp only [Act.put, List.setIfInBounds_toArray, List.set_cons_zero, List.set_cons_succ])
  have H := HS5.out
  clear HS5
  by_cases c7 : a0 > 17
  · rw [if_pos c7] at H
    have c7b0 : decide (17 < a0) = true := decide_eq_true c7
    clear c7
    (first | rw [c7b0] | (simp only [i64_w, i32_w]; rw [c7b0]) | skip)
    simp only [Option.some.injEq, Prod.mk.injEq] at H
    obtain ⟨rfl, rfl, rfl, rfl, rfl⟩ := H
    have hcz8 := bc5 BK105.out
    go_wp2
    refine bodyPost_ret (results_cell_row rfl _ _ gb105 104 #[.int .i64 0, .string (⟨#[]⟩ : ByteArray), .bool false, .bool false, .bool false] (0, 0) _ rfl bk_ Try.underlying104 rfl (by kernel_rfl)) rfl ?_
    exact ⟨er_, bl_⟩
  rw [if_neg c7] at H
  have c7b0 : decide (17 < a0) = false := decide_eq_false c7
  clear c7
  (first | rw [c7b0] | (simp only [i64_w, i32_w]; rw [c7b0]) | skip)
  replace H := Option.bind_eq_some_iff.mp H
  obtain ⟨t106, A90, H⟩ := H
  replace H : (if 0 ≤ (wrap64 (a0 - 1)) then (if (wrap64 (a0 - 1)) < (t106.length : Int) then (some ((rd_T104 t106 (wrap64 (a0 - 1))).f0, (rd_T104 t106 (wrap64 (a0 - 1))).f1, (rd_T104 t106 (wrap64 (a0 - 1))).f2, (rd_T104 t106 (wrap64 (a0 - 1))).f3, (rd_T104 t106 (wrap64 (a0 - 1))).f4)) else (none)) else (none)) = some (r1, r2, r3, r4, r5) := H
  have A9 := Aside0.mk A90
  clear A90
  obtain ⟨ji10, hji10⟩ : ∃ j_ : Int, (wrap64 (a0 - 1)) = j_ := ⟨_, rfl⟩
  replace H : (if 0 ≤ (ji10) then (if (ji10) < (t106.length : Int) then (some ((rd_T104 t106 (ji10)).f0, (rd_T104 t106 (ji10)).f1, (rd_T104 t106 (ji10)).f2, (rd_T104 t106 (ji10)).f3, (rd_T104 t106 (ji10)).f4)) else (none)) else (none)) = some (r1, r2, r3, r4, r5) := by first | (rw [hji10] at H; exact H) | (simp only [hji10] at H ⊢; exact H)
  (try rw [hji10] at A9)
  have hji10w : (IntKind.i64.wrap (a0 - 1)) = ji10 := (i64_w _).trans hji10
  by_cases c11 : 0 ≤ (ji10)
  rotate_left
  · rw [if_neg c11] at H
    exact absurd H (by simp)
  rw [if_pos c11] at H
  have c11b0 : decide (0 ≤ (ji10)) = true := decide_eq_true c11
  clear c11
  by_cases c12 : (ji10) < (t106.length : Int)
  rotate_left
  · rw [if_neg c12] at H
    exact absurd H (by simp)
  rw [if_pos c12] at H
  have c12b0 : decide ((ji10) < (t106.length : Int)) = true := decide_eq_true c12
  clear c12
  simp only [Option.some.injEq, Prod.mk.injEq] at H
  obtain ⟨rfl, rfl, rfl, rfl, rfl⟩ := H
  go_wp2_with (first | ((with_reducible refine gcl (f := 75) rfl ?_); refine gl_ (some 10) rfl rfl Try.func75 (by kernel_rfl) rfl #[] rfl ar_ ?_; (with_reducible refine (method_shapes.calls  t106 _ A9.out).mono ?_); rintro e w13 ⟨v107, rfl, ho0, hb⟩; refine ⟨_, rfl, ?_⟩; have n0_ := Aside0.mk (Kd.R_lower (Kd.R_newB ho0 (g := gb105) (o := .cells #[.int .i64 0, .string (⟨#[]⟩ : ByteArray), .bool false, .bool false, .bool false] 104 (0, 0)) bk_) (bsz bl_)); have n1_ := Aside0.mk (kbl (g := gb105) (o := .cells #[.int .i64 0, .string (⟨#[]⟩ : ByteArray), .bool false, .bool false, .bool false] 104 (0, 0)) bk_ hb); have n2_ := Aside0.mk (bsp bl_ hb); clear BK105; clear HB; have HO108 := n0_; have BK105 := n1_; have HB := n2_; clear n0_ n1_ n2_; (try clear hb); (try clear hb2); (try clear hk); (try clear hi); (try clear ho0); obtain ⟨Ao14, co14, eo14⟩ := Kd.R_slice HO108.out; subst eo14; have p109 : 0 ≤ ((ji10) : Int) := of_decide_eq_true (by first | (with_reducible assumption) | assumption); have q109 : (ji10) < (t106.length : Int) := of_decide_eq_true (by first | (with_reducible assumption) | assumption); obtain ⟨ad109, e109, hx109_0, hx109_1, hx109_2, hx109_3, hx109_4⟩ := at_T104 (Kd.R_reads' HO108.out).2.2 (ji10) p109 q109; cases e109; replace p109 := eq_true p109; replace q109 := eq_true q109; have hcz15 := bc5 BK105.out))
  refine bodyPost_ret (results_cell_row rfl _ _ gb105 104 #[.int .i64 ((rd_T104 t106 (ji10)).f0), .string ((rd_T104 t106 (ji10)).f1), .bool ((rd_T104 t106 (ji10)).f2), .bool ((rd_T104 t106 (ji10)).f3), .bool ((rd_T104 t106 (ji10)).f4)] (0, 0) _ rfl bk_ Try.underlying104 rfl (by kernel_rfl)) rfl ?_
  exact ⟨by first | rfl | (simp [errW_none, errW_some] <;> rfl) | (simp only [← hji10]; first | rfl | (simp [errW_none, errW_some] <;> rfl)) | (simp [*, errW_none, errW_some] <;> rfl), bl_⟩
end Go.Proofs.Ytkkkmbgflflcnaa.PS

