import Derived.Lib.ConvBytes
import Derived.Laws.BytesArg
import Derived.Laws.BitsLemmas
import Derived.Below
import Derived.WalkKit
import Derived.Test.YtkoojbkkkpljoaaQReaWWords
namespace Go.Proofs.Ytkoojbkkkpljoaa
open Go.RowKit Go.Proofs.YtkoojbkkkpljoaaW.PrintWords
def ByteRow (w : World) (e g : Nat) (l : List UInt8) : Prop :=
  ∃ pad m, w.heap[g]? = some (.cells ((l.map fun b => Value.int .u8 b.toNat) ++ pad).toArray e m) ∧ l.length ≤ m.1
theorem ByteRow.cell {w : World} {e g : Nat} {l : List UInt8} (h : ByteRow w e g l) (i : Nat) (hi : i < l.length) : w.cell? ⟨g, i, none⟩ = some (.int .u8 (l.getD i 0).toNat) := by
  obtain ⟨pad, m, hb, hm⟩ := h
  simp [World.cell?, hb, List.getElem?_append, hi]
theorem ByteRow.frozen {w : World} {e g : Nat} {l : List UInt8} (h : ByteRow w e g l) (i : Nat) (hi : i < l.length) : w.frozen? ⟨g, i, none⟩ = false := by
  obtain ⟨pad, m, hb, hm⟩ := h
  simp [World.frozen?, hb]
  omega
theorem ByteRow.set {w : World} {e g : Nat} {l : List UInt8} (h : ByteRow w e g l) (i : Nat) (hi : i < l.length) (b : UInt8) : ByteRow (w.setCell ⟨g, i, none⟩ (.int .u8 b.toNat)) e g (l.set i b) := by
  obtain ⟨pad, m, hb, hm⟩ := h
  refine ⟨pad, m, ?_, by simpa using hm⟩
  simp [World.setCell, Array.getElem?_modify, hb, hi, List.map_set]
theorem ByteRow.drew {w : World} {e g : Nat} {l : List UInt8} (h : ByteRow w e g l) (n : Nat) : ByteRow (w.drewN n) e g l := h
theorem ByteRow.lt {w : World} {e g : Nat} {l : List UInt8} (h : ByteRow w e g l) : g < w.heap.size := by
  obtain ⟨pad, m, hb, hm⟩ := h
  exact blk_lt hb
theorem ByteRow.of_conv (w : World) (e : Nat) (s : ByteArray) : ByteRow (Lib.bytesWorld w e s) e w.heap.size s.data.toList := by
  refine ⟨List.replicate (grownCap w s.size 0 e - s.size) (.int .u8 0), ((Lib.bytesCells w e s).size, (Lib.bytesCells w e s).size + 1), ?_, ?_⟩
  · rw [Lib.bytesWorld_at_new]
    congr 2
    apply Array.ext'
    simp [Lib.bytesCells]
  · simp [Lib.bytesCells]
theorem below_conv (w : World) (e : Nat) (s : ByteArray) : Below w.heap.size w (Lib.bytesWorld w e s) :=
  ⟨rfl, rfl, rfl, by rw [Lib.bytesWorld_size]; omega, fun k hk => Lib.bytesWorld_at_old w e s k hk⟩
end Go.Proofs.Ytkoojbkkkpljoaa

