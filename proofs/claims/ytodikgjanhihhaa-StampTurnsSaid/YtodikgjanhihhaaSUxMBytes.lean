import Derived.Lib.ConvBytes
import Derived.Laws.BytesArg
import Derived.Laws.BitsLemmas
import Derived.Below
import Derived.WalkKit
import Derived.Test.YtodikgjanhihhaaSUxWWords
namespace Go.Proofs.Ytodikgjanhihhaa
open Go.RowKit Go.Proofs.YtodikgjanhihhaaW.PrintWords
def ByteRow (w : World) (e g : Nat) (l : List UInt8) : Prop :=
  ∃ pad m, w.heap[g]? = some (.cells ((l.map fun b => Value.int .u8 b.toNat) ++ pad).toArray e m) ∧ l.length ≤ m.1
theorem ByteRow.cell {w : World} {e g : Nat} {l : List UInt8} (h : ByteRow w e g l) (i : Nat) (hi : i < l.length) : w.cell? ⟨g, i, none⟩ = some (.int .u8 (l.getD i 0).toNat) := by
  obtain ⟨pad, m, hb, hm⟩ := h
  simp [World.cell?, hb, List.getElem?_append, hi]
theorem ByteRow.frozen {w : World} {e g : Nat} {l : List UInt8} (h : ByteRow w e g l) (i : Nat) (hi : i < l.length) : w.frozen? ⟨g, i, none⟩ = false := by
  obtain ⟨pad, m, hb, hm⟩ := h
  simp [World.frozen?, hb]
  omega
theorem ByteRow.set {w : World} {e g : Nat} {l : List UInt8} (h : ByteRow w e g l) (i : Nat) (hi : i < l.length) (b : UInt8) : ByteRow (w.setCell ⟨g, i, none⟩ (.int .u8 b.toNat)) e g (l.set i b) := by
  obtain ⟨pad, m, hb, hm⟩ := h
  refine ⟨pad, m, ?_, by simpa using hm⟩
  simp [World.setCell, Array.getElem?_modify, hb, hi, List.map_set]
theorem ByteRow.drew {w : World} {e g : Nat} {l : List UInt8} (h : ByteRow w e g l) (n : Nat) : ByteRow (w.drewN n) e g l := h
theorem ByteRow.lt {w : World} {e g : Nat} {l : List UInt8} (h : ByteRow w e g l) : g < w.heap.size := by
  obtain ⟨pad, m, hb, hm⟩ := h
  exact blk_lt hb
theorem ByteRow.of_conv (w : World) (e : Nat) (s : ByteArray) : ByteRow (Lib.bytesWorld w e s) e w.heap.size s.data.toList := by
  refine ⟨List.replicate (grownCap w s.size 0 e - s.size) (.int .u8 0), ((Lib.bytesCells w e s).size, (Lib.bytesCells w e s).size + 1), ?_, ?_⟩
  · rw [Lib.bytesWorld_at_new]
    congr 2
    apply Array.ext'
    simp [Lib.bytesCells]
  · simp [Lib.bytesCells]
theorem below_conv (w : World) (e : Nat) (s : ByteArray) : Below w.heap.size w (Lib.bytesWorld w e s) :=
  ⟨rfl, rfl, rfl, by rw [Lib.bytesWorld_size]; omega, fun k hk => Lib.bytesWorld_at_old w e s k hk⟩
theorem bits_xor_nat (k : IntKind) (j : Nat) (hj : j = k.bits) (hk : ∀ n : Int, 0 ≤ n → n < 2 ^ j → k.wrap n = n) (a b : Nat) (ha : a < 2 ^ j) (hb : b < 2 ^ j) :
    Go.bits .xor k a b = ((a ^^^ b : Nat) : Int) := by
  subst hj
  have cast : ∀ n : Nat, n < 2 ^ k.bits → ((n : Nat) : Int) < 2 ^ k.bits := fun n h => by exact_mod_cast h
  simp only [Go.bits, BitVec.ofInt_natCast, BitVec.toNat_xor, BitVec.toNat_ofNat, Nat.mod_eq_of_lt ha, Nat.mod_eq_of_lt hb]
  exact hk _ (Int.natCast_nonneg _) (cast _ (Nat.xor_lt_two_pow ha hb))
theorem bits_xor_8 (a b : Nat) (ha : a < 256) (hb : b < 256) : Go.bits .xor .u8 a b = ((a ^^^ b : Nat) : Int) :=
  bits_xor_nat .u8 8 rfl wraps_u8 a b ha hb
theorem bits_xor_32 (a b : Nat) (ha : a < 4294967296) (hb : b < 4294967296) : Go.bits .xor .u32 a b = ((a ^^^ b : Nat) : Int) :=
  bits_xor_nat .u32 32 rfl (fun n h0 h1 => by rw [IntKind.wrap_u32]; omega) a b ha hb
theorem bits_and_32 (a b : Nat) (ha : a < 4294967296) (hb : b < 4294967296) : Go.bits .and .u32 a b = ((a &&& b : Nat) : Int) :=
  (bits_nat .u32 32 (by decide) (fun n h0 h1 => by rw [IntKind.wrap_u32]; omega) a b ha hb).1
theorem string_of_row {P : Program} {w : World} {src dst e g cap : Nat} {l : List UInt8} (hs : P.underlying src = some (.slice e)) (he : P.underlying e = some (.int .u8)) (hd : P.underlying dst = some .string)
    (h : ByteRow w e g l) (n : Nat) (hn : l.length = n) : (convert src dst (.slice (some ⟨g, 0, none⟩) n cap)).run P w = .ok (.string ⟨l.toArray⟩) w := by
  have hx := run_convert_bytes_arg (P := P) w src e hs he g 0 n cap (l.map fun b => (b.toNat : Int)) (by simpa using hn) (fun i hi => by
    have hc := h.cell i (by omega)
    have hi' : i < l.length := by omega
    simpa [List.getD_eq_getElem?_getD, hi'] using hc) dst hd
  rw [hx]
  congr 2
  simp [strOfNums, Function.comp_def]
end Go.Proofs.Ytodikgjanhihhaa

