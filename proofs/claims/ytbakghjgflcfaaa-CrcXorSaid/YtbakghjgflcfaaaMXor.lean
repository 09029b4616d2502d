/- The walk of armoireref01.Xor. -/
import Derived.Test.YtbakghjgflcfaaaProg
import Derived.Test.YtbakghjgflcfaaaMBytes
import Derived.Test.YtbakghjgflcfaaaMCrcMath
import Derived.RegionTactic
import Derived.ChangeAlike
import Derived.OwnWalk
namespace Go.Proofs.Ytbakghjgflcfaaa
open Go.RowKit Go.Proofs.YtbakghjgflcfaaaW.PrintWords CrcM

theorem xorL_at (l : List UInt8) : ∀ (m : List UInt8) (i : Nat), m.length ≤ i → (xorL l m).getD i 0 = l.getD i 0 := by
  induction l with
  | nil => intro m; cases m <;> simp [xorL]
  | cons a l ih =>
    intro m i hi
    cases m with
    | nil => simp [xorL]
    | cons b m =>
      cases i with
      | zero => simp at hi
      | succ i => simpa [xorL] using ih m i (by simpa using hi)
theorem xorL_step (l : List UInt8) : ∀ (m : List UInt8) (i : Nat), i < l.length → i < m.length → (xorL l (m.take i)).set i (l.getD i 0 ^^^ m.getD i 0) = xorL l (m.take (i + 1)) := by
  induction l with
  | nil => intro m i hi; simp at hi
  | cons a l ih =>
    intro m i hi hm
    cases m with
    | nil => simp at hm
    | cons b m =>
      cases i with
      | zero => cases l <;> simp [xorL]
      | succ i => simpa [xorL] using ih m i (by simpa using hi) (by simpa using hm)
theorem xorL_all (l : List UInt8) : ∀ (m : List UInt8) (i : Nat), (l.length ≤ i ∨ m.length ≤ i) → xorL l (m.take i) = xorL l m := by
  induction l with
  | nil => intro m i _; cases m <;> cases i <;> simp [xorL]
  | cons a l ih =>
    intro m i hi
    cases m with
    | nil => simp [xorL]
    | cons b m =>
      cases i with
      | zero => simp at hi
      | succ i => simp [xorL]; exact ih m i (by simp at hi; omega)

def armoireref01_Xor.f (a b : ByteArray) : Option ByteArray := if a.size ≤ 140737488351232 then some ⟨(xorL a.data.toList b.data.toList).toArray⟩ else none

set_option maxHeartbeats 1000000 in
theorem armoireref01_Xor.calls (a0 a1 : ByteArray) (r : ByteArray) (w : World) (h : armoireref01_Xor.f a0 a1 = some r) :
    Calls Try.prog 15 #[.string a0, .string a1] w fun e w' => e = .returned (.string r) ∧ Below w.heap.size w w' := by
  unfold armoireref01_Xor.f at h
  have hsz : a0.size ≤ 140737488351232 := by
    by_cases c : a0.size ≤ 140737488351232
    · exact c
    · rw [if_neg c] at h; cases h
  rw [if_pos hsz] at h
  obtain rfl := Option.some.inj h
  clear h
  have kc := fun w => Lib.run_convert_string_bytes (P := Try.prog) w 9 35 5 a0 Try.underlying9 Try.underlying35 Try.underlying5
  go_enter Try.func15, Try.ntmps15
  go_wp2
  obtain ⟨W, hW⟩ : ∃ W, W = Lib.bytesWorld w 5 a0 := ⟨_, rfl⟩
  have hr0 : ByteRow W 5 w.heap.size a0.data.toList := hW ▸ ByteRow.of_conv w 5 a0
  have hb0 : Below w.heap.size w W := hW ▸ below_conv w 5 a0
  rw [← hW]
  clear hW kc
  generalize grownCap w a0.size 0 5 = cap
  have HR0 := Aside0.mk hr0
  have HB0 := Aside0.mk hb0
  clear hr0 hb0
  go_loopw [6] (fun v6 wr => ∃ i : Nat, v6 = .int .i64 i ∧ Aside0 (i ≤ a0.size) ∧ Aside0 (i ≤ a1.size) ∧ Aside0 (ByteRow wr 5 w.heap.size (xorL a0.data.toList (a1.data.toList.take i))) ∧ Aside0 (Below w.heap.size w wr)) (fun v6 _ => a0.size - (intOf v6).toNat)
  case atStart => exact ⟨0, rfl, ⟨Nat.zero_le _⟩, ⟨Nat.zero_le _⟩, by simpa [xorL] using HR0, HB0⟩
  case round =>
    obtain ⟨i, rfl, H1, H2, HR, HB⟩ := hrel
    have hlen := xorL_length a0.data.toList (a1.data.toList.take i)
    by_cases c1 : i < a0.size
    · by_cases c2 : i < a1.size
      · have hc := HR.out.cell i (by rw [hlen]; simpa using c1)
        have hf := HR.out.frozen i (by rw [hlen]; simpa using c1)
        have hs := (HR.out.set i (by rw [hlen]; simpa using c1) (a0.data.toList.getD i 0 ^^^ a1.data.toList.getD i 0))
        rw [xorL_step _ _ _ (by simpa using c1) (by simpa using c2)] at hs
        have HS := Aside0.mk hs
        clear hs hlen
        rw [xorL_at _ _ _ (by simp; omega)] at hc
        have hx : Go.bits .xor .u8 (a0.data[i].toNat : Int) (a1[i].toNat : Int) = ((a0.data.toList.getD i 0 ^^^ a1.data.toList.getD i 0).toNat : Int) := by
          rw [bits_xor_u8]; congr 2; simp [List.getD_eq_getElem?_getD]; congr 1; simp [c1]; simp [c2]; rfl
        have HX := Aside0.mk hx
        clear hx
        go_wp2
        go_region
        all_goals
          go_wp2
          go_roundw
          case rel => exact ⟨i + 1, by go_num, ⟨by omega⟩, ⟨by omega⟩, ⟨by rw [HX.out]; exact HS.out⟩, ⟨(HB.out.setCell (Nat.le_refl _) _).drew⟩⟩
          case measure => simp [intOf]; omega
      · have hg : a1.size ≤ i := by omega
        clear hlen
        have HT := Aside0.mk (string_of_row (P := Try.prog) (cap := cap) Try.underlying35 Try.underlying5 Try.underlying9 HR.out a0.size (by rw [xorL_length]; simp))
        rw [xorL_all _ _ _ (.inr (by simpa using hg))] at HT
        have ht := HT.out
        clear HT
        go_wp2
        go_ret
        exact ⟨rfl, HB.out⟩
    · have hg : a0.size ≤ i := by omega
      clear hlen
      have HT := Aside0.mk (string_of_row (P := Try.prog) (cap := cap) Try.underlying35 Try.underlying5 Try.underlying9 HR.out a0.size (by rw [xorL_length]; simp))
      rw [xorL_all _ _ _ (.inl (by simpa using hg))] at HT
      have ht := HT.out
      clear HT
      go_wp2
      go_ret
      exact ⟨rfl, HB.out⟩
end Go.Proofs.Ytbakghjgflcfaaa
