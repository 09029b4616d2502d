import Derived.Test.YtodikgjanhihhaaProg
import Derived.Test.YtodikgjanhihhaaSUxMBytes
import Derived.RegionTactic
import Derived.ChangeAlike
import Derived.OwnWalk
namespace Go.Proofs.Ytodikgjanhihhaa
open Go.RowKit Go.Proofs.YtodikgjanhihhaaW.PrintWords
def turnL : Nat → List UInt8 → Nat → Nat → List UInt8
  | 0, l, _, _ => l
  | k + 1, l, at_, n => turnL k (if n % 2 = 1 ∧ at_ < 8 * l.length then l.set (at_ / 8) (l.getD (at_ / 8) 0 ^^^ UInt8.ofNat (2 ^ (at_ % 8))) else l) (at_ + 1) (n / 2)
theorem turnL_length (k : Nat) : ∀ (l : List UInt8) (at_ n : Nat), (turnL k l at_ n).length = l.length := by
  induction k with
  | zero => intro l at_ n; rfl
  | succ k ih => intro l at_ n; unfold turnL; rw [ih]; split <;> simp
def armoireref01_Turn.f (s : ByteArray) (at_ n : Int) : Option ByteArray :=
  if s.size ≤ 140737488351232 ∧ 0 ≤ at_ ∧ at_ ≤ 1152921504606846976 ∧ 0 ≤ n ∧ n < 4294967296 then some ⟨(turnL 32 s.data.toList at_.toNat n.toNat).toArray⟩ else none
theorem pow_small (j : Nat) (h : j ≤ 7) : (2 ^ j : Nat) ≤ 128 := by
  have := Nat.pow_le_pow_right (show 0 < 2 by decide) h
  simpa using this
set_option maxHeartbeats 1000000 in
theorem armoireref01_Turn.calls (a0 : ByteArray) (a1 a2 : Int) (r : ByteArray) (w : World) (h : armoireref01_Turn.f a0 a1 a2 = some r) :
    Calls Try.prog 18 #[.string a0, .int .i64 a1, .int .u32 a2] w fun e w' => e = .returned (.string r) ∧ Below w.heap.size w w' := by
  unfold armoireref01_Turn.f at h
  by_cases c : a0.size ≤ 140737488351232 ∧ 0 ≤ a1 ∧ a1 ≤ 1152921504606846976 ∧ 0 ≤ a2 ∧ a2 < 4294967296
  rotate_left
  · rw [if_neg c] at h; cases h
  rw [if_pos c] at h
  obtain ⟨hsz, h10, h11, h20, h21⟩ := c
  obtain ⟨p, rfl⟩ := Int.eq_ofNat_of_zero_le h10
  obtain ⟨n, rfl⟩ := Int.eq_ofNat_of_zero_le h20
  simp only [Int.toNat_natCast] at h
  obtain rfl := Option.some.inj h
  clear h h10 h20
  have hp : p ≤ 1152921504606846976 := by omega
  have hn : n < 4294967296 := by omega
  clear h11 h21
  have kc := fun w => Lib.run_convert_string_bytes (P := Try.prog) w 9 60 5 a0 Try.underlying9 Try.underlying60 Try.underlying5
  go_enter Try.func18, Try.ntmps18
  go_wp2
  obtain ⟨W, hW⟩ : ∃ W, W = Lib.bytesWorld w 5 a0 := ⟨_, rfl⟩
  have hr0 : ByteRow W 5 w.heap.size a0.data.toList := hW ▸ ByteRow.of_conv w 5 a0
  have hb0 : Below w.heap.size w W := hW ▸ below_conv w 5 a0
  rw [← hW]
  clear hW kc
  generalize grownCap w a0.size 0 5 = cap
  have HR0 := Aside0.mk hr0
  have HB0 := Aside0.mk hb0
  clear hr0 hb0
  go_loopw [2, 8] (fun v2 v8 wr => ∃ (i : Nat) (l : List UInt8) (m : Nat), v8 = .int .i64 i ∧ v2 = .int .u32 m ∧ i ≤ 32 ∧ m < 4294967296 ∧ Aside0 (l.length = a0.size) ∧ Aside0 (turnL (32 - i) l (p + i) m = turnL 32 a0.data.toList p n) ∧ Aside0 (ByteRow wr 5 w.heap.size l) ∧ Aside0 (Below w.heap.size w wr)) (fun _ v8 _ => 32 - (intOf v8).toNat)
  case atStart => exact ⟨0, _, n, rfl, rfl, by omega, hn, ⟨by simp⟩, ⟨rfl⟩, HR0, HB0⟩
  case round =>
    obtain ⟨i, l, m, rfl, rfl, hi, hm, HL, HT, HR, HB⟩ := hrel
    by_cases c1 : i < 32
    · by_cases c2 : m % 2 = 1
      · by_cases c3 : p + i < 8 * a0.size
        · have c2' : (((m : Int) % 2) == 1) = true := by simp; omega
          have c3' : decide (((p : Int) + i) < 8 * (a0.size : Int)) = true := by simp; omega
          have c1' : decide ((i : Int) < 32) = true := by simp; omega
          go_wp2
          go_loop [9, 10] (fun v9 v10 => ∃ j x : Nat, v9 = .int .i64 x ∧ v10 = .int .i64 j ∧ j ≤ (p + i) % 8 ∧ x ≤ 128 ∧ Aside0 (x = 2 ^ j)) (fun _ v10 => 8 - (intOf v10).toNat)
          case atStart => exact ⟨0, 1, rfl, rfl, by omega, by omega, ⟨rfl⟩⟩
          case round =>
            obtain ⟨j, x, rfl, rfl, hj, hx, HX⟩ := hrel
            by_cases c4 : j < (p + i) % 8
            · have h2 : 2 ^ (j + 1) ≤ 128 := pow_small (j + 1) (by omega)
              have h3 : x * 2 ≤ 128 := by rw [HX.out]; rw [Nat.pow_succ] at h2; exact h2
              clear h2
              go_wp2
              go_round
              case rel => exact ⟨j + 1, x * 2, by go_num, by go_num, by omega, h3, ⟨by rw [HX.out, Nat.pow_succ]⟩⟩
              case measure => simp [intOf]; omega
            · have h4 : j = (p + i) % 8 := by omega
              have hq : (p + i) / 8 < l.length := by rw [HL.out]; omega
              have hc := HR.out.cell ((p + i) / 8) hq
              have hf := HR.out.frozen ((p + i) / 8) hq
              have hx8 : x < 256 := by omega
              have hxe : UInt8.ofNat (2 ^ ((p + i) % 8)) = UInt8.ofNat x := by rw [HX.out, h4]
              have hs := HR.out.set ((p + i) / 8) hq (l.getD ((p + i) / 8) 0 ^^^ UInt8.ofNat (2 ^ ((p + i) % 8)))
              have hb := bits_xor_8 (l.getD ((p + i) / 8) 0).toNat x (UInt8.toNat_lt _) hx8
              have he : ((l.getD ((p + i) / 8) 0 ^^^ UInt8.ofNat x).toNat : Int) = (((l.getD ((p + i) / 8) 0).toNat ^^^ x : Nat) : Int) := by
                rw [UInt8.toNat_xor, UInt8.toNat_ofNat', Nat.mod_eq_of_lt hx8]
              rw [hxe, he, ← hb] at hs
              have hT := HT.out
              rw [show 32 - i = (32 - (i + 1)) + 1 from by omega, turnL, if_pos ⟨c2, by rw [HL.out]; exact c3⟩, hxe] at hT
              have HS := Aside0.mk hs
              have HT2 := Aside0.mk hT
              clear hs hT hb he hxe HT
              have HC4 := Aside0.mk h4
              clear h4
              go_wp2
              go_roundw
              case rel => exact ⟨i + 1, l.set ((p + i) / 8) (l.getD ((p + i) / 8) 0 ^^^ UInt8.ofNat x), m / 2, by go_num, by go_num, by omega, by omega, ⟨by simpa using HL.out⟩, HT2, ⟨by have e : l.getD ((p + i) / 8) 0 = l[(p + i) / 8] := (by simp [List.getD_eq_getElem?_getD, hq]); have h := HS.out; rw [e] at h ⊢; exact h⟩, ⟨HB.out.setCell (Nat.le_refl _) _⟩⟩
              case measure => simp [intOf]; omega
        · have c2' : (((m : Int) % 2) == 1) = true := by simp; omega
          have c3' : decide (((p : Int) + i) < 8 * (a0.size : Int)) = false := by simp; omega
          have c1' : decide ((i : Int) < 32) = true := by simp; omega
          have hT := HT.out
          rw [show 32 - i = (32 - (i + 1)) + 1 from by omega, turnL, if_neg (by rw [HL.out]; omega)] at hT
          have HT2 := Aside0.mk hT
          clear hT HT
          go_wp2
          go_roundw
          case rel => exact ⟨i + 1, l, m / 2, by go_num, by go_num, by omega, by omega, HL, HT2, HR, HB⟩
          case measure => simp [intOf]; omega
      · have c2' : (((m : Int) % 2) == 1) = false := by simp; omega
        have c1' : decide ((i : Int) < 32) = true := by simp; omega
        have hT := HT.out
        rw [show 32 - i = (32 - (i + 1)) + 1 from by omega, turnL, if_neg (by omega)] at hT
        have HT2 := Aside0.mk hT
        clear hT HT
        go_wp2
        go_roundw
        case rel => exact ⟨i + 1, l, m / 2, by go_num, by go_num, by omega, by omega, HL, HT2, HR, HB⟩
        case measure => simp [intOf]; omega
    · obtain rfl : i = 32 := by omega
      have hT := HT.out
      rw [show 32 - 32 = 0 from rfl, turnL] at hT
      have ht := string_of_row (P := Try.prog) (cap := cap) Try.underlying60 Try.underlying5 Try.underlying9 HR.out a0.size HL.out
      subst hT
      clear HT
      go_wp2
      go_ret
      exact ⟨rfl, HB.out⟩
end Go.Proofs.Ytodikgjanhihhaa

