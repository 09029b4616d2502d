import Derived.Test.YtodikgjanhihhaaSUxMOutN
namespace Go.Proofs.Ytodikgjanhihhaa
open Go.RowKit Go.Proofs.YtodikgjanhihhaaW.PrintWords Go.Proofs.YtodikgjanhihhaaW.PrintLast Go.Proofs.YtodikgjanhihhaaW.PrintMore
def codec_Out_Text.f (s : ByteArray) : Option (ByteArray × ByteArray) := some (s, s)
theorem strOf_bytesOf (s : ByteArray) : strOfNums (bytesOf s) = s := by
  have : (strOfNums (bytesOf s)).data.toList = s.data.toList := by
    rw [strOfNums_data, bytesOf, List.map_map]
    have : ((fun n : Int => UInt8.ofNat n.toNat) ∘ fun b : UInt8 => (b.toNat : Int)) = id := by
      funext b; simp
    rw [this, List.map_id]
  exact ByteArray.ext (Array.ext' this)
set_option maxHeartbeats 1000000 in
theorem codec_Out_Text.calls (g : Nat) (s0_0 : ByteArray) (r1 r2 : ByteArray) (w0 w : World) (hI : IsS62 w0 w g s0_0) (hB : Below w0.heap.size w0 w) (h : codec_Out_Text.f s0_0 = some (r1, r2)) :
    Calls Try.prog 33 #[.pointer (some ⟨g, 0, none⟩)] w fun e w' => e = .returned (.string r1) ∧ IsS62 w0 w' g r2 ∧ Below w0.heap.size w0 w' ∧ KeepT w w' [62, 5] := by
  have e : s0_0 = r1 ∧ s0_0 = r2 := by simpa [codec_Out_Text.f] using h
  obtain ⟨rfl, rfl⟩ := e
  clear h
  have HI := Aside0.mk hI
  have HB := Aside0.mk hB
  obtain ⟨hgg, v, hbk, hR⟩ := hI
  have hcell : w.cell? ⟨g, 0, none⟩ = some v := (kcl hbk 0).trans rfl
  have hcv := own_string (P := Try.prog) Try.underlying60 Try.underlying5 Try.underlying9 (Kd.own_of_R hR)
  rw [strOf_bytesOf] at hcv
  clear hB hgg hbk hR
  go_enter Try.func33, Try.ntmps33
  go_wp2
  go_ret
  exact ⟨rfl, HI.out, HB.out, KeepT.refl _ _⟩
end Go.Proofs.Ytodikgjanhihhaa

