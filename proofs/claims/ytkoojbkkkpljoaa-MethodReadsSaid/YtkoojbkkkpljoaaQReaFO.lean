import Derived.Test.YtkoojbkkkpljoaaQReaMCodecMath
import Derived.Test.YtkoojbkkkpljoaaQReaPAx10
namespace Go.Proofs.Ytkoojbkkkpljoaa.PA
open Go.RowKit Go.Proofs.YtkoojbkkkpljoaaW.PrintWords Go.Proofs.YtkoojbkkkpljoaaW.PrintLast Go.Proofs.YtkoojbkkkpljoaaW.PrintMore Go.Proofs.Ytkoojbkkkpljoaa
theorem strB_length (s : ByteArray) (hs : s.size ≤ 140737488351232) : (strB s).length ≤ s.size + 9 := by
  have hl := numB_length s.size (by omega)
  unfold strB
  rw [List.length_append, ← ba_size]; omega
theorem wN1 (s : ByteArray) (a : Int) (hs : s.size ≤ 1000000) (ha : a < 9223372036854775808) : codec_Out_N.f s [a] = some ⟨(s.data.toList ++ numB a.toNat).toArray⟩ := by
  unfold codec_Out_N.f
  rw [if_pos ⟨by simp only [List.length_cons, List.length_nil]; omega, by intro n hn; rw [List.mem_singleton.1 hn]; exact ha⟩]
  simp
theorem wI1 (s : ByteArray) (a : Int) (hs : s.size ≤ 1000000) (h0 : -9223372036854775808 ≤ a) (h1 : a < 9223372036854775808) : codec_Out_I.f s [a] = some ⟨(s.data.toList ++ numB (zig a)).toArray⟩ := by
  unfold codec_Out_I.f
  rw [if_pos ⟨by simp only [List.length_cons, List.length_nil]; omega, by intro n hn; rw [List.mem_singleton.1 hn]; exact ⟨h0, h1⟩⟩]
  simp
theorem wS2 (s a b : ByteArray) (hs : s.size ≤ 1000000) (ha : a.size ≤ 1000000) (hb : b.size ≤ 1000000) : codec_Out_S.f s [a, b] = some ⟨(s.data.toList ++ strB a ++ strB b).toArray⟩ := by
  unfold codec_Out_S.f
  rw [if_pos (by simp only [List.map_cons, List.map_nil, List.sum_cons, List.sum_nil]; omega)]
  simp
end Go.Proofs.Ytkoojbkkkpljoaa.PA

