import Derived.Test.YtodikgjanhihhaaSUxMCodecMath
import Derived.Test.YtodikgjanhihhaaSUxPAx6
namespace Go.Proofs.Ytodikgjanhihhaa.PA
open Go.RowKit Go.Proofs.YtodikgjanhihhaaW.PrintWords Go.Proofs.YtodikgjanhihhaaW.PrintLast Go.Proofs.YtodikgjanhihhaaW.PrintMore Go.Proofs.Ytodikgjanhihhaa
theorem wN2 (s : ByteArray) (a b : Int) (hs : s.size ≤ 1000000) (ha : a < 9223372036854775808) (hb : b < 9223372036854775808) : codec_Out_N.f s [a, b] = some ⟨(s.data.toList ++ numB a.toNat ++ numB b.toNat).toArray⟩ := by
  unfold codec_Out_N.f
  rw [if_pos ⟨by simp only [List.length_cons, List.length_nil]; omega, by intro n hn; simp only [List.mem_cons, List.not_mem_nil, or_false] at hn; rcases hn with rfl | rfl <;> assumption⟩]
  simp
theorem wS1 (s a : ByteArray) (hs : s.size ≤ 1000000) (ha : a.size ≤ 1000000) : codec_Out_S.f s [a] = some ⟨(s.data.toList ++ strB a).toArray⟩ := by
  unfold codec_Out_S.f
  rw [if_pos (by simp only [List.map_cons, List.map_nil, List.sum_cons, List.sum_nil]; omega)]
  simp
end Go.Proofs.Ytodikgjanhihhaa.PA

