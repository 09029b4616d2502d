import Derived.Test.YtodikgjanhihhaaSPxFCB
import Derived.Test.YtodikgjanhihhaaSPxFCR
import Derived.Test.YtodikgjanhihhaaSPxPAx6
namespace Go.Proofs.Ytodikgjanhihhaa.PA
open Go.RowKit Go.Proofs.YtodikgjanhihhaaW.PrintWords Go.Proofs.YtodikgjanhihhaaW.PrintLast Go.Proofs.YtodikgjanhihhaaW.PrintMore Go.Proofs.Ytodikgjanhihhaa CrcM
theorem rcB_f (n : Nat) (hn : n < 4294967296) : armoireref01_Bytes.f (n : Int) = some ⟨(cB n).toArray⟩ := by
  unfold armoireref01_Bytes.f
  refine congrArg some (bytes_ext ?_)
  rw [strOfNums_data]
  simp only [List.map_cons, List.map_nil, cB]
  have h0 : (0 : Int) ≤ (n : Int) := by omega
  rw [Int.tmod_eq_emod_of_nonneg h0, Int.tdiv_eq_ediv_of_nonneg h0, Int.tdiv_eq_ediv_of_nonneg h0, Int.tdiv_eq_ediv_of_nonneg h0]
  rw [show ((n : Int) % 256 % 256).toNat = n % 256 by omega, show ((n : Int) / 256 % 4294967296 % 256).toNat = n / 256 % 256 by omega, show ((n : Int) / 65536 % 4294967296 % 256).toNat = n / 65536 % 256 by omega, show ((n : Int) / 16777216 % 4294967296 % 256).toNat = n / 16777216 % 256 by omega]
theorem rsum_f (s : ByteArray) (hs : s.size ≤ 1000000) : Ev (fun k => armoireref01_Of.f k s) ((sm s : Nat) : Int) := ref_f s (by omega)
end Go.Proofs.Ytodikgjanhihhaa.PA

