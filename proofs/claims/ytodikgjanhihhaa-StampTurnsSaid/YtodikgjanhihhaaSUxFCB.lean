import Derived.Test.YtodikgjanhihhaaSUxFC
import Derived.Test.YtodikgjanhihhaaSUxMCodecMath
import Derived.Test.YtodikgjanhihhaaSUxPAx3
namespace Go.Proofs.Ytodikgjanhihhaa.PA
open Go.RowKit Go.Proofs.YtodikgjanhihhaaW.PrintWords Go.Proofs.YtodikgjanhihhaaW.PrintLast Go.Proofs.YtodikgjanhihhaaW.PrintMore Go.Proofs.Ytodikgjanhihhaa CrcM
def cB (n : Nat) : List UInt8 := [UInt8.ofNat (n % 256), UInt8.ofNat (n / 256 % 256), UInt8.ofNat (n / 65536 % 256), UInt8.ofNat (n / 16777216 % 256)]
theorem cB_length (n : Nat) : (cB n).length = 4 := rfl
theorem ofNat_inj8 {a b : Nat} (ha : a < 256) (hb : b < 256) (h : UInt8.ofNat a = UInt8.ofNat b) : a = b := by
  have := congrArg UInt8.toNat h
  rw [UInt8.toNat_ofNat', UInt8.toNat_ofNat'] at this
  omega
theorem cB_inj {n m : Nat} (hn : n < 4294967296) (hm : m < 4294967296) (h : cB n = cB m) : n = m := by
  simp only [cB, List.cons.injEq, and_true] at h
  obtain ⟨h1, h2, h3, h4⟩ := h
  have a1 := ofNat_inj8 (Nat.mod_lt _ (by decide)) (Nat.mod_lt _ (by decide)) h1
  have a2 := ofNat_inj8 (Nat.mod_lt _ (by decide)) (Nat.mod_lt _ (by decide)) h2
  have a3 := ofNat_inj8 (Nat.mod_lt _ (by decide)) (Nat.mod_lt _ (by decide)) h3
  have a4 := ofNat_inj8 (Nat.mod_lt _ (by decide)) (Nat.mod_lt _ (by decide)) h4
  clear h1 h2 h3 h4
  omega
theorem cB_f (n : Nat) (_hn : n < 4294967296) : crc_Bytes.f (n : Int) = some ⟨(cB n).toArray⟩ := by
  unfold crc_Bytes.f
  refine congrArg some (bytes_ext ?_)
  rw [strOfNums_data]
  simp only [List.map_cons, List.map_nil, cB]
  rw [show ((n : Int) % 256).toNat = n % 256 by omega, show ((n : Int) / 256 % 256).toNat = n / 256 % 256 by omega, show ((n : Int) / 65536 % 256).toNat = n / 65536 % 256 by omega, show ((n : Int) / 16777216 % 256).toNat = n / 16777216 % 256 by omega]
def sm (s : ByteArray) : Nat := sum s.data.toList
theorem sm_lt (s : ByteArray) : sm s < 4294967296 := sum_lt _
def sealB (s : ByteArray) : ByteArray := ⟨(cB (sm s) ++ s.data.toList).toArray⟩
theorem sealB_size (s : ByteArray) : (sealB s).size = 4 + s.size := by
  unfold sealB
  rw [ba_mk_size, List.length_append, cB_length, ← ba_size]
theorem sealB_head (s : ByteArray) : (sealB s).extract 0 4 = ⟨(cB (sm s)).toArray⟩ := by
  refine bytes_ext ?_
  rw [ba_extract]
  show ((cB (sm s) ++ s.data.toList).drop 0).take 4 = cB (sm s)
  rw [List.drop_zero, List.take_append_of_le_length (by rw [cB_length]; omega), List.take_of_length_le (by rw [cB_length]; omega)]
theorem sealB_tail (s : ByteArray) : (sealB s).extract 4 (sealB s).size = s := by
  refine bytes_ext ?_
  rw [ba_extract, sealB_size]
  show ((cB (sm s) ++ s.data.toList).drop 4).take (4 + s.size - 4) = s.data.toList
  rw [List.drop_append_of_le_length (by rw [cB_length]; omega), List.drop_of_length_le (by rw [cB_length]; omega), List.nil_append, List.take_of_length_le (by rw [← ba_size]; omega)]
theorem sum_f (s : ByteArray) (hs : s.size ≤ 1000000) : Ev (fun k => crc_Of.f k [s]) ((sm s : Nat) : Int) := of_one s (by omega)
end Go.Proofs.Ytodikgjanhihhaa.PA

