import Derived.Test.YtkoojbkkkpljoaaQReaFMeth
import Derived.Test.YtkoojbkkkpljoaaQReaPAx5
import Derived.Test.YtkoojbkkkpljoaaQReaPAx7
namespace Go.Proofs.Ytkoojbkkkpljoaa.PA
open Go.RowKit Go.Proofs.YtkoojbkkkpljoaaW.PrintWords Go.Proofs.YtkoojbkkkpljoaaW.PrintLast Go.Proofs.YtkoojbkkkpljoaaW.PrintMore Go.Proofs.Ytkoojbkkkpljoaa Go.Proofs.Ytkoojbkkkpljoaa.PL
theorem cut_f (s : ByteArray) (n : Nat) : armoirelaw01_Cut.f s (n : Int) = some (s.extract 0 (min n s.size)) := by
  unfold armoirelaw01_Cut.f
  by_cases h : (s.size : Int) > n
  · rw [if_pos h, if_pos (by omega), if_pos (by omega), show min n s.size = n by omega]
    rfl
  · rw [if_neg h, show min n s.size = s.size by omega]
    simp
theorem cut_size (s : ByteArray) (n : Nat) : (s.extract 0 (min n s.size)).size ≤ n := by
  rw [ba_size, ba_extract, List.length_take]; omega
theorem numB_0 : numB 0 = [0] := by simp [numB, nlen, digs]
theorem numB_small (n : Nat) (h0 : 0 < n) (h : n < 256) : numB n = [1, UInt8.ofNat n] := by
  have e : nlen n = 1 := by rw [nlen_pos n (by omega), show n / 256 = 0 by omega, nlen_zero]
  rw [numB, e]
  simp [digs, dig, Nat.mod_eq_of_lt h]
theorem put_f (op : Int) (a b : ByteArray) (n : Int) (s : ByteArray) (hs : s.size ≤ 100000) (ho : op < 9223372036854775808) (ha : a.size ≤ 1000) (hb : b.size ≤ 1000) (h0 : -9223372036854775808 ≤ n) (h1 : n < 9223372036854775808) :
    method_Call_Put.f op a b n s = some ⟨(s.data.toList ++ (numB op.toNat ++ strB a ++ strB b ++ numB (zig n))).toArray⟩ := by
  have l1 : (numB op.toNat).length ≤ 9 := numB_length _ (by omega)
  have l2 := strB_length a (by omega)
  have l3 := strB_length b (by omega)
  have hz := ba_size s
  unfold method_Call_Put.f
  rw [wN1 s op (by omega) ho, Option.bind_some, wS2 _ a b (by rw [ba_mk_size, List.length_append]; omega) (by omega) (by omega), Option.bind_some,
    wI1 _ n (by rw [ba_mk_size]; rw [List.length_append, List.length_append, List.length_append]; omega) h0 h1, Option.bind_some]
  simp only [List.append_assoc]
theorem awake_true : Ev (fun k => armoirelaw12_awake.f k) true := by
  have e1 : method_Call_Put.f 8 (⟨#[97]⟩ : ByteArray) (⟨#[]⟩ : ByteArray) 0 (⟨#[]⟩ : ByteArray) = some ⟨#[1, 8, 1, 1, 97, 0, 0]⟩ := by
    rw [put_f 8 _ _ 0 _ (by decide) (by decide) (by decide) (by decide) (by decide) (by decide)]
    congr 1
    refine bytes_ext ?_
    rw [ba_mk]
    unfold strB
    rw [show (8 : Int).toNat = 8 from rfl, numB_small 8 (by decide) (by decide), show (⟨#[97]⟩ : ByteArray).size = 1 from rfl, numB_small 1 (by decide) (by decide), show (⟨#[]⟩ : ByteArray).size = 0 from rfl, numB_0, show zig 0 = 0 from rfl, numB_0]
    rfl
  have e2 : chk 8 (⟨#[97]⟩ : ByteArray) (⟨#[]⟩ : ByteArray) 0 = 0 := by
    unfold chk
    rw [if_neg (by decide), if_neg (by simp [hasA, ba_toList]), if_neg (by decide), if_neg (by decide)]
  have e3 : method_Op_Word.f 17 = some (⟨#[116, 97, 107, 101]⟩ : ByteArray) := by decide +kernel
  have e5 : method_Op_Kind.f 14 = some 6 := by decide +kernel
  have e4 : Ev (fun k => method_Named.f k (⟨#[100, 101, 98, 105, 116]⟩ : ByteArray)) 6 := by
    refine Ev.of (fun k => method_Named.mono _ k) (k := 10) ?_
    decide +kernel
  unfold armoirelaw12_awake.f
  rw [e1]
  simp only [Option.bind_some, codec_Out_Text.f]
  have q1 : (⟨#[1, 8, 1, 1, 97, 0, 0]⟩ : ByteArray).toList = [1, 8, 1, 1, 97, 0, 0] := ba_toList _
  have q2 : (⟨#[116, 97, 107, 101]⟩ : ByteArray).toList = [116, 97, 107, 101] := ba_toList _
  simp only [q1, if_true]
  refine Ev.bind (check_f _ _ _ _) ?_
  rw [e2, e3]
  simp only [if_true, Option.bind_some, q2]
  refine Ev.bind e4 ?_
  rw [e5]
  simp only [if_true, Option.bind_some]
  exact Ev.now _
end Go.Proofs.Ytkoojbkkkpljoaa.PA

