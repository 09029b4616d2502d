/- Any things put one behind the other: their bytes are the document's, and taken again they are these things and nothing is left. Of texts the first 40 bytes. No condition. -/
import Derived.Test.YtndekeigagjfiaaDoorQPtFOI
import Derived.Test.YtndekeigagjfiaaDoorQPtMAwake
import Derived.Test.YtndekeigagjfiaaDoorQPtPAx3
import Derived.Test.YtndekeigagjfiaaDoorQPtPAx5
namespace Go.Proofs.YtndekeigagjfiaaDoor.Pure
set_option linter.unusedSimpArgs false
open Go.RowKit Go.Proofs.YtndekeigagjfiaaDoor.PA Go.Proofs.YtndekeigagjfiaaDoorW.PrintWords Go.Proofs.YtndekeigagjfiaaDoorW.PrintLast Go.Proofs.YtndekeigagjfiaaDoorW.PrintMore Go.Proofs.YtndekeigagjfiaaDoor Go.Proofs.YtndekeigagjfiaaDoor.PL
theorem u2 (n : Int) (h0 : 0 ≤ n) (h1 : n < 18446744073709551616) : codec_Out_U.f (⟨#[]⟩ : ByteArray) [n, 7] = some ⟨(numB n.toNat ++ numB 7).toArray⟩ := by
  unfold codec_Out_U.f
  rw [if_pos ⟨by simp only [List.length_cons, List.length_nil]; exact (by decide : (⟨#[]⟩ : ByteArray).size + 9 * (0 + 1 + 1) ≤ 140737488351232), by intro m hm; simp only [List.mem_cons, List.mem_nil_iff, or_false] at hm; omega⟩]
  simp
theorem wI2 (s : ByteArray) (a b : Int) (hs : s.size ≤ 1000000) (h0 : -9223372036854775808 ≤ a) (h1 : a < 9223372036854775808) (h2 : -9223372036854775808 ≤ b) (h3 : b < 9223372036854775808) : codec_Out_I.f s [a, b] = some ⟨(s.data.toList ++ numB (zig a) ++ numB (zig b)).toArray⟩ := by
  unfold codec_Out_I.f
  rw [if_pos ⟨by simp only [List.length_cons, List.length_nil]; omega, by intro m hm; simp only [List.mem_cons, List.mem_nil_iff, or_false] at hm; omega⟩]
  simp
theorem uN (n : Nat) (hn : n < 18446744073709551616) (r : List UInt8) (hr : r.length ≤ 1000) : codec_In_U.f ⟨(numB n ++ r).toArray⟩ 0 = some ((n : Int), ⟨r.toArray⟩, 0) := by
  have h9 := numB_length n hn
  rw [tU_f _ _ ⟨by rw [ba_mk_size, List.length_append]; omega, fun h => absurd rfl h⟩, tU_num n hn r]
theorem iN (n : Int) (h0 : -9223372036854775808 ≤ n) (h1 : n < 9223372036854775808) (r : List UInt8) (hr : r.length ≤ 1000) : codec_In_I.f ⟨(numB (zig n) ++ r).toArray⟩ 0 = some (n, ⟨r.toArray⟩, 0) := by
  have h9 := numB_length (zig n) (zig_lt n h0 h1)
  rw [tI_f _ _ ⟨by rw [ba_mk_size, List.length_append]; omega, fun h => absurd rfl h⟩, tI_num n h0 h1 r]
theorem sN (s : ByteArray) (hs : s.size ≤ 40) (r : List UInt8) (hr : r.length ≤ 1000) : codec_In_S.f ⟨(strB s ++ r).toArray⟩ 0 40 = some (s, ⟨r.toArray⟩, 0) := by
  have h9 := strB_length s (by omega)
  rw [tS_f _ _ _ ⟨by rw [ba_mk_size, List.length_append]; omega, fun h => absurd rfl h⟩ (by decide), tS_str s 40 (by omega) (by decide) r]
theorem numB7 : numB 7 = [1, 7] := by
  have n7 : nlen 7 = 1 := by rw [nlen_pos 7 (by decide), show 7 / 256 = 0 from rfl, nlen_zero]
  rw [numB, n7]
  rfl
theorem CodecPuts : armoirelaw02_CodecPuts.Pure := by
  intro a0 a1 a2 a3 a4 h0 h1 h2 _ _
  simp [Lit.wf, IntKind.min, IntKind.max, IntKind.signed, IntKind.bits] at h0 h1 h2
  refine Ev.rounds ?_
  have hc3 := cut_f a3 40
  have hc4 := cut_f a4 40
  have hz3 := cut_size a3 40
  have hz4 := cut_size a4 40
  unfold armoirelaw02_CodecPuts.f
  rw [show ((40 : Nat) : Int) = 40 from rfl] at hc3 hc4
  simp only [hc3, hc4, Option.bind_some, armoirelaw02_awake.f, if_true]
  generalize a3.extract 0 (min 40 a3.size) = s at hz3
  generalize a4.extract 0 (min 40 a4.size) = t at hz4
  have hw : wrap64 (wrap64 (-a1) - 1) = -a1 - 1 := by unfold wrap64; omega
  have hx : IntKind.u64.wrap (mx a2 0) = ((a2.toNat : Nat) : Int) := by rw [wrap_u64]; unfold mx; split <;> omega
  obtain ⟨n, rfl⟩ : ∃ n : Nat, a0 = (n : Int) := ⟨a0.toNat, by omega⟩
  have hn : n < 18446744073709551616 := by omega
  have k1 : -9223372036854775808 ≤ -a1 - 1 ∧ -a1 - 1 < 9223372036854775808 := by omega
  have l1 := numB_length n hn
  have l2 := numB_length 7 (by decide)
  have l3 := numB_length (zig a1) (zig_lt a1 (by omega) (by omega))
  have l4 := numB_length (zig (-a1 - 1)) (zig_lt _ k1.1 k1.2)
  have l5 := numB_length a2.toNat (by omega)
  have l6 := strB_length s (by omega)
  have l7 := strB_length t (by omega)
  simp only [hw, u2 (n : Int) (by omega) (by omega), Int.toNat_natCast, Option.bind_some]
  simp only [wI2 ⟨(numB n ++ numB 7).toArray⟩ a1 (-a1 - 1) (by rw [ba_mk_size, List.length_append]; omega) (by omega) (by omega) k1.1 k1.2, Option.bind_some]
  simp only [wN1 ⟨((numB n ++ numB 7) ++ numB (zig a1) ++ numB (zig (-a1 - 1))).toArray⟩ a2 (by rw [ba_mk_size]; simp only [List.length_append]; omega) (by omega), Option.bind_some]
  simp only [wS2 ⟨((numB n ++ numB 7) ++ numB (zig a1) ++ numB (zig (-a1 - 1)) ++ numB a2.toNat).toArray⟩ s t (by rw [ba_mk_size]; simp only [List.length_append]; omega) (by omega) (by omega), Option.bind_some, codec_Out_Text.f]
  have e7 : (⟨#[1, 7]⟩ : ByteArray) = ⟨(numB 7).toArray⟩ := by rw [numB7]
  have e8 : (2 : Nat) = (numB 7).length := by rw [numB7]; rfl
  have c1 : (numB n).length + (numB 7).length ≤ 9223372036854775807 := by omega
  have c2 : (numB n).length + (numB 7).length + (numB (zig a1)).length ≤ 9223372036854775807 := by omega
  have c3 : (numB n).length + (numB 7).length + (numB (zig a1)).length + (numB (zig (-a1 - 1))).length ≤ 9223372036854775807 := by omega
  have c4 : (numB n).length + (numB 7).length + (numB (zig a1)).length + (numB (zig (-a1 - 1))).length + (numB a2.toNat).length ≤ 9223372036854775807 := by omega
  have c5 : (numB n).length + (numB 7).length + (numB (zig a1)).length + (numB (zig (-a1 - 1))).length + (numB a2.toNat).length + (strB s).length ≤ 9223372036854775807 := by omega
  have c6 : (numB n).length + (numB 7).length + (numB (zig a1)).length + (numB (zig (-a1 - 1))).length + (numB a2.toNat).length + (strB s).length + (strB t).length ≤ 9223372036854775807 := by omega
  refine Ev.bind (rw_f n hn) ?_
  rw [e7, e8]
  simp only [ba_mk_size, if_pos c1]
  refine Ev.bind (rwI_f a1 (by omega) (by omega)) ?_
  simp only [ba_mk_append, ba_mk_size, List.length_append, if_pos c2]
  refine Ev.bind (rwI_f (-a1 - 1) k1.1 k1.2) ?_
  simp only [ba_mk_append, ba_mk_size, List.length_append, if_pos c3]
  refine Ev.bind (rwN_f a2 (by omega)) ?_
  simp only [ba_mk_append, ba_mk_size, List.length_append, if_pos c4]
  refine Ev.bind (rwS_f s (by omega)) ?_
  simp only [ba_mk_append, ba_mk_size, List.length_append, if_pos c5]
  refine Ev.bind (rwS_f t (by omega)) ?_
  simp only [ba_mk_append, ba_mk_size, List.length_append, if_pos c6]
  rw [if_pos (by simp)]
  have hr : numB n ++ numB 7 ++ numB (zig a1) ++ numB (zig (-a1 - 1)) ++ numB a2.toNat ++ strB s ++ strB t = numB n ++ (numB 7 ++ (numB (zig a1) ++ (numB (zig (-a1 - 1)) ++ (numB a2.toNat ++ (strB s ++ (strB t ++ [])))))) := by
    simp only [List.append_assoc, List.append_nil]
  simp only [hr, codec_Read.f, Option.bind_some]
  rw [uN n hn _ (by simp only [List.length_append, List.length_nil]; omega)]
  simp only [Option.bind_some, if_true]
  rw [uN 7 (by decide) _ (by simp only [List.length_append, List.length_nil]; omega)]
  simp only [Option.bind_some]
  rw [if_pos (show ((7 : Nat) : Int) = 7 from rfl), iN a1 (by omega) (by omega) _ (by simp only [List.length_append, List.length_nil]; omega)]
  simp only [Option.bind_some, if_true]
  rw [iN (-a1 - 1) k1.1 k1.2 _ (by simp only [List.length_append, List.length_nil]; omega)]
  simp only [Option.bind_some, if_true]
  rw [uN a2.toNat (by omega) _ (by simp only [List.length_append, List.length_nil]; omega)]
  simp only [Option.bind_some, hx, if_true]
  rw [sN s hz3 _ (by simp only [List.length_append, List.length_nil]; omega)]
  simp only [Option.bind_some, if_true]
  rw [sN t hz4 _ (by simp)]
  simp only [Option.bind_some, if_true, codec_In_End.f]
  rw [if_pos (by rw [ba_toList])]
  exact Ev.now _
end Go.Proofs.YtndekeigagjfiaaDoor.Pure

