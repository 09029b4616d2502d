/- Any call: whether it may be asked is as the document says; if it may, its bytes are the document's, and read back they are this call and nothing is left. Of texts the first 28 bytes. No condition. -/
import Derived.Test.YtkoojbkkkpljoaaQCalFAw
import Derived.Test.YtkoojbkkkpljoaaQCalPAx10
import Derived.Test.YtkoojbkkkpljoaaQCalPAx11
import Derived.Test.YtkoojbkkkpljoaaQCalPAx7
import Derived.Test.YtkoojbkkkpljoaaQCalPAx8
namespace Go.Proofs.Ytkoojbkkkpljoaa.Pure
open Go.RowKit Go.Proofs.Ytkoojbkkkpljoaa.PA Go.Proofs.YtkoojbkkkpljoaaW.PrintWords Go.Proofs.YtkoojbkkkpljoaaW.PrintLast Go.Proofs.YtkoojbkkkpljoaaW.PrintMore Go.Proofs.Ytkoojbkkkpljoaa Go.Proofs.Ytkoojbkkkpljoaa.PL
theorem rC_back (op : Int) (a b : ByteArray) (n : Int) (hc : chk op a b n = 0) (h0 : -9223372036854775808 ≤ n) (h1 : n < 9223372036854775808) :
    rC ⟨(numB op.toNat ++ strB a ++ strB b ++ numB (zig n)).toArray⟩ 0 = (op, a, b, n, ⟨#[]⟩, 0) := by
  have ho : 1 ≤ op ∧ op ≤ 17 := by
    by_cases c : op < 1 ∨ 17 < op
    · unfold chk at hc; rw [if_pos c] at hc; exact absurd hc (by decide)
    · omega
  have hab : a.size ≤ 24 ∧ b.size ≤ 24 := by
    by_cases c : a.size > 24 ∨ b.size > 24
    · unfold chk at hc; rw [if_neg (by omega)] at hc
      split at hc <;> first | exact absurd hc (by decide) | (rw [if_pos c] at hc; exact absurd hc (by decide))
    · omega
  have e1 := tN_num op.toNat 17 (by omega) (by decide) (strB a ++ (strB b ++ (numB (zig n) ++ [])))
  have e2 := tS_str a 24 (by omega) (by decide) (strB b ++ (numB (zig n) ++ []))
  have e3 := tS_str b 24 (by omega) (by decide) (numB (zig n) ++ [])
  have e4 := tI_num n h0 h1 []
  rw [show ((op.toNat : Nat) : Int) = op by omega] at e1
  unfold rC
  rw [show numB op.toNat ++ strB a ++ strB b ++ numB (zig n) = numB op.toNat ++ (strB a ++ (strB b ++ (numB (zig n) ++ []))) by simp only [List.append_assoc, List.append_nil]]
  rw [e1]
  dsimp only
  rw [e2]
  dsimp only
  rw [e3]
  dsimp only
  rw [e4]
  dsimp only
  rw [if_pos ⟨rfl, hc⟩]
theorem text_f (op : Int) (a b : ByteArray) (n : Int) (ho : op < 9223372036854775808) (ha : a.size ≤ 1000) (hb : b.size ≤ 1000) (h0 : -9223372036854775808 ≤ n) (h1 : n < 9223372036854775808) :
    Ev (fun k => armoireref12_Text.f k op a b n) ⟨(numB op.toNat ++ strB a ++ strB b ++ numB (zig n)).toArray⟩ := by
  have l1 : (numB op.toNat).length ≤ 9 := numB_length _ (by omega)
  have l2 := strB_length a (by omega)
  have l3 := strB_length b (by omega)
  have l4 : (numB (zig n)).length ≤ 9 := numB_length _ (zig_lt n h0 h1)
  have c1 : (⟨(numB op.toNat).toArray⟩ : ByteArray).size + (⟨(strB a).toArray⟩ : ByteArray).size ≤ 9223372036854775807 := by rw [ba_mk_size, ba_mk_size]; omega
  have c2 : (⟨(numB op.toNat ++ strB a).toArray⟩ : ByteArray).size + (⟨(strB b).toArray⟩ : ByteArray).size ≤ 9223372036854775807 := by rw [ba_mk_size, ba_mk_size, List.length_append]; omega
  have c3 : (⟨(numB op.toNat ++ strB a ++ strB b).toArray⟩ : ByteArray).size + (⟨(numB (zig n)).toArray⟩ : ByteArray).size ≤ 9223372036854775807 := by rw [ba_mk_size, ba_mk_size, List.length_append, List.length_append]; omega
  unfold armoireref12_Text.f
  refine Ev.bind (rwN_f op ho) ?_
  refine Ev.bind (rwS_f a (by omega)) ?_
  simp only [if_pos c1, ba_mk_append]
  refine Ev.bind (rwS_f b (by omega)) ?_
  simp only [if_pos c2, ba_mk_append]
  refine Ev.bind (rwI_f n h0 h1) ?_
  simp only [if_pos c3, ba_mk_append]
  exact Ev.now _
theorem calls_j1 (op : Int) (a b : ByteArray) (n : Int) (h0 : -9223372036854775808 ≤ n) (h1 : n < 9223372036854775808) (ha : a.size ≤ 1000) (hb : b.size ≤ 1000) : Ev (fun k => armoirelaw12_MethodCalls.j1 k false op a b n) true := by
  refine Ev.step (fun k => by simp only [armoirelaw12_MethodCalls.j1]; rw [if_neg (by decide)]) ?_
  refine Ev.bind (check_f op a b n) ?_
  by_cases hc : chk op a b n = 0
  rotate_left
  · simp only [if_neg hc]
    exact Ev.now _
  have ho : op < 9223372036854775808 := by
    by_cases c : op < 1 ∨ 17 < op
    · unfold chk at hc; rw [if_pos c] at hc; exact absurd hc (by decide)
    · omega
  have hp := put_f op a b n ⟨#[]⟩ (by decide) ho ha hb h0 h1
  rw [show (⟨#[]⟩ : ByteArray).data.toList = [] from rfl, List.nil_append] at hp
  have hr := rC_f ⟨(numB op.toNat ++ strB a ++ strB b ++ numB (zig n)).toArray⟩ 0 ⟨by
    have l1 : (numB op.toNat).length ≤ 9 := numB_length _ (by omega)
    have l2 := strB_length a (by omega)
    have l3 := strB_length b (by omega)
    have l4 : (numB (zig n)).length ≤ 9 := numB_length _ (zig_lt n h0 h1)
    rw [ba_mk_size, List.length_append, List.length_append, List.length_append]; omega, fun h => absurd rfl h⟩
  rw [rC_back op a b n hc h0 h1] at hr
  simp only [if_pos hc, hp, Option.bind_some, codec_Out_Text.f, codec_Read.f]
  refine Ev.bind hr ?_
  simp only [armoirelaw12_Told.f, Option.bind_some]
  refine Ev.bind (text_f op a b n ho ha hb h0 h1) ?_
  simp only [if_true, beq_self_eq_true, Bool.and_true]
  have he : codec_In_End.f (⟨#[]⟩ : ByteArray) 0 = some (0, ⟨#[]⟩, 0) := by
    unfold codec_In_End.f
    rw [if_pos (by rw [ba_toList])]
  simp only [he, Option.bind_some]
  exact Ev.now _
theorem calls_j0 (t : Bool) (op : Int) (a b : ByteArray) (n : Int) (h0 : -9223372036854775808 ≤ n) (h1 : n < 9223372036854775808) (ha : a.size ≤ 1000) (hb : b.size ≤ 1000) (ht : t = true → chk op a b n = 0) : Ev (fun k => armoirelaw12_MethodCalls.j0 k t op a b n) true := by
  refine Ev.step (fun k => by simp only [armoirelaw12_MethodCalls.j0]; rfl) ?_
  refine Ev.bind awake_true ?_
  simp only [if_true]
  refine Ev.bind (check_f op a b n) ?_
  simp only [armoirelaw12_Told.f, Option.bind_some]
  refine Ev.bind (rcheck_f op a b n) ?_
  simp only [if_true]
  cases t with
  | false =>
    simp only [Bool.false_eq_true, if_false]
    exact calls_j1 op a b n h0 h1 ha hb
  | true =>
    simp only [if_true]
    refine Ev.bind (check_f op a b n) ?_
    rw [ht rfl]
    exact calls_j1 op a b n h0 h1 ha hb
theorem tidy_f (op : Int) (a b : ByteArray) (n : Int) (h0 : -9223372036854775808 ≤ n) (h1 : n < 9223372036854775808) :
    ∃ op' a' b' n', Ev (fun k => armoirelaw12_Tidy.f k op a b n) (op', a', b', n') ∧ chk op' a' b' n' = 0 ∧ a'.size ≤ 24 ∧ b'.size ≤ 24 ∧ -9223372036854775808 ≤ n' ∧ n' < 9223372036854775808 := by
  have m1 := i64_mask 8 (by decide) (wrap64 (op - 1))
  have m2 := i64_mask 20 (by decide) (wrap64 (n - 1))
  rw [show (((2 ^ 8 - 1 : Nat)) : Int) = 255 from rfl, show (2 : Int) ^ 8 = 256 from rfl] at m1
  rw [show (((2 ^ 20 - 1 : Nat)) : Int) = 1048575 from rfl, show (2 : Int) ^ 20 = 1048576 from rfl] at m2
  unfold armoirelaw12_Tidy.f
  generalize Go.bits .and .i64 (wrap64 (op - 1)) 255 = q at m1
  have hq : wrap64 (1 + Int.tmod q 17) = 1 + q % 17 := by
    rw [Int.tmod_eq_emod_of_nonneg m1.1]; unfold wrap64; omega
  rw [hq]
  obtain ⟨p, hp⟩ : ∃ p, p = 1 + q % 17 := ⟨_, rfl⟩
  have hp1 : 1 ≤ p ∧ p ≤ 17 := by omega
  rw [← hp]
  clear hq hp m1
  have ca : armoirelaw01_Cut.f a 24 = some (a.extract 0 (min 24 a.size)) := cut_f a 24
  have cb : armoirelaw01_Cut.f b 24 = some (b.extract 0 (min 24 b.size)) := cut_f b 24
  have sa := cut_size a 24
  have sb := cut_size b 24
  have hw : wrap64 (1 + Go.bits .and .i64 (wrap64 (n - 1)) 1048575) = 1 + Go.bits .and .i64 (wrap64 (n - 1)) 1048575 := by
    generalize Go.bits .and .i64 (wrap64 (n - 1)) 1048575 = z at m2
    unfold wrap64; omega
  have HW : ∀ x y : Int, wrap64 (1 + Go.bits .and .i64 (wrap64 (n - 1)) 1048575) = x → x = y → wrap64 (1 + Go.bits .and .i64 (wrap64 (n - 1)) 1048575) = y := fun _ _ h1 h2 => h1.trans h2
  obtain ⟨z, hz⟩ : ∃ z, z = 1 + Go.bits .and .i64 (wrap64 (n - 1)) 1048575 := ⟨_, rfl⟩
  have hz1 : 1 ≤ z ∧ z ≤ 1048576 := by rw [hz]; clear hw HW hz; omega
  have hwz := hw.trans hz.symm
  clear hw HW hz m2
  obtain ⟨a', ha'⟩ : ∃ a', a' = if hasA p = true then a.extract 0 (min 24 a.size) else ⟨#[]⟩ := ⟨_, rfl⟩
  obtain ⟨b', hb'⟩ : ∃ b', b' = if p = 11 then b.extract 0 (min 24 b.size) else ⟨#[]⟩ := ⟨_, rfl⟩
  obtain ⟨n', hn'⟩ : ∃ n', n' = if hasN p = true then (if p > 3 then z else n) else 0 := ⟨_, rfl⟩
  have hsa : a'.size ≤ 24 := by rw [ha']; split <;> first | exact sa | exact Nat.zero_le _
  have hsb : b'.size ≤ 24 := by rw [hb']; split <;> first | exact sb | exact Nat.zero_le _
  have hn0 : -9223372036854775808 ≤ n' ∧ n' < 9223372036854775808 := by
    rw [hn']
    split
    · split
      · clear hwz; omega
      · exact ⟨h0, h1⟩
    · exact ⟨by decide, by decide⟩
  have hj1 : Ev (fun k => armoirelaw12_Tidy.j1 k op a b n p a' b' 0) (p, a', b', n') := by
    refine Ev.step (f := fun _ => some (p, a', b', n')) (fun k => ?_) (Ev.now _)
    simp only [armoirelaw12_Tidy.j1, hasN_f, Option.bind_some]
    rw [hn', hwz]
    cases hasN p
    · simp
    · by_cases h3 : p > 3
      · simp [h3]
      · simp [h3]
  have hj0 : Ev (fun k => armoirelaw12_Tidy.j0 k op a b n p a' ⟨#[]⟩ 0) (p, a', b', n') := by
    refine Ev.step (fun k => ?_) hj1
    simp only [armoirelaw12_Tidy.j0]
    by_cases h11 : p = 11
    · rw [if_pos h11, cb, Option.bind_some, hb', if_pos h11]
    · rw [if_neg h11, hb', if_neg h11]
  refine ⟨p, a', b', n', ?_, ?_, hsa, hsb, hn0.1, hn0.2⟩
  · refine Ev.congr (fun k => ?_) hj0
    rw [hasA_f, Option.bind_some, ha']
    cases hasA p
    · simp
    · simp only [if_true, ca, Option.bind_some]
  · unfold chk
    rw [if_neg (by omega), if_neg, if_neg (by omega), if_neg]
    · rintro ⟨h5, h6⟩
      have hN : hasN p = true := by unfold hasN; rcases h5 with rfl | rfl <;> rfl
      rw [hn', if_pos hN, if_pos (by omega)] at h6
      omega
    · rintro (⟨h5, h6⟩ | ⟨h5, h6⟩ | ⟨h5, h6⟩)
      · rw [ha', h5] at h6
        exact h6 (by rw [if_neg (by decide), ba_toList])
      · rw [hb', if_neg h5] at h6
        exact h6 (by rw [ba_toList])
      · rw [hn', h5] at h6
        exact h6 rfl
theorem MethodCalls : armoirelaw12_MethodCalls.Pure := by
  intro op a b n t ⟨_, _, _, hn⟩
  have hn2 : -9223372036854775808 ≤ n ∧ n < 9223372036854775808 := by
    simp [Lit.wf, IntKind.min, IntKind.max, IntKind.signed, IntKind.bits] at hn
    omega
  refine Ev.rounds ?_
  have ca : armoirelaw01_Cut.f a 28 = some (a.extract 0 (min 28 a.size)) := cut_f a 28
  have cb : armoirelaw01_Cut.f b 28 = some (b.extract 0 (min 28 b.size)) := cut_f b 28
  have sa := cut_size a 28
  have sb := cut_size b 28
  unfold armoirelaw12_MethodCalls.f
  simp only [ca, cb, Option.bind_some]
  generalize a.extract 0 (min 28 a.size) = a1 at sa
  generalize b.extract 0 (min 28 b.size) = b1 at sb
  cases t with
  | false =>
    simp only [Bool.false_eq_true, if_false]
    exact calls_j0 false op a1 b1 n hn2.1 hn2.2 (by omega) (by omega) (fun h => by cases h)
  | true =>
    obtain ⟨op', a', b', n', he, hc, s1, s2, r0, r1⟩ := tidy_f op a1 b1 n hn2.1 hn2.2
    simp only [if_true]
    refine Ev.bind he ?_
    simp only [armoirelaw12_Own.f, Option.bind_some]
    exact calls_j0 true op' a' b' n' r0 r1 (by omega) (by omega) (fun _ => hc)
end Go.Proofs.Ytkoojbkkkpljoaa.Pure

