import Derived.Test.YtkkkmbgflflcnaaQSxFCB
import Derived.Test.YtkkkmbgflflcnaaQSxPSx11
import Derived.Test.YtkkkmbgflflcnaaQSxFFr
import Derived.Test.YtkkkmbgflflcnaaQSxPSx15
import Derived.Test.YtkkkmbgflflcnaaQSxPSx16
import Derived.Test.YtkkkmbgflflcnaaQSxPSx18
import Derived.Test.YtkkkmbgflflcnaaQSxPSx6
import Derived.Test.YtkkkmbgflflcnaaQSxPSx13
import Derived.Test.YtkkkmbgflflcnaaQSxPSx4
import Derived.Test.YtkkkmbgflflcnaaQSxPSx9
import Derived.Test.YtkkkmbgflflcnaaQSxPSx14
import Derived.Test.YtkkkmbgflflcnaaQSxPSx17
namespace Go.Proofs.Ytkkkmbgflflcnaa.PS
open Go.RowKit Go.Proofs.YtkkkmbgflflcnaaW.PrintWords Go.Proofs.YtkkkmbgflflcnaaW.PrintLast CrcM
theorem odd_sum (n c : Nat) : ((((n : Int) + (c : Int)) % 4294967296) % 2 = 1) ↔ (n ^^^ c) % 2 = 1 := by
  rw [mod2_xor]
  omega
theorem ref_l1 (s : ByteArray) (i : Nat) (d : Nat) : ∀ (j n c : Nat) (r : Int), j + d = 8 → n < 4294967296 → c < 2 ^ d →
    Ev (fun k => armoireref01_Of.l0 k s ((iter d (n ^^^ c) : Nat) : Int) (wrap64 ((i : Int) + 1))) r → Ev (fun k => armoireref01_Of.l1 k s (n : Int) (i : Int) (c : Int) (j : Int)) r := by
  induction d with
  | zero =>
    intro j n c r hj hn hc h
    obtain rfl : c = 0 := by simpa using hc
    rw [Nat.xor_zero] at h
    refine Ev.step (fun k => ?_) h
    simp only [armoireref01_Of.l1]
    rw [if_neg (by omega)]
    rfl
  | succ d ih =>
    intro j n c r hj hn hc h
    have hc8 : c < 256 := Nat.lt_of_lt_of_le hc (Nat.le_trans (Nat.pow_le_pow_right (by decide) (show d + 1 ≤ 8 by omega)) (Nat.le_refl 256))
    have e1 : (Int.tdiv (n : Int) 2) % 4294967296 = ((n / 2 : Nat) : Int) := by
      rw [Int.tdiv_eq_ediv_of_nonneg (by omega)]; omega
    have e2 : (Int.tdiv (c : Int) 2) % 4294967296 = ((c / 2 : Nat) : Int) := by
      rw [Int.tdiv_eq_ediv_of_nonneg (by omega)]; omega
    have hc2 : c / 2 < 2 ^ d := by rw [Nat.pow_succ] at hc; omega
    have hj8 : (j : Int) < 8 := by omega
    have hj9 : j + 1 + d = 8 := by omega
    have hn2 : n / 2 < 4294967296 := by omega
    have e3 : wrap64 ((j : Int) + 1) = ((j + 1 : Nat) : Int) := by unfold wrap64; omega
    by_cases ho : (n ^^^ c) % 2 = 1
    · have hb : bstep (n ^^^ c) = (n / 2 ^^^ poly) ^^^ (c / 2) := by
        unfold bstep
        rw [if_pos ho, div2_xor, Nat.xor_assoc, Nat.xor_comm (c / 2), ← Nat.xor_assoc]
      have ex := bits_xor_32 (n / 2) poly hn2 poly_lt32
      rw [show ((poly : Nat) : Int) = 3988292384 from rfl] at ex
      refine Ev.step (fun k => ?_) (ih (j + 1) (n / 2 ^^^ poly) (c / 2) r hj9 (xor_lt32 hn2 poly_lt32) hc2 (by rw [iter, hb] at h; exact h))
      simp only [armoireref01_Of.l1]
      rw [if_pos hj8, if_pos ((odd_sum n c).2 ho), e1, e2, e3, ex]
    · have hb : bstep (n ^^^ c) = (n / 2) ^^^ (c / 2) := by
        unfold bstep
        rw [if_neg ho, div2_xor, Nat.xor_zero]
      refine Ev.step (fun k => ?_) (ih (j + 1) (n / 2) (c / 2) r hj9 hn2 hc2 (by rw [iter, hb] at h; exact h))
      simp only [armoireref01_Of.l1]
      rw [if_pos hj8, if_neg (fun h => ho ((odd_sum n c).1 h)), e1, e2, e3]
theorem ref_l0 (s : ByteArray) (hs : s.size ≤ 140737488351232) (d : Nat) : ∀ i n : Nat, i + d = s.size → n < 4294967296 →
    Ev (fun k => armoireref01_Of.l0 k s (n : Int) (i : Int)) ((4294967295 ^^^ run n (s.data.toList.drop i) : Nat) : Int) := by
  induction d with
  | zero =>
    intro i n hi hn
    refine Ev.step (f := fun _ => some ((4294967295 ^^^ n : Nat) : Int)) (fun k => ?_) ?_
    · simp only [armoireref01_Of.l0]
      rw [if_neg (by omega), xor_ff n hn]
      congr 1
      omega
    · rw [List.drop_eq_nil_of_le (by simp; omega)]
      exact Ev.now _
  | succ d ih =>
    intro i n hi hn
    have h1 := ih (i + 1) (byteStep n (s.data.toList.getD i 0).toNat) (by omega) (iter_lt 8 _ (Nat.xor_lt_two_pow hn (Nat.lt_trans (UInt8.toNat_lt _) (by decide))))
    have e : run n (s.data.toList.drop i) = run (byteStep n (s.data.toList.getD i 0).toNat) (s.data.toList.drop (i + 1)) := by
      rw [drop_cons _ _ (by simp; omega)]
      rfl
    rw [e]
    have hb : (((s.data.toList.getD i 0).toNat : Int)) % 4294967296 = ((s.data.toList.getD i 0).toNat : Int) := by
      have := UInt8.toNat_lt (s.data.toList.getD i 0); omega
    refine Ev.step (fun k => ?_) (ref_l1 s i 8 0 n (s.data.toList.getD i 0).toNat _ (by omega) hn (UInt8.toNat_lt _) (by rw [wrap_in _ (by omega) (by omega)]; exact h1))
    simp only [armoireref01_Of.l0]
    rw [if_pos (by omega), if_pos (by omega), bt_get s i (by omega), hb]
    rfl
theorem ref_f (s : ByteArray) (hs : s.size ≤ 140737488351232) : Ev (fun k => armoireref01_Of.f k s) ((sum s.data.toList : Nat) : Int) := by
  have h := ref_l0 s hs s.size 0 4294967295 (by omega) (by decide)
  rw [List.drop_zero] at h
  exact h
end Go.Proofs.Ytkkkmbgflflcnaa.PS

namespace Go.Proofs.Ytkkkmbgflflcnaa.PS
open Go.RowKit Go.Proofs.YtkkkmbgflflcnaaW.PrintWords Go.Proofs.YtkkkmbgflflcnaaW.PrintLast Go.Proofs.YtkkkmbgflflcnaaW.PrintMore Go.Proofs.Ytkkkmbgflflcnaa CrcM
theorem rcB_f (n : Nat) (hn : n < 4294967296) : armoireref01_Bytes.f (n : Int) = some ⟨(cB n).toArray⟩ := by
  unfold armoireref01_Bytes.f
  refine congrArg some (bytes_ext ?_)
  rw [strOfNums_data]
  simp only [List.map_cons, List.map_nil, cB]
  have h0 : (0 : Int) ≤ (n : Int) := by omega
  rw [Int.tmod_eq_emod_of_nonneg h0, Int.tdiv_eq_ediv_of_nonneg h0, Int.tdiv_eq_ediv_of_nonneg h0, Int.tdiv_eq_ediv_of_nonneg h0]
  rw [show ((n : Int) % 256 % 256).toNat = n % 256 by omega, show ((n : Int) / 256 % 4294967296 % 256).toNat = n / 256 % 256 by omega, show ((n : Int) / 65536 % 4294967296 % 256).toNat = n / 65536 % 256 by omega, show ((n : Int) / 16777216 % 4294967296 % 256).toNat = n / 16777216 % 256 by omega]
theorem rsum_f (s : ByteArray) (hs : s.size ≤ 1000000) : Ev (fun k => armoireref01_Of.f k s) ((sm s : Nat) : Int) := ref_f s (by omega)
end Go.Proofs.Ytkkkmbgflflcnaa.PS

namespace Go.Proofs.Ytkkkmbgflflcnaa.PS
set_option linter.unusedSimpArgs false
open Go.RowKit Go.Proofs.YtkkkmbgflflcnaaW.PrintWords Go.Proofs.YtkkkmbgflflcnaaW.PrintLast Go.Proofs.YtkkkmbgflflcnaaW.PrintMore Go.Proofs.Ytkkkmbgflflcnaa Go.Proofs.Ytkkkmbgflflcnaa.PL CrcM
abbrev nz (c : Int) (t : ByteArray) (m : Int) : Bool := !(c == 0) || (!(t.toList == ([] : List UInt8)) || (!(m == 0)))
def resB (c : Int) (t : ByteArray) (m : Int) : List UInt8 := numB c.toNat ++ strB t ++ numB (zig m)
def bodyP (e n c : Int) (t : ByteArray) (m : Int) : List UInt8 := numB e.toNat ++ numB n.toNat ++ (if nz c t m = true then resB c t m else [])
theorem putR_f (c : Int) (t : ByteArray) (m : Int) (s : ByteArray) (hs : s.size ≤ 100000) (hc : c < 9223372036854775808) (ht : t.size ≤ 1000) (h0 : -9223372036854775808 ≤ m) (h1 : m < 9223372036854775808) :
    method_Result_Put.f c t m s = some ⟨(s.data.toList ++ resB c t m).toArray⟩ := by
  have l1 : (numB c.toNat).length ≤ 9 := numB_length _ (by omega)
  have l2 := strB_length t (by omega)
  have hz := ba_size s
  unfold method_Result_Put.f resB
  rw [wN1 s c (by omega) hc, Option.bind_some, wS1 _ t (by rw [ba_mk_size, List.length_append]; omega) (by omega), Option.bind_some,
    wI1 _ m (by rw [ba_mk_size]; rw [List.length_append, List.length_append]; omega) h0 h1, Option.bind_some]
  simp only [List.append_assoc]
theorem resB_length (c : Int) (t : ByteArray) (m : Int) (hc : c < 9223372036854775808) (ht : t.size ≤ 1000) (h0 : -9223372036854775808 ≤ m) (h1 : m < 9223372036854775808) : (resB c t m).length ≤ 3000 ∧ 1 ≤ (resB c t m).length := by
  have l1 : (numB c.toNat).length ≤ 9 := numB_length _ (by omega)
  have l2 := strB_length t (by omega)
  have l4 : (numB (zig m)).length ≤ 9 := numB_length _ (zig_lt m h0 h1)
  have l5 : 1 ≤ (numB c.toNat).length := by unfold numB; simp
  unfold resB
  rw [List.length_append, List.length_append]; omega
theorem replyText_f (e n c : Int) (t : ByteArray) (m : Int) (he : e < 9223372036854775808) (hn : n < 9223372036854775808) (hc : c < 9223372036854775808) (ht : t.size ≤ 1000) (h0 : -9223372036854775808 ≤ m) (h1 : m < 9223372036854775808) :
    Ev (fun k => frame_Reply_Text.f k e n c t m) (sealB ⟨(bodyP e n c t m).toArray⟩) := by
  have l1 : (numB e.toNat).length ≤ 9 := numB_length _ (by omega)
  have l2 : (numB n.toNat).length ≤ 9 := numB_length _ (by omega)
  have l3 := resB_length c t m hc ht h0 h1
  unfold frame_Reply_Text.f bodyP
  have e0 := wN2 ⟨#[]⟩ e n (by decide) he hn
  rw [show (⟨#[]⟩ : ByteArray).data.toList = [] from rfl, List.nil_append] at e0
  simp only [e0, Option.bind_some]
  by_cases hz : nz c t m = true
  · have e1 := putR_f c t m ⟨(numB e.toNat ++ numB n.toNat).toArray⟩ (by rw [ba_mk_size, List.length_append]; omega) hc ht h0 h1
    rw [ba_mk] at e1
    simp only [if_pos hz, e1, Option.bind_some]
    exact text_fin _ (by rw [List.length_append, List.length_append]; omega)
  · simp only [if_neg hz, List.append_nil]
    exact text_fin _ (by rw [List.length_append]; omega)
abbrev PP := Int × Int × Int × ByteArray × Int
def P0 : PP := (0, 0, 0, ⟨#[]⟩, 0)
def pP (a : ByteArray) : PP × Int :=
  let s := op4 a
  if ¬ s.2 = 0 then (P0, s.2)
  else
    let x := tN s.1 0 19
    let y := tN x.2.1 x.2.2 1099511627776
    let z : Int × ByteArray × Int × ByteArray × Int := if y.2.1.size > 0 then rR y.2.1 y.2.2 else (0, ⟨#[]⟩, 0, y.2.1, y.2.2)
    if (en z.2.2.2.1 z.2.2.2.2).2 = 0 then ((x.1, y.1, z.1, z.2.1, z.2.2.1), 0) else (P0, (en z.2.2.2.1 z.2.2.2.2).2)
def flat6 (r : PP × Int) : Int × Int × Int × ByteArray × Int × Int := (r.1.1, r.1.2.1, r.1.2.2.1, r.1.2.2.2.1, r.1.2.2.2.2, r.2)
theorem pj0 (s : ByteArray) (x : Int) (q : PP) : Ev (fun k => frame_ParseReply.j0 k s x q.1 q.2.1 q.2.2.1 q.2.2.2.1 q.2.2.2.2) (flat6 (if (en s x).2 = 0 then (q, 0) else (P0, (en s x).2))) := by
  refine Ev.step (fun k => by simp only [frame_ParseReply.j0, end_f, Option.bind_some]; rfl) ?_
  by_cases c : (en s x).2 = 0
  · simp only [if_pos c]; exact Ev.now _
  · simp only [if_neg c]; exact Ev.now _
theorem parseReply_f (a : ByteArray) (ha : a.size ≤ 1000000) : Ev (fun k => frame_ParseReply.f k a) (flat6 (pP a)) := by
  have hv := op4_val a ha
  unfold frame_ParseReply.f
  refine Ev.bind (open_f a ha) ?_
  unfold pP
  by_cases c : (op4 a).2 = 0
  rotate_left
  · rw [if_pos c]
    simp only [if_neg c]
    exact Ev.now _
  rw [if_neg (fun h => h c)]
  have hv1 := hv.tN 19
  have hv2 := hv1.tN 1099511627776
  simp only [if_pos c, codec_Read.f, Option.bind_some, tN_f _ _ _ hv, tN_f _ _ _ hv1, codec_In_Len.f]
  generalize tN (op4 a).1 0 19 = x at hv2 ⊢
  generalize tN x.2.1 x.2.2 1099511627776 = y at hv2 ⊢
  by_cases cz : y.2.1.size > 0
  · have cz' : (y.2.1.size : Int) > 0 := by omega
    simp only [if_pos cz, if_pos cz']
    refine Ev.bind (rR_f _ _ hv2) ?_
    exact pj0 _ _ (x.1, y.1, (rR y.2.1 y.2.2).1, (rR y.2.1 y.2.2).2.1, (rR y.2.1 y.2.2).2.2.1)
  · have cz' : ¬ (y.2.1.size : Int) > 0 := by omega
    simp only [if_neg cz, if_neg cz']
    exact pj0 _ _ (x.1, y.1, 0, ⟨#[]⟩, 0)
end Go.Proofs.Ytkkkmbgflflcnaa.PS

namespace Go.Proofs.Ytkkkmbgflflcnaa.PS
set_option linter.unusedSimpArgs false
open Go.RowKit Go.Proofs.YtkkkmbgflflcnaaW.PrintWords Go.Proofs.YtkkkmbgflflcnaaW.PrintLast Go.Proofs.YtkkkmbgflflcnaaW.PrintMore Go.Proofs.Ytkkkmbgflflcnaa Go.Proofs.Ytkkkmbgflflcnaa.PL CrcM
theorem nilB {s : ByteArray} (h : s.data.toList = []) : s = ⟨#[]⟩ := bytes_ext (by rw [h])
theorem rC_canon (s : ByteArray) (e : Int) (h : (rC s e).2.2.2.2.2 = 0) :
    e = 0 ∧ s.data.toList = callB (rC s e).1 (rC s e).2.1 (rC s e).2.2.1 (rC s e).2.2.2.1 ++ (rC s e).2.2.2.2.1.data.toList ∧ chk (rC s e).1 (rC s e).2.1 (rC s e).2.2.1 (rC s e).2.2.2.1 = 0
      ∧ -9223372036854775808 ≤ (rC s e).2.2.2.1 ∧ (rC s e).2.2.2.1 < 9223372036854775808 := by
  unfold rC at h ⊢
  dsimp only at h ⊢
  by_cases c : (tI (tS (tS (tN s e 17).2.1 (tN s e 17).2.2 24).2.1 (tS (tN s e 17).2.1 (tN s e 17).2.2 24).2.2 24).2.1 (tS (tS (tN s e 17).2.1 (tN s e 17).2.2 24).2.1 (tS (tN s e 17).2.1 (tN s e 17).2.2 24).2.2 24).2.2).2.2 = 0
      ∧ chk (tN s e 17).1 (tS (tN s e 17).2.1 (tN s e 17).2.2 24).1 (tS (tS (tN s e 17).2.1 (tN s e 17).2.2 24).2.1 (tS (tN s e 17).2.1 (tN s e 17).2.2 24).2.2 24).1 (tI (tS (tS (tN s e 17).2.1 (tN s e 17).2.2 24).2.1 (tS (tN s e 17).2.1 (tN s e 17).2.2 24).2.2 24).2.1 (tS (tS (tN s e 17).2.1 (tN s e 17).2.2 24).2.1 (tS (tN s e 17).2.1 (tN s e 17).2.2 24).2.2 24).2.2).1 = 0
  rotate_left
  · rw [if_neg c] at h
    exfalso
    dsimp only at h
    generalize (tI (tS (tS (tN s e 17).2.1 (tN s e 17).2.2 24).2.1 (tS (tN s e 17).2.1 (tN s e 17).2.2 24).2.2 24).2.1 (tS (tS (tN s e 17).2.1 (tN s e 17).2.2 24).2.1 (tS (tN s e 17).2.1 (tN s e 17).2.2 24).2.2 24).2.2) = x4 at c h
    by_cases c0 : x4.2.2 = 0
    · exact fl_ne _ _ _ (fun y => c ⟨c0, y⟩) h
    · rw [fl_err _ _ _ c0] at h; exact c0 h
  rw [if_pos c]
  dsimp only
  obtain ⟨c4, cc⟩ := c
  have z3 := tI_ok0 c4
  have z2 := tS_ok0 z3
  have z1 := tS_ok0 z2
  have z0 := tN_ok0 z1
  subst z0
  have q1 := tN_canon s 17 (by decide) (by decide) z1
  generalize tN s 0 17 = x1 at z1 z2 z3 c4 cc q1 ⊢
  obtain ⟨op, s1, e1⟩ := x1
  dsimp only at z1 z2 z3 c4 cc q1 ⊢
  subst z1
  have q2 := tS_canon s1 24 (by decide) (by decide) z2
  generalize tS s1 0 24 = x2 at z2 z3 c4 cc q2 ⊢
  obtain ⟨a, s2, e2⟩ := x2
  dsimp only at z2 z3 c4 cc q2 ⊢
  subst z2
  have q3 := tS_canon s2 24 (by decide) (by decide) z3
  generalize tS s2 0 24 = x3 at z3 c4 cc q3 ⊢
  obtain ⟨b, s3, e3⟩ := x3
  dsimp only at z3 c4 cc q3 ⊢
  subst z3
  have q4 := tI_canon s3 c4
  generalize tI s3 0 = x4 at c4 cc q4 ⊢
  obtain ⟨n, s4, e4⟩ := x4
  dsimp only at c4 cc q4 ⊢
  refine ⟨rfl, ?_, cc, q4.2.1, q4.2.2⟩
  rw [q1.1, q2.1, q3.1, q4.1]
  unfold callB
  simp only [List.append_assoc]
theorem rR_canon (s : ByteArray) (e : Int) (h : (rR s e).2.2.2.2 = 0) :
    e = 0 ∧ s.data.toList = resB (rR s e).1 (rR s e).2.1 (rR s e).2.2.1 ++ (rR s e).2.2.2.1.data.toList ∧ chkR (rR s e).1 (rR s e).2.1 (rR s e).2.2.1 = 0
      ∧ -9223372036854775808 ≤ (rR s e).2.2.1 ∧ (rR s e).2.2.1 < 9223372036854775808 := by
  unfold rR at h ⊢
  dsimp only at h ⊢
  by_cases c : (tI (tS (tN s e 2).2.1 (tN s e 2).2.2 24).2.1 (tS (tN s e 2).2.1 (tN s e 2).2.2 24).2.2).2.2 = 0
      ∧ chkR (tN s e 2).1 (tS (tN s e 2).2.1 (tN s e 2).2.2 24).1 (tI (tS (tN s e 2).2.1 (tN s e 2).2.2 24).2.1 (tS (tN s e 2).2.1 (tN s e 2).2.2 24).2.2).1 = 0
  rotate_left
  · rw [if_neg c] at h
    exfalso
    dsimp only at h
    generalize (tI (tS (tN s e 2).2.1 (tN s e 2).2.2 24).2.1 (tS (tN s e 2).2.1 (tN s e 2).2.2 24).2.2) = x4 at c h
    by_cases c0 : x4.2.2 = 0
    · exact fl_ne _ _ _ (fun y => c ⟨c0, y⟩) h
    · rw [fl_err _ _ _ c0] at h; exact c0 h
  rw [if_pos c]
  dsimp only
  obtain ⟨c4, cc⟩ := c
  have z2 := tI_ok0 c4
  have z1 := tS_ok0 z2
  have z0 := tN_ok0 z1
  subst z0
  have q1 := tN_canon s 2 (by decide) (by decide) z1
  generalize tN s 0 2 = x1 at z1 z2 c4 cc q1 ⊢
  obtain ⟨op, s1, e1⟩ := x1
  dsimp only at z1 z2 c4 cc q1 ⊢
  subst z1
  have q2 := tS_canon s1 24 (by decide) (by decide) z2
  generalize tS s1 0 24 = x2 at z2 c4 cc q2 ⊢
  obtain ⟨a, s2, e2⟩ := x2
  dsimp only at z2 c4 cc q2 ⊢
  subst z2
  have q4 := tI_canon s2 c4
  generalize tI s2 0 = x4 at c4 cc q4 ⊢
  obtain ⟨n, s4, e4⟩ := x4
  dsimp only at c4 cc q4 ⊢
  refine ⟨rfl, ?_, cc, q4.2.1, q4.2.2⟩
  rw [q1.1, q2.1, q4.1]
  unfold resB
  simp only [List.append_assoc]
theorem en_ok {s : ByteArray} {e : Int} (h : (en s e).2 = 0) : s = ⟨#[]⟩ ∧ e = 0 := by
  unfold en at h
  by_cases c : s.data.toList = []
  · rw [if_pos c] at h; exact ⟨nilB c, h⟩
  · rw [if_neg c] at h; exact absurd h (fl_ne _ _ 2 (by decide))
theorem op4_ok {a : ByteArray} (h : (op4 a).2 = 0) : a = sealB (op4 a).1 := by
  unfold op4 at h ⊢
  by_cases c : a.size < 4
  · rw [if_pos c] at h; exact absurd h (by decide)
  rw [if_neg c] at h ⊢
  by_cases c2 : (a.extract 0 4).data.toList = cB (sm (a.extract 4 a.size))
  · rw [if_pos c2]
    refine bytes_ext ?_
    have hz := ba_size a
    unfold sealB
    rw [ba_mk, ← c2, ba_extract, ba_extract, List.drop_zero, Nat.sub_zero]
    have hd : List.take (a.size - 4) (List.drop 4 a.data.toList) = List.drop 4 a.data.toList := List.take_of_length_le (by rw [List.length_drop]; omega)
    rw [hd, List.take_append_drop]
  · rw [if_neg c2] at h; exact absurd h (by decide)
theorem seal_of {a : ByteArray} {l : List UInt8} (h : (op4 a).2 = 0) (e : (op4 a).1.data.toList = l) : sealB ⟨l.toArray⟩ = a := by
  rw [op4_ok h]
  congr 1
  exact bytes_ext (by rw [ba_mk]; exact e.symm)
theorem fin_ok {α : Type} {q z : α} {s : ByteArray} {e : Int} (h : (if (en s e).2 = 0 then (q, (0 : Int)) else (z, (en s e).2)).2 = 0) : s = ⟨#[]⟩ ∧ e = 0 ∧ (if (en s e).2 = 0 then (q, (0 : Int)) else (z, (en s e).2)) = (q, 0) := by
  by_cases c : (en s e).2 = 0
  · rw [if_pos c]; exact ⟨(en_ok c).1, (en_ok c).2, rfl⟩
  · rw [if_neg c] at h; exact absurd h c
set_option maxHeartbeats 400000 in
theorem pQ_canon (a : ByteArray) (h : (pQ a).2 = 0) : sealB ⟨(bodyQ (pQ a).1).toArray⟩ = a ∧ chkQ (pQ a).1 = 0 ∧ FitQ (pQ a).1 := by
  unfold pQ at h ⊢
  by_cases c : (op4 a).2 = 0
  rotate_left
  · rw [if_pos c] at h; exact absurd h c
  rw [if_neg (fun hh => hh c)] at h ⊢
  have hs := @seal_of a
  generalize (op4 a).1 = s at h hs ⊢
  dsimp only at h ⊢
  by_cases c0 : (tN s 0 7).1 = 0
  · rw [if_pos c0] at h
    exfalso
    dsimp only at h
    exact fl_ne _ _ 6 (by decide) (fin_ok h).2.1
  rw [if_neg c0] at h ⊢
  by_cases c2 : (tN s 0 7).1 = 2
  · rw [if_pos c2] at h ⊢
    have hcan := rC_canon (tS (tN s 0 7).2.1 (tN s 0 7).2.2 16).2.1 (tS (tN s 0 7).2.1 (tN s 0 7).2.2 16).2.2
    generalize rC (tS (tN s 0 7).2.1 (tN s 0 7).2.2 16).2.1 (tS (tN s 0 7).2.1 (tN s 0 7).2.2 16).2.2 = x3 at h hcan ⊢
    (try dsimp only at h ⊢)
    obtain ⟨r0, rz, hv⟩ := fin_ok h
    rw [hv]
    (try dsimp only)
    obtain ⟨z2, q3, hc, n0, n1⟩ := hcan rz
    rw [r0] at q3
    have z1 := tS_ok0 z2
    have q1 := tN_canon s 7 (by decide) (by decide) z1
    generalize tN s 0 7 = x1 at c0 c2 z1 z2 q1 q3 hc n0 n1 ⊢
    obtain ⟨kind, s1, e1⟩ := x1
    dsimp only at c0 c2 z1 z2 q1 q3 hc n0 n1 ⊢
    subst z1
    have q2 := tS_canon s1 16 (by decide) (by decide) z2
    generalize tS s1 0 16 = x2 at z2 q2 q3 hc n0 n1 ⊢
    obtain ⟨obj, s2, e2⟩ := x2
    dsimp only at z2 q2 q3 hc n0 n1 ⊢
    obtain ⟨op, a', b, n, s3, e3⟩ := x3
    dsimp only at q3 hc n0 n1 ⊢
    have ho : op < 9223372036854775808 ∧ a'.size ≤ 24 ∧ b.size ≤ 24 := by
      have ho : 1 ≤ op ∧ op ≤ 17 := by
        by_cases c : op < 1 ∨ 17 < op
        · unfold chk at hc; rw [if_pos c] at hc; exact absurd hc (by decide)
        · omega
      have hab : a'.size ≤ 24 ∧ b.size ≤ 24 := by
        by_cases c : a'.size > 24 ∨ b.size > 24
        · unfold chk at hc; rw [if_neg (by omega)] at hc
          split at hc <;> first | exact absurd hc (by decide) | (rw [if_pos c] at hc; exact absurd hc (by decide))
        · omega
      omega
    refine ⟨hs c ?_, ?_, ?_⟩
    · unfold bodyQ
      rw [if_pos c2, q1.1, q2.1, q3]
      simp
    · unfold chkQ
      dsimp only
      rw [if_neg (by omega), if_neg (fun x => x.elim (fun y => y.1 c2) (fun y => y.2.2 rfl)), if_neg (show ¬ obj.size > 16 by omega), if_neg (by omega), if_pos c2]
      exact hc
    · exact ⟨by dsimp only; omega, by dsimp only; omega, by dsimp only; omega, ho.1, by dsimp only; omega, by dsimp only; omega, n0, n1⟩
  rw [if_neg c2] at h ⊢
  by_cases c4 : (tN s 0 7).1 = 4 ∨ (tN s 0 7).1 = 7
  · rw [if_pos c4] at h ⊢
    have hz := @tN_ok0 (tN s 0 7).2.1 (tN s 0 7).2.2 1099511627776
    generalize hx : tN (tN s 0 7).2.1 (tN s 0 7).2.2 1099511627776 = x2 at h hz ⊢
    (try dsimp only at h ⊢)
    obtain ⟨r0, rz, hv⟩ := fin_ok h
    rw [hv]
    (try dsimp only)
    have z1 := hz rz
    clear h hv hz
    have q1 := tN_canon s 7 (by decide) (by decide) z1
    generalize tN s 0 7 = x1 at c0 c2 c4 hx z1 q1 ⊢
    obtain ⟨kind, s1, e1⟩ := x1
    dsimp only at c0 c2 c4 hx z1 q1 ⊢
    subst z1
    have q2 := tN_canon s1 1099511627776 (by decide) (by decide) (by rw [hx]; exact rz)
    rw [hx, r0] at q2
    clear hx
    obtain ⟨nn, s2, e2⟩ := x2
    dsimp only at r0 rz q2 ⊢
    refine ⟨hs c ?_, ?_, ?_⟩
    · unfold bodyQ
      rw [if_neg c2, if_pos c4, q1.1, q2.1]
      simp
    · unfold chkQ
      have e0 : ((⟨#[]⟩ : ByteArray).toList) = [] := ba_toList _
      dsimp only
      rw [if_neg (by omega), if_neg (fun x => x.elim (fun x => x.2.elim (fun y => y e0) (fun y => y.elim (fun z => z rfl) (fun z => z.elim (fun u => u e0) (fun u => u.elim (fun v => v e0) (fun v => v rfl))))) (fun x => by omega)),
        if_neg (by decide), if_neg (by omega), if_neg c2]
    · exact ⟨by dsimp only; omega, by dsimp only; omega, by dsimp only; decide, by dsimp only; decide, by dsimp only; decide, by dsimp only; decide, by dsimp only; decide, by dsimp only; decide⟩
  · rw [if_neg c4] at h ⊢
    have hq := tN_canon s 7 (by decide) (by decide)
    generalize tN s 0 7 = x1 at c0 c2 c4 h hq ⊢
    (try dsimp only at h ⊢)
    obtain ⟨r0, rz, hv⟩ := fin_ok h
    rw [hv]
    have q1 := hq rz
    clear h hv hq
    rw [r0] at q1
    obtain ⟨kind, s1, e1⟩ := x1
    dsimp only at c0 c2 c4 r0 rz q1 ⊢
    refine ⟨hs c ?_, ?_, ?_⟩
    · unfold bodyQ
      rw [if_neg c2, if_neg c4, q1.1]
      simp
    · unfold chkQ
      have e0 : ((⟨#[]⟩ : ByteArray).toList) = [] := ba_toList _
      dsimp only
      rw [if_neg (by omega), if_neg (fun x => x.elim (fun x => x.2.elim (fun y => y e0) (fun y => y.elim (fun z => z rfl) (fun z => z.elim (fun u => u e0) (fun u => u.elim (fun v => v e0) (fun v => v rfl))))) (fun x => x.2.2 rfl)),
        if_neg (by decide), if_neg (by omega), if_neg c2]
    · exact ⟨by dsimp only; omega, by dsimp only; decide, by dsimp only; decide, by dsimp only; decide, by dsimp only; decide, by dsimp only; decide, by dsimp only; decide, by dsimp only; decide⟩
set_option maxHeartbeats 400000 in
theorem pP_canon (a : ByteArray) (h : (pP a).2 = 0) : sealB ⟨(bodyP (pP a).1.1 (pP a).1.2.1 (pP a).1.2.2.1 (pP a).1.2.2.2.1 (pP a).1.2.2.2.2).toArray⟩ = a
    ∧ (pP a).1.1 < 9223372036854775808 ∧ (pP a).1.2.1 < 9223372036854775808 ∧ (pP a).1.2.2.1 < 9223372036854775808 ∧ (pP a).1.2.2.2.1.size ≤ 1000 ∧ -9223372036854775808 ≤ (pP a).1.2.2.2.2 ∧ (pP a).1.2.2.2.2 < 9223372036854775808 := by
  unfold pP at h ⊢
  by_cases c : (op4 a).2 = 0
  rotate_left
  · rw [if_pos c] at h; exact absurd h c
  rw [if_neg (fun hh => hh c)] at h ⊢
  have hs := @seal_of a
  generalize (op4 a).1 = s at h hs ⊢
  dsimp only at h ⊢
  by_cases cz : (tN (tN s 0 19).2.1 (tN s 0 19).2.2 1099511627776).2.1.size > 0
  · rw [if_pos cz] at h ⊢
    have hcan := rR_canon (tN (tN s 0 19).2.1 (tN s 0 19).2.2 1099511627776).2.1 (tN (tN s 0 19).2.1 (tN s 0 19).2.2 1099511627776).2.2
    generalize rR (tN (tN s 0 19).2.1 (tN s 0 19).2.2 1099511627776).2.1 (tN (tN s 0 19).2.1 (tN s 0 19).2.2 1099511627776).2.2 = x3 at h hcan ⊢
    (try dsimp only at h ⊢)
    obtain ⟨r0, rz, hv⟩ := fin_ok h
    rw [hv]
    (try dsimp only)
    obtain ⟨z2, q3, hc, n0, n1⟩ := hcan rz
    clear h hv hcan
    rw [r0] at q3
    have z1 := tN_ok0 z2
    have q1 := tN_canon s 19 (by decide) (by decide) z1
    generalize tN s 0 19 = x1 at z1 z2 q1 q3 hc n0 n1 ⊢
    obtain ⟨e, s1, e1⟩ := x1
    dsimp only at z1 z2 q1 q3 hc n0 n1 ⊢
    subst z1
    have q2 := tN_canon s1 1099511627776 (by decide) (by decide) z2
    generalize tN s1 0 1099511627776 = x2 at z2 q2 q3 hc n0 n1 ⊢
    obtain ⟨n, s2, e2⟩ := x2
    dsimp only at z2 q2 q3 hc n0 n1 ⊢
    obtain ⟨cd, t, m, s3, e3⟩ := x3
    dsimp only at q3 hc n0 n1 ⊢
    have ho : cd = 1 ∨ cd = 2 := by
      by_cases x : ¬ cd = 1 ∧ ¬ cd = 2
      · unfold chkR at hc; rw [if_pos x] at hc; exact absurd hc (by decide)
      · omega
    have ht : t.size ≤ 24 := by
      by_cases x : t.size > 24
      · unfold chkR at hc; rw [if_neg (by omega), if_pos x] at hc; exact absurd hc (by decide)
      · omega
    have hnz : nz cd t m = true := by
      have : (cd == 0) = false := beq_eq_false_iff_ne.mpr (by omega)
      simp only [nz, this, Bool.not_false, Bool.true_or]
    refine ⟨hs c ?_, by omega, by omega, by omega, by omega, n0, n1⟩
    unfold bodyP
    rw [if_pos hnz, q1.1, q2.1, q3]
    simp
  · rw [if_neg cz] at h ⊢
    have hz := @tN_ok0 (tN s 0 19).2.1 (tN s 0 19).2.2 1099511627776
    generalize hx : tN (tN s 0 19).2.1 (tN s 0 19).2.2 1099511627776 = x2 at h hz ⊢
    (try dsimp only at h ⊢)
    obtain ⟨r0, rz, hv⟩ := fin_ok h
    rw [hv]
    (try dsimp only)
    have z1 := hz rz
    clear h hv hz
    have q1 := tN_canon s 19 (by decide) (by decide) z1
    generalize tN s 0 19 = x1 at hx z1 q1 ⊢
    obtain ⟨e, s1, e1⟩ := x1
    dsimp only at hx z1 q1 ⊢
    subst z1
    have q2 := tN_canon s1 1099511627776 (by decide) (by decide) (by rw [hx]; exact rz)
    rw [hx, r0] at q2
    clear hx
    obtain ⟨n, s2, e2⟩ := x2
    dsimp only at r0 rz q2 ⊢
    refine ⟨hs c ?_, by omega, by omega, by decide, by decide, by decide, by decide⟩
    unfold bodyP
    have hnz : ¬ nz 0 ⟨#[]⟩ 0 = true := by
      have e0 : ((⟨#[]⟩ : ByteArray).toList) = [] := ba_toList _
      simp only [nz, e0]; decide
    rw [if_neg hnz, q1.1, q2.1]
    simp
end Go.Proofs.Ytkkkmbgflflcnaa.PS

namespace Go.Proofs.Ytkkkmbgflflcnaa.PS
set_option linter.unusedSimpArgs false
open Go.RowKit Go.Proofs.YtkkkmbgflflcnaaW.PrintWords Go.Proofs.YtkkkmbgflflcnaaW.PrintLast Go.Proofs.YtkkkmbgflflcnaaW.PrintMore Go.Proofs.Ytkkkmbgflflcnaa Go.Proofs.Ytkkkmbgflflcnaa.PL CrcM
theorem rrC_j0 (s : ByteArray) (e op : Int) (a b : ByteArray) (n : Int) : Ev (fun k => armoireref12_Read.j0 k s e op a b n) (if e = 0 then (s, e, op, a, b, n) else (s, e, 0, ⟨#[]⟩, ⟨#[]⟩, 0)) := by
  refine Ev.step (fun k => by simp only [armoireref12_Read.j0]; rfl) ?_
  by_cases c : e = 0
  · simp only [if_pos c]; exact Ev.now _
  · simp only [if_neg c]; exact Ev.now _
theorem rrC_f (s : ByteArray) (e : Int) (hv : Val s e) : Ev (fun k => armoireref12_Read.f k s e) ((rC s e).2.2.2.2.1, (rC s e).2.2.2.2.2, (rC s e).1, (rC s e).2.1, (rC s e).2.2.1, (rC s e).2.2.2.1) := by
  have v1 := hv.tN 17
  have v2 := v1.tS 24
  have v3 := v2.tS 24
  unfold armoireref12_Read.f
  refine Ev.bind (rN_f s e 17 hv) ?_
  refine Ev.bind (rS_f _ _ 24 v1 (by decide)) ?_
  refine Ev.bind (rS_f _ _ 24 v2 (by decide)) ?_
  refine Ev.bind (rI_f _ _ v3) ?_
  unfold rC
  dsimp only
  generalize tN s e 17 = x1
  generalize tS x1.2.1 x1.2.2 24 = x2
  generalize tS x2.2.1 x2.2.2 24 = x3
  generalize tI x3.2.1 x3.2.2 = x4
  obtain ⟨n, s4, e4⟩ := x4
  dsimp only
  by_cases c : e4 = 0
  · subst c
    simp only [if_true]
    refine Ev.bind (rcheck_f _ _ _ _) ?_
    by_cases c2 : chk x1.1 x2.1 x3.1 n = 0
    · have h := rrC_j0 s4 0 x1.1 x2.1 x3.1 n
      rw [c2]
      simp only [rfl_f, fl_zero, Option.bind_some, if_true, and_self]
      exact h
    · have h := rrC_j0 ⟨#[]⟩ (chk x1.1 x2.1 x3.1 n) x1.1 x2.1 x3.1 n
      rw [if_neg c2] at h
      simp only [rfl_f, fl_yes _ _ c2, Option.bind_some, c2, and_false, if_false]
      exact h
  · have h := rrC_j0 s4 e4 x1.1 x2.1 x3.1 n
    rw [if_neg c] at h
    simp only [if_neg c, c, false_and, if_false, fl_no _ _ _ c]
    exact h
theorem rrR_j0 (s : ByteArray) (e op : Int) (a : ByteArray) (n : Int) : Ev (fun k => armoireref12_ReadResult.j0 k s e op a n) (if e = 0 then (s, e, op, a, n) else (s, e, 0, ⟨#[]⟩, 0)) := by
  refine Ev.step (fun k => by simp only [armoireref12_ReadResult.j0]; rfl) ?_
  by_cases c : e = 0
  · simp only [if_pos c]; exact Ev.now _
  · simp only [if_neg c]; exact Ev.now _
theorem rrR_f (s : ByteArray) (e : Int) (hv : Val s e) : Ev (fun k => armoireref12_ReadResult.f k s e) ((rR s e).2.2.2.1, (rR s e).2.2.2.2, (rR s e).1, (rR s e).2.1, (rR s e).2.2.1) := by
  have v1 := hv.tN 2
  have v2 := v1.tS 24
  unfold armoireref12_ReadResult.f
  refine Ev.bind (rN_f s e 2 hv) ?_
  refine Ev.bind (rS_f _ _ 24 v1 (by decide)) ?_
  refine Ev.bind (rI_f _ _ v2) ?_
  unfold rR
  dsimp only
  generalize tN s e 2 = x1
  generalize tS x1.2.1 x1.2.2 24 = x2
  generalize tI x2.2.1 x2.2.2 = x4
  obtain ⟨n, s4, e4⟩ := x4
  dsimp only
  by_cases c : e4 = 0
  · subst c
    simp only [if_true]
    refine Ev.bind (rcheckR_f _ _ _) ?_
    by_cases c2 : chkR x1.1 x2.1 n = 0
    · have h := rrR_j0 s4 0 x1.1 x2.1 n
      rw [c2]
      simp only [rfl_f, fl_zero, Option.bind_some, if_true, and_self]
      exact h
    · have h := rrR_j0 ⟨#[]⟩ (chkR x1.1 x2.1 n) x1.1 x2.1 n
      rw [if_neg c2] at h
      simp only [rfl_f, fl_yes _ _ c2, Option.bind_some, c2, and_false, if_false]
      exact h
  · have h := rrR_j0 s4 e4 x1.1 x2.1 n
    rw [if_neg c] at h
    simp only [if_neg c, c, false_and, if_false, fl_no _ _ _ c]
    exact h
theorem rend_f (s : ByteArray) (e : Int) : armoireref02_End.f s e = some (en s e).2 := by
  unfold armoireref02_End.f en
  rw [ba_toList]
  by_cases c : e = 0
  · rw [if_pos c]
    by_cases c2 : s.data.toList = []
    · rw [if_pos c2, if_pos c2]
    · rw [if_neg c2, if_neg c2, c]; rfl
  · rw [if_neg c]
    by_cases c2 : s.data.toList = []
    · rw [if_pos c2]
    · rw [if_neg c2]; unfold fl; rw [if_neg c]
theorem ropen_f (a : ByteArray) (ha : a.size ≤ 1000000) : Ev (fun k => armoireref24_Open.f k a) (op4 a) := by
  unfold armoireref24_Open.f op4
  by_cases c : a.size < 4
  · rw [if_pos c]
    simp only [if_pos (show (a.size : Int) < 4 by omega)]
    exact Ev.now _
  · rw [if_neg c]
    have c1 : ¬ (a.size : Int) < 4 := by omega
    have c2 : (4 : Int) ≤ (a.size : Int) := by omega
    have c3 : (0 : Int) ≤ 4 := by decide
    simp only [if_neg c1, if_pos c2, if_pos c3]
    have hz : (a.extract 4 a.size).size ≤ 1000000 := by rw [ba_size, ba_extract, List.length_take, List.length_drop, ← ba_size]; omega
    refine Ev.bind (rsum_f _ hz) ?_
    simp only [rcB_f _ (sm_lt _), Option.bind_some, ba_toList, ba_mk]
    by_cases e : (a.extract 0 4).data.toList = cB (sm (a.extract 4 a.size))
    · simp only [if_pos e]; exact Ev.now _
    · simp only [if_neg e]; exact Ev.now _
theorem rp3 (s : ByteArray) (e : Int) (q : Q) : Ev (fun k => armoireref24_Parse.j3 k s e q.1 q.2.1 q.2.2.1 q.2.2.2.1 q.2.2.2.2.1 q.2.2.2.2.2.1 q.2.2.2.2.2.2) (flat8 (if (en s e).2 = 0 then (q, 0) else (Q0, (en s e).2))) := by
  refine Ev.step (fun k => by simp only [armoireref24_Parse.j3, rend_f, Option.bind_some]; rfl) ?_
  by_cases c : (en s e).2 = 0
  · simp only [if_pos c]; exact Ev.now _
  · simp only [if_neg c]; exact Ev.now _
theorem rp1 (s : ByteArray) (e : Int) (hv : Val s e) (q : Q) : Ev (fun k => armoireref24_Parse.j1 k q.1 s e q.1 q.2.1 q.2.2.1 q.2.2.2.1 q.2.2.2.2.1 q.2.2.2.2.2.1 q.2.2.2.2.2.2)
    (flat8 (let r : Q × ByteArray × Int := if q.1 = 4 ∨ q.1 = 7 then ((q.1, (tN s e 1099511627776).1, q.2.2.1, q.2.2.2.1, q.2.2.2.2.1, q.2.2.2.2.2.1, q.2.2.2.2.2.2), (tN s e 1099511627776).2) else (q, s, e)
      if (en r.2.1 r.2.2).2 = 0 then (r.1, 0) else (Q0, (en r.2.1 r.2.2).2))) := by
  have ht : (q.1 = 4 ∨ q.1 = 7) → Ev (fun k => armoireref24_Parse.j2 k true s e q.1 q.2.1 q.2.2.1 q.2.2.2.1 q.2.2.2.2.1 q.2.2.2.2.2.1 q.2.2.2.2.2.2)
      (flat8 (let r : Q × ByteArray × Int := if q.1 = 4 ∨ q.1 = 7 then ((q.1, (tN s e 1099511627776).1, q.2.2.1, q.2.2.2.1, q.2.2.2.2.1, q.2.2.2.2.2.1, q.2.2.2.2.2.2), (tN s e 1099511627776).2) else (q, s, e)
        if (en r.2.1 r.2.2).2 = 0 then (r.1, 0) else (Q0, (en r.2.1 r.2.2).2))) := by
    intro c
    rw [if_pos c]
    refine Ev.step (fun k => by simp only [armoireref24_Parse.j2, if_true]; rfl) ?_
    refine Ev.bind (rN_f s e 1099511627776 hv) ?_
    generalize tN s e 1099511627776 = x
    exact rp3 x.2.1 x.2.2 (q.1, x.1, q.2.2.1, q.2.2.2.1, q.2.2.2.2.1, q.2.2.2.2.2.1, q.2.2.2.2.2.2)
  have hf : ¬ (q.1 = 4 ∨ q.1 = 7) → Ev (fun k => armoireref24_Parse.j2 k false s e q.1 q.2.1 q.2.2.1 q.2.2.2.1 q.2.2.2.2.1 q.2.2.2.2.2.1 q.2.2.2.2.2.2)
      (flat8 (let r : Q × ByteArray × Int := if q.1 = 4 ∨ q.1 = 7 then ((q.1, (tN s e 1099511627776).1, q.2.2.1, q.2.2.2.1, q.2.2.2.2.1, q.2.2.2.2.2.1, q.2.2.2.2.2.2), (tN s e 1099511627776).2) else (q, s, e)
        if (en r.2.1 r.2.2).2 = 0 then (r.1, 0) else (Q0, (en r.2.1 r.2.2).2))) := by
    intro c
    rw [if_neg c]
    refine Ev.step (fun k => by simp only [armoireref24_Parse.j2, Bool.false_eq_true, if_false]; rfl) ?_
    exact rp3 s e q
  refine Ev.step (fun k => by simp only [armoireref24_Parse.j1]; rfl) ?_
  by_cases c4 : q.1 = 4
  · simp only [if_pos c4]
    exact ht (.inl c4)
  · simp only [if_neg c4]
    by_cases c7 : q.1 = 7
    · rw [beq_iff_eq.mpr c7]
      exact ht (.inr c7)
    · rw [beq_eq_false_iff_ne.mpr c7]
      exact hf (fun x => x.elim c4 c7)
theorem en_zero_of {s : ByteArray} {e : Int} (h : ¬ e = 0) : ¬ (en s e).2 = 0 ∧ (en s e).2 = e := by
  unfold en
  by_cases c : s.data.toList = []
  · rw [if_pos c]; exact ⟨h, rfl⟩
  · rw [if_neg c]; unfold fl; rw [if_neg h]; exact ⟨h, rfl⟩
theorem rC_val (s : ByteArray) (e : Int) (hv : Val s e) : Val (rC s e).2.2.2.2.1 (rC s e).2.2.2.2.2 := by
  have v4 := (((hv.tN 17).tS 24).tS 24).tI
  unfold rC
  dsimp only
  generalize tN s e 17 = x1 at v4 ⊢
  generalize tS x1.2.1 x1.2.2 24 = x2 at v4 ⊢
  generalize tS x2.2.1 x2.2.2 24 = x3 at v4 ⊢
  generalize tI x3.2.1 x3.2.2 = x4 at v4 ⊢
  split
  · next h => exact ⟨v4.1, fun x => absurd rfl x⟩
  · exact v4.fl _
theorem rparse_f (a : ByteArray) (ha : a.size ≤ 1000000) : Ev (fun k => armoireref24_Parse.f k a) (flat8 (pQ a)) := by
  have hv := op4_val a ha
  unfold armoireref24_Parse.f
  refine Ev.bind (ropen_f a ha) ?_
  unfold pQ
  by_cases c : (op4 a).2 = 0
  rotate_left
  · rw [if_pos c]
    simp only [if_neg c]
    exact Ev.now _
  rw [if_neg (fun h => h c)]
  simp only [if_pos c]
  refine Ev.bind (rN_f _ _ 7 hv) ?_
  have hv1 := hv.tN 7
  have hze : (tN (op4 a).1 0 7).2.2 = 0 ∨ (tN (op4 a).1 0 7).1 = 0 := (Classical.em _).imp id (tN_zero _ 7)
  generalize tN (op4 a).1 0 7 = x at hv1 hze ⊢
  dsimp only
  by_cases c0 : x.2.2 = 0 ∧ x.1 = 0
  · obtain ⟨c1, c2⟩ := c0
    rw [if_pos c2]
    dsimp only
    have hen : (en (fl x.2.1 x.2.2 6).1 (fl x.2.1 x.2.2 6).2).2 = 6 := by
      have e1 : fl x.2.1 x.2.2 6 = (⟨#[]⟩, 6) := by unfold fl; rw [if_pos c1, if_neg (by decide)]
      rw [e1]; rfl
    rw [if_neg (by rw [hen]; decide), hen]
    simp only [if_pos c1, beq_iff_eq.mpr c2]
    refine Ev.step (fun k => by simp only [armoireref24_Parse.j0, if_true]; rfl) ?_
    exact Ev.now _
  have hb : Ev (fun k => armoireref24_Parse.j0 k x.1 false x.2.1 x.2.2) (flat8 (let r : Q × ByteArray × Int :=
      if x.1 = 2 then
        let y := tS x.2.1 x.2.2 16
        let z := rC y.2.1 y.2.2
        ((x.1, 0, y.1, z.1, z.2.1, z.2.2.1, z.2.2.2.1), z.2.2.2.2)
      else if x.1 = 4 ∨ x.1 = 7 then ((x.1, (tN x.2.1 x.2.2 1099511627776).1, ⟨#[]⟩, 0, ⟨#[]⟩, ⟨#[]⟩, 0), (tN x.2.1 x.2.2 1099511627776).2)
      else ((x.1, 0, ⟨#[]⟩, 0, ⟨#[]⟩, ⟨#[]⟩, 0), x.2)
    if (en r.2.1 r.2.2).2 = 0 then (r.1, 0) else (Q0, (en r.2.1 r.2.2).2))) := by
    refine Ev.step (fun k => by simp only [armoireref24_Parse.j0, Bool.false_eq_true, if_false]; rfl) ?_
    by_cases k2 : x.1 = 2
    · simp only [if_pos k2]
      refine Ev.bind (rS_f _ _ 16 hv1 (by decide)) ?_
      have hv2 := hv1.tS 16
      generalize tS x.2.1 x.2.2 16 = y at hv2 ⊢
      refine Ev.bind (rrC_f _ _ hv2) ?_
      have hv3 : Val (rC y.2.1 y.2.2).2.2.2.2.1 (rC y.2.1 y.2.2).2.2.2.2.2 := rC_val _ _ hv2
      generalize rC y.2.1 y.2.2 = z at hv3 ⊢
      have h := rp1 z.2.2.2.2.1 z.2.2.2.2.2 hv3 (x.1, 0, y.1, z.1, z.2.1, z.2.2.1, z.2.2.2.1)
      dsimp only at h ⊢
      rw [if_neg (show ¬ (x.1 = 4 ∨ x.1 = 7) by omega)] at h
      exact h
    · simp only [if_neg k2]
      exact rp1 x.2.1 x.2.2 hv1 (x.1, 0, ⟨#[]⟩, 0, ⟨#[]⟩, ⟨#[]⟩, 0)
  by_cases c1 : x.2.2 = 0
  · have c2 : ¬ x.1 = 0 := fun h => c0 ⟨c1, h⟩
    rw [if_neg c2]
    simp only [if_pos c1, beq_eq_false_iff_ne.mpr c2]
    exact hb
  · have c2 : x.1 = 0 := hze.resolve_left c1
    simp only [if_neg c1]
    rw [if_pos c2]
    rw [if_neg (show ¬ x.1 = 2 by omega), if_neg (show ¬ (x.1 = 4 ∨ x.1 = 7) by omega)] at hb
    have e1 : (fl x.2.1 x.2.2 6) = x.2 := by unfold fl; rw [if_neg c1]
    rw [e1]
    dsimp only at hb ⊢
    have hen := (en_zero_of (s := x.2.1) c1).1
    rw [if_neg hen] at hb ⊢
    exact hb
theorem rpr0 (s : ByteArray) (x : Int) (q : PP) : Ev (fun k => armoireref24_ParseReply.j0 k s x q.1 q.2.1 q.2.2.1 q.2.2.2.1 q.2.2.2.2) (flat6 (if (en s x).2 = 0 then (q, 0) else (P0, (en s x).2))) := by
  refine Ev.step (fun k => by simp only [armoireref24_ParseReply.j0, rend_f, Option.bind_some]; rfl) ?_
  by_cases c : (en s x).2 = 0
  · simp only [if_pos c]; exact Ev.now _
  · simp only [if_neg c]; exact Ev.now _
theorem rparseReply_f (a : ByteArray) (ha : a.size ≤ 1000000) : Ev (fun k => armoireref24_ParseReply.f k a) (flat6 (pP a)) := by
  have hv := op4_val a ha
  unfold armoireref24_ParseReply.f
  refine Ev.bind (ropen_f a ha) ?_
  unfold pP
  by_cases c : (op4 a).2 = 0
  rotate_left
  · rw [if_pos c]
    simp only [if_neg c]
    exact Ev.now _
  rw [if_neg (fun h => h c)]
  have hv1 := hv.tN 19
  have hv2 := hv1.tN 1099511627776
  simp only [if_pos c]
  refine Ev.bind (rN_f _ _ 19 hv) ?_
  generalize tN (op4 a).1 0 19 = x at hv1 hv2 ⊢
  refine Ev.bind (rN_f _ _ 1099511627776 hv1) ?_
  generalize tN x.2.1 x.2.2 1099511627776 = y at hv2 ⊢
  by_cases cz : y.2.1.size > 0
  · have cz' : (y.2.1.size : Int) > 0 := by omega
    simp only [if_pos cz, if_pos cz']
    refine Ev.bind (rrR_f _ _ hv2) ?_
    generalize rR y.2.1 y.2.2 = z
    exact rpr0 _ _ (x.1, y.1, z.1, z.2.1, z.2.2.1)
  · have cz' : ¬ (y.2.1.size : Int) > 0 := by omega
    simp only [if_neg cz, if_neg cz']
    exact rpr0 _ _ (x.1, y.1, 0, ⟨#[]⟩, 0)
end Go.Proofs.Ytkkkmbgflflcnaa.PS

