import Derived.Test.YtjiblcncadekcaaQAxMOutU
namespace Go.Proofs.Ytjiblcncadekcaa
open Go.RowKit Go.Proofs.YtjiblcncadekcaaW.PrintWords Go.Proofs.YtjiblcncadekcaaW.PrintLast Go.Proofs.YtjiblcncadekcaaW.PrintMore
attribute [local go_sem] max2_int min2_int max_two min_two
def zig (n : Int) : Nat := if n < 0 then 2 * (-(n + 1)).toNat + 1 else 2 * n.toNat
def codec_Out_I.f (s : ByteArray) (l : List Int) : Option ByteArray :=
  if s.size + 9 * l.length ≤ 140737488351232 ∧ ∀ n ∈ l, -9223372036854775808 ≤ n ∧ n < 9223372036854775808 then some ⟨(s.data.toList ++ (l.map fun n => numB (zig n)).flatten).toArray⟩ else none
theorem or_one_u64 (x : Int) (h0 : 0 ≤ x) (h1 : x < 18446744073709551616) (h2 : x % 2 = 0) : Go.bits .or .u64 x 1 = x + 1 :=
  bits_join .u64 64 (by decide) (fun n h0 h1 => by simp [IntKind.wrap, IntKind.bits, IntKind.signed]; omega) 1 x 1 h0 (by simpa using h2) (by simpa using h1) (by decide) (by decide) (by decide)
set_option maxHeartbeats 1000000 in
theorem codec_Out_I.calls (g : Nat) (s0_0 : ByteArray) (A1 : Option Addr) (c1 : Nat) (l1 : List Int) (r1 : ByteArray) (w0 w : World) (hI : IsS91 w0 w g s0_0) (hB : Below w0.heap.size w0 w)
    (_hr1 : Kd.C (Kd.int .i64) w A1 l1.length l1) (_hc1 : l1.length ≤ c1) (hf1 : ∀ W_, KeepT w W_ [91, 5] → Kd.C (Kd.int .i64) W_ A1 l1.length l1) (h : codec_Out_I.f s0_0 l1 = some r1) :
    Calls Try.prog 42 #[.pointer (some ⟨g, 0, none⟩), .slice A1 l1.length c1] w fun e w' => e = .returned (.pointer (some ⟨g, 0, none⟩)) ∧ IsS91 w0 w' g r1 ∧ Below w0.heap.size w0 w' ∧ KeepT w w' [91, 5] := by
  unfold codec_Out_I.f at h
  by_cases c : s0_0.size + 9 * l1.length ≤ 140737488351232 ∧ ∀ n ∈ l1, -9223372036854775808 ≤ n ∧ n < 9223372036854775808
  rotate_left
  · rw [if_neg c] at h; cases h
  rw [if_pos c] at h
  obtain ⟨hsz, hw1⟩ := c
  obtain rfl := Option.some.inj h
  clear h
  have HW := Aside0.mk hw1
  clear hw1
  have HI := Aside0.mk hI
  have HB := Aside0.mk hB
  have HF := Aside0.mk hf1
  clear hI hB hf1 _hr1
  go_enter Try.func42, Try.ntmps42
  go_wp2
  have HK0 := Aside0.mk (KeepT.refl w [91, 5])
  go_loopw [9] (fun v9 wr => ∃ (i : Nat) (s : ByteArray), v9 = .int .i64 i ∧ i ≤ l1.length ∧ Aside0 (s.size ≤ s0_0.size + 9 * i) ∧ Aside0 (s = ⟨(s0_0.data.toList ++ ((l1.take i).map fun n => numB (zig n)).flatten).toArray⟩) ∧ Aside0 (IsS91 w0 wr g s) ∧ Aside0 (Below w0.heap.size w0 wr) ∧ Aside0 (KeepT w wr [91, 5])) (fun v9 _ => l1.length - (intOf v9).toNat)
  case atStart => exact ⟨0, s0_0, rfl, Nat.zero_le _, ⟨by omega⟩, ⟨by simp⟩, HI, HB, HK0⟩
  case round =>
    obtain ⟨i, s, rfl, hi, HS, HE, HI1, HB1, HK1⟩ := hrel
    clear HK0
    by_cases c1 : i < l1.length
    · have hC := HF.out wr HK1.out
      have hp : (0 : Int) ≤ (i : Int) := by omega
      have hq : (i : Int) < (l1.length : Int) := by omega
      obtain ⟨ad, e1, hx⟩ := Kd.at_int hC (i : Int) hp hq
      cases e1
      have he : rd l1 (i : Int) = l1[i] := by simp [rd, List.getD_eq_getElem?_getD, c1]
      have hz := HW.out (l1[i]) (List.getElem_mem c1)
      rw [he, Int.toNat_natCast] at hx
      obtain ⟨m, hm⟩ : ∃ m : Nat, m = zig (l1[i]) := ⟨_, rfl⟩
      have HM := Aside0.mk hm
      have hms : m < 18446744073709551616 := by rw [hm, zig]; split <;> omega
      have hm2 := hm
      obtain ⟨z, hz0⟩ : ∃ z, z = l1[i] := ⟨_, rfl⟩
      rw [← hz0] at hx hz hm2
      have HZ0 := Aside0.mk hz0
      have HMS := Aside0.mk hms
      have HZ := Aside0.mk hz
      have HM2 := Aside0.mk hm2
      clear hm hz0 he hz hp hq hC hms hm2
      have hfit : codec_Out_U.f s [(m : Int)] = some ⟨(s.data.toList ++ numB m).toArray⟩ := by
        unfold codec_Out_U.f
        have h9 := HS.out
        have h8 := HMS.out
        rw [if_pos ⟨by simp only [List.length_cons, List.length_nil]; omega, by intro n hn; rw [List.mem_singleton.1 hn]; omega⟩]
        simp
      have HFIT := Aside0.mk hfit
      clear hfit
      have b1 : -9223372036854775808 ≤ z := HZ.out.1
      have b2 : z ≤ 9223372036854775807 := by have := HZ.out; omega
      by_cases c2 : z < 0
      · go_wp2_with fail
        have hval : Go.bits .or .u64 (-(z + 1) * 2) 1 = (m : Int) := by
          rw [or_one_u64 _ (by omega) (by omega) (by omega), HM2.out, zig, if_pos c2]
          omega
        rw [hval]
        clear hval
        have hnb : (wr.alloc (.cells #[.int .u64 (m : Int)] 118)).heap[wr.heap.size]? = some (.cells #[.int .u64 (m : Int)] 118 (0, 0)) := heap_alloc_new wr _
        refine (codec_Out_U.calls g s (some ⟨wr.heap.size, 0, none⟩) 1 [(m : Int)] _ w0 _ (HI1.out.alloc _) (bal HB1.out _) (C_one hnb) (by simp) (fun W_ hk => C_one (KeepT.blk hnb hk (by decide))) HFIT.out).mono ?_
        rintro e w1 ⟨rfl, hi2, hb2, hk2⟩
        have HI2 := Aside0.mk hi2
        have HB2 := Aside0.mk hb2
        have HK2 := Aside0.mk ((eta HK1.out _).trans hk2)
        clear hi2 hb2 hk2 hnb
        go_wp2
        go_roundw
        case rel => exact ⟨i + 1, _, by go_num, by omega, ⟨by rw [put_size]; have := numB_length m (by have := HMS.out; omega); have := HS.out; omega⟩, ⟨by
          rw [List.take_succ_eq_append_getElem c1, List.map_append, List.flatten_append, List.map_cons, List.map_nil, List.flatten_cons, List.flatten_nil, ← HM.out, List.append_nil, ← List.append_assoc]
          have hE := HE.out
          rw [hE]⟩, HI2, HB2, HK2⟩
        case measure => simp [intOf]; omega
      · have b3 : 0 ≤ z := by omega
        go_wp2_with fail
        have hval : z * 2 = (m : Int) := by
          rw [HM2.out, zig, if_neg (by omega)]
          omega
        rw [hval]
        clear hval
        have hnb : (wr.alloc (.cells #[.int .u64 (m : Int)] 118)).heap[wr.heap.size]? = some (.cells #[.int .u64 (m : Int)] 118 (0, 0)) := heap_alloc_new wr _
        refine (codec_Out_U.calls g s (some ⟨wr.heap.size, 0, none⟩) 1 [(m : Int)] _ w0 _ (HI1.out.alloc _) (bal HB1.out _) (C_one hnb) (by simp) (fun W_ hk => C_one (KeepT.blk hnb hk (by decide))) HFIT.out).mono ?_
        rintro e w1 ⟨rfl, hi2, hb2, hk2⟩
        have HI2 := Aside0.mk hi2
        have HB2 := Aside0.mk hb2
        have HK2 := Aside0.mk ((eta HK1.out _).trans hk2)
        clear hi2 hb2 hk2 hnb
        go_wp2
        go_roundw
        case rel => exact ⟨i + 1, _, by go_num, by omega, ⟨by rw [put_size]; have := numB_length m (by have := HMS.out; omega); have := HS.out; omega⟩, ⟨by
          rw [List.take_succ_eq_append_getElem c1, List.map_append, List.flatten_append, List.map_cons, List.map_nil, List.flatten_cons, List.flatten_nil, ← HM.out, List.append_nil, ← List.append_assoc]
          have hE := HE.out
          rw [hE]⟩, HI2, HB2, HK2⟩
        case measure => simp [intOf]; omega
    · obtain rfl : i = l1.length := by omega
      have hE := HE.out
      rw [List.take_length] at hE
      subst hE
      go_wp2
      go_ret
      exact ⟨rfl, HI1.out, HB1.out, HK1.out⟩
end Go.Proofs.Ytjiblcncadekcaa

namespace Go.Proofs.Ytjiblcncadekcaa
open Go.RowKit Go.Proofs.YtjiblcncadekcaaW.PrintWords Go.Proofs.YtjiblcncadekcaaW.PrintLast Go.Proofs.YtjiblcncadekcaaW.PrintMore
attribute [local go_sem] max2_int min2_int max_two min_two
def codec_Out_N.f (s : ByteArray) (l : List Int) : Option ByteArray :=
  if s.size + 9 * l.length ≤ 140737488351232 ∧ ∀ n ∈ l, n < 9223372036854775808 then some ⟨(s.data.toList ++ (l.map fun n => numB n.toNat).flatten).toArray⟩ else none
set_option maxHeartbeats 1000000 in
theorem codec_Out_N.calls (g : Nat) (s0_0 : ByteArray) (A1 : Option Addr) (c1 : Nat) (l1 : List Int) (r1 : ByteArray) (w0 w : World) (hI : IsS91 w0 w g s0_0) (hB : Below w0.heap.size w0 w)
    (_hr1 : Kd.C (Kd.int .i64) w A1 l1.length l1) (_hc1 : l1.length ≤ c1) (hf1 : ∀ W_, KeepT w W_ [91, 5] → Kd.C (Kd.int .i64) W_ A1 l1.length l1) (h : codec_Out_N.f s0_0 l1 = some r1) :
    Calls Try.prog 41 #[.pointer (some ⟨g, 0, none⟩), .slice A1 l1.length c1] w fun e w' => e = .returned (.pointer (some ⟨g, 0, none⟩)) ∧ IsS91 w0 w' g r1 ∧ Below w0.heap.size w0 w' ∧ KeepT w w' [91, 5] := by
  unfold codec_Out_N.f at h
  by_cases c : s0_0.size + 9 * l1.length ≤ 140737488351232 ∧ ∀ n ∈ l1, n < 9223372036854775808
  rotate_left
  · rw [if_neg c] at h; cases h
  rw [if_pos c] at h
  obtain ⟨hsz, hw1⟩ := c
  obtain rfl := Option.some.inj h
  clear h
  have HW := Aside0.mk hw1
  clear hw1
  have HI := Aside0.mk hI
  have HB := Aside0.mk hB
  have HF := Aside0.mk hf1
  clear hI hB hf1 _hr1
  go_enter Try.func41, Try.ntmps41
  go_wp2
  have HK0 := Aside0.mk (KeepT.refl w [91, 5])
  go_loopw [9] (fun v9 wr => ∃ (i : Nat) (s : ByteArray), v9 = .int .i64 i ∧ i ≤ l1.length ∧ Aside0 (s.size ≤ s0_0.size + 9 * i) ∧ Aside0 (s = ⟨(s0_0.data.toList ++ ((l1.take i).map fun n => numB n.toNat).flatten).toArray⟩) ∧ Aside0 (IsS91 w0 wr g s) ∧ Aside0 (Below w0.heap.size w0 wr) ∧ Aside0 (KeepT w wr [91, 5])) (fun v9 _ => l1.length - (intOf v9).toNat)
  case atStart => exact ⟨0, s0_0, rfl, Nat.zero_le _, ⟨by omega⟩, ⟨by simp⟩, HI, HB, HK0⟩
  case round =>
    obtain ⟨i, s, rfl, hi, HS, HE, HI1, HB1, HK1⟩ := hrel
    clear HK0
    by_cases c1 : i < l1.length
    · have hC := HF.out wr HK1.out
      have hp : (0 : Int) ≤ (i : Int) := by omega
      have hq : (i : Int) < (l1.length : Int) := by omega
      obtain ⟨ad, e1, hx⟩ := Kd.at_int hC (i : Int) hp hq
      cases e1
      have he : rd l1 (i : Int) = l1[i] := by simp [rd, List.getD_eq_getElem?_getD, c1]
      have hz := HW.out (l1[i]) (List.getElem_mem c1)
      rw [he, Int.toNat_natCast] at hx
      obtain ⟨m, hm⟩ : ∃ m : Nat, m = (l1[i]).toNat := ⟨_, rfl⟩
      have HM := Aside0.mk hm
      have hms : m < 9223372036854775808 := by omega
      have hm2 := hm
      obtain ⟨z, hz0⟩ : ∃ z, z = l1[i] := ⟨_, rfl⟩
      rw [← hz0] at hx hz hm2
      have HZ0 := Aside0.mk hz0
      clear hm hz0
      have HMS := Aside0.mk hms
      have HZ := Aside0.mk hz
      clear he hz hp hq hC hms
      have hfit : codec_Out_U.f s [(m : Int)] = some ⟨(s.data.toList ++ numB m).toArray⟩ := by
        unfold codec_Out_U.f
        have h9 := HS.out
        have h8 := HMS.out
        rw [if_pos ⟨by simp only [List.length_cons, List.length_nil]; omega, by intro n hn; rw [List.mem_singleton.1 hn]; omega⟩]
        simp
      have HFIT := Aside0.mk hfit
      clear hfit
      by_cases c2 : 0 < z
      · obtain rfl : z = (m : Int) := by omega
        clear hm2
        have hwr := wrap_u64_in m (by have := HMS.out; omega)
        have HWR := Aside0.mk hwr
        clear hwr
        go_wp2_with fail
        rw [HWR.out]
        have hnb : (wr.alloc (.cells #[.int .u64 (m : Int)] 118)).heap[wr.heap.size]? = some (.cells #[.int .u64 (m : Int)] 118 (0, 0)) := heap_alloc_new wr _
        refine (codec_Out_U.calls g s (some ⟨wr.heap.size, 0, none⟩) 1 [(m : Int)] _ w0 _ (HI1.out.alloc _) (bal HB1.out _) (C_one hnb) (by simp) (fun W_ hk => C_one (KeepT.blk hnb hk (by decide))) HFIT.out).mono ?_
        rintro e w1 ⟨rfl, hi2, hb2, hk2⟩
        have HI2 := Aside0.mk hi2
        have HB2 := Aside0.mk hb2
        have HK2 := Aside0.mk ((eta HK1.out _).trans hk2)
        clear hi2 hb2 hk2 hnb
        go_wp2
        go_roundw
        case rel => exact ⟨i + 1, _, by go_num, by omega, ⟨by rw [put_size]; have := numB_length m (by have := HMS.out; omega); have := HS.out; omega⟩, ⟨by
          rw [List.take_succ_eq_append_getElem c1, List.map_append, List.flatten_append, List.map_cons, List.map_nil, List.flatten_cons, List.flatten_nil, ← HM.out, List.append_nil, ← List.append_assoc]
          have hE := HE.out
          rw [hE]⟩, HI2, HB2, HK2⟩
        case measure => simp [intOf]; omega
      · obtain rfl : m = 0 := by omega
        by_cases c3 : z < 0
        · clear hm2 c2
          go_wp2_with fail
          have hnb : (wr.alloc (.cells #[.int .u64 (0 : Int)] 118)).heap[wr.heap.size]? = some (.cells #[.int .u64 (0 : Int)] 118 (0, 0)) := heap_alloc_new wr _
          refine (codec_Out_U.calls g s (some ⟨wr.heap.size, 0, none⟩) 1 [(0 : Int)] _ w0 _ (HI1.out.alloc _) (bal HB1.out _) (C_one hnb) (by simp) (fun W_ hk => C_one (KeepT.blk hnb hk (by decide))) HFIT.out).mono ?_
          rintro e w1 ⟨rfl, hi2, hb2, hk2⟩
          have HI2 := Aside0.mk hi2
          have HB2 := Aside0.mk hb2
          have HK2 := Aside0.mk ((eta HK1.out _).trans hk2)
          clear hi2 hb2 hk2 hnb
          go_wp2
          go_roundw
          case rel => exact ⟨i + 1, _, by go_num, by omega, ⟨by rw [put_size]; have := numB_length 0 (by decide); have := HS.out; omega⟩, ⟨by
            rw [List.take_succ_eq_append_getElem c1, List.map_append, List.flatten_append, List.map_cons, List.map_nil, List.flatten_cons, List.flatten_nil, ← HM.out, List.append_nil, ← List.append_assoc]
            have hE := HE.out
            rw [hE]⟩, HI2, HB2, HK2⟩
          case measure => simp [intOf]; omega
        · obtain rfl : z = 0 := by omega
          clear hm2 c2 c3
          go_wp2_with fail
          have hnb : (wr.alloc (.cells #[.int .u64 (0 : Int)] 118)).heap[wr.heap.size]? = some (.cells #[.int .u64 (0 : Int)] 118 (0, 0)) := heap_alloc_new wr _
          refine (codec_Out_U.calls g s (some ⟨wr.heap.size, 0, none⟩) 1 [(0 : Int)] _ w0 _ (HI1.out.alloc _) (bal HB1.out _) (C_one hnb) (by simp) (fun W_ hk => C_one (KeepT.blk hnb hk (by decide))) HFIT.out).mono ?_
          rintro e w1 ⟨rfl, hi2, hb2, hk2⟩
          have HI2 := Aside0.mk hi2
          have HB2 := Aside0.mk hb2
          have HK2 := Aside0.mk ((eta HK1.out _).trans hk2)
          clear hi2 hb2 hk2 hnb
          go_wp2
          go_roundw
          case rel => exact ⟨i + 1, _, by go_num, by omega, ⟨by rw [put_size]; have := numB_length 0 (by decide); have := HS.out; omega⟩, ⟨by
            rw [List.take_succ_eq_append_getElem c1, List.map_append, List.flatten_append, List.map_cons, List.map_nil, List.flatten_cons, List.flatten_nil, ← HM.out, List.append_nil, ← List.append_assoc]
            have hE := HE.out
            rw [hE]⟩, HI2, HB2, HK2⟩
          case measure => simp [intOf]; omega
    · obtain rfl : i = l1.length := by omega
      have hE := HE.out
      rw [List.take_length] at hE
      subst hE
      go_wp2
      go_ret
      exact ⟨rfl, HI1.out, HB1.out, HK1.out⟩
end Go.Proofs.Ytjiblcncadekcaa

namespace Go.Proofs.Ytjiblcncadekcaa
open Go.RowKit Go.Proofs.YtjiblcncadekcaaW.PrintWords Go.Proofs.YtjiblcncadekcaaW.PrintLast Go.Proofs.YtjiblcncadekcaaW.PrintMore
def strB (s : ByteArray) : List UInt8 := numB s.size ++ s.data.toList
def codec_Out_S.f (s : ByteArray) (l : List ByteArray) : Option ByteArray :=
  if s.size + (l.map fun t => t.size + 9).sum ≤ 140737488351232 then some ⟨(s.data.toList ++ (l.map strB).flatten).toArray⟩ else none
theorem sum_take (f : ByteArray → Nat) (l : List ByteArray) (i : Nat) (h : i < l.length) : ((l.take (i + 1)).map f).sum = ((l.take i).map f).sum + f l[i] := by
  rw [List.take_succ_eq_append_getElem h, List.map_append, List.sum_append]
  simp
theorem sum_take_le (f : ByteArray → Nat) (l : List ByteArray) : ∀ i, ((l.take i).map f).sum ≤ (l.map f).sum := by
  intro i
  have : l = l.take i ++ l.drop i := (List.take_append_drop i l).symm
  conv => rhs; rw [this]
  rw [List.map_append, List.sum_append]
  omega
theorem len_le_sum (l : List ByteArray) : l.length ≤ (l.map fun t => t.size + 9).sum := by
  induction l with
  | nil => simp
  | cons t l ih => simp only [List.length_cons, List.map_cons, List.sum_cons]; omega
set_option maxHeartbeats 1000000 in
theorem codec_Out_S.calls (g : Nat) (s0_0 : ByteArray) (A1 : Option Addr) (c1 : Nat) (l1 : List ByteArray) (r1 : ByteArray) (w0 w : World) (hI : IsS91 w0 w g s0_0) (hB : Below w0.heap.size w0 w)
    (_hr1 : Kd.C Kd.string w A1 l1.length l1) (_hc1 : l1.length ≤ c1) (hf1 : ∀ W_, KeepT w W_ [91, 5] → Kd.C Kd.string W_ A1 l1.length l1) (h : codec_Out_S.f s0_0 l1 = some r1) :
    Calls Try.prog 43 #[.pointer (some ⟨g, 0, none⟩), .slice A1 l1.length c1] w fun e w' => e = .returned (.pointer (some ⟨g, 0, none⟩)) ∧ IsS91 w0 w' g r1 ∧ Below w0.heap.size w0 w' ∧ KeepT w w' [91, 5] := by
  unfold codec_Out_S.f at h
  by_cases c : s0_0.size + (l1.map fun t => t.size + 9).sum ≤ 140737488351232
  rotate_left
  · rw [if_neg c] at h; cases h
  rw [if_pos c] at h
  obtain rfl := Option.some.inj h
  clear h
  have HC0 := Aside0.mk c
  have HI := Aside0.mk hI
  have HB := Aside0.mk hB
  have HF := Aside0.mk hf1
  have hll : l1.length ≤ 140737488351232 := Nat.le_trans (len_le_sum l1) (by omega)
  clear hI hB hf1 _hr1 c
  go_enter Try.func43, Try.ntmps43
  go_wp2
  have HK0 := Aside0.mk (KeepT.refl w [91, 5])
  go_loopw [9] (fun v9 wr => ∃ (i : Nat) (s : ByteArray), v9 = .int .i64 i ∧ i ≤ l1.length ∧ Aside0 (s.size ≤ s0_0.size + ((l1.take i).map fun t => t.size + 9).sum) ∧ Aside0 (s = ⟨(s0_0.data.toList ++ ((l1.take i).map strB).flatten).toArray⟩) ∧ Aside0 (IsS91 w0 wr g s) ∧ Aside0 (Below w0.heap.size w0 wr) ∧ Aside0 (KeepT w wr [91, 5])) (fun v9 _ => l1.length - (intOf v9).toNat)
  case atStart => exact ⟨0, s0_0, rfl, Nat.zero_le _, ⟨by simp⟩, ⟨by simp⟩, HI, HB, HK0⟩
  case round =>
    obtain ⟨i, s, rfl, hi, HS, HE, HI1, HB1, HK1⟩ := hrel
    clear HK0
    by_cases c1 : i < l1.length
    · have hC := HF.out wr HK1.out
      have hp : (0 : Int) ≤ (i : Int) := by omega
      have hq : (i : Int) < (l1.length : Int) := by omega
      obtain ⟨ad, e1, hx⟩ := Kd.at_string hC (i : Int) hp hq
      cases e1
      have he : rdOf ByteArray.empty l1 (i : Int) = l1[i] := by simp [rdOf, List.getD_eq_getElem?_getD, c1]
      rw [he, Int.toNat_natCast] at hx
      obtain ⟨t, ht⟩ : ∃ t, t = l1[i] := ⟨_, rfl⟩
      rw [← ht] at hx
      have hs1 := sum_take (fun t => t.size + 9) l1 i c1
      have hs2 := sum_take_le (fun t => t.size + 9) l1 (i + 1)
      rw [← ht] at hs1
      have HT := Aside0.mk ht
      have hts : s.size + t.size + 9 ≤ 140737488351232 := by have := HC0.out; have := HS.out; omega
      have HS1 := Aside0.mk hs1
      have HTS := Aside0.mk hts
      have hz : (t.size : Int) ≤ 140737488351232 := by omega
      clear hs1 hs2 hts ht he hp hq hC
      have hfit : codec_Out_N.f s [(t.size : Int)] = some ⟨(s.data.toList ++ numB t.size).toArray⟩ := by
        unfold codec_Out_N.f
        have h9 := HTS.out
        rw [if_pos ⟨by simp only [List.length_cons, List.length_nil]; omega, by intro n hn; rw [List.mem_singleton.1 hn]; omega⟩]
        simp
      have HFIT := Aside0.mk hfit
      clear hfit
      go_wp2_with fail
      have hnb : (wr.alloc (.cells #[.int .i64 (t.size : Int)] 3)).heap[wr.heap.size]? = some (.cells #[.int .i64 (t.size : Int)] 3 (0, 0)) := heap_alloc_new wr _
      refine (codec_Out_N.calls g s (some ⟨wr.heap.size, 0, none⟩) 1 [(t.size : Int)] _ w0 _ (HI1.out.alloc _) (bal HB1.out _) (C_one hnb) (by simp) (fun W_ hk => C_one (KeepT.blk hnb hk (by decide))) HFIT.out).mono ?_
      rintro e w1 ⟨rfl, hi2, hb2, hk2⟩
      have HB2 := Aside0.mk hb2
      have HK2 := Aside0.mk ((eta HK1.out _).trans hk2)
      obtain ⟨hgg, v, hbk, hR⟩ := hi2
      have HG := Aside0.mk hgg
      have HBK := Aside0.mk hbk
      have HR := Aside0.mk hR
      have hcell : w1.cell? ⟨g, 0, none⟩ = some v := (kcl hbk 0).trans rfl
      clear hb2 hk2 hnb hgg hbk hR
      have hl9 : (bytesOf ⟨(s.data.toList ++ numB t.size).toArray⟩).length + t.size ≤ 140737488355328 := by
        have h9 := HTS.out
        have h8 := numB_length t.size (by omega)
        rw [bytesOf_length, put_size]; omega
      go_wp2_with (at_builtin; refine print_append_str (w0 := w0) w0.heap.size rfl (.tmp 22) _ 89 9 5 rfl Try.underlying89 Try.underlying9 infoU8 v (bytesOf ⟨(s.data.toList ++ numB t.size).toArray⟩) t rfl rfl (Kd.own_of_R HR.out) HB2.out HB2.out.size hl9 ?_; intro v1 w2 hown hb hg1; have hb2 := blk_grown HBK.out hg1 (Kd.R_ne HR.out HBK.out (by decide)); have hcell2 : w2.cell? ⟨g, 0, none⟩ = some v := (kcl hb2 0).trans rfl; have hfr2 := kfr hb2 0; have HK5 := Aside0.mk (KeepT.grown HK2.out hg1 (fun k hk => by obtain ⟨cs, hcs⟩ := Kd.R_typed HR.out k hk; exact ⟨cs, 5, _, hcs, by decide⟩)); have ho : Kd.R (Kd.int .u8) 5 w2 w0.heap.size (fun k => k ≠ g) v1 (bytesOf ⟨(s.data.toList ++ numB t.size).toArray⟩ ++ bytesOf t) := Kd.R_of_own hown (fun k hk e => by subst e; obtain ⟨cs, hcs⟩ := own_typed hown k hk; rw [hb2] at hcs; injection hcs with hcs; injection hcs with _ e2 _; exact absurd e2 (by decide)); obtain ⟨A2, k2, e2⟩ := Kd.R_slice ho; subst e2; have HO := Aside0.mk ho; have HB5 := Aside0.mk hb; have HBK2 := Aside0.mk hb2; clear ho hb hg1 hb2 hown)
      have HI5 : Aside0 (IsS91 w0 (w2.setCell ⟨g, 0, none⟩ (.slice A2 ((bytesOf ⟨(s.data.toList ++ numB t.size).toArray⟩ ++ bytesOf t).length) k2)) g ⟨(s.data.toList ++ strB t).toArray⟩) := ⟨by
        refine IsS91.stored HG.out HBK2.out ?_
        have e9 : bytesOf ⟨(s.data.toList ++ strB t).toArray⟩ = bytesOf ⟨(s.data.toList ++ numB t.size).toArray⟩ ++ bytesOf t := by simp [bytesOf, strB]
        rw [e9]
        exact HO.out⟩
      go_roundw
      case rel => exact ⟨i + 1, ⟨(s.data.toList ++ strB t).toArray⟩, by go_num, by omega, ⟨by rw [put_size]; have h4 : (strB t).length = (numB t.size).length + t.size := (by rw [strB, List.length_append, data_length]); have h8 := numB_length t.size (by omega); have h7 := HS.out; have h6 : ((l1.take (i + 1)).map fun t => t.size + 9).sum = ((l1.take i).map fun t => t.size + 9).sum + (t.size + 9) := HS1.out; rw [h6]; omega⟩, ⟨by
        rw [List.take_succ_eq_append_getElem c1, List.map_append, List.flatten_append, List.map_cons, List.map_nil, List.flatten_cons, List.flatten_nil, ← HT.out, List.append_nil, ← List.append_assoc]
        have hE := HE.out
        rw [hE]⟩, ⟨by have h := HI5.out; simp only [List.length_append] at h; simpa using h⟩, ⟨HB5.out.setCell HG.out _⟩, ⟨HK5.out.set HBK2.out (by decide) _ _⟩⟩
      case measure => simp [intOf]; omega
    · obtain rfl : i = l1.length := by omega
      have hE := HE.out
      rw [List.take_length] at hE
      subst hE
      go_wp2
      go_ret
      exact ⟨rfl, HI1.out, HB1.out, HK1.out⟩
end Go.Proofs.Ytjiblcncadekcaa

namespace Go.Proofs.Ytjiblcncadekcaa
open Go.RowKit Go.Proofs.YtjiblcncadekcaaW.PrintWords Go.Proofs.YtjiblcncadekcaaW.PrintLast Go.Proofs.YtjiblcncadekcaaW.PrintMore
def codec_Out_Text.f (s : ByteArray) : Option (ByteArray × ByteArray) := some (s, s)
theorem strOf_bytesOf (s : ByteArray) : strOfNums (bytesOf s) = s := by
  have : (strOfNums (bytesOf s)).data.toList = s.data.toList := by
    rw [strOfNums_data, bytesOf, List.map_map]
    have : ((fun n : Int => UInt8.ofNat n.toNat) ∘ fun b : UInt8 => (b.toNat : Int)) = id := by
      funext b; simp
    rw [this, List.map_id]
  exact ByteArray.ext (Array.ext' this)
set_option maxHeartbeats 1000000 in
theorem codec_Out_Text.calls (g : Nat) (s0_0 : ByteArray) (r1 r2 : ByteArray) (w0 w : World) (hI : IsS91 w0 w g s0_0) (hB : Below w0.heap.size w0 w) (h : codec_Out_Text.f s0_0 = some (r1, r2)) :
    Calls Try.prog 44 #[.pointer (some ⟨g, 0, none⟩)] w fun e w' => e = .returned (.string r1) ∧ IsS91 w0 w' g r2 ∧ Below w0.heap.size w0 w' ∧ KeepT w w' [91, 5] := by
  have e : s0_0 = r1 ∧ s0_0 = r2 := by simpa [codec_Out_Text.f] using h
  obtain ⟨rfl, rfl⟩ := e
  clear h
  have HI := Aside0.mk hI
  have HB := Aside0.mk hB
  obtain ⟨hgg, v, hbk, hR⟩ := hI
  have hcell : w.cell? ⟨g, 0, none⟩ = some v := (kcl hbk 0).trans rfl
  have hcv := own_string (P := Try.prog) Try.underlying89 Try.underlying5 Try.underlying9 (Kd.own_of_R hR)
  rw [strOf_bytesOf] at hcv
  clear hB hgg hbk hR
  go_enter Try.func44, Try.ntmps44
  go_wp2
  go_ret
  exact ⟨rfl, HI.out, HB.out, KeepT.refl _ _⟩
end Go.Proofs.Ytjiblcncadekcaa

