import Derived.Test.YtodikgjanhihhaaSUxMOutU
namespace Go.Proofs.Ytodikgjanhihhaa
open Go.RowKit Go.Proofs.YtodikgjanhihhaaW.PrintWords Go.Proofs.YtodikgjanhihhaaW.PrintLast Go.Proofs.YtodikgjanhihhaaW.PrintMore
attribute [local go_sem] max2_int min2_int max_two min_two
def codec_Out_N.f (s : ByteArray) (l : List Int) : Option ByteArray :=
  if s.size + 9 * l.length ≤ 140737488351232 ∧ ∀ n ∈ l, n < 9223372036854775808 then some ⟨(s.data.toList ++ (l.map fun n => numB n.toNat).flatten).toArray⟩ else none
set_option maxHeartbeats 1000000 in
theorem codec_Out_N.calls (g : Nat) (s0_0 : ByteArray) (A1 : Option Addr) (c1 : Nat) (l1 : List Int) (r1 : ByteArray) (w0 w : World) (hI : IsS62 w0 w g s0_0) (hB : Below w0.heap.size w0 w)
    (_hr1 : Kd.C (Kd.int .i64) w A1 l1.length l1) (_hc1 : l1.length ≤ c1) (hf1 : ∀ W_, KeepT w W_ [62, 5] → Kd.C (Kd.int .i64) W_ A1 l1.length l1) (h : codec_Out_N.f s0_0 l1 = some r1) :
    Calls Try.prog 31 #[.pointer (some ⟨g, 0, none⟩), .slice A1 l1.length c1] w fun e w' => e = .returned (.pointer (some ⟨g, 0, none⟩)) ∧ IsS62 w0 w' g r1 ∧ Below w0.heap.size w0 w' ∧ KeepT w w' [62, 5] := by
  unfold codec_Out_N.f at h
  by_cases c : s0_0.size + 9 * l1.length ≤ 140737488351232 ∧ ∀ n ∈ l1, n < 9223372036854775808
  rotate_left
  · rw [if_neg c] at h; cases h
  rw [if_pos c] at h
  obtain ⟨hsz, hw1⟩ := c
  obtain rfl := Option.some.inj h
  clear h
  have HW := Aside0.mk hw1
  clear hw1
  have HI := Aside0.mk hI
  have HB := Aside0.mk hB
  have HF := Aside0.mk hf1
  clear hI hB hf1 _hr1
  go_enter Try.func31, Try.ntmps31
  go_wp2
  have HK0 := Aside0.mk (KeepT.refl w [62, 5])
  go_loopw [9] (fun v9 wr => ∃ (i : Nat) (s : ByteArray), v9 = .int .i64 i ∧ i ≤ l1.length ∧ Aside0 (s.size ≤ s0_0.size + 9 * i) ∧ Aside0 (s = ⟨(s0_0.data.toList ++ ((l1.take i).map fun n => numB n.toNat).flatten).toArray⟩) ∧ Aside0 (IsS62 w0 wr g s) ∧ Aside0 (Below w0.heap.size w0 wr) ∧ Aside0 (KeepT w wr [62, 5])) (fun v9 _ => l1.length - (intOf v9).toNat)
  case atStart => exact ⟨0, s0_0, rfl, Nat.zero_le _, ⟨by omega⟩, ⟨by simp⟩, HI, HB, HK0⟩
  case round =>
    obtain ⟨i, s, rfl, hi, HS, HE, HI1, HB1, HK1⟩ := hrel
    clear HK0
    by_cases c1 : i < l1.length
    · have hC := HF.out wr HK1.out
      have hp : (0 : Int) ≤ (i : Int) := by omega
      have hq : (i : Int) < (l1.length : Int) := by omega
      obtain ⟨ad, e1, hx⟩ := Kd.at_int hC (i : Int) hp hq
      cases e1
      have he : rd l1 (i : Int) = l1[i] := by simp [rd, List.getD_eq_getElem?_getD, c1]
      have hz := HW.out (l1[i]) (List.getElem_mem c1)
      rw [he, Int.toNat_natCast] at hx
      obtain ⟨m, hm⟩ : ∃ m : Nat, m = (l1[i]).toNat := ⟨_, rfl⟩
      have HM := Aside0.mk hm
      have hms : m < 9223372036854775808 := by omega
      have hm2 := hm
      obtain ⟨z, hz0⟩ : ∃ z, z = l1[i] := ⟨_, rfl⟩
      rw [← hz0] at hx hz hm2
      have HZ0 := Aside0.mk hz0
      clear hm hz0
      have HMS := Aside0.mk hms
      have HZ := Aside0.mk hz
      clear he hz hp hq hC hms
      have hfit : codec_Out_U.f s [(m : Int)] = some ⟨(s.data.toList ++ numB m).toArray⟩ := by
        unfold codec_Out_U.f
        have h9 := HS.out
        have h8 := HMS.out
        rw [if_pos ⟨by simp only [List.length_cons, List.length_nil]; omega, by intro n hn; rw [List.mem_singleton.1 hn]; omega⟩]
        simp
      have HFIT := Aside0.mk hfit
      clear hfit
      by_cases c2 : 0 < z
      · obtain rfl : z = (m : Int) := by omega
        clear hm2
        have hwr := wrap_u64_in m (by have := HMS.out; omega)
        have HWR := Aside0.mk hwr
        clear hwr
        go_wp2_with fail
        rw [HWR.out]
        have hnb : (wr.alloc (.cells #[.int .u64 (m : Int)] 89)).heap[wr.heap.size]? = some (.cells #[.int .u64 (m : Int)] 89 (0, 0)) := heap_alloc_new wr _
        refine (codec_Out_U.calls g s (some ⟨wr.heap.size, 0, none⟩) 1 [(m : Int)] _ w0 _ (HI1.out.alloc _) (bal HB1.out _) (C_one hnb) (by simp) (fun W_ hk => C_one (KeepT.blk hnb hk (by decide))) HFIT.out).mono ?_
        rintro e w1 ⟨rfl, hi2, hb2, hk2⟩
        have HI2 := Aside0.mk hi2
        have HB2 := Aside0.mk hb2
        have HK2 := Aside0.mk ((eta HK1.out _).trans hk2)
        clear hi2 hb2 hk2 hnb
        go_wp2
        go_roundw
        case rel => exact ⟨i + 1, _, by go_num, by omega, ⟨by rw [put_size]; have := numB_length m (by have := HMS.out; omega); have := HS.out; omega⟩, ⟨by
          rw [List.take_succ_eq_append_getElem c1, List.map_append, List.flatten_append, List.map_cons, List.map_nil, List.flatten_cons, List.flatten_nil, ← HM.out, List.append_nil, ← List.append_assoc]
          have hE := HE.out
          rw [hE]⟩, HI2, HB2, HK2⟩
        case measure => simp [intOf]; omega
      · obtain rfl : m = 0 := by omega
        by_cases c3 : z < 0
        · clear hm2 c2
          go_wp2_with fail
          have hnb : (wr.alloc (.cells #[.int .u64 (0 : Int)] 89)).heap[wr.heap.size]? = some (.cells #[.int .u64 (0 : Int)] 89 (0, 0)) := heap_alloc_new wr _
          refine (codec_Out_U.calls g s (some ⟨wr.heap.size, 0, none⟩) 1 [(0 : Int)] _ w0 _ (HI1.out.alloc _) (bal HB1.out _) (C_one hnb) (by simp) (fun W_ hk => C_one (KeepT.blk hnb hk (by decide))) HFIT.out).mono ?_
          rintro e w1 ⟨rfl, hi2, hb2, hk2⟩
          have HI2 := Aside0.mk hi2
          have HB2 := Aside0.mk hb2
          have HK2 := Aside0.mk ((eta HK1.out _).trans hk2)
          clear hi2 hb2 hk2 hnb
          go_wp2
          go_roundw
          case rel => exact ⟨i + 1, _, by go_num, by omega, ⟨by rw [put_size]; have := numB_length 0 (by decide); have := HS.out; omega⟩, ⟨by
            rw [List.take_succ_eq_append_getElem c1, List.map_append, List.flatten_append, List.map_cons, List.map_nil, List.flatten_cons, List.flatten_nil, ← HM.out, List.append_nil, ← List.append_assoc]
            have hE := HE.out
            rw [hE]⟩, HI2, HB2, HK2⟩
          case measure => simp [intOf]; omega
        · obtain rfl : z = 0 := by omega
          clear hm2 c2 c3
          go_wp2_with fail
          have hnb : (wr.alloc (.cells #[.int .u64 (0 : Int)] 89)).heap[wr.heap.size]? = some (.cells #[.int .u64 (0 : Int)] 89 (0, 0)) := heap_alloc_new wr _
          refine (codec_Out_U.calls g s (some ⟨wr.heap.size, 0, none⟩) 1 [(0 : Int)] _ w0 _ (HI1.out.alloc _) (bal HB1.out _) (C_one hnb) (by simp) (fun W_ hk => C_one (KeepT.blk hnb hk (by decide))) HFIT.out).mono ?_
          rintro e w1 ⟨rfl, hi2, hb2, hk2⟩
          have HI2 := Aside0.mk hi2
          have HB2 := Aside0.mk hb2
          have HK2 := Aside0.mk ((eta HK1.out _).trans hk2)
          clear hi2 hb2 hk2 hnb
          go_wp2
          go_roundw
          case rel => exact ⟨i + 1, _, by go_num, by omega, ⟨by rw [put_size]; have := numB_length 0 (by decide); have := HS.out; omega⟩, ⟨by
            rw [List.take_succ_eq_append_getElem c1, List.map_append, List.flatten_append, List.map_cons, List.map_nil, List.flatten_cons, List.flatten_nil, ← HM.out, List.append_nil, ← List.append_assoc]
            have hE := HE.out
            rw [hE]⟩, HI2, HB2, HK2⟩
          case measure => simp [intOf]; omega
    · obtain rfl : i = l1.length := by omega
      have hE := HE.out
      rw [List.take_length] at hE
      subst hE
      go_wp2
      go_ret
      exact ⟨rfl, HI1.out, HB1.out, HK1.out⟩
end Go.Proofs.Ytodikgjanhihhaa

