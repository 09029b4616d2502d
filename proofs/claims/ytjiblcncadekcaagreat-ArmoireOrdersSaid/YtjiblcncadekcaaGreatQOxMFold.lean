import Derived.Test.YtjiblcncadekcaaGreatQOxMOutU
import Derived.Test.YtjiblcncadekcaaGreatQOxWWords
import Derived.Test.YtjiblcncadekcaaGreatQOxWMore
namespace Go.Proofs.YtjiblcncadekcaaGreat
open Go.RowKit Go.Proofs.YtjiblcncadekcaaGreatW.PrintWords Go.Proofs.YtjiblcncadekcaaGreatW.PrintLast Go.Proofs.YtjiblcncadekcaaGreatW.PrintMore
attribute [local go_sem] max2_int min2_int max_two min_two
def codec_Out_N.f (s : ByteArray) (l : List Int) : Option ByteArray :=
  if s.size + 9 * l.length ≤ 140737488351232 ∧ ∀ n ∈ l, n < 9223372036854775808 then some ⟨(s.data.toList ++ (l.map fun n => numB n.toNat).flatten).toArray⟩ else none
set_option maxHeartbeats 1000000 in
theorem codec_Out_N.calls (g : Nat) (s0_0 : ByteArray) (A1 : Option Addr) (c1 : Nat) (l1 : List Int) (r1 : ByteArray) (w0 w : World) (hI : IsS112 w0 w g s0_0) (hB : Below w0.heap.size w0 w)
    (_hr1 : Kd.C (Kd.int .i64) w A1 l1.length l1) (_hc1 : l1.length ≤ c1) (hf1 : ∀ W_, KeepT w W_ [112, 5] → Kd.C (Kd.int .i64) W_ A1 l1.length l1) (h : codec_Out_N.f s0_0 l1 = some r1) :
    Calls Tryz.prog 42 #[.pointer (some ⟨g, 0, none⟩), .slice A1 l1.length c1] w fun e w' => e = .returned (.pointer (some ⟨g, 0, none⟩)) ∧ IsS112 w0 w' g r1 ∧ Below w0.heap.size w0 w' ∧ KeepT w w' [112, 5] := by
  unfold codec_Out_N.f at h
  by_cases c : s0_0.size + 9 * l1.length ≤ 140737488351232 ∧ ∀ n ∈ l1, n < 9223372036854775808
  rotate_left
  · rw [if_neg c] at h; cases h
  rw [if_pos c] at h
  obtain ⟨hsz, hw1⟩ := c
  obtain rfl := Option.some.inj h
  clear h
  have HW := Z0.mk hw1
  clear hw1
  have HI := Z0.mk hI
  have HB := Z0.mk hB
  have HF := Z0.mk hf1
  clear hI hB hf1 _hr1
  go_enter Tryz.func42, Tryz.ntmps42
  go_wp2
  have HK0 := Z0.mk (KeepT.refl w [112, 5])
  go_loopw [9] (fun v9 wr => ∃ (i : Nat) (s : ByteArray), v9 = .int .i64 i ∧ i ≤ l1.length ∧ Z0 (s.size ≤ s0_0.size + 9 * i) ∧ Z0 (s = ⟨(s0_0.data.toList ++ ((l1.take i).map fun n => numB n.toNat).flatten).toArray⟩) ∧ Z0 (IsS112 w0 wr g s) ∧ Z0 (Below w0.heap.size w0 wr) ∧ Z0 (KeepT w wr [112, 5])) (fun v9 _ => l1.length - (intOf v9).toNat)
  case atStart => exact ⟨0, s0_0, rfl, Nat.zero_le _, ⟨by omega⟩, ⟨by simp⟩, HI, HB, HK0⟩
  case round =>
    obtain ⟨i, s, rfl, hi, HS, HE, HI1, HB1, HK1⟩ := hrel
    clear HK0
    by_cases c1 : i < l1.length
    · have hC := HF.out wr HK1.out
      have hp : (0 : Int) ≤ (i : Int) := by omega
      have hq : (i : Int) < (l1.length : Int) := by omega
      obtain ⟨ad, e1, hx⟩ := Kd.at_int hC (i : Int) hp hq
      cases e1
      have he : rd l1 (i : Int) = l1[i] := by simp [rd, List.getD_eq_getElem?_getD, c1]
      have hz := HW.out (l1[i]) (List.getElem_mem c1)
      rw [he, Int.toNat_natCast] at hx
      obtain ⟨m, hm⟩ : ∃ m : Nat, m = (l1[i]).toNat := ⟨_, rfl⟩
      have HM := Z0.mk hm
      have hms : m < 9223372036854775808 := by omega
      have hm2 := hm
      obtain ⟨z, hz0⟩ : ∃ z, z = l1[i] := ⟨_, rfl⟩
      rw [← hz0] at hx hz hm2
      have HZ0 := Z0.mk hz0
      clear hm hz0
      have HMS := Z0.mk hms
      have HZ := Z0.mk hz
      clear he hz hp hq hC hms
      have hfit : codec_Out_U.f s [(m : Int)] = some ⟨(s.data.toList ++ numB m).toArray⟩ := by
        unfold codec_Out_U.f
        have h9 := HS.out
        have h8 := HMS.out
        rw [if_pos ⟨by simp only [List.length_cons, List.length_nil]; omega, by intro n hn; rw [List.mem_singleton.1 hn]; omega⟩]
        simp
      have HFIT := Z0.mk hfit
      clear hfit
      by_cases c2 : 0 < z
      · obtain rfl : z = (m : Int) := by omega
        clear hm2
        have hwr := wrap_u64_in m (by have := HMS.out; omega)
        have HWR := Z0.mk hwr
        clear hwr
        go_wp2_with fail
        rw [HWR.out]
        have hnb : (wr.alloc (.cells #[.int .u64 (m : Int)] 139)).heap[wr.heap.size]? = some (.cells #[.int .u64 (m : Int)] 139 (0, 0)) := heap_alloc_new wr _
        refine (codec_Out_U.calls g s (some ⟨wr.heap.size, 0, none⟩) 1 [(m : Int)] _ w0 _ (HI1.out.alloc _) (bal HB1.out _) (C_one hnb) (by simp) (fun W_ hk => C_one (KeepT.blk hnb hk (by decide))) HFIT.out).mono ?_
        rintro e w1 ⟨rfl, hi2, hb2, hk2⟩
        have HI2 := Z0.mk hi2
        have HB2 := Z0.mk hb2
        have HK2 := Z0.mk ((eta HK1.out _).trans hk2)
        clear hi2 hb2 hk2 hnb
        go_wp2
        go_roundw
        case rel => exact ⟨i + 1, _, by go_num, by omega, ⟨by rw [put_size]; have := numB_length m (by have := HMS.out; omega); have := HS.out; omega⟩, ⟨by
          rw [List.take_succ_eq_append_getElem c1, List.map_append, List.flatten_append, List.map_cons, List.map_nil, List.flatten_cons, List.flatten_nil, ← HM.out, List.append_nil, ← List.append_assoc]
          have hE := HE.out
          rw [hE]⟩, HI2, HB2, HK2⟩
        case measure => simp [intOf]; omega
      · obtain rfl : m = 0 := by omega
        by_cases c3 : z < 0
        · clear hm2 c2
          go_wp2_with fail
          have hnb : (wr.alloc (.cells #[.int .u64 (0 : Int)] 139)).heap[wr.heap.size]? = some (.cells #[.int .u64 (0 : Int)] 139 (0, 0)) := heap_alloc_new wr _
          refine (codec_Out_U.calls g s (some ⟨wr.heap.size, 0, none⟩) 1 [(0 : Int)] _ w0 _ (HI1.out.alloc _) (bal HB1.out _) (C_one hnb) (by simp) (fun W_ hk => C_one (KeepT.blk hnb hk (by decide))) HFIT.out).mono ?_
          rintro e w1 ⟨rfl, hi2, hb2, hk2⟩
          have HI2 := Z0.mk hi2
          have HB2 := Z0.mk hb2
          have HK2 := Z0.mk ((eta HK1.out _).trans hk2)
          clear hi2 hb2 hk2 hnb
          go_wp2
          go_roundw
          case rel => exact ⟨i + 1, _, by go_num, by omega, ⟨by rw [put_size]; have := numB_length 0 (by decide); have := HS.out; omega⟩, ⟨by
            rw [List.take_succ_eq_append_getElem c1, List.map_append, List.flatten_append, List.map_cons, List.map_nil, List.flatten_cons, List.flatten_nil, ← HM.out, List.append_nil, ← List.append_assoc]
            have hE := HE.out
            rw [hE]⟩, HI2, HB2, HK2⟩
          case measure => simp [intOf]; omega
        · obtain rfl : z = 0 := by omega
          clear hm2 c2 c3
          go_wp2_with fail
          have hnb : (wr.alloc (.cells #[.int .u64 (0 : Int)] 139)).heap[wr.heap.size]? = some (.cells #[.int .u64 (0 : Int)] 139 (0, 0)) := heap_alloc_new wr _
          refine (codec_Out_U.calls g s (some ⟨wr.heap.size, 0, none⟩) 1 [(0 : Int)] _ w0 _ (HI1.out.alloc _) (bal HB1.out _) (C_one hnb) (by simp) (fun W_ hk => C_one (KeepT.blk hnb hk (by decide))) HFIT.out).mono ?_
          rintro e w1 ⟨rfl, hi2, hb2, hk2⟩
          have HI2 := Z0.mk hi2
          have HB2 := Z0.mk hb2
          have HK2 := Z0.mk ((eta HK1.out _).trans hk2)
          clear hi2 hb2 hk2 hnb
          go_wp2
          go_roundw
          case rel => exact ⟨i + 1, _, by go_num, by omega, ⟨by rw [put_size]; have := numB_length 0 (by decide); have := HS.out; omega⟩, ⟨by
            rw [List.take_succ_eq_append_getElem c1, List.map_append, List.flatten_append, List.map_cons, List.map_nil, List.flatten_cons, List.flatten_nil, ← HM.out, List.append_nil, ← List.append_assoc]
            have hE := HE.out
            rw [hE]⟩, HI2, HB2, HK2⟩
          case measure => simp [intOf]; omega
    · obtain rfl : i = l1.length := by omega
      have hE := HE.out
      rw [List.take_length] at hE
      subst hE
      go_wp2
      go_ret
      exact ⟨rfl, HI1.out, HB1.out, HK1.out⟩
end Go.Proofs.YtjiblcncadekcaaGreat

namespace Go.Proofs.YtjiblcncadekcaaGreat
open Go.RowKit Go.Proofs.YtjiblcncadekcaaGreatW.PrintWords Go.Proofs.YtjiblcncadekcaaGreatW.PrintLast Go.Proofs.YtjiblcncadekcaaGreatW.PrintMore
def strB (s : ByteArray) : List UInt8 := numB s.size ++ s.data.toList
def codec_Out_S.f (s : ByteArray) (l : List ByteArray) : Option ByteArray :=
  if s.size + (l.map fun t => t.size + 9).sum ≤ 140737488351232 then some ⟨(s.data.toList ++ (l.map strB).flatten).toArray⟩ else none
theorem sum_take (f : ByteArray → Nat) (l : List ByteArray) (i : Nat) (h : i < l.length) : ((l.take (i + 1)).map f).sum = ((l.take i).map f).sum + f l[i] := by
  rw [List.take_succ_eq_append_getElem h, List.map_append, List.sum_append]
  simp
theorem sum_take_le (f : ByteArray → Nat) (l : List ByteArray) : ∀ i, ((l.take i).map f).sum ≤ (l.map f).sum := by
  intro i
  have : l = l.take i ++ l.drop i := (List.take_append_drop i l).symm
  conv => rhs; rw [this]
  rw [List.map_append, List.sum_append]
  omega
theorem len_le_sum (l : List ByteArray) : l.length ≤ (l.map fun t => t.size + 9).sum := by
  induction l with
  | nil => simp
  | cons t l ih => simp only [List.length_cons, List.map_cons, List.sum_cons]; omega
set_option maxHeartbeats 1000000 in
theorem codec_Out_S.calls (g : Nat) (s0_0 : ByteArray) (A1 : Option Addr) (c1 : Nat) (l1 : List ByteArray) (r1 : ByteArray) (w0 w : World) (hI : IsS112 w0 w g s0_0) (hB : Below w0.heap.size w0 w)
    (_hr1 : Kd.C Kd.string w A1 l1.length l1) (_hc1 : l1.length ≤ c1) (hf1 : ∀ W_, KeepT w W_ [112, 5] → Kd.C Kd.string W_ A1 l1.length l1) (h : codec_Out_S.f s0_0 l1 = some r1) :
    Calls Tryz.prog 43 #[.pointer (some ⟨g, 0, none⟩), .slice A1 l1.length c1] w fun e w' => e = .returned (.pointer (some ⟨g, 0, none⟩)) ∧ IsS112 w0 w' g r1 ∧ Below w0.heap.size w0 w' ∧ KeepT w w' [112, 5] := by
  unfold codec_Out_S.f at h
  by_cases c : s0_0.size + (l1.map fun t => t.size + 9).sum ≤ 140737488351232
  rotate_left
  · rw [if_neg c] at h; cases h
  rw [if_pos c] at h
  obtain rfl := Option.some.inj h
  clear h
  have HC0 := Z0.mk c
  have HI := Z0.mk hI
  have HB := Z0.mk hB
  have HF := Z0.mk hf1
  have hll : l1.length ≤ 140737488351232 := Nat.le_trans (len_le_sum l1) (by omega)
  clear hI hB hf1 _hr1 c
  go_enter Tryz.func43, Tryz.ntmps43
  go_wp2
  have HK0 := Z0.mk (KeepT.refl w [112, 5])
  go_loopw [9] (fun v9 wr => ∃ (i : Nat) (s : ByteArray), v9 = .int .i64 i ∧ i ≤ l1.length ∧ Z0 (s.size ≤ s0_0.size + ((l1.take i).map fun t => t.size + 9).sum) ∧ Z0 (s = ⟨(s0_0.data.toList ++ ((l1.take i).map strB).flatten).toArray⟩) ∧ Z0 (IsS112 w0 wr g s) ∧ Z0 (Below w0.heap.size w0 wr) ∧ Z0 (KeepT w wr [112, 5])) (fun v9 _ => l1.length - (intOf v9).toNat)
  case atStart => exact ⟨0, s0_0, rfl, Nat.zero_le _, ⟨by simp⟩, ⟨by simp⟩, HI, HB, HK0⟩
  case round =>
    obtain ⟨i, s, rfl, hi, HS, HE, HI1, HB1, HK1⟩ := hrel
    clear HK0
    by_cases c1 : i < l1.length
    · have hC := HF.out wr HK1.out
      have hp : (0 : Int) ≤ (i : Int) := by omega
      have hq : (i : Int) < (l1.length : Int) := by omega
      obtain ⟨ad, e1, hx⟩ := Kd.at_string hC (i : Int) hp hq
      cases e1
      have he : rdOf ByteArray.empty l1 (i : Int) = l1[i] := by simp [rdOf, List.getD_eq_getElem?_getD, c1]
      rw [he, Int.toNat_natCast] at hx
      obtain ⟨t, ht⟩ : ∃ t, t = l1[i] := ⟨_, rfl⟩
      rw [← ht] at hx
      have hs1 := sum_take (fun t => t.size + 9) l1 i c1
      have hs2 := sum_take_le (fun t => t.size + 9) l1 (i + 1)
      rw [← ht] at hs1
      have HT := Z0.mk ht
      have hts : s.size + t.size + 9 ≤ 140737488351232 := by have := HC0.out; have := HS.out; omega
      have HS1 := Z0.mk hs1
      have HTS := Z0.mk hts
      have hz : (t.size : Int) ≤ 140737488351232 := by omega
      clear hs1 hs2 hts ht he hp hq hC
      have hfit : codec_Out_N.f s [(t.size : Int)] = some ⟨(s.data.toList ++ numB t.size).toArray⟩ := by
        unfold codec_Out_N.f
        have h9 := HTS.out
        rw [if_pos ⟨by simp only [List.length_cons, List.length_nil]; omega, by intro n hn; rw [List.mem_singleton.1 hn]; omega⟩]
        simp
      have HFIT := Z0.mk hfit
      clear hfit
      go_wp2_with fail
      have hnb : (wr.alloc (.cells #[.int .i64 (t.size : Int)] 3)).heap[wr.heap.size]? = some (.cells #[.int .i64 (t.size : Int)] 3 (0, 0)) := heap_alloc_new wr _
      refine (codec_Out_N.calls g s (some ⟨wr.heap.size, 0, none⟩) 1 [(t.size : Int)] _ w0 _ (HI1.out.alloc _) (bal HB1.out _) (C_one hnb) (by simp) (fun W_ hk => C_one (KeepT.blk hnb hk (by decide))) HFIT.out).mono ?_
      rintro e w1 ⟨rfl, hi2, hb2, hk2⟩
      have HB2 := Z0.mk hb2
      have HK2 := Z0.mk ((eta HK1.out _).trans hk2)
      obtain ⟨hgg, v, hbk, hR⟩ := hi2
      have HG := Z0.mk hgg
      have HBK := Z0.mk hbk
      have HR := Z0.mk hR
      have hcell : w1.cell? ⟨g, 0, none⟩ = some v := (kcl hbk 0).trans rfl
      clear hb2 hk2 hnb hgg hbk hR
      have hl9 : (bytesOf ⟨(s.data.toList ++ numB t.size).toArray⟩).length + t.size ≤ 140737488355328 := by
        have h9 := HTS.out
        have h8 := numB_length t.size (by omega)
        rw [bytesOf_length, put_size]; omega
      go_wp2_with (at_builtin; refine print_append_str (w0 := w0) w0.heap.size rfl (.tmp 22) _ 110 9 5 rfl Tryz.underlying110 Tryz.underlying9 infoU8 v (bytesOf ⟨(s.data.toList ++ numB t.size).toArray⟩) t rfl rfl (Kd.own_of_R HR.out) HB2.out HB2.out.size hl9 ?_; intro v1 w2 hown hb hg1; have hb2 := kgr_ HBK.out hg1 (Kd.R_ne HR.out HBK.out (by decide)); have hcell2 : w2.cell? ⟨g, 0, none⟩ = some v := (kcl hb2 0).trans rfl; have hfr2 := kfr hb2 0; have HK5 := Z0.mk (KeepT.grown HK2.out hg1 (fun k hk => by obtain ⟨cs, hcs⟩ := Kd.R_typed HR.out k hk; exact ⟨cs, 5, _, hcs, by decide⟩)); have ho : Kd.R (Kd.int .u8) 5 w2 w0.heap.size (fun k => k ≠ g) v1 (bytesOf ⟨(s.data.toList ++ numB t.size).toArray⟩ ++ bytesOf t) := Kd.R_of_own hown (fun k hk e => by subst e; obtain ⟨cs, hcs⟩ := own_typed hown k hk; rw [hb2] at hcs; injection hcs with hcs; injection hcs with _ e2 _; exact absurd e2 (by decide)); obtain ⟨A2, k2, e2⟩ := Kd.R_slice ho; subst e2; have HO := Z0.mk ho; have HB5 := Z0.mk hb; have HBK2 := Z0.mk hb2; clear ho hb hg1 hb2 hown)
      have HI5 : Z0 (IsS112 w0 (w2.setCell ⟨g, 0, none⟩ (.slice A2 ((bytesOf ⟨(s.data.toList ++ numB t.size).toArray⟩ ++ bytesOf t).length) k2)) g ⟨(s.data.toList ++ strB t).toArray⟩) := ⟨by
        refine IsS112.stored HG.out HBK2.out ?_
        have e9 : bytesOf ⟨(s.data.toList ++ strB t).toArray⟩ = bytesOf ⟨(s.data.toList ++ numB t.size).toArray⟩ ++ bytesOf t := by simp [bytesOf, strB]
        rw [e9]
        exact HO.out⟩
      go_roundw
      case rel => exact ⟨i + 1, ⟨(s.data.toList ++ strB t).toArray⟩, by go_num, by omega, ⟨by rw [put_size]; have h4 : (strB t).length = (numB t.size).length + t.size := (by rw [strB, List.length_append, data_length]); have h8 := numB_length t.size (by omega); have h7 := HS.out; have h6 : ((l1.take (i + 1)).map fun t => t.size + 9).sum = ((l1.take i).map fun t => t.size + 9).sum + (t.size + 9) := HS1.out; rw [h6]; omega⟩, ⟨by
        rw [List.take_succ_eq_append_getElem c1, List.map_append, List.flatten_append, List.map_cons, List.map_nil, List.flatten_cons, List.flatten_nil, ← HT.out, List.append_nil, ← List.append_assoc]
        have hE := HE.out
        rw [hE]⟩, ⟨by have h := HI5.out; simp only [List.length_append] at h; simpa using h⟩, ⟨HB5.out.setCell HG.out _⟩, ⟨HK5.out.set HBK2.out (by decide) _ _⟩⟩
      case measure => simp [intOf]; omega
    · obtain rfl : i = l1.length := by omega
      have hE := HE.out
      rw [List.take_length] at hE
      subst hE
      go_wp2
      go_ret
      exact ⟨rfl, HI1.out, HB1.out, HK1.out⟩
end Go.Proofs.YtjiblcncadekcaaGreat

namespace Go.Proofs.YtjiblcncadekcaaGreat
open Go.RowKit Go.Proofs.YtjiblcncadekcaaGreatW.PrintWords Go.Proofs.YtjiblcncadekcaaGreatW.PrintLast Go.Proofs.YtjiblcncadekcaaGreatW.PrintMore
def codec_Out_Text.f (s : ByteArray) : Option (ByteArray × ByteArray) := some (s, s)
theorem strOf_bytesOf (s : ByteArray) : strOfNums (bytesOf s) = s := by
  have : (strOfNums (bytesOf s)).data.toList = s.data.toList := by
    rw [strOfNums_data, bytesOf, List.map_map]
    have : ((fun n : Int => UInt8.ofNat n.toNat) ∘ fun b : UInt8 => (b.toNat : Int)) = id := by
      funext b; simp
    rw [this, List.map_id]
  exact ByteArray.ext (Array.ext' this)
set_option maxHeartbeats 1000000 in
theorem codec_Out_Text.calls (g : Nat) (s0_0 : ByteArray) (r1 r2 : ByteArray) (w0 w : World) (hI : IsS112 w0 w g s0_0) (hB : Below w0.heap.size w0 w) (h : codec_Out_Text.f s0_0 = some (r1, r2)) :
    Calls Tryz.prog 44 #[.pointer (some ⟨g, 0, none⟩)] w fun e w' => e = .returned (.string r1) ∧ IsS112 w0 w' g r2 ∧ Below w0.heap.size w0 w' ∧ KeepT w w' [112, 5] := by
  have e : s0_0 = r1 ∧ s0_0 = r2 := by simpa [codec_Out_Text.f] using h
  obtain ⟨rfl, rfl⟩ := e
  clear h
  have HI := Z0.mk hI
  have HB := Z0.mk hB
  obtain ⟨hgg, v, hbk, hR⟩ := hI
  have hcell : w.cell? ⟨g, 0, none⟩ = some v := (kcl hbk 0).trans rfl
  have hcv := own_string (P := Tryz.prog) Tryz.underlying110 Tryz.underlying5 Tryz.underlying9 (Kd.own_of_R hR)
  rw [strOf_bytesOf] at hcv
  clear hB hgg hbk hR
  go_enter Tryz.func44, Tryz.ntmps44
  go_wp2
  go_ret
  exact ⟨rfl, HI.out, HB.out, KeepT.refl _ _⟩
end Go.Proofs.YtjiblcncadekcaaGreat

namespace Go.Proofs.YtjiblcncadekcaaGreat.PL
end Go.Proofs.YtjiblcncadekcaaGreat.PL
namespace Go.Proofs.YtjiblcncadekcaaGreat
open Go.RowKit Go.Proofs.YtjiblcncadekcaaGreatW.PrintWords Go.Proofs.YtjiblcncadekcaaGreatW.PrintLast Go.Proofs.YtjiblcncadekcaaGreatW.PrintMore
theorem blk_putf {w : World} {g : Nat} {t : TypeId} {cs : Array Value} (h : w.heap[g]? = some (.cells cs t (0, 0))) (i : Nat) (u : Value) : (w.setCell ⟨g, i, none⟩ u).heap[g]? = some (.cells (cs.setIfInBounds i u) t (0, 0)) := kpt h i u rfl
theorem blk_fara {w : World} {g : Nat} {t : TypeId} {cs : Array Value} {p : Addr} {u : Value} (h : w.heap[g]? = some (.cells cs t (0, 0))) (hp : Z0 (g ≠ p.block)) : (w.setCell p u).heap[g]? = some (.cells cs t (0, 0)) := blk_far h hp.out u
theorem bt_ {w : World} {g : Nat} {t : TypeId} {cs cs' : Array Value} (h : w.heap[g]? = some (.cells cs t (0, 0))) (e : cs = cs') : w.heap[g]? = some (.cells cs' t (0, 0)) := e ▸ h
theorem bk_ {w : World} {g : Nat} {o : Obj} (h : w.heap[g]? = some o := by
    first
    | (with_reducible repeat (first | refine kdn ?_ _ | refine kdw ?_ | refine kal ?_ _ | refine blk_far ?_ (Z0.out (by with_reducible assumption)) _)
       exact Z0.out (by with_reducible assumption))
    | (apply bt_
       · with_reducible repeat (first | refine kdn ?_ _ | refine kdw ?_ | refine kal ?_ _ | apply blk_putf | (apply blk_fara; case hp => with_reducible assumption))
         exact Z0.out (by with_reducible assumption)
       · rfl)) : w.heap[g]? = some o := h
theorem bl_ {b : Nat} {w W : World} (h : Below b w W := by
    repeat (first | (with_reducible first | exact Z0.out (by with_reducible assumption) | apply bal | apply bdn | apply bd1 | refine bst ?_ (Z0.out (by with_reducible assumption))) | exact Z0.out (by with_reducible assumption))) : Below b w W := h
theorem er_ {p : Prop} (h : p := by first | rfl | (simp [errW_none, errW_some] <;> rfl) | (simp [*, errW_none, errW_some] <;> rfl)) : p := h
theorem ar_ {p : Prop} (h : p := by (try simp only [List.map_toArray, List.map_cons, List.map_nil]); first | done | rfl | (simp only [List.length_drop, List.length_take]; rfl)) : p := h
section
variable {w : World} {g : Nat} {t : TypeId} {a b c d e f k l : Value}
theorem bc2 (h : w.heap[g]? = some (.cells #[a, b] t (0, 0))) : w.cell? ⟨g, 0, none⟩ = some a ∧ w.frozen? ⟨g, 0, none⟩ = false ∧ w.cell? ⟨g, 1, none⟩ = some b ∧ w.frozen? ⟨g, 1, none⟩ = false := ⟨kcl h 0, kfr h 0, kcl h 1, kfr h 1⟩
theorem bc3 (h : w.heap[g]? = some (.cells #[a, b, c] t (0, 0))) : w.cell? ⟨g, 0, none⟩ = some a ∧ w.frozen? ⟨g, 0, none⟩ = false ∧ w.cell? ⟨g, 1, none⟩ = some b ∧ w.frozen? ⟨g, 1, none⟩ = false ∧ w.cell? ⟨g, 2, none⟩ = some c ∧ w.frozen? ⟨g, 2, none⟩ = false := ⟨kcl h 0, kfr h 0, kcl h 1, kfr h 1, kcl h 2, kfr h 2⟩
theorem bc4 (h : w.heap[g]? = some (.cells #[a, b, c, d] t (0, 0))) : w.cell? ⟨g, 0, none⟩ = some a ∧ w.frozen? ⟨g, 0, none⟩ = false ∧ w.cell? ⟨g, 1, none⟩ = some b ∧ w.frozen? ⟨g, 1, none⟩ = false ∧ w.cell? ⟨g, 2, none⟩ = some c ∧ w.frozen? ⟨g, 2, none⟩ = false ∧ w.cell? ⟨g, 3, none⟩ = some d ∧ w.frozen? ⟨g, 3, none⟩ = false := ⟨kcl h 0, kfr h 0, kcl h 1, kfr h 1, kcl h 2, kfr h 2, kcl h 3, kfr h 3⟩
theorem bc5 (h : w.heap[g]? = some (.cells #[a, b, c, d, e] t (0, 0))) : w.cell? ⟨g, 0, none⟩ = some a ∧ w.frozen? ⟨g, 0, none⟩ = false ∧ w.cell? ⟨g, 1, none⟩ = some b ∧ w.frozen? ⟨g, 1, none⟩ = false ∧ w.cell? ⟨g, 2, none⟩ = some c ∧ w.frozen? ⟨g, 2, none⟩ = false ∧ w.cell? ⟨g, 3, none⟩ = some d ∧ w.frozen? ⟨g, 3, none⟩ = false ∧ w.cell? ⟨g, 4, none⟩ = some e ∧ w.frozen? ⟨g, 4, none⟩ = false := ⟨kcl h 0, kfr h 0, kcl h 1, kfr h 1, kcl h 2, kfr h 2, kcl h 3, kfr h 3, kcl h 4, kfr h 4⟩
theorem bc7 (h : w.heap[g]? = some (.cells #[a, b, c, d, e, f, k] t (0, 0))) : w.cell? ⟨g, 0, none⟩ = some a ∧ w.frozen? ⟨g, 0, none⟩ = false ∧ w.cell? ⟨g, 1, none⟩ = some b ∧ w.frozen? ⟨g, 1, none⟩ = false ∧ w.cell? ⟨g, 2, none⟩ = some c ∧ w.frozen? ⟨g, 2, none⟩ = false ∧ w.cell? ⟨g, 3, none⟩ = some d ∧ w.frozen? ⟨g, 3, none⟩ = false ∧ w.cell? ⟨g, 4, none⟩ = some e ∧ w.frozen? ⟨g, 4, none⟩ = false ∧ w.cell? ⟨g, 5, none⟩ = some f ∧ w.frozen? ⟨g, 5, none⟩ = false ∧ w.cell? ⟨g, 6, none⟩ = some k ∧ w.frozen? ⟨g, 6, none⟩ = false := ⟨kcl h 0, kfr h 0, kcl h 1, kfr h 1, kcl h 2, kfr h 2, kcl h 3, kfr h 3, kcl h 4, kfr h 4, kcl h 5, kfr h 5, kcl h 6, kfr h 6⟩
end
theorem bl_irrefl (x : List UInt8) : Op.bytesLess x x = false := by
  induction x with
  | nil => rfl
  | cons a x ih => simp [Op.bytesLess, ih, UInt8.lt_irrefl]
theorem bl_gt {x : List UInt8} : ∀ {y : List UInt8}, Op.bytesLess y x = true → Op.bytesLess x y = false := by
  induction x with
  | nil => intro y h; cases y <;> simp [Op.bytesLess] at h
  | cons a x ih =>
    intro y h
    cases y with
    | nil => rfl
    | cons b y =>
      simp only [Op.bytesLess, Bool.or_eq_true, decide_eq_true_eq, Bool.and_eq_true, beq_iff_eq] at h
      simp only [Op.bytesLess, Bool.or_eq_false_iff, decide_eq_false_iff_not, Bool.and_eq_false_iff]
      rcases h with h | ⟨h, h2⟩
      · exact ⟨fun h2 => absurd (UInt8.lt_trans h h2) (UInt8.lt_irrefl _), .inl (by rw [beq_eq_false_iff_ne]; rintro rfl; exact UInt8.lt_irrefl _ h)⟩
      · subst h; exact ⟨UInt8.lt_irrefl _, .inr (ih h2)⟩
theorem bl_ne {x y : List UInt8} (h : Op.bytesLess y x = true) : (x == y) = false := by
  rw [beq_eq_false_iff_ne]; rintro rfl; rw [bl_irrefl] at h; cases h
theorem bl_tot {x : List UInt8} : ∀ {y : List UInt8}, ¬ (Op.bytesLess y x = true) → (Op.bytesLess x y || x == y) = true := by
  induction x with
  | nil => intro y h; cases y <;> simp [Op.bytesLess]
  | cons a x ih =>
    intro y h
    cases y with
    | nil => simp [Op.bytesLess] at h
    | cons b y =>
      simp only [Op.bytesLess, Bool.or_eq_true, decide_eq_true_eq, Bool.and_eq_true, beq_iff_eq, not_or, not_and] at h
      by_cases e : a = b
      · subst e
        have := ih (h.2 rfl)
        simp only [Bool.or_eq_true, beq_iff_eq] at this
        rcases this with h3 | h3
        · simp [Op.bytesLess, h3]
        · simp [h3]
      · have : a < b := by
          rcases UInt8.lt_or_lt_of_ne e with h3 | h3
          · exact h3
          · exact absurd h3 h.1
        simp [Op.bytesLess, this]
theorem bl_le {x y : List UInt8} (h : ¬ (Op.bytesLess y x = true)) : (Op.bytesLess x y || x == y) = true := bl_tot h
theorem bl_and {x y : List UInt8} (h : ¬ (Op.bytesLess y x = true)) : ((!Op.bytesLess x y) = true ∧ (!x == y) = true) = False := by
  have := bl_tot h
  simp only [Bool.or_eq_true] at this
  apply eq_false
  rintro ⟨h1, h2⟩
  rcases this with h3 | h3
  · rw [h3] at h1; cases h1
  · rw [h3] at h2; cases h2
theorem bl_bb {x y : List UInt8} (h : ¬ (Op.bytesLess y x = true)) : (!Op.bytesLess x y && !x == y) = false := by
  have := bl_tot h
  simp only [Bool.or_eq_true] at this
  rcases this with h3 | h3 <;> simp [h3]
theorem bl_nn {x y : List UInt8} (h : ¬ (Op.bytesLess y x = true)) : (!(Op.bytesLess x y || x == y)) = false := by rw [bl_tot h]; rfl
theorem bl_yy {x y : List UInt8} (h : Op.bytesLess y x = true) : (!(Op.bytesLess x y || x == y)) = true := by rw [bl_gt h, bl_ne h]; rfl
theorem bl_leq (x y : List UInt8) : (Op.bytesLess x y || x == y) = !Op.bytesLess y x := by
  cases h : Op.bytesLess y x with
  | true => rw [bl_gt h, bl_ne h]; rfl
  | false => rw [bl_tot (by rw [h]; decide)]; rfl
section
variable {P : Program} {ops : Array Oper} {rest : List Oper} {o : Oper} {a : Act} {Q : Exit → Act → World → Prop}
theorem bx_ {W : World} {N : Tmp} {cs : Array Value} {t : TypeId} (h : ∀ g, g = W.heap.size → ∀ w1, w1.heap[g]? = some (.cells cs t (0, 0)) → Below W.heap.size W w1 → wpList P ops Q rest (a.put o.dst (.pointer (some ⟨g, 0, none⟩))) w1) (hd : o.dst = some N := by rfl) (hgd : o.guard = none := by rfl) (hrun : (execOp a.eval o).run P W = .ok (.value (.pointer (some ⟨W.heap.size, 0, none⟩))) (W.alloc (.cells cs t (0, 0))) := by first | (go_simp; done) | (go_simp; rfl)) : wpList P ops Q (o :: rest) a W := bev hgd hd hrun h
end
end Go.Proofs.YtjiblcncadekcaaGreat

