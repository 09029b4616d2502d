import Derived.Test.YtndekeigagjfiaaDoorQPtMOutN
namespace Go.Proofs.YtndekeigagjfiaaDoor
open Go.RowKit Go.Proofs.YtndekeigagjfiaaDoorW.PrintWords Go.Proofs.YtndekeigagjfiaaDoorW.PrintLast Go.Proofs.YtndekeigagjfiaaDoorW.PrintMore
def strB (s : ByteArray) : List UInt8 := numB s.size ++ s.data.toList
def codec_Out_S.f (s : ByteArray) (l : List ByteArray) : Option ByteArray :=
  if s.size + (l.map fun t => t.size + 9).sum ≤ 140737488351232 then some ⟨(s.data.toList ++ (l.map strB).flatten).toArray⟩ else none
theorem sum_take (f : ByteArray → Nat) (l : List ByteArray) (i : Nat) (h : i < l.length) : ((l.take (i + 1)).map f).sum = ((l.take i).map f).sum + f l[i] := by
  rw [List.take_succ_eq_append_getElem h, List.map_append, List.sum_append]
  simp
theorem sum_take_le (f : ByteArray → Nat) (l : List ByteArray) : ∀ i, ((l.take i).map f).sum ≤ (l.map f).sum := by
  intro i
  have : l = l.take i ++ l.drop i := (List.take_append_drop i l).symm
  conv => rhs; rw [this]
  rw [List.map_append, List.sum_append]
  omega
theorem len_le_sum (l : List ByteArray) : l.length ≤ (l.map fun t => t.size + 9).sum := by
  induction l with
  | nil => simp
  | cons t l ih => simp only [List.length_cons, List.map_cons, List.sum_cons]; omega
set_option maxHeartbeats 1000000 in
theorem codec_Out_S.calls (g : Nat) (s0_0 : ByteArray) (A1 : Option Addr) (c1 : Nat) (l1 : List ByteArray) (r1 : ByteArray) (w0 w : World) (hI : IsS54 w0 w g s0_0) (hB : Below w0.heap.size w0 w)
    (_hr1 : Kd.C Kd.string w A1 l1.length l1) (_hc1 : l1.length ≤ c1) (hf1 : ∀ W_, KeepT w W_ [54, 5] → Kd.C Kd.string W_ A1 l1.length l1) (h : codec_Out_S.f s0_0 l1 = some r1) :
    Calls Tryd.prog 28 #[.pointer (some ⟨g, 0, none⟩), .slice A1 l1.length c1] w fun e w' => e = .returned (.pointer (some ⟨g, 0, none⟩)) ∧ IsS54 w0 w' g r1 ∧ Below w0.heap.size w0 w' ∧ KeepT w w' [54, 5] := by
  unfold codec_Out_S.f at h
  by_cases c : s0_0.size + (l1.map fun t => t.size + 9).sum ≤ 140737488351232
  rotate_left
  · rw [if_neg c] at h; cases h
  rw [if_pos c] at h
  obtain rfl := Option.some.inj h
  clear h
  have HC0 := Aside0.mk c
  have HI := Aside0.mk hI
  have HB := Aside0.mk hB
  have HF := Aside0.mk hf1
  have hll : l1.length ≤ 140737488351232 := Nat.le_trans (len_le_sum l1) (by omega)
  clear hI hB hf1 _hr1 c
  go_enter Tryd.func28, Tryd.ntmps28
  go_wp2
  have HK0 := Aside0.mk (KeepT.refl w [54, 5])
  go_loopw [9] (fun v9 wr => ∃ (i : Nat) (s : ByteArray), v9 = .int .i64 i ∧ i ≤ l1.length ∧ Aside0 (s.size ≤ s0_0.size + ((l1.take i).map fun t => t.size + 9).sum) ∧ Aside0 (s = ⟨(s0_0.data.toList ++ ((l1.take i).map strB).flatten).toArray⟩) ∧ Aside0 (IsS54 w0 wr g s) ∧ Aside0 (Below w0.heap.size w0 wr) ∧ Aside0 (KeepT w wr [54, 5])) (fun v9 _ => l1.length - (intOf v9).toNat)
  case atStart => exact ⟨0, s0_0, rfl, Nat.zero_le _, ⟨by simp⟩, ⟨by simp⟩, HI, HB, HK0⟩
  case round =>
    obtain ⟨i, s, rfl, hi, HS, HE, HI1, HB1, HK1⟩ := hrel
    clear HK0
    by_cases c1 : i < l1.length
    · have hC := HF.out wr HK1.out
      have hp : (0 : Int) ≤ (i : Int) := by omega
      have hq : (i : Int) < (l1.length : Int) := by omega
      obtain ⟨ad, e1, hx⟩ := Kd.at_string hC (i : Int) hp hq
      cases e1
      have he : rdOf ByteArray.empty l1 (i : Int) = l1[i] := by simp [rdOf, List.getD_eq_getElem?_getD, c1]
      rw [he, Int.toNat_natCast] at hx
      obtain ⟨t, ht⟩ : ∃ t, t = l1[i] := ⟨_, rfl⟩
      rw [← ht] at hx
      have hs1 := sum_take (fun t => t.size + 9) l1 i c1
      have hs2 := sum_take_le (fun t => t.size + 9) l1 (i + 1)
      rw [← ht] at hs1
      have HT := Aside0.mk ht
      have hts : s.size + t.size + 9 ≤ 140737488351232 := by have := HC0.out; have := HS.out; omega
      have HS1 := Aside0.mk hs1
      have HTS := Aside0.mk hts
      have hz : (t.size : Int) ≤ 140737488351232 := by omega
      clear hs1 hs2 hts ht he hp hq hC
      have hfit : codec_Out_N.f s [(t.size : Int)] = some ⟨(s.data.toList ++ numB t.size).toArray⟩ := by
        unfold codec_Out_N.f
        have h9 := HTS.out
        rw [if_pos ⟨by simp only [List.length_cons, List.length_nil]; omega, by intro n hn; rw [List.mem_singleton.1 hn]; omega⟩]
        simp
      have HFIT := Aside0.mk hfit
      clear hfit
      go_wp2_with fail
      have hnb : (wr.alloc (.cells #[.int .i64 (t.size : Int)] 3)).heap[wr.heap.size]? = some (.cells #[.int .i64 (t.size : Int)] 3 (0, 0)) := heap_alloc_new wr _
      refine (codec_Out_N.calls g s (some ⟨wr.heap.size, 0, none⟩) 1 [(t.size : Int)] _ w0 _ (HI1.out.alloc _) (bal HB1.out _) (C_one hnb) (by simp) (fun W_ hk => C_one (KeepT.blk hnb hk (by decide))) HFIT.out).mono ?_
      rintro e w1 ⟨rfl, hi2, hb2, hk2⟩
      have HB2 := Aside0.mk hb2
      have HK2 := Aside0.mk ((eta HK1.out _).trans hk2)
      obtain ⟨hgg, v, hbk, hR⟩ := hi2
      have HG := Aside0.mk hgg
      have HBK := Aside0.mk hbk
      have HR := Aside0.mk hR
      have hcell : w1.cell? ⟨g, 0, none⟩ = some v := (kcl hbk 0).trans rfl
      clear hb2 hk2 hnb hgg hbk hR
      have hl9 : (bytesOf ⟨(s.data.toList ++ numB t.size).toArray⟩).length + t.size ≤ 140737488355328 := by
        have h9 := HTS.out
        have h8 := numB_length t.size (by omega)
        rw [bytesOf_length, put_size]; omega
      go_wp2_with (at_builtin; refine print_append_str (w0 := w0) w0.heap.size rfl (.tmp 22) _ 52 9 5 rfl Tryd.underlying52 Tryd.underlying9 infoU8 v (bytesOf ⟨(s.data.toList ++ numB t.size).toArray⟩) t rfl rfl (Kd.own_of_R HR.out) HB2.out HB2.out.size hl9 ?_; intro v1 w2 hown hb hg1; have hb2 := blk_grown HBK.out hg1 (Kd.R_ne HR.out HBK.out (by decide)); have hcell2 : w2.cell? ⟨g, 0, none⟩ = some v := (kcl hb2 0).trans rfl; have hfr2 := kfr hb2 0; have HK5 := Aside0.mk (KeepT.grown HK2.out hg1 (fun k hk => by obtain ⟨cs, hcs⟩ := Kd.R_typed HR.out k hk; exact ⟨cs, 5, _, hcs, by decide⟩)); have ho : Kd.R (Kd.int .u8) 5 w2 w0.heap.size (fun k => k ≠ g) v1 (bytesOf ⟨(s.data.toList ++ numB t.size).toArray⟩ ++ bytesOf t) := Kd.R_of_own hown (fun k hk e => by subst e; obtain ⟨cs, hcs⟩ := own_typed hown k hk; rw [hb2] at hcs; injection hcs with hcs; injection hcs with _ e2 _; exact absurd e2 (by decide)); obtain ⟨A2, k2, e2⟩ := Kd.R_slice ho; subst e2; have HO := Aside0.mk ho; have HB5 := Aside0.mk hb; have HBK2 := Aside0.mk hb2; clear ho hb hg1 hb2 hown)
      have HI5 : Aside0 (IsS54 w0 (w2.setCell ⟨g, 0, none⟩ (.slice A2 ((bytesOf ⟨(s.data.toList ++ numB t.size).toArray⟩ ++ bytesOf t).length) k2)) g ⟨(s.data.toList ++ strB t).toArray⟩) := ⟨by
        refine IsS54.stored HG.out HBK2.out ?_
        have e9 : bytesOf ⟨(s.data.toList ++ strB t).toArray⟩ = bytesOf ⟨(s.data.toList ++ numB t.size).toArray⟩ ++ bytesOf t := by simp [bytesOf, strB]
        rw [e9]
        exact HO.out⟩
      go_roundw
      case rel => exact ⟨i + 1, ⟨(s.data.toList ++ strB t).toArray⟩, by go_num, by omega, ⟨by rw [put_size]; have h4 : (strB t).length = (numB t.size).length + t.size := (by rw [strB, List.length_append, data_length]); have h8 := numB_length t.size (by omega); have h7 := HS.out; have h6 : ((l1.take (i + 1)).map fun t => t.size + 9).sum = ((l1.take i).map fun t => t.size + 9).sum + (t.size + 9) := HS1.out; rw [h6]; omega⟩, ⟨by
        rw [List.take_succ_eq_append_getElem c1, List.map_append, List.flatten_append, List.map_cons, List.map_nil, List.flatten_cons, List.flatten_nil, ← HT.out, List.append_nil, ← List.append_assoc]
        have hE := HE.out
        rw [hE]⟩, ⟨by have h := HI5.out; simp only [List.length_append] at h; simpa using h⟩, ⟨HB5.out.setCell HG.out _⟩, ⟨HK5.out.set HBK2.out (by decide) _ _⟩⟩
      case measure => simp [intOf]; omega
    · obtain rfl : i = l1.length := by omega
      have hE := HE.out
      rw [List.take_length] at hE
      subst hE
      go_wp2
      go_ret
      exact ⟨rfl, HI1.out, HB1.out, HK1.out⟩
end Go.Proofs.YtndekeigagjfiaaDoor

namespace Go.Proofs.YtndekeigagjfiaaDoor
open Go.RowKit Go.Proofs.YtndekeigagjfiaaDoorW.PrintWords Go.Proofs.YtndekeigagjfiaaDoorW.PrintLast Go.Proofs.YtndekeigagjfiaaDoorW.PrintMore
def codec_Out_Text.f (s : ByteArray) : Option (ByteArray × ByteArray) := some (s, s)
theorem strOf_bytesOf (s : ByteArray) : strOfNums (bytesOf s) = s := by
  have : (strOfNums (bytesOf s)).data.toList = s.data.toList := by
    rw [strOfNums_data, bytesOf, List.map_map]
    have : ((fun n : Int => UInt8.ofNat n.toNat) ∘ fun b : UInt8 => (b.toNat : Int)) = id := by
      funext b; simp
    rw [this, List.map_id]
  exact ByteArray.ext (Array.ext' this)
set_option maxHeartbeats 1000000 in
theorem codec_Out_Text.calls (g : Nat) (s0_0 : ByteArray) (r1 r2 : ByteArray) (w0 w : World) (hI : IsS54 w0 w g s0_0) (hB : Below w0.heap.size w0 w) (h : codec_Out_Text.f s0_0 = some (r1, r2)) :
    Calls Tryd.prog 29 #[.pointer (some ⟨g, 0, none⟩)] w fun e w' => e = .returned (.string r1) ∧ IsS54 w0 w' g r2 ∧ Below w0.heap.size w0 w' ∧ KeepT w w' [54, 5] := by
  have e : s0_0 = r1 ∧ s0_0 = r2 := by simpa [codec_Out_Text.f] using h
  obtain ⟨rfl, rfl⟩ := e
  clear h
  have HI := Aside0.mk hI
  have HB := Aside0.mk hB
  obtain ⟨hgg, v, hbk, hR⟩ := hI
  have hcell : w.cell? ⟨g, 0, none⟩ = some v := (kcl hbk 0).trans rfl
  have hcv := own_string (P := Tryd.prog) Tryd.underlying52 Tryd.underlying5 Tryd.underlying9 (Kd.own_of_R hR)
  rw [strOf_bytesOf] at hcv
  clear hB hgg hbk hR
  go_enter Tryd.func29, Tryd.ntmps29
  go_wp2
  go_ret
  exact ⟨rfl, HI.out, HB.out, KeepT.refl _ _⟩
end Go.Proofs.YtndekeigagjfiaaDoor

