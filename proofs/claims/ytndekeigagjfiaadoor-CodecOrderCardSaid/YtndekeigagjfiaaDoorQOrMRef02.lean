import Derived.Test.YtndekeigagjfiaaDoorQOrPBx1
import Derived.Test.YtndekeigagjfiaaDoorQOrMFold
import Derived.Test.YtndekeigagjfiaaDoorQOrMOutText
import Derived.WalkLawsBesides
import Derived.Deep.QuietTactic
import Derived.BigQuiet
namespace Go.Proofs.YtndekeigagjfiaaDoor
open Go.RowKit Go.Proofs.YtndekeigagjfiaaDoorW.PrintWords Go.Proofs.YtndekeigagjfiaaDoorW.PrintLast Go.Proofs.YtndekeigagjfiaaDoor.PL
def armoirelaw02_awake.f : Option Bool := some true
theorem C_two {W : World} {g : Nat} {a b : ByteArray} {e : Nat} {fr : Nat × Nat} (hb : W.heap[g]? = some (.cells #[.string a, .string b] e fr)) : Kd.C Kd.string W (some ⟨g, 0, none⟩) 2 [a, b] := by
  refine ⟨rfl, by omega, fun _ => ⟨⟨g, 0, none⟩, rfl, fun j p hj => ?_⟩⟩
  rcases j with _ | _ | j
  · simp only [List.getElem?_cons_zero, Option.some.injEq] at hj
    subst hj
    refine ⟨[.string a], rfl, rfl, fun i u hu => ?_⟩
    cases i with
    | zero =>
      simp only [List.getElem?_cons_zero, Option.some.injEq] at hu
      subst hu
      simp [World.cell?, hb, Addr.add]
    | succ i => simp at hu
  · simp only [List.getElem?_cons_succ, List.getElem?_cons_zero, Option.some.injEq] at hj
    subst hj
    refine ⟨[.string b], rfl, rfl, fun i u hu => ?_⟩
    cases i with
    | zero =>
      simp only [List.getElem?_cons_zero, Option.some.injEq] at hu
      subst hu
      simp [World.cell?, hb, Addr.add, Kd.string, Kd.scalar]
    | succ i => simp at hu
  · simp at hj
theorem numB300 : numB 300 = [2, 1, 44] := by
  have n300 : nlen 300 = 2 := by
    rw [nlen_pos 300 (by decide), show 300 / 256 = 1 from rfl, nlen_pos 1 (by decide), show 1 / 256 = 0 from rfl, nlen_zero]
  rw [numB, n300]
  rfl
theorem out300 : codec_Out_U.f (⟨#[]⟩ : ByteArray) [300] = some ⟨#[2, 1, 44]⟩ := by
  unfold codec_Out_U.f
  rw [if_pos ⟨by decide, by intro n hn; rw [List.mem_singleton.1 hn]; omega⟩]
  have := numB300
  simp [this]
theorem in11 : PB.codec_In_I.f (⟨#[1, 1]⟩ : ByteArray) 0 = some (-1, (⟨#[]⟩ : ByteArray), 0) := by
  have h : codec_In_U.f (⟨#[1, 1]⟩ : ByteArray) 0 = some (1, (⟨#[]⟩ : ByteArray), 0) := by decide +kernel
  unfold PB.codec_In_I.f
  rw [h]
  decide +kernel
theorem keyA : codec_Key.f [(⟨#[97]⟩ : ByteArray), (⟨#[]⟩ : ByteArray)] = some ⟨#[97, 0, 1, 0, 1]⟩ := by
  unfold codec_Key.f
  rw [if_pos (by simp [keyB, esc])]
  simp [keyB, esc]
set_option maxHeartbeats 4000000 in
set_option maxRecDepth 1000000 in
theorem armoirelaw02_awake.calls (r : Bool) (w : World) (h : armoirelaw02_awake.f = some r) :
    Calls Tryd.prog 10 #[] w fun e w' => e = .returned (.bool r) ∧ Below w.heap.size w w' := by
  unfold armoirelaw02_awake.f at h
  obtain rfl := Option.some.inj h
  clear h
  have HB := Aside0.mk (Below.refl w.heap.size w)
  go_enter Tryd.func10, Tryd.ntmps10
  go_wp2_with fail
  have hb1 : ((w.alloc (.cells #[.slice none 0 0] 54)).alloc (.cells #[.int .u64 300] 30)).heap[w.heap.size + 1]? = some (.cells #[.int .u64 300] 30 (0, 0)) := by
    have := heap_alloc_new (w.alloc (.cells #[.slice none 0 0] 54)) (.cells #[.int .u64 300] 30)
    simpa using this
  refine (codec_Out_U.calls w.heap.size ⟨#[]⟩ (some ⟨w.heap.size + 1, 0, none⟩) 1 [300] _ w _ ((IsS54.box (heap_alloc_new w _) (Nat.le_refl _)).alloc _) (bal (bal HB.out _) _) (C_one hb1) (by simp) (fun W_ hk => C_one (KeepT.blk hb1 hk (by decide))) out300).mono ?_
  rintro e w1 ⟨rfl, hi, hb, _⟩
  have HI1 := Aside0.mk hi
  have HB1 := Aside0.mk hb
  clear hi hb hb1
  go_wp2_with fail
  refine (codec_Out_Text.calls w.heap.size ⟨#[2, 1, 44]⟩ _ _ w w1 HI1.out HB1.out rfl).mono ?_
  rintro e w2 ⟨rfl, hi, hb, _⟩
  have HB2 := Aside0.mk hb
  clear hi hb HI1
  go_wp2_with fail
  refine (PB.codec_Read.calls ⟨#[]⟩ _ _ w w2 HB2.out rfl).mono ?_
  rintro e w3 ⟨g3, rfl, hi, hb, _⟩
  have HB3 := Aside0.mk hb
  clear hi hb
  go_wp2_with fail
  refine (PB.codec_Read.calls ⟨#[1, 1]⟩ _ _ w w3 HB3.out rfl).mono ?_
  rintro e w4 ⟨g4, rfl, hi, hb, _⟩
  have HI4 := Aside0.mk hi
  have HB4 := Aside0.mk hb
  clear hi hb
  go_wp2_with fail
  refine (PB.codec_In_I.calls g4 ⟨#[1, 1]⟩ 0 _ _ _ w w4 HI4.out HB4.out in11).mono ?_
  rintro e w5 ⟨rfl, hi, hb, _⟩
  have HB5 := Aside0.mk hb
  clear hi hb HI4
  go_wp2_with fail
  refine (codec_Key.calls (some ⟨w5.heap.size, 0, none⟩) 2 [⟨#[97]⟩, ⟨#[]⟩] _ _ (C_two (heap_alloc_new w5 _)) (by simp) keyA).mono ?_
  rintro e w6 ⟨rfl, hb⟩
  have HB6 := Aside0.mk (below_then (bal HB5.out _) (bal HB5.out _).size hb)
  clear hb
  go_wp2
  go_ret
  exact ⟨rfl, HB6.out⟩
end Go.Proofs.YtndekeigagjfiaaDoor

namespace Go.Proofs.YtndekeigagjfiaaDoor
open Go.RowKit Go.Proofs.YtndekeigagjfiaaDoorW.PrintWords Go.Proofs.YtndekeigagjfiaaDoorW.PrintLast
def lessB : List ByteArray → List ByteArray → Bool
  | [], b => !b.isEmpty
  | _ :: _, [] => false
  | x :: a, y :: b => if Op.bytesLess x.toList y.toList then true else if x.toList == y.toList then lessB a b else false
def armoireref02_Less.f (a b : List ByteArray) : Option Bool := some (lessB a b)
set_option maxHeartbeats 4000000 in
set_option maxRecDepth 1000000 in
theorem armoireref02_Less.calls (A0 : Option Addr) (c0 : Nat) (l0 : List ByteArray) (A1 : Option Addr) (c1 : Nat) (l1 : List ByteArray) (r : Bool) (w : World) (hr0 : Kd.C Kd.string w A0 l0.length l0) (_hc0 : l0.length ≤ c0) (hr1 : Kd.C Kd.string w A1 l1.length l1) (_hc1 : l1.length ≤ c1) (h : armoireref02_Less.f l0 l1 = some r) :
    Calls Tryd.prog 12 #[.slice A0 l0.length c0, .slice A1 l1.length c1] w fun e w' => e = .returned (.bool r) ∧ Below w.heap.size w w' := by
  obtain rfl := Option.some.inj h
  clear h
  have HR0 := Aside0.mk hr0
  have HR1 := Aside0.mk hr1
  have hll0 : l0.length ≤ 9223372036854775807 := Kd.C_max hr0
  have hll1 : l1.length ≤ 9223372036854775807 := Kd.C_max hr1
  clear hr0 hr1
  go_enter Tryd.func12, Tryd.ntmps12
  go_wp2
  go_loopw [8] (fun v8 wr => ∃ i : Nat, v8 = .int .i64 i ∧ i ≤ l0.length ∧ i ≤ l1.length ∧ Aside0 (lessB (l0.drop i) (l1.drop i) = lessB l0 l1) ∧ Aside0 (Below w.heap.size w wr)) (fun v8 _ => l0.length - (intOf v8).toNat)
  case atStart => exact ⟨0, rfl, Nat.zero_le _, Nat.zero_le _, ⟨rfl⟩, ⟨Below.refl _ _⟩⟩
  case round =>
    obtain ⟨i, rfl, hi0, hi1, HS, HL⟩ := hrel
    by_cases c1 : i < l0.length
    · by_cases c2 : i < l1.length
      · have hC0 := Kd.C_below HR0.out HL.out
        have hC1 := Kd.C_below HR1.out HL.out
        have hp : (0 : Int) ≤ (i : Int) := by omega
        have hq0 : (i : Int) < (l0.length : Int) := by omega
        have hq1 : (i : Int) < (l1.length : Int) := by omega
        obtain ⟨ad0, e0, hx0⟩ := Kd.at_string hC0 (i : Int) hp hq0
        cases e0
        obtain ⟨ad1, e1, hx1⟩ := Kd.at_string hC1 (i : Int) hp hq1
        cases e1
        have he0 : rdOf ByteArray.empty l0 (i : Int) = l0[i] := by simp [rdOf, List.getD_eq_getElem?_getD, c1]
        have he1 : rdOf ByteArray.empty l1 (i : Int) = l1[i] := by simp [rdOf, List.getD_eq_getElem?_getD, c2]
        rw [he0, Int.toNat_natCast] at hx0
        rw [he1, Int.toNat_natCast] at hx1
        obtain ⟨x, hx⟩ : ∃ x, x = l0[i] := ⟨_, rfl⟩
        obtain ⟨y, hy⟩ : ∃ y, y = l1[i] := ⟨_, rfl⟩
        rw [← hx] at hx0
        rw [← hy] at hx1
        have hs : lessB (l0.drop i) (l1.drop i) = if Op.bytesLess x.toList y.toList then true else if x.toList == y.toList then lessB (l0.drop (i + 1)) (l1.drop (i + 1)) else false := by
          rw [List.drop_eq_getElem_cons c1, List.drop_eq_getElem_cons c2, lessB, ← hx, ← hy]
        rw [hs] at HS
        have hge : decide (l1.length ≤ i) = false := decide_eq_false (by omega)
        have hge2 : decide ((l1.length : Int) ≤ (i : Int)) = false := decide_eq_false (by omega)
        clear hs hx hy he0 he1 hC0 hC1
        by_cases b1 : Op.bytesLess x.toList y.toList = true
        · have hS : lessB l0 l1 = true := by have h := HS.out; rw [if_pos b1] at h; exact h.symm
          have HS2 := Aside0.mk hS
          clear HS hS
          go_wp2
          repeat (go_quiet (fail); try go_wp2)
          go_ret
          exact ⟨by rw [HS2.out]; rfl, by repeat (first | exact HL.out | apply bdn)⟩
        · have b1' : Op.bytesLess x.toList y.toList = false := by simpa using b1
          by_cases b2 : (x.toList == y.toList) = true
          · have hS : lessB (l0.drop (i + 1)) (l1.drop (i + 1)) = lessB l0 l1 := by have h := HS.out; rw [if_neg b1, if_pos b2] at h; exact h
            have HS2 := Aside0.mk hS
            clear HS hS b1
            go_wp2
            repeat (go_quiet (fail); try go_wp2)
            go_roundw
            case rel => exact ⟨i + 1, by go_num, by omega, by omega, HS2, ⟨by repeat (first | exact HL.out | apply bdn)⟩⟩
            case measure => simp [intOf]; omega
          · have b2' : (x.toList == y.toList) = false := by simpa using b2
            have hS : lessB l0 l1 = false := by have h := HS.out; rw [if_neg b1, if_neg b2] at h; exact h.symm
            have HS2 := Aside0.mk hS
            clear HS hS b1 b2
            go_wp2
            repeat (go_quiet (fail); try go_wp2)
            go_ret
            exact ⟨by rw [HS2.out]; rfl, by repeat (first | exact HL.out | apply bdn)⟩
      · have hs : lessB l0 l1 = false := by
          have h := HS.out
          rw [List.drop_eq_getElem_cons c1, List.drop_eq_nil_of_le (by omega : l1.length ≤ i), lessB] at h
          exact h.symm
        have HS2 := Aside0.mk hs
        have hge : decide (l1.length ≤ i) = true := decide_eq_true (by omega)
        have hge2 : decide ((l1.length : Int) ≤ (i : Int)) = true := decide_eq_true (by omega)
        clear hs
        go_wp2
        repeat (go_quiet (fail); try go_wp2)
        go_ret
        exact ⟨by rw [HS2.out]; rfl, by repeat (first | exact HL.out | apply bdn)⟩
    · obtain rfl : i = l0.length := by omega
      have hs : lessB l0 l1 = decide (l0.length < l1.length) := by
        have h := HS.out
        rw [List.drop_length, lessB] at h
        rw [← h]
        by_cases e : l0.length < l1.length
        · rw [decide_eq_true e]; simp; omega
        · rw [decide_eq_false e]; simp; omega
      have HS2 := Aside0.mk hs
      clear hs
      go_wp2
      go_ret
      exact ⟨by rw [HS2.out]; rfl, HL.out⟩
end Go.Proofs.YtndekeigagjfiaaDoor

