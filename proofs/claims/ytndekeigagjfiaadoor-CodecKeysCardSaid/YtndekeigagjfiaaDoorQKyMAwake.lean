import Derived.Test.YtndekeigagjfiaaDoorQKyPBx1
import Derived.Test.YtndekeigagjfiaaDoorQKyMOutBase
import Derived.Test.YtndekeigagjfiaaDoorQKyMFold
namespace Go.Proofs.YtndekeigagjfiaaDoor
open Go.RowKit Go.Proofs.YtndekeigagjfiaaDoorW.PrintWords Go.Proofs.YtndekeigagjfiaaDoorW.PrintLast Go.Proofs.YtndekeigagjfiaaDoor.PL
def armoirelaw02_awake.f : Option Bool := some true
theorem C_two {W : World} {g : Nat} {a b : ByteArray} {e : Nat} {fr : Nat × Nat} (hb : W.heap[g]? = some (.cells #[.string a, .string b] e fr)) : Kd.C Kd.string W (some ⟨g, 0, none⟩) 2 [a, b] := by
  refine ⟨rfl, by omega, fun _ => ⟨⟨g, 0, none⟩, rfl, fun j p hj => ?_⟩⟩
  rcases j with _ | _ | j
  · simp only [List.getElem?_cons_zero, Option.some.injEq] at hj
    subst hj
    refine ⟨[.string a], rfl, rfl, fun i u hu => ?_⟩
    cases i with
    | zero =>
      simp only [List.getElem?_cons_zero, Option.some.injEq] at hu
      subst hu
      simp [World.cell?, hb, Addr.add]
    | succ i => simp at hu
  · simp only [List.getElem?_cons_succ, List.getElem?_cons_zero, Option.some.injEq] at hj
    subst hj
    refine ⟨[.string b], rfl, rfl, fun i u hu => ?_⟩
    cases i with
    | zero =>
      simp only [List.getElem?_cons_zero, Option.some.injEq] at hu
      subst hu
      simp [World.cell?, hb, Addr.add, Kd.string, Kd.scalar]
    | succ i => simp at hu
  · simp at hj
theorem numB300 : numB 300 = [2, 1, 44] := by
  have n300 : nlen 300 = 2 := by
    rw [nlen_pos 300 (by decide), show 300 / 256 = 1 from rfl, nlen_pos 1 (by decide), show 1 / 256 = 0 from rfl, nlen_zero]
  rw [numB, n300]
  rfl
theorem out300 : codec_Out_U.f (⟨#[]⟩ : ByteArray) [300] = some ⟨#[2, 1, 44]⟩ := by
  unfold codec_Out_U.f
  rw [if_pos ⟨by decide, by intro n hn; rw [List.mem_singleton.1 hn]; omega⟩]
  have := numB300
  simp [this]
theorem in11 : PB.codec_In_I.f (⟨#[1, 1]⟩ : ByteArray) 0 = some (-1, (⟨#[]⟩ : ByteArray), 0) := by
  have h : codec_In_U.f (⟨#[1, 1]⟩ : ByteArray) 0 = some (1, (⟨#[]⟩ : ByteArray), 0) := by decide +kernel
  unfold PB.codec_In_I.f
  rw [h]
  decide +kernel
theorem keyA : codec_Key.f [(⟨#[97]⟩ : ByteArray), (⟨#[]⟩ : ByteArray)] = some ⟨#[97, 0, 1, 0, 1]⟩ := by
  unfold codec_Key.f
  rw [if_pos (by simp [keyB, esc])]
  simp [keyB, esc]
set_option maxHeartbeats 4000000 in
set_option maxRecDepth 1000000 in
theorem armoirelaw02_awake.calls (r : Bool) (w : World) (h : armoirelaw02_awake.f = some r) :
    Calls Tryd.prog 10 #[] w fun e w' => e = .returned (.bool r) ∧ Below w.heap.size w w' := by
  unfold armoirelaw02_awake.f at h
  obtain rfl := Option.some.inj h
  clear h
  have HB := Aside0.mk (Below.refl w.heap.size w)
  go_enter Tryd.func10, Tryd.ntmps10
  go_wp2_with fail
  have hb1 : ((w.alloc (.cells #[.slice none 0 0] 54)).alloc (.cells #[.int .u64 300] 30)).heap[w.heap.size + 1]? = some (.cells #[.int .u64 300] 30 (0, 0)) := by
    have := heap_alloc_new (w.alloc (.cells #[.slice none 0 0] 54)) (.cells #[.int .u64 300] 30)
    simpa using this
  refine (codec_Out_U.calls w.heap.size ⟨#[]⟩ (some ⟨w.heap.size + 1, 0, none⟩) 1 [300] _ w _ ((IsS54.box (heap_alloc_new w _) (Nat.le_refl _)).alloc _) (bal (bal HB.out _) _) (C_one hb1) (by simp) (fun W_ hk => C_one (KeepT.blk hb1 hk (by decide))) out300).mono ?_
  rintro e w1 ⟨rfl, hi, hb, _⟩
  have HI1 := Aside0.mk hi
  have HB1 := Aside0.mk hb
  clear hi hb hb1
  go_wp2_with fail
  refine (codec_Out_Text.calls w.heap.size ⟨#[2, 1, 44]⟩ _ _ w w1 HI1.out HB1.out rfl).mono ?_
  rintro e w2 ⟨rfl, hi, hb, _⟩
  have HB2 := Aside0.mk hb
  clear hi hb HI1
  go_wp2_with fail
  refine (PB.codec_Read.calls ⟨#[]⟩ _ _ w w2 HB2.out rfl).mono ?_
  rintro e w3 ⟨g3, rfl, hi, hb, _⟩
  have HB3 := Aside0.mk hb
  clear hi hb
  go_wp2_with fail
  refine (PB.codec_Read.calls ⟨#[1, 1]⟩ _ _ w w3 HB3.out rfl).mono ?_
  rintro e w4 ⟨g4, rfl, hi, hb, _⟩
  have HI4 := Aside0.mk hi
  have HB4 := Aside0.mk hb
  clear hi hb
  go_wp2_with fail
  refine (PB.codec_In_I.calls g4 ⟨#[1, 1]⟩ 0 _ _ _ w w4 HI4.out HB4.out in11).mono ?_
  rintro e w5 ⟨rfl, hi, hb, _⟩
  have HB5 := Aside0.mk hb
  clear hi hb HI4
  go_wp2_with fail
  refine (codec_Key.calls (some ⟨w5.heap.size, 0, none⟩) 2 [⟨#[97]⟩, ⟨#[]⟩] _ _ (C_two (heap_alloc_new w5 _)) (by simp) keyA).mono ?_
  rintro e w6 ⟨rfl, hb⟩
  have HB6 := Aside0.mk (below_then (bal HB5.out _) (bal HB5.out _).size hb)
  clear hb
  go_wp2
  go_ret
  exact ⟨rfl, HB6.out⟩
end Go.Proofs.YtndekeigagjfiaaDoor

