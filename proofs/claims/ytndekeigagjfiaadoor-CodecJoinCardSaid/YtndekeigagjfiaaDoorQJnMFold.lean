import Derived.Test.YtndekeigagjfiaaDoorQJnPLx1
import Derived.Test.YtndekeigagjfiaaDoorQJnMOutText
import Derived.Shelf.Strings.Builder1
import Derived.Shelf.Strings.Builder2
import Derived.Shelf.Strings.Search1
import Derived.Shelf.Strings.Search2
import Derived.Shelf.Strings.Search3
import Derived.Shelf.Strings.Count
import Derived.Test.YtndekeigagjfiaaDoorProg
import Derived.Test.YtndekeigagjfiaaDoorQJnWMore
import Derived.Lib.IndexBytes
import Derived.Lib.Strings
import Derived.Deep.LoopGhost
import Derived.Deep.DeepMust
import Derived.Test.YtndekeigagjfiaaDoorQJnWWords
namespace Go.Proofs.YtndekeigagjfiaaDoor
open Go.RowKit Go.Proofs.YtndekeigagjfiaaDoorW.PrintWords Go.Proofs.YtndekeigagjfiaaDoorW.PrintLast Go.Proofs.YtndekeigagjfiaaDoorW.PrintMore PL
def beN (n : Nat) (l : List UInt8) : Nat := l.foldl (fun n c => (n * 256 + c.toNat) % 18446744073709551616) n
def codec_In_U.f (s : ByteArray) (e : Int) : Option (Int × ByteArray × Int) :=
  (codec_In_take.f s e 1).bind fun a =>
    if a.2.2 ≠ 0 then some (0, a.2.1, a.2.2)
    else if a.1.size = 0 then none
    else if (a.1.data.toList.getD 0 0).toNat > 8 then (codec_In_Fail.f a.2.1 a.2.2 2).bind fun b => some (0, b.1, b.2)
    else (codec_In_take.f a.2.1 a.2.2 ((a.1.data.toList.getD 0 0).toNat : Int)).bind fun b =>
      if b.1.size ≠ 0 ∧ b.1.data.toList.getD 0 0 = 0 then (codec_In_Fail.f b.2.1 b.2.2 2).bind fun c => some (0, c.1, c.2)
      else if b.1.size ≤ 140737488351232 then some ((beN 0 b.1.data.toList : Nat), b.2.1, b.2.2) else none
theorem byte_at (k : ByteArray) (i : Nat) (h : i < k.size) : k[i]'h = k.data.toList.getD i 0 := by
  show k.data[i]'h = _
  have h2 : i < k.data.size := h
  rw [List.getD_eq_getElem?_getD, List.getElem?_eq_getElem (by rw [Array.length_toList]; exact h2)]
  simp
theorem toList_size (s : ByteArray) : s.toList.length = s.size := by
  rw [show s.toList = s.data.toList from ByteArray.toList_eq s, Array.length_toList]
  rfl
theorem wrap_u64 (n : Int) : IntKind.u64.wrap n = n % 18446744073709551616 := by simp [IntKind.wrap, IntKind.bits, IntKind.signed]
theorem shl_or (n c : Nat) (hc : c < 256) : Go.bits .or .u64 (IntKind.u64.wrap ((n : Int) * 256)) (c : Int) = (((n * 256 + c) % 18446744073709551616 : Nat) : Int) := by
  rw [wrap_u64]
  have h := bits_join .u64 64 (by decide) (fun n h0 h1 => by rw [wrap_u64]; omega) 8 ((n : Int) * 256 % 18446744073709551616) (c : Int) (by omega) (by omega) (by omega) (by omega) (by omega) (by omega)
  rw [h]
  omega
theorem beN_take (l : List UInt8) (i : Nat) (h : i < l.length) : beN 0 (l.take (i + 1)) = (beN 0 (l.take i) * 256 + (l.getD i 0).toNat) % 18446744073709551616 := by
  unfold beN
  rw [List.take_succ_eq_append_getElem h, List.foldl_append, List.getD_eq_getElem?_getD, List.getElem?_eq_getElem h]
  rfl
set_option maxHeartbeats 1000000 in
theorem codec_In_U.calls (g : Nat) (s0_0 : ByteArray) (s0_1 : Int) (r1 : Int) (r2 : ByteArray) (r3 : Int) (w0 w : World) (hI : IsS75 w0 w g s0_0 s0_1) (hB : Below w0.heap.size w0 w) (h : codec_In_U.f s0_0 s0_1 = some (r1, r2, r3)) :
    Calls Tryd.prog 15 #[.pointer (some ⟨g, 0, none⟩)] w fun e w' => e = .returned (.int .u64 r1) ∧ IsS75 w0 w' g r2 r3 ∧ Below w0.heap.size w0 w' ∧ KeepBut w w' g none := by
  unfold codec_In_U.f at h
  obtain ⟨⟨k, s1, e1⟩, hk, h⟩ := Option.bind_eq_some_iff.mp h
  simp only at h
  have HA := Aside0.mk hk
  have H := Aside0.mk h
  have HI := Aside0.mk hI
  have HB := Aside0.mk hB
  clear hI hB hk h
  go_enter Tryd.func15, Tryd.ntmps15
  go_wp2_with fail
  refine (codec_In_take.calls g s0_0 s0_1 1 k s1 e1 w0 w HI.out HB.out HA.out).mono ?_
  rintro e w1 ⟨rfl, hi, hb, hk1⟩
  have hG := hi.1
  have hc0 := (kcl hG 0).trans rfl
  have hc1 := (kcl hG 1).trans rfl
  have HI1 := Aside0.mk hi
  have HB1 := Aside0.mk hb
  have HK1 := Aside0.mk hk1
  clear hi hb hk1 hG
  by_cases c1 : e1 = 0
  rotate_left
  · have c1' : (e1 != 0) = true := by simpa using c1
    have c1'' : (e1 == 0) = false := by simpa using c1
    have h := H.out
    rw [if_pos c1] at h
    simp only [Option.some.injEq, Prod.mk.injEq] at h
    obtain ⟨rfl, rfl, rfl⟩ := h
    clear H c1
    go_wp2
    go_ret
    exact ⟨rfl, HI1.out, HB1.out, HK1.out⟩
  · subst c1
    have h := H.out
    rw [if_neg (by decide)] at h
    clear H
    by_cases c2 : k.size = 0
    · rw [if_pos c2] at h; cases h
    · rw [if_neg c2] at h
      have hk0 : 0 < k.size := by omega
      obtain ⟨b, hbb⟩ : ∃ b : Nat, b = (k.data.toList.getD 0 0).toNat := ⟨_, rfl⟩
      have hb8 : b < 256 := by rw [hbb]; exact UInt8.toNat_lt _
      have hx0 : ∀ hh : 0 < k.size, ((k[0]'hh).toNat : Int) = (b : Int) := by
        intro hh
        rw [hbb, byte_at k 0 hh]
      rw [← hbb] at h
      have hz1 : ((0 : Int) != 0) = false := rfl
      clear hbb
      by_cases c3 : b > 8
      · rw [if_pos c3] at h
        obtain ⟨⟨s2, e2⟩, hf, h⟩ := Option.bind_eq_some_iff.mp h
        simp only [Option.some.injEq, Prod.mk.injEq] at h
        obtain ⟨rfl, rfl, rfl⟩ := h
        have HF := Aside0.mk hf
        clear hf
        have c3' : (8 : Int) < (b : Int) := by omega
        go_wp2_with fail
        refine (codec_In_Fail.calls g s1 0 2 s2 e2 w0 w1 HI1.out HB1.out HF.out).mono ?_
        rintro e w2 ⟨rfl, hi, hb, hk1⟩
        go_wp2
        go_ret
        exact ⟨rfl, hi, hb, KeepBut.trans HK1.out hk1 (.inl rfl)⟩
      · rw [if_neg c3] at h
        obtain ⟨⟨s, s2, e2⟩, ht, h⟩ := Option.bind_eq_some_iff.mp h
        simp only at h
        have HT := Aside0.mk ht
        have H := Aside0.mk h
        clear ht h
        have c3' : ¬ (8 : Int) < (b : Int) := by omega
        go_wp2_with fail
        refine (codec_In_take.calls g s1 0 (b : Int) s s2 e2 w0 w1 HI1.out HB1.out HT.out).mono ?_
        rintro e w2 ⟨rfl, hi, hb, hk1⟩
        have HI2 := Aside0.mk hi
        have HB2 := Aside0.mk hb
        have HK2 := Aside0.mk (KeepBut.trans HK1.out hk1 (.inl rfl))
        clear hi hb hk1 hc0 hc1
        have kc := fun w => Lib.run_convert_string_bytes (P := Tryd.prog) w 9 52 5 s Tryd.underlying9 Tryd.underlying52 Tryd.underlying5
        by_cases c5 : s.size ≠ 0 ∧ s.data.toList.getD 0 0 = 0
        · have h := H.out
          rw [if_pos c5] at h
          obtain ⟨⟨s3, e3⟩, hf, h⟩ := Option.bind_eq_some_iff.mp h
          simp only [Option.some.injEq, Prod.mk.injEq] at h
          obtain ⟨rfl, rfl, rfl⟩ := h
          have HF := Aside0.mk hf
          have h0 : 0 < s.size := by omega
          have h1 : ¬ s.toList = [] := fun e => by have := toList_size s; rw [e] at this; simp at this; omega
          have h2 : (!s.toList.isEmpty) = true := by simpa using h1
          have hx1 : ∀ hh : 0 < s.size, ((s[0]'hh).toNat : Int) = (0 : Int) := by
            intro hh
            rw [byte_at s 0 hh, c5.2]
            rfl
          clear hf c5 H kc
          go_wp2_with fail
          refine (codec_In_Fail.calls g s2 e2 2 s3 e3 w0 w2 HI2.out HB2.out HF.out).mono ?_
          rintro e w3 ⟨rfl, hi, hb, hk1⟩
          go_wp2
          go_ret
          exact ⟨rfl, hi, hb, KeepBut.trans HK2.out hk1 (.inl rfl)⟩
        · have h := H.out
          rw [if_neg c5] at h
          by_cases c6 : s.size ≤ 140737488351232
          rotate_left
          · rw [if_neg c6] at h; cases h
          rw [if_pos c6] at h
          simp only [Option.some.injEq, Prod.mk.injEq] at h
          obtain ⟨rfl, rfl, rfl⟩ := h
          have HR0 := Aside0.mk (ByteRow.of_conv w2 5 s)
          have HBW := Aside0.mk (below_conv w2 5 s)
          obtain ⟨f0, hf0⟩ : ∃ f0 : Nat, f0 = (s.data.toList.getD 0 0).toNat := ⟨_, rfl⟩
          have hx1 : ∀ hh : 0 < s.size, ((s[0]'hh).toNat : Int) = (f0 : Int) := by
            intro hh
            rw [byte_at s 0 hh, hf0]
          have hcase : s.toList = [] ∨ (0 < s.size ∧ ¬ s.toList = [] ∧ (!s.toList.isEmpty) = true ∧ ((f0 : Int) == 0) = false) := by
            by_cases c7 : s.size = 0
            · left
              have := toList_size s
              exact List.eq_nil_of_length_eq_zero (by omega)
            · right
              have h1 : ¬ s.toList = [] := fun e => by have := toList_size s; rw [e] at this; simp at this; omega
              refine ⟨by omega, h1, by simpa using h1, ?_⟩
              have h3 : ¬ s.data.toList.getD 0 0 = 0 := fun e => c5 ⟨c7, e⟩
              have h4 : f0 ≠ 0 := fun e => h3 (by rw [hf0] at e; exact UInt8.toNat_inj.1 e)
              simpa using h4
          clear c5 H hf0
          rcases hcase with h1 | ⟨h0, h1, h2, h3⟩
          all_goals
            go_wp2_with fail
            generalize Lib.bytesWorld w2 5 s = W at HR0 HBW ⊢
            generalize grownCap w2 s.size 0 5 = cap
            clear kc
            go_loop [5, 37] (fun v5 v37 => ∃ i n : Nat, v37 = .int .i64 i ∧ v5 = .int .u64 n ∧ i ≤ s.size ∧ Aside0 (n = beN 0 (s.data.toList.take i)) ∧ Aside0 (n < 18446744073709551616)) (fun _ v37 => s.size - (intOf v37).toNat)
            case atStart => exact ⟨0, 0, rfl, rfl, Nat.zero_le _, ⟨rfl⟩, ⟨by decide⟩⟩
            case round =>
              obtain ⟨i, n, rfl, rfl, hi, HN, HL⟩ := hrel
              by_cases c8 : i < s.size
              · have hl8 : i < s.data.toList.length := by rw [data_length]; exact c8
                have hcell := HR0.out.cell i hl8
                obtain ⟨c, hc⟩ : ∃ c : Nat, c = (s.data.toList.getD i 0).toNat := ⟨_, rfl⟩
                have hc8 : c < 256 := by rw [hc]; exact UInt8.toNat_lt _
                rw [← hc] at hcell
                have hor : Go.bits .or .u64 (IntKind.u64.wrap ((n : Int) * 256)) (c : Int) = (((n * 256 + c) % 18446744073709551616 : Nat) : Int) := by
                  rw [shl_or n c hc8]
                have HOR := Aside0.mk hor
                have HC := Aside0.mk hc
                clear hor hc
                go_wp2
                go_round
                case rel => exact ⟨i + 1, (n * 256 + c) % 18446744073709551616, by go_num, by rw [HOR.out], by omega, ⟨by rw [beN_take _ _ hl8, ← HN.out, HC.out]⟩, ⟨Nat.mod_lt _ (by decide)⟩⟩
                case measure => simp [intOf]; omega
              · obtain rfl : i = s.size := by omega
                have hn := HN.out
                rw [← data_length s, List.take_length] at hn
                subst hn
                go_wp2
                go_ret
                exact ⟨rfl, HI2.out.below HBW.out, bsp HB2.out HBW.out, KeepBut.trans HK2.out (KeepBut.of_below HBW.out g none) (.inl rfl)⟩
end Go.Proofs.YtndekeigagjfiaaDoor

namespace Go.Proofs
open Go.Shelf
def Tryd.lays169_ren : Go.Shelf.Ren := ⟨fun | 169 => 37 | n => n, fun | 70 => 66 | 9 => 9 | 0 => 0 | 72 => 68 | 37 => 52 | 127 => 92 | 3 => 3 | 5 => 5 | n => n, fun | n => n⟩
theorem Tryd.lays169 : Go.Proofs.Lays.n169 Tryd.prog Tryd.lays169_ren := {
  mixed := by kernel_rfl
  f169 := Tryd.func37.trans (congrArg some (by kernel_rfl))
  t0 := Tryd.underlying0
  a0 := Tryd.isAgg0
  z0 := Tryd.sizeOf0
  v0 := Tryd.zeroValue0
  t3 := Tryd.underlying3
  a3 := Tryd.isAgg3
  z3 := Tryd.sizeOf3
  v3 := Tryd.zeroValue3
  t9 := Tryd.underlying9
  a9 := Tryd.isAgg9
  z9 := Tryd.sizeOf9
  v9 := Tryd.zeroValue9
  t37 := Tryd.underlying52
  a37 := Tryd.isAgg52
  z37 := Tryd.sizeOf52
  v37 := Tryd.zeroValue52
  t70 := Tryd.underlying66
  a70 := Tryd.isAgg66
  z70 := Tryd.sizeOf66
  v70 := Tryd.zeroValue66
  t72 := Tryd.underlying68
  a72 := Tryd.isAgg68
  z72 := Tryd.sizeOf68
  v72 := Tryd.zeroValue68
  t127 := Tryd.underlying92
  a127 := Tryd.isAgg92
  z127 := Tryd.sizeOf92
  v127 := Tryd.zeroValue92 }
theorem Tryd.Builder_Extra_169 : Builder.Extra Tryd.prog Tryd.lays169_ren := {
  sizeBuilder := by kernel_rfl
  liesBuilder := by kernel_rfl
  t5 := Tryd.underlying5
  a5 := Tryd.isAgg5
  z5 := Tryd.sizeOf5
  v5 := Tryd.zeroValue5
  infoByte := by kernel_rfl
  cellsByte := by kernel_rfl
  sizeByte := by kernel_rfl
  neB5 := by decide }
open Go.RowKit in
theorem Tryd.Builder_String_any (B b : Nat) (l : List UInt8) (w : World) (h : Lib.IsBuilder 68 5 B b (Lib.byteCells l) w) (hBw : B ≤ w.heap.size) :
    Calls Tryd.prog 37 #[.pointer (some ⟨b, 0, none⟩)] w fun e w' => e = .returned (.string ⟨l.toArray⟩) ∧ Below B w w' := Any.Builder_String_any Tryd.lays169 Tryd.Builder_Extra_169 B b l w h hBw
def Tryd.lays165_ren : Go.Shelf.Ren := ⟨fun | 165 => 51 | 240 => 46 | 241 => 56 | 276 => 49 | 277 => 59 | n => n, fun | 70 => 66 | 3 => 3 | 0 => 0 | 4 => 4 | 9 => 9 | 20 => 20 | 72 => 68 | 37 => 52 | 164 => 93 | 5 => 5 | n => n, fun | n => n⟩
theorem Tryd.lays165 : Go.Proofs.Lays.n165 Tryd.prog Tryd.lays165_ren := {
  mixed := by kernel_rfl
  f165 := Tryd.func51.trans (congrArg some (by kernel_rfl))
  f240 := Tryd.func46.trans (congrArg some (by kernel_rfl))
  f241 := Tryd.func56.trans (congrArg some (by kernel_rfl))
  f276 := Tryd.func49.trans (congrArg some (by kernel_rfl))
  f277 := Tryd.func59.trans (congrArg some (by kernel_rfl))
  t0 := Tryd.underlying0
  a0 := Tryd.isAgg0
  z0 := Tryd.sizeOf0
  v0 := Tryd.zeroValue0
  t3 := Tryd.underlying3
  a3 := Tryd.isAgg3
  z3 := Tryd.sizeOf3
  v3 := Tryd.zeroValue3
  t4 := Tryd.underlying4
  a4 := Tryd.isAgg4
  z4 := Tryd.sizeOf4
  v4 := Tryd.zeroValue4
  t9 := Tryd.underlying9
  a9 := Tryd.isAgg9
  z9 := Tryd.sizeOf9
  v9 := Tryd.zeroValue9
  t20 := Tryd.underlying20
  a20 := Tryd.isAgg20
  z20 := Tryd.sizeOf20
  v20 := Tryd.zeroValue20
  t37 := Tryd.underlying52
  a37 := Tryd.isAgg52
  z37 := Tryd.sizeOf52
  v37 := Tryd.zeroValue52
  t70 := Tryd.underlying66
  a70 := Tryd.isAgg66
  z70 := Tryd.sizeOf66
  v70 := Tryd.zeroValue66
  t72 := Tryd.underlying68
  a72 := Tryd.isAgg68
  z72 := Tryd.sizeOf68
  v72 := Tryd.zeroValue68
  t164 := Tryd.underlying93
  a164 := Tryd.isAgg93
  z164 := Tryd.sizeOf93
  v164 := Tryd.zeroValue93 }
theorem Tryd.Builder_Extra_165 : Builder.Extra Tryd.prog Tryd.lays165_ren := {
  sizeBuilder := by kernel_rfl
  liesBuilder := by kernel_rfl
  t5 := Tryd.underlying5
  a5 := Tryd.isAgg5
  z5 := Tryd.sizeOf5
  v5 := Tryd.zeroValue5
  infoByte := by kernel_rfl
  cellsByte := by kernel_rfl
  sizeByte := by kernel_rfl
  neB5 := by decide }
open Go.RowKit in
theorem Tryd.Builder_Grow_fresh (B b n : Nat) (w : World) (hB : B ≤ b) (hbk : w.heap[b]? = some (.cells #[.pointer none, .slice none 0 0] 68 (0, 0))) (hBw : B ≤ w.heap.size) (hn : n ≤ 281474976710656) :
    Calls Tryd.prog 51 #[.pointer (some ⟨b, 0, none⟩), .int .i64 n] w fun e w' => e = .returned (.tuple #[]) ∧ (Lib.BuilderAt 68 5 B b (.pointer (some ⟨b, 0, none⟩)) [] w' ∧ Below B w w') := Any.Builder_Grow_fresh Tryd.lays165 Tryd.Builder_Extra_165 B b n w hB hbk hBw hn
def Tryd.lays143_ren : Go.Shelf.Ren := ⟨fun | 143 => 52 | 219 => 57 | 217 => 60 | 225 => 61 | 224 => 62 | 267 => 63 | 266 => 64 | 314 => 65 | n => n, fun | 9 => 9 | 3 => 3 | 4 => 4 | 5 => 5 | 46 => 77 | 146 => 107 | 51 => 106 | n => n, fun | 1 => 0 | n => n⟩
theorem Tryd.lays143 : Go.Proofs.Lays.n143 Tryd.prog Tryd.lays143_ren := {
  mixed := by kernel_rfl
  f143 := Tryd.func52.trans (congrArg some (by kernel_rfl))
  f217 := Tryd.func60.trans (congrArg some (by kernel_rfl))
  f219 := Tryd.func57.trans (congrArg some (by kernel_rfl))
  f224 := Tryd.func62.trans (congrArg some (by kernel_rfl))
  f225 := Tryd.func61.trans (congrArg some (by kernel_rfl))
  f266 := Tryd.func64.trans (congrArg some (by kernel_rfl))
  f267 := Tryd.func63.trans (congrArg some (by kernel_rfl))
  f314 := Tryd.func65.trans (congrArg some (by kernel_rfl))
  t3 := Tryd.underlying3
  a3 := Tryd.isAgg3
  z3 := Tryd.sizeOf3
  v3 := Tryd.zeroValue3
  t4 := Tryd.underlying4
  a4 := Tryd.isAgg4
  z4 := Tryd.sizeOf4
  v4 := Tryd.zeroValue4
  t5 := Tryd.underlying5
  a5 := Tryd.isAgg5
  z5 := Tryd.sizeOf5
  v5 := Tryd.zeroValue5
  t9 := Tryd.underlying9
  a9 := Tryd.isAgg9
  z9 := Tryd.sizeOf9
  v9 := Tryd.zeroValue9
  t46 := Tryd.underlying77
  a46 := Tryd.isAgg77
  z46 := Tryd.sizeOf77
  v46 := Tryd.zeroValue77
  t51 := Tryd.underlying106
  a51 := Tryd.isAgg106
  z51 := Tryd.sizeOf106
  v51 := Tryd.zeroValue106
  t146 := Tryd.underlying107
  a146 := Tryd.isAgg107
  z146 := Tryd.sizeOf107
  v146 := Tryd.zeroValue107
  g1 := by kernel_rfl }
open Go.RowKit Go.Lib in
theorem Tryd.strings_Index_one (s : ByteArray) (c : UInt8) (w : World) :
    Calls Tryd.prog 52 #[.string s, .string ⟨#[c]⟩] w fun e w' => e = .returned (.int .i64 (Lib.indexByte s.data.toList c)) ∧ w' = w := Any.strings_Index_one Tryd.lays143 s c w
def Tryd.lays138_ren : Go.Shelf.Ren := ⟨fun | 138 => 50 | 195 => 54 | 218 => 55 | 143 => 52 | 219 => 57 | 217 => 60 | 225 => 61 | 224 => 62 | 267 => 63 | 266 => 64 | 314 => 65 | n => n, fun | 9 => 9 | 3 => 3 | 4 => 4 | 5 => 5 | 0 => 0 | 46 => 77 | 146 => 107 | 51 => 106 | n => n, fun | 1 => 0 | n => n⟩
theorem Tryd.lays138 : Go.Proofs.Lays.n138 Tryd.prog Tryd.lays138_ren := {
  mixed := by kernel_rfl
  f138 := Tryd.func50.trans (congrArg some (by kernel_rfl))
  f143 := Tryd.func52.trans (congrArg some (by kernel_rfl))
  f195 := Tryd.func54.trans (congrArg some (by kernel_rfl))
  f217 := Tryd.func60.trans (congrArg some (by kernel_rfl))
  f218 := Tryd.func55.trans (congrArg some (by kernel_rfl))
  f219 := Tryd.func57.trans (congrArg some (by kernel_rfl))
  f224 := Tryd.func62.trans (congrArg some (by kernel_rfl))
  f225 := Tryd.func61.trans (congrArg some (by kernel_rfl))
  f266 := Tryd.func64.trans (congrArg some (by kernel_rfl))
  f267 := Tryd.func63.trans (congrArg some (by kernel_rfl))
  f314 := Tryd.func65.trans (congrArg some (by kernel_rfl))
  t0 := Tryd.underlying0
  a0 := Tryd.isAgg0
  z0 := Tryd.sizeOf0
  v0 := Tryd.zeroValue0
  t3 := Tryd.underlying3
  a3 := Tryd.isAgg3
  z3 := Tryd.sizeOf3
  v3 := Tryd.zeroValue3
  t4 := Tryd.underlying4
  a4 := Tryd.isAgg4
  z4 := Tryd.sizeOf4
  v4 := Tryd.zeroValue4
  t5 := Tryd.underlying5
  a5 := Tryd.isAgg5
  z5 := Tryd.sizeOf5
  v5 := Tryd.zeroValue5
  t9 := Tryd.underlying9
  a9 := Tryd.isAgg9
  z9 := Tryd.sizeOf9
  v9 := Tryd.zeroValue9
  t46 := Tryd.underlying77
  a46 := Tryd.isAgg77
  z46 := Tryd.sizeOf77
  v46 := Tryd.zeroValue77
  t51 := Tryd.underlying106
  a51 := Tryd.isAgg106
  z51 := Tryd.sizeOf106
  v51 := Tryd.zeroValue106
  t146 := Tryd.underlying107
  a146 := Tryd.isAgg107
  z146 := Tryd.sizeOf107
  v146 := Tryd.zeroValue107
  g1 := by kernel_rfl }
open Go.RowKit Go.Lib in
theorem Tryd.strings_Count_one (s : ByteArray) (c : UInt8) (w : World) :
    Calls Tryd.prog 50 #[.string s, .string ⟨#[c]⟩] w fun e w' => e = .returned (.int .i64 (Lib.countByte s.data.toList c)) ∧ w' = w := Any.strings_Count_one Tryd.lays138 s c w
def Tryd.lays166_ren : Go.Shelf.Ren := ⟨fun | 166 => 35 | 240 => 46 | 276 => 49 | n => n, fun | 0 => 0 | 3 => 3 | 4 => 4 | 9 => 9 | 20 => 20 | 37 => 52 | 70 => 66 | 72 => 68 | 75 => 70 | 80 => 60 | 164 => 93 | 5 => 5 | n => n, fun | n => n⟩
theorem Tryd.lays166 : Go.Proofs.Lays.n166 Tryd.prog Tryd.lays166_ren := {
  mixed := by kernel_rfl
  f166 := Tryd.func35.trans (congrArg some (by kernel_rfl))
  f240 := Tryd.func46.trans (congrArg some (by kernel_rfl))
  f276 := Tryd.func49.trans (congrArg some (by kernel_rfl))
  t0 := Tryd.underlying0
  a0 := Tryd.isAgg0
  z0 := Tryd.sizeOf0
  v0 := Tryd.zeroValue0
  t3 := Tryd.underlying3
  a3 := Tryd.isAgg3
  z3 := Tryd.sizeOf3
  v3 := Tryd.zeroValue3
  t4 := Tryd.underlying4
  a4 := Tryd.isAgg4
  z4 := Tryd.sizeOf4
  v4 := Tryd.zeroValue4
  t9 := Tryd.underlying9
  a9 := Tryd.isAgg9
  z9 := Tryd.sizeOf9
  v9 := Tryd.zeroValue9
  t20 := Tryd.underlying20
  a20 := Tryd.isAgg20
  z20 := Tryd.sizeOf20
  v20 := Tryd.zeroValue20
  t37 := Tryd.underlying52
  a37 := Tryd.isAgg52
  z37 := Tryd.sizeOf52
  v37 := Tryd.zeroValue52
  t70 := Tryd.underlying66
  a70 := Tryd.isAgg66
  z70 := Tryd.sizeOf66
  v70 := Tryd.zeroValue66
  t72 := Tryd.underlying68
  a72 := Tryd.isAgg68
  z72 := Tryd.sizeOf68
  v72 := Tryd.zeroValue68
  t75 := Tryd.underlying70
  a75 := Tryd.isAgg70
  z75 := Tryd.sizeOf70
  v75 := Tryd.zeroValue70
  t164 := Tryd.underlying93
  a164 := Tryd.isAgg93
  z164 := Tryd.sizeOf93
  v164 := Tryd.zeroValue93 }
theorem Tryd.Builder_Extra_166 : Builder.Extra Tryd.prog Tryd.lays166_ren := {
  sizeBuilder := by kernel_rfl
  liesBuilder := by kernel_rfl
  t5 := Tryd.underlying5
  a5 := Tryd.isAgg5
  z5 := Tryd.sizeOf5
  v5 := Tryd.zeroValue5
  infoByte := by kernel_rfl
  cellsByte := by kernel_rfl
  sizeByte := by kernel_rfl
  neB5 := by decide }
open Go.RowKit in
theorem Tryd.Builder_WriteString (B b : Nat) (bs : List Value) (s : ByteArray) (w : World) (h : Lib.IsBuilder 68 5 B b bs w) (hlen : bs.length + s.size ≤ 140737488355328) (hBw : B ≤ w.heap.size) :
    Calls Tryd.prog 35 #[.pointer (some ⟨b, 0, none⟩), .string s] w fun e w' => e = .returned (.tuple #[.int .i64 s.size, .nilIface]) ∧ (Lib.BuilderAt 68 5 B b (.pointer (some ⟨b, 0, none⟩)) (bs ++ Lib.strCells s) w' ∧ Below B w w') := Any.Builder_WriteString Tryd.lays166 Tryd.Builder_Extra_166 B b bs s w h hlen hBw
end Go.Proofs

namespace Go.Proofs.YtndekeigagjfiaaDoor
open Go.RowKit Go.Proofs.YtndekeigagjfiaaDoorW.PrintWords Go.Proofs.YtndekeigagjfiaaDoorW.PrintLast
def esc : List UInt8 → List UInt8
  | [] => []
  | c :: l => if c = 0 then 0 :: 255 :: esc l else c :: esc l
def keyB : List ByteArray → List UInt8
  | [] => []
  | s :: l => esc s.data.toList ++ 0 :: 1 :: keyB l
theorem esc_length (l : List UInt8) : (esc l).length = l.length + l.count 0 := by
  induction l with
  | nil => rfl
  | cons c l ih =>
    unfold esc
    by_cases h : c = 0
    · subst h; rw [if_pos rfl]; simp [ih]; omega
    · rw [if_neg h, List.count_cons_of_ne h]; simp [ih]; omega
theorem esc_none (l : List UInt8) (h : l.count 0 = 0) : esc l = l := by
  induction l with
  | nil => rfl
  | cons c l ih =>
    unfold esc
    by_cases hc : c = 0
    · subst hc; simp at h
    · rw [if_neg hc]; rw [List.count_cons_of_ne hc] at h; rw [ih h]
theorem esc_hit (g : Nat) (l : List UInt8) (h : l.count 0 = g + 1) : ∃ j : Nat, Lib.indexByte l 0 = j ∧ j < l.length ∧ esc l = l.take j ++ 0 :: 255 :: esc (l.drop (j + 1)) ∧ (l.drop (j + 1)).count 0 = g := by
  induction l with
  | nil => simp at h
  | cons c l ih =>
    by_cases hc : c = 0
    · subst hc
      refine ⟨0, by simp [Lib.indexByte], by simp, by simp [esc], ?_⟩
      simp at h ⊢
      exact h
    · rw [List.count_cons_of_ne hc] at h
      obtain ⟨j, h1, h2, h3, h4⟩ := ih h
      refine ⟨j + 1, ?_, by simp; omega, ?_, by simpa using h4⟩
      · unfold Lib.indexByte
        have e1 : (c == 0) = false := by simpa using hc
        have e2 : (Lib.indexByte l 0 == -1) = false := by rw [h1]; exact beq_eq_false_iff_ne.2 (by omega)
        rw [e1, e2, h1]; simp
      · rw [esc, if_neg hc, h3]; simp
set_option maxHeartbeats 8000000 in
set_option maxRecDepth 1000000 in
theorem replace0 (s : ByteArray) (w : World) (hlen : s.size + s.data.toList.count 0 ≤ 140737488355328) :
    Calls Tryd.prog 47 #[.string s, .string ⟨#[0]⟩, .string ⟨#[0, 255]⟩, .int .i64 (-1)] w fun e w' => e = .returned (.string ⟨(esc s.data.toList).toArray⟩) ∧ Below w.heap.size w w' := by
  obtain ⟨K, hK⟩ : ∃ K : Nat, s.data.toList.count 0 = K := ⟨_, rfl⟩
  have hC := Tryd.strings_Count_one s 0 w
  rw [show Lib.countByte s.data.toList 0 = K from hK] at hC
  rw [hK] at hlen
  have hKn := Aside0.mk hK
  clear hK
  by_cases hz : K = 0
  · subst hz
    have hC0 : Calls Tryd.prog 50 #[.string s, .string ⟨#[0]⟩] w fun e w' => e = .returned (.int .i64 0) ∧ w' = w := hC
    clear hC
    go_enter Tryd.func47, Tryd.ntmps47
    go_wp2_with (first | (go_at_call 50; refine hC0.mono ?_; rintro e w' ⟨rfl, hw⟩; rw [hw]))
    go_ret
    refine ⟨?_, Below.refl _ _⟩
    rw [esc_none _ hKn.out, Lib.mk_data]
    rfl
  · have hcz : ((K : Int) == 0) = false := beq_eq_false_iff_ne.2 (by omega)
    have hK1 : 0 < K := by omega
    clear hz
    go_enter Tryd.func47, Tryd.ntmps47
    go_wp2_with (first | (go_at_call 50; refine hC.mono ?_; rintro e w' ⟨rfl, hw⟩; rw [hw]))
    clear hC
    rw [show (s.size : Int) + (K : Int) = ((s.size + K : Nat) : Int) by omega]
    refine (Tryd.Builder_Grow_fresh w.heap.size w.heap.size _ _ (Nat.le_refl _) (heap_alloc_new w _) (by simp) (by omega)).mono ?_
    rintro e w1 ⟨rfl, hb0, hb1⟩
    have H1 := Aside0.mk (Or.inr hb0 : Lib.IsBuilder 68 5 w.heap.size w.heap.size (Lib.byteCells []) w1)
    have Hb1 := Aside0.mk (((Below.refl w.heap.size w).alloc (Nat.le_refl _) _).trans hb1)
    clear hb0 hb1
    go_wp2_with fail
    go_loopg [11, 53] K (fun g s11 s53 wx => ∃ (i start : Nat) (acc : List UInt8), s53 = .int .i64 i ∧ s11 = .int .i64 start ∧ i + g = K ∧ start ≤ s.size ∧
      Aside0 (Lib.IsBuilder 68 5 w.heap.size w.heap.size (Lib.byteCells acc) wx) ∧ Aside0 (Below w.heap.size w wx) ∧ Aside0 (acc ++ esc (s.data.toList.drop start) = esc s.data.toList) ∧
      Aside0 ((s.data.toList.drop start).count 0 = g) ∧ acc.length + (s.size - start) + g ≤ s.size + K)
    case atStart => exact ⟨0, 0, [], rfl, rfl, by omega, Nat.zero_le _, H1, Hb1, ⟨by simp⟩, ⟨by simpa using hKn.out⟩, by simp⟩
    case round =>
      obtain ⟨i, start, acc, rfl, rfl, hig, hst, HB, HW, HR, HG, hbd⟩ := hrel
      have hBw : w.heap.size ≤ wr.heap.size := HW.out.size
      have c1 : (0 : Int) ≤ (start : Int) := by omega
      have c2 : (start : Int) ≤ (s.size : Int) := by omega
      cases gk with
      | zero =>
        have hiK : ¬ ((i : Int) < (K : Int)) := by omega
        go_wp2_with fail
        refine (Tryd.Builder_WriteString w.heap.size w.heap.size _ _ wr HB.out (by rw [Lib.byteCells_length, ByteArray.size_extract]; omega) hBw).mono ?_
        rintro e w3 ⟨rfl, h3, hb3⟩
        rw [Lib.strCells_eq, Lib.extract_to_end, ← Lib.byteCells_append] at h3
        have hfin : acc ++ s.data.toList.drop start = esc s.data.toList := by rw [← HR.out, esc_none _ HG.out]
        rw [hfin] at h3
        have H3 := Aside0.mk (Or.inr h3 : Lib.IsBuilder 68 5 w.heap.size w.heap.size _ w3)
        have Hb3 := Aside0.mk (HW.out.trans hb3)
        have hBw3 : w.heap.size ≤ w3.heap.size := Hb3.out.size
        clear h3 hb3 hfin
        go_wp2_with fail
        refine (Tryd.Builder_String_any w.heap.size w.heap.size _ w3 H3.out hBw3).mono ?_
        rintro e w5 ⟨rfl, hb5⟩
        have Hb5 := Aside0.mk (Hb3.out.trans hb5)
        clear hb5
        go_wp2
        go_ret
        exact ⟨rfl, Hb5.out⟩
      | succ g =>
        have hiK : (i : Int) < (K : Int) := by omega
        obtain ⟨j, hj, hjl, hje, hjc⟩ := esc_hit g _ HG.out
        have hlenL : s.data.toList.length = s.size := (Lib.size_eq s).symm
        have hroom : j + 1 ≤ s.size - start := by
          rw [List.length_drop, hlenL] at hjl
          omega
        have c3 : (start : Int) ≤ (start : Int) + (j : Int) := by omega
        have c4 : (start : Int) + (j : Int) ≤ (s.size : Int) := by omega
        have hnext : Lib.byteCells acc ++ Lib.strCells (s.extract start (start + j)) ++ Lib.strCells ⟨#[0, 255]⟩ = Lib.byteCells (acc ++ (s.data.toList.drop start).take j ++ [0, 255]) := by
          rw [Lib.strCells_eq, Lib.strCells_eq, Lib.extract_data, Nat.add_sub_cancel_left, ← Lib.byteCells_append, ← Lib.byteCells_append]
        have hrep : (acc ++ (s.data.toList.drop start).take j ++ [0, 255]) ++ esc (s.data.toList.drop (start + j + 1)) = esc s.data.toList := by
          rw [← HR.out, hje, List.drop_drop]
          simp only [List.append_assoc, Nat.add_assoc, List.cons_append, List.nil_append]
        have hcnt : (s.data.toList.drop (start + j + 1)).count 0 = g := by
          rw [List.drop_drop] at hjc
          exact hjc
        have htl : ((s.data.toList.drop start).take j).length = j := by rw [List.length_take, List.length_drop, hlenL]; omega
        have Hn := Aside0.mk hnext
        have Hrep := Aside0.mk hrep
        have Hcnt := Aside0.mk hcnt
        have Htl := Aside0.mk htl
        have Hj := Aside0.mk hj
        clear hnext hrep HR hcnt htl hj hje hjc hjl hlenL HG
        go_wp2_with (first | (go_at_call 52; refine (Tryd.strings_Index_one _ 0 _).mono ?_; rintro e w' ⟨rfl, hw⟩; rw [hw, Lib.extract_to_end, Hj.out]))
        refine (Tryd.Builder_WriteString w.heap.size w.heap.size _ (s.extract start (start + j)) wr HB.out (by rw [Lib.byteCells_length, ByteArray.size_extract]; omega) hBw).mono ?_
        rintro e w3 ⟨rfl, h3, hb3⟩
        have hBw3 : w.heap.size ≤ w3.heap.size := Nat.le_trans hBw hb3.size
        have H3 := Aside0.mk h3
        have Hb3 := Aside0.mk hb3
        clear h3 hb3
        go_wp2_with fail
        refine (Tryd.Builder_WriteString w.heap.size w.heap.size _ ⟨#[0, 255]⟩ w3 (Or.inr H3.out) (by rw [List.length_append, Lib.byteCells_length, Lib.strCells_length, ByteArray.size_extract, show (⟨#[0, 255]⟩ : ByteArray).size = 2 from rfl]; omega) hBw3).mono ?_
        rintro e w4 ⟨rfl, h4, hb4⟩
        rw [Hn.out] at h4
        have H4 := Aside0.mk (Or.inr h4 : Lib.IsBuilder 68 5 w.heap.size w.heap.size _ w4)
        have Hb4 := Aside0.mk ((HW.out.trans Hb3.out).trans hb4)
        clear h4 hb4
        go_wp2
        go_roundg g
        case measure => omega
        case rel => exact ⟨i + 1, start + j + 1, _, by first | rfl | (simp; unfold wrap64; omega), by first | rfl | simp | (simp; unfold wrap64; omega), by omega, by omega, H4, Hb4, Hrep, Hcnt, by simp only [List.length_append, Htl.out, List.length_cons, List.length_nil]; omega⟩
set_option maxHeartbeats 4000000 in
set_option maxRecDepth 1000000 in
theorem replaceAll0 (s : ByteArray) (w : World) (hlen : s.size + s.data.toList.count 0 ≤ 140737488355328) :
    Calls Tryd.prog 36 #[.string s, .string ⟨#[0]⟩, .string ⟨#[0, 255]⟩] w fun e w' => e = .returned (.string ⟨(esc s.data.toList).toArray⟩) ∧ Below w.heap.size w w' := by
  have c := replace0 s w hlen
  go_enter Tryd.func36, Tryd.ntmps36
  go_wp2_with (go_at_call 47; refine c.mono ?_; rintro e w' ⟨rfl, hw⟩)
  go_ret
  exact ⟨rfl, hw⟩
theorem size_of_toArray (l : List UInt8) : (⟨l.toArray⟩ : ByteArray).size = l.length := by
  show l.toArray.size = _
  simp
theorem fresh_builder (w : World) : Lib.IsBuilder 68 5 w.heap.size w.heap.size (Lib.byteCells []) (w.alloc (.cells #[.pointer none, .slice none 0 0] 68)) := Lib.fresh_isBuilder _ _ w
theorem isBuilder_below {T e : TypeId} {B b : Nat} {bs : List Value} {w w1 : World} (h : Lib.IsBuilder T e B b bs w) (hb : Below w.heap.size w w1) : Lib.IsBuilder T e B b bs w1 := by
  have k : ∀ p, Lib.BuilderAt T e B b p bs w → Lib.BuilderAt T e B b p bs w1 := by
    rintro p ⟨hB, v, h1, h2, h3⟩
    exact ⟨hB, v, kbl h1 hb, ⟨h2.1, h2.2.imp id fun ⟨g, cap, cur, e1, e2, e3, r⟩ => ⟨g, cap, cur, e1, e2, kbl e3 hb, r⟩⟩, h3⟩
  exact h.imp (k _) (k _)
theorem keyB_append (a b : List ByteArray) : keyB (a ++ b) = keyB a ++ keyB b := by
  induction a with
  | nil => rfl
  | cons s a ih => simp [keyB, ih]
def codec_Key.f (l : List ByteArray) : Option ByteArray := if (keyB l).length ≤ 140737488351232 then some ⟨(keyB l).toArray⟩ else none
set_option maxHeartbeats 4000000 in
set_option maxRecDepth 1000000 in
theorem codec_Key.calls (A0 : Option Addr) (c0 : Nat) (l0 : List ByteArray) (r : ByteArray) (w : World) (hr0 : Kd.C Kd.string w A0 l0.length l0) (_hc0 : l0.length ≤ c0) (h : codec_Key.f l0 = some r) :
    Calls Tryd.prog 11 #[.slice A0 l0.length c0] w fun e w' => e = .returned (.string r) ∧ Below w.heap.size w w' := by
  unfold codec_Key.f at h
  by_cases c : (keyB l0).length ≤ 140737488351232
  rotate_left
  · rw [if_neg c] at h; cases h
  rw [if_pos c] at h
  obtain rfl := Option.some.inj h
  clear h
  have HC0 := Aside0.mk c
  have HR := Aside0.mk hr0
  have hll : l0.length ≤ 9223372036854775807 := Kd.C_max hr0
  clear hr0 c
  go_enter Tryd.func11, Tryd.ntmps11
  go_wp2_with fail
  have HB0 := Aside0.mk (fresh_builder w)
  have HL0 := Aside0.mk ((Below.refl w.heap.size w).alloc (Nat.le_refl _) (.cells #[.pointer none, .slice none 0 0] 68))
  go_loopw [8] (fun v8 wr => ∃ i : Nat, v8 = .int .i64 i ∧ i ≤ l0.length ∧ Aside0 (Lib.IsBuilder 68 5 w.heap.size w.heap.size (Lib.byteCells (keyB (l0.take i))) wr) ∧ Aside0 (Below w.heap.size w wr)) (fun v8 _ => l0.length - (intOf v8).toNat)
  case atStart => exact ⟨0, rfl, Nat.zero_le _, by simpa [keyB] using HB0, HL0⟩
  case round =>
    obtain ⟨i, rfl, hi, HB, HL⟩ := hrel
    clear HB0 HL0
    have hBw : w.heap.size ≤ wr.heap.size := HL.out.size
    by_cases c1 : i < l0.length
    · have hC := Kd.C_below HR.out HL.out
      have hp : (0 : Int) ≤ (i : Int) := by omega
      have hq : (i : Int) < (l0.length : Int) := by omega
      obtain ⟨ad, e1, hx⟩ := Kd.at_string hC (i : Int) hp hq
      cases e1
      have he : rdOf ByteArray.empty l0 (i : Int) = l0[i] := by simp [rdOf, List.getD_eq_getElem?_getD, c1]
      rw [he, Int.toNat_natCast] at hx
      obtain ⟨t, ht⟩ : ∃ t, t = l0[i] := ⟨_, rfl⟩
      rw [← ht] at hx
      have hk1 : keyB (l0.take (i + 1)) = keyB (l0.take i) ++ (esc t.data.toList ++ [0, 1]) := by
        rw [List.take_succ_eq_append_getElem c1, keyB_append, ← ht]; rfl
      have hk2 : (keyB (l0.take i)).length + (esc t.data.toList).length + 2 ≤ 140737488351232 := by
        have h1 := HC0.out
        have h2 : keyB l0 = keyB (l0.take (i + 1)) ++ keyB (l0.drop (i + 1)) := by rw [← keyB_append, List.take_append_drop]
        rw [h2, List.length_append, hk1, List.length_append, List.length_append] at h1
        simp only [List.length_cons, List.length_nil] at h1
        omega
      have hr := replaceAll0 t wr (by rw [esc_length] at hk2; rw [Lib.size_eq]; omega)
      have HK1 := Aside0.mk hk1
      have HK2 := Aside0.mk hk2
      have HT := Aside0.mk ht
      clear hk1 hk2 ht he hp hq hC
      go_wp2_with (go_at_call 36; refine hr.mono ?_; rintro e w1 ⟨rfl, hb1⟩)
      have HB1 := Aside0.mk (isBuilder_below HB.out hb1)
      have HL1 := Aside0.mk (bsp HL.out hb1)
      have hBw1 : w.heap.size ≤ w1.heap.size := HL1.out.size
      clear hr hb1
      refine (Tryd.Builder_WriteString w.heap.size w.heap.size _ ⟨(esc t.data.toList).toArray⟩ w1 HB1.out (by rw [Lib.byteCells_length, size_of_toArray]; have := HK2.out; omega) hBw1).mono ?_
      rintro e w3 ⟨rfl, h3, hb3⟩
      have HL3 := Aside0.mk (HL1.out.trans hb3)
      have hBw3 : w.heap.size ≤ w3.heap.size := HL3.out.size
      have H3 := Aside0.mk h3
      clear h3 hb3
      go_wp2_with fail
      refine (Tryd.Builder_WriteString w.heap.size w.heap.size _ ⟨#[0, 1]⟩ w3 (Or.inr H3.out) (by rw [List.length_append, Lib.byteCells_length, Lib.strCells_length, size_of_toArray, show (⟨#[0, 1]⟩ : ByteArray).size = 2 from rfl]; have := HK2.out; omega) hBw3).mono ?_
      rintro e w4 ⟨rfl, h4, hb4⟩
      have HL4 := Aside0.mk (HL3.out.trans hb4)
      have H4 : Aside0 (Lib.IsBuilder 68 5 w.heap.size w.heap.size (Lib.byteCells (keyB (l0.take (i + 1)))) w4) := ⟨by
        rw [HK1.out, Lib.byteCells_append, Lib.byteCells_append, ← List.append_assoc]
        exact Or.inr h4⟩
      clear h4 hb4
      go_wp2
      go_roundw
      case rel => exact ⟨i + 1, by go_num, by omega, H4, HL4⟩
      case measure => simp [intOf]; omega
    · obtain rfl : i = l0.length := by omega
      rw [List.take_length] at HB
      go_wp2_with fail
      refine (Tryd.Builder_String_any w.heap.size w.heap.size _ wr HB.out hBw).mono ?_
      rintro e w5 ⟨rfl, hb5⟩
      have HL5 := Aside0.mk (HL.out.trans hb5)
      clear hb5
      go_wp2
      go_ret
      exact ⟨rfl, HL5.out⟩
end Go.Proofs.YtndekeigagjfiaaDoor

namespace Go.Proofs.YtndekeigagjfiaaDoor
open Go.RowKit Go.Proofs.YtndekeigagjfiaaDoorW.PrintWords Go.Proofs.YtndekeigagjfiaaDoorW.PrintLast Go.Proofs.YtndekeigagjfiaaDoorW.PrintMore
theorem blk_putf {w : World} {g : Nat} {t : TypeId} {cs : Array Value} (h : w.heap[g]? = some (.cells cs t (0, 0))) (i : Nat) (u : Value) : (w.setCell ⟨g, i, none⟩ u).heap[g]? = some (.cells (cs.setIfInBounds i u) t (0, 0)) := kpt h i u rfl
theorem blk_fara {w : World} {g : Nat} {t : TypeId} {cs : Array Value} {p : Addr} {u : Value} (h : w.heap[g]? = some (.cells cs t (0, 0))) (hp : Aside0 (g ≠ p.block)) : (w.setCell p u).heap[g]? = some (.cells cs t (0, 0)) := blk_far h hp.out u
theorem bt_ {w : World} {g : Nat} {t : TypeId} {cs cs' : Array Value} (h : w.heap[g]? = some (.cells cs t (0, 0))) (e : cs = cs') : w.heap[g]? = some (.cells cs' t (0, 0)) := e ▸ h
theorem bk_ {w : World} {g : Nat} {o : Obj} (h : w.heap[g]? = some o := by
    first
    | (with_reducible repeat (first | refine kdn ?_ _ | refine kdw ?_ | refine kal ?_ _ | refine blk_far ?_ (Aside0.out (by with_reducible assumption)) _)
       exact Aside0.out (by with_reducible assumption))
    | (apply bt_
       · with_reducible repeat (first | refine kdn ?_ _ | refine kdw ?_ | refine kal ?_ _ | apply blk_putf | (apply blk_fara; case hp => with_reducible assumption))
         exact Aside0.out (by with_reducible assumption)
       · rfl)) : w.heap[g]? = some o := h
theorem bl_ {b : Nat} {w W : World} (h : Below b w W := by
    repeat (first | (with_reducible first | exact Aside0.out (by with_reducible assumption) | apply bal | apply bdn | apply bd1 | refine bst ?_ (Aside0.out (by with_reducible assumption))) | exact Aside0.out (by with_reducible assumption))) : Below b w W := h
theorem er_ {p : Prop} (h : p := by first | rfl | (simp [errW_none, errW_some] <;> rfl) | (simp [*, errW_none, errW_some] <;> rfl)) : p := h
theorem ar_ {p : Prop} (h : p := by (try simp only [List.map_toArray, List.map_cons, List.map_nil]); first | done | rfl | (simp only [List.length_drop, List.length_take]; rfl)) : p := h
section
variable {w : World} {g : Nat} {t : TypeId} {a b c d e f k l : Value}
end
end Go.Proofs.YtndekeigagjfiaaDoor

