import Derived.Test.YtjiblcncadekcaaQAxPLx1
import Derived.Test.YtjiblcncadekcaaQAxMOutU
import Derived.Test.YtjiblcncadekcaaQAxWWords
import Derived.Test.YtjiblcncadekcaaQAxWMore
namespace Go.Proofs.Ytjiblcncadekcaa
open Go.RowKit Go.Proofs.YtjiblcncadekcaaW.PrintWords Go.Proofs.YtjiblcncadekcaaW.PrintLast Go.Proofs.YtjiblcncadekcaaW.PrintMore PL
def beN (n : Nat) (l : List UInt8) : Nat := l.foldl (fun n c => (n * 256 + c.toNat) % 18446744073709551616) n
def codec_In_U.f (s : ByteArray) (e : Int) : Option (Int × ByteArray × Int) :=
  (codec_In_take.f s e 1).bind fun a =>
    if a.2.2 ≠ 0 then some (0, a.2.1, a.2.2)
    else if a.1.size = 0 then none
    else if (a.1.data.toList.getD 0 0).toNat > 8 then (codec_In_Fail.f a.2.1 a.2.2 2).bind fun b => some (0, b.1, b.2)
    else (codec_In_take.f a.2.1 a.2.2 ((a.1.data.toList.getD 0 0).toNat : Int)).bind fun b =>
      if b.1.size ≠ 0 ∧ b.1.data.toList.getD 0 0 = 0 then (codec_In_Fail.f b.2.1 b.2.2 2).bind fun c => some (0, c.1, c.2)
      else if b.1.size ≤ 140737488351232 then some ((beN 0 b.1.data.toList : Nat), b.2.1, b.2.2) else none
theorem byte_at (k : ByteArray) (i : Nat) (h : i < k.size) : k[i]'h = k.data.toList.getD i 0 := by
  show k.data[i]'h = _
  have h2 : i < k.data.size := h
  rw [List.getD_eq_getElem?_getD, List.getElem?_eq_getElem (by rw [Array.length_toList]; exact h2)]
  simp
theorem toList_size (s : ByteArray) : s.toList.length = s.size := by
  rw [show s.toList = s.data.toList from ByteArray.toList_eq s, Array.length_toList]
  rfl
theorem wrap_u64 (n : Int) : IntKind.u64.wrap n = n % 18446744073709551616 := by simp [IntKind.wrap, IntKind.bits, IntKind.signed]
theorem shl_or (n c : Nat) (hc : c < 256) : Go.bits .or .u64 (IntKind.u64.wrap ((n : Int) * 256)) (c : Int) = (((n * 256 + c) % 18446744073709551616 : Nat) : Int) := by
  rw [wrap_u64]
  have h := bits_join .u64 64 (by decide) (fun n h0 h1 => by rw [wrap_u64]; omega) 8 ((n : Int) * 256 % 18446744073709551616) (c : Int) (by omega) (by omega) (by omega) (by omega) (by omega) (by omega)
  rw [h]
  omega
theorem beN_take (l : List UInt8) (i : Nat) (h : i < l.length) : beN 0 (l.take (i + 1)) = (beN 0 (l.take i) * 256 + (l.getD i 0).toNat) % 18446744073709551616 := by
  unfold beN
  rw [List.take_succ_eq_append_getElem h, List.foldl_append, List.getD_eq_getElem?_getD, List.getElem?_eq_getElem h]
  rfl
set_option maxHeartbeats 1000000 in
theorem codec_In_U.calls (g : Nat) (s0_0 : ByteArray) (s0_1 : Int) (r1 : Int) (r2 : ByteArray) (r3 : Int) (w0 w : World) (hI : IsS117 w0 w g s0_0 s0_1) (hB : Below w0.heap.size w0 w) (h : codec_In_U.f s0_0 s0_1 = some (r1, r2, r3)) :
    Calls Try.prog 60 #[.pointer (some ⟨g, 0, none⟩)] w fun e w' => e = .returned (.int .u64 r1) ∧ IsS117 w0 w' g r2 r3 ∧ Below w0.heap.size w0 w' ∧ KeepBut w w' g none := by
  unfold codec_In_U.f at h
  obtain ⟨⟨k, s1, e1⟩, hk, h⟩ := Option.bind_eq_some_iff.mp h
  simp only at h
  have HA := Aside0.mk hk
  have H := Aside0.mk h
  have HI := Aside0.mk hI
  have HB := Aside0.mk hB
  clear hI hB hk h
  go_enter Try.func60, Try.ntmps60
  go_wp2_with fail
  refine (codec_In_take.calls g s0_0 s0_1 1 k s1 e1 w0 w HI.out HB.out HA.out).mono ?_
  rintro e w1 ⟨rfl, hi, hb, hk1⟩
  have hG := hi.1
  have hc0 := (kcl hG 0).trans rfl
  have hc1 := (kcl hG 1).trans rfl
  have HI1 := Aside0.mk hi
  have HB1 := Aside0.mk hb
  have HK1 := Aside0.mk hk1
  clear hi hb hk1 hG
  by_cases c1 : e1 = 0
  rotate_left
  · have c1' : (e1 != 0) = true := by simpa using c1
    have c1'' : (e1 == 0) = false := by simpa using c1
    have h := H.out
    rw [if_pos c1] at h
    simp only [Option.some.injEq, Prod.mk.injEq] at h
    obtain ⟨rfl, rfl, rfl⟩ := h
    clear H c1
    go_wp2
    go_ret
    exact ⟨rfl, HI1.out, HB1.out, HK1.out⟩
  · subst c1
    have h := H.out
    rw [if_neg (by decide)] at h
    clear H
    by_cases c2 : k.size = 0
    · rw [if_pos c2] at h; cases h
    · rw [if_neg c2] at h
      have hk0 : 0 < k.size := by omega
      obtain ⟨b, hbb⟩ : ∃ b : Nat, b = (k.data.toList.getD 0 0).toNat := ⟨_, rfl⟩
      have hb8 : b < 256 := by rw [hbb]; exact UInt8.toNat_lt _
      have hx0 : ∀ hh : 0 < k.size, ((k[0]'hh).toNat : Int) = (b : Int) := by
        intro hh
        rw [hbb, byte_at k 0 hh]
      rw [← hbb] at h
      have hz1 : ((0 : Int) != 0) = false := rfl
      clear hbb
      by_cases c3 : b > 8
      · rw [if_pos c3] at h
        obtain ⟨⟨s2, e2⟩, hf, h⟩ := Option.bind_eq_some_iff.mp h
        simp only [Option.some.injEq, Prod.mk.injEq] at h
        obtain ⟨rfl, rfl, rfl⟩ := h
        have HF := Aside0.mk hf
        clear hf
        have c3' : (8 : Int) < (b : Int) := by omega
        go_wp2_with fail
        refine (codec_In_Fail.calls g s1 0 2 s2 e2 w0 w1 HI1.out HB1.out HF.out).mono ?_
        rintro e w2 ⟨rfl, hi, hb, hk1⟩
        go_wp2
        go_ret
        exact ⟨rfl, hi, hb, KeepBut.trans HK1.out hk1 (.inl rfl)⟩
      · rw [if_neg c3] at h
        obtain ⟨⟨s, s2, e2⟩, ht, h⟩ := Option.bind_eq_some_iff.mp h
        simp only at h
        have HT := Aside0.mk ht
        have H := Aside0.mk h
        clear ht h
        have c3' : ¬ (8 : Int) < (b : Int) := by omega
        go_wp2_with fail
        refine (codec_In_take.calls g s1 0 (b : Int) s s2 e2 w0 w1 HI1.out HB1.out HT.out).mono ?_
        rintro e w2 ⟨rfl, hi, hb, hk1⟩
        have HI2 := Aside0.mk hi
        have HB2 := Aside0.mk hb
        have HK2 := Aside0.mk (KeepBut.trans HK1.out hk1 (.inl rfl))
        clear hi hb hk1 hc0 hc1
        have kc := fun w => Lib.run_convert_string_bytes (P := Try.prog) w 9 89 5 s Try.underlying9 Try.underlying89 Try.underlying5
        by_cases c5 : s.size ≠ 0 ∧ s.data.toList.getD 0 0 = 0
        · have h := H.out
          rw [if_pos c5] at h
          obtain ⟨⟨s3, e3⟩, hf, h⟩ := Option.bind_eq_some_iff.mp h
          simp only [Option.some.injEq, Prod.mk.injEq] at h
          obtain ⟨rfl, rfl, rfl⟩ := h
          have HF := Aside0.mk hf
          have h0 : 0 < s.size := by omega
          have h1 : ¬ s.toList = [] := fun e => by have := toList_size s; rw [e] at this; simp at this; omega
          have h2 : (!s.toList.isEmpty) = true := by simpa using h1
          have hx1 : ∀ hh : 0 < s.size, ((s[0]'hh).toNat : Int) = (0 : Int) := by
            intro hh
            rw [byte_at s 0 hh, c5.2]
            rfl
          clear hf c5 H kc
          go_wp2_with fail
          refine (codec_In_Fail.calls g s2 e2 2 s3 e3 w0 w2 HI2.out HB2.out HF.out).mono ?_
          rintro e w3 ⟨rfl, hi, hb, hk1⟩
          go_wp2
          go_ret
          exact ⟨rfl, hi, hb, KeepBut.trans HK2.out hk1 (.inl rfl)⟩
        · have h := H.out
          rw [if_neg c5] at h
          by_cases c6 : s.size ≤ 140737488351232
          rotate_left
          · rw [if_neg c6] at h; cases h
          rw [if_pos c6] at h
          simp only [Option.some.injEq, Prod.mk.injEq] at h
          obtain ⟨rfl, rfl, rfl⟩ := h
          have HR0 := Aside0.mk (ByteRow.of_conv w2 5 s)
          have HBW := Aside0.mk (below_conv w2 5 s)
          obtain ⟨f0, hf0⟩ : ∃ f0 : Nat, f0 = (s.data.toList.getD 0 0).toNat := ⟨_, rfl⟩
          have hx1 : ∀ hh : 0 < s.size, ((s[0]'hh).toNat : Int) = (f0 : Int) := by
            intro hh
            rw [byte_at s 0 hh, hf0]
          have hcase : s.toList = [] ∨ (0 < s.size ∧ ¬ s.toList = [] ∧ (!s.toList.isEmpty) = true ∧ ((f0 : Int) == 0) = false) := by
            by_cases c7 : s.size = 0
            · left
              have := toList_size s
              exact List.eq_nil_of_length_eq_zero (by omega)
            · right
              have h1 : ¬ s.toList = [] := fun e => by have := toList_size s; rw [e] at this; simp at this; omega
              refine ⟨by omega, h1, by simpa using h1, ?_⟩
              have h3 : ¬ s.data.toList.getD 0 0 = 0 := fun e => c5 ⟨c7, e⟩
              have h4 : f0 ≠ 0 := fun e => h3 (by rw [hf0] at e; exact UInt8.toNat_inj.1 e)
              simpa using h4
          clear c5 H hf0
          rcases hcase with h1 | ⟨h0, h1, h2, h3⟩
          all_goals
            go_wp2_with fail
            generalize Lib.bytesWorld w2 5 s = W at HR0 HBW ⊢
            generalize grownCap w2 s.size 0 5 = cap
            clear kc
            go_loop [5, 37] (fun v5 v37 => ∃ i n : Nat, v37 = .int .i64 i ∧ v5 = .int .u64 n ∧ i ≤ s.size ∧ Aside0 (n = beN 0 (s.data.toList.take i)) ∧ Aside0 (n < 18446744073709551616)) (fun _ v37 => s.size - (intOf v37).toNat)
            case atStart => exact ⟨0, 0, rfl, rfl, Nat.zero_le _, ⟨rfl⟩, ⟨by decide⟩⟩
            case round =>
              obtain ⟨i, n, rfl, rfl, hi, HN, HL⟩ := hrel
              by_cases c8 : i < s.size
              · have hl8 : i < s.data.toList.length := by rw [data_length]; exact c8
                have hcell := HR0.out.cell i hl8
                obtain ⟨c, hc⟩ : ∃ c : Nat, c = (s.data.toList.getD i 0).toNat := ⟨_, rfl⟩
                have hc8 : c < 256 := by rw [hc]; exact UInt8.toNat_lt _
                rw [← hc] at hcell
                have hor : Go.bits .or .u64 (IntKind.u64.wrap ((n : Int) * 256)) (c : Int) = (((n * 256 + c) % 18446744073709551616 : Nat) : Int) := by
                  rw [shl_or n c hc8]
                have HOR := Aside0.mk hor
                have HC := Aside0.mk hc
                clear hor hc
                go_wp2
                go_round
                case rel => exact ⟨i + 1, (n * 256 + c) % 18446744073709551616, by go_num, by rw [HOR.out], by omega, ⟨by rw [beN_take _ _ hl8, ← HN.out, HC.out]⟩, ⟨Nat.mod_lt _ (by decide)⟩⟩
                case measure => simp [intOf]; omega
              · obtain rfl : i = s.size := by omega
                have hn := HN.out
                rw [← data_length s, List.take_length] at hn
                subst hn
                go_wp2
                go_ret
                exact ⟨rfl, HI2.out.below HBW.out, bsp HB2.out HBW.out, KeepBut.trans HK2.out (KeepBut.of_below HBW.out g none) (.inl rfl)⟩
end Go.Proofs.Ytjiblcncadekcaa

namespace Go.Proofs.Ytjiblcncadekcaa
open Go.RowKit Go.Proofs.YtjiblcncadekcaaW.PrintWords Go.Proofs.YtjiblcncadekcaaW.PrintLast Go.Proofs.YtjiblcncadekcaaW.PrintMore
theorem blk_putf {w : World} {g : Nat} {t : TypeId} {cs : Array Value} (h : w.heap[g]? = some (.cells cs t (0, 0))) (i : Nat) (u : Value) : (w.setCell ⟨g, i, none⟩ u).heap[g]? = some (.cells (cs.setIfInBounds i u) t (0, 0)) := kpt h i u rfl
theorem blk_fara {w : World} {g : Nat} {t : TypeId} {cs : Array Value} {p : Addr} {u : Value} (h : w.heap[g]? = some (.cells cs t (0, 0))) (hp : Aside0 (g ≠ p.block)) : (w.setCell p u).heap[g]? = some (.cells cs t (0, 0)) := blk_far h hp.out u
theorem bt_ {w : World} {g : Nat} {t : TypeId} {cs cs' : Array Value} (h : w.heap[g]? = some (.cells cs t (0, 0))) (e : cs = cs') : w.heap[g]? = some (.cells cs' t (0, 0)) := e ▸ h
theorem bk_ {w : World} {g : Nat} {o : Obj} (h : w.heap[g]? = some o := by
    first
    | (with_reducible repeat (first | refine kdn ?_ _ | refine kdw ?_ | refine kal ?_ _ | refine blk_far ?_ (Aside0.out (by with_reducible assumption)) _)
       exact Aside0.out (by with_reducible assumption))
    | (apply bt_
       · with_reducible repeat (first | refine kdn ?_ _ | refine kdw ?_ | refine kal ?_ _ | apply blk_putf | (apply blk_fara; case hp => with_reducible assumption))
         exact Aside0.out (by with_reducible assumption)
       · rfl)) : w.heap[g]? = some o := h
theorem bl_ {b : Nat} {w W : World} (h : Below b w W := by
    repeat (first | (with_reducible first | exact Aside0.out (by with_reducible assumption) | apply bal | apply bdn | apply bd1 | refine bst ?_ (Aside0.out (by with_reducible assumption))) | exact Aside0.out (by with_reducible assumption))) : Below b w W := h
theorem er_ {p : Prop} (h : p := by first | rfl | (simp [errW_none, errW_some] <;> rfl) | (simp [*, errW_none, errW_some] <;> rfl)) : p := h
theorem ar_ {p : Prop} (h : p := by (try simp only [List.map_toArray, List.map_cons, List.map_nil]); first | done | rfl | (simp only [List.length_drop, List.length_take]; rfl)) : p := h
section
variable {w : World} {g : Nat} {t : TypeId} {a b c d e f k l : Value}
theorem bc2 (h : w.heap[g]? = some (.cells #[a, b] t (0, 0))) : w.cell? ⟨g, 0, none⟩ = some a ∧ w.frozen? ⟨g, 0, none⟩ = false ∧ w.cell? ⟨g, 1, none⟩ = some b ∧ w.frozen? ⟨g, 1, none⟩ = false := ⟨kcl h 0, kfr h 0, kcl h 1, kfr h 1⟩
theorem bc3 (h : w.heap[g]? = some (.cells #[a, b, c] t (0, 0))) : w.cell? ⟨g, 0, none⟩ = some a ∧ w.frozen? ⟨g, 0, none⟩ = false ∧ w.cell? ⟨g, 1, none⟩ = some b ∧ w.frozen? ⟨g, 1, none⟩ = false ∧ w.cell? ⟨g, 2, none⟩ = some c ∧ w.frozen? ⟨g, 2, none⟩ = false := ⟨kcl h 0, kfr h 0, kcl h 1, kfr h 1, kcl h 2, kfr h 2⟩
theorem bc4 (h : w.heap[g]? = some (.cells #[a, b, c, d] t (0, 0))) : w.cell? ⟨g, 0, none⟩ = some a ∧ w.frozen? ⟨g, 0, none⟩ = false ∧ w.cell? ⟨g, 1, none⟩ = some b ∧ w.frozen? ⟨g, 1, none⟩ = false ∧ w.cell? ⟨g, 2, none⟩ = some c ∧ w.frozen? ⟨g, 2, none⟩ = false ∧ w.cell? ⟨g, 3, none⟩ = some d ∧ w.frozen? ⟨g, 3, none⟩ = false := ⟨kcl h 0, kfr h 0, kcl h 1, kfr h 1, kcl h 2, kfr h 2, kcl h 3, kfr h 3⟩
theorem bc5 (h : w.heap[g]? = some (.cells #[a, b, c, d, e] t (0, 0))) : w.cell? ⟨g, 0, none⟩ = some a ∧ w.frozen? ⟨g, 0, none⟩ = false ∧ w.cell? ⟨g, 1, none⟩ = some b ∧ w.frozen? ⟨g, 1, none⟩ = false ∧ w.cell? ⟨g, 2, none⟩ = some c ∧ w.frozen? ⟨g, 2, none⟩ = false ∧ w.cell? ⟨g, 3, none⟩ = some d ∧ w.frozen? ⟨g, 3, none⟩ = false ∧ w.cell? ⟨g, 4, none⟩ = some e ∧ w.frozen? ⟨g, 4, none⟩ = false := ⟨kcl h 0, kfr h 0, kcl h 1, kfr h 1, kcl h 2, kfr h 2, kcl h 3, kfr h 3, kcl h 4, kfr h 4⟩
end
theorem bl_irrefl (x : List UInt8) : Op.bytesLess x x = false := by
  induction x with
  | nil => rfl
  | cons a x ih => simp [Op.bytesLess, ih, UInt8.lt_irrefl]
theorem bl_gt {x : List UInt8} : ∀ {y : List UInt8}, Op.bytesLess y x = true → Op.bytesLess x y = false := by
  induction x with
  | nil => intro y h; cases y <;> simp [Op.bytesLess] at h
  | cons a x ih =>
    intro y h
    cases y with
    | nil => rfl
    | cons b y =>
      simp only [Op.bytesLess, Bool.or_eq_true, decide_eq_true_eq, Bool.and_eq_true, beq_iff_eq] at h
      simp only [Op.bytesLess, Bool.or_eq_false_iff, decide_eq_false_iff_not, Bool.and_eq_false_iff]
      rcases h with h | ⟨h, h2⟩
      · exact ⟨fun h2 => absurd (UInt8.lt_trans h h2) (UInt8.lt_irrefl _), .inl (by rw [beq_eq_false_iff_ne]; rintro rfl; exact UInt8.lt_irrefl _ h)⟩
      · subst h; exact ⟨UInt8.lt_irrefl _, .inr (ih h2)⟩
theorem bl_ne {x y : List UInt8} (h : Op.bytesLess y x = true) : (x == y) = false := by
  rw [beq_eq_false_iff_ne]; rintro rfl; rw [bl_irrefl] at h; cases h
theorem bl_tot {x : List UInt8} : ∀ {y : List UInt8}, ¬ (Op.bytesLess y x = true) → (Op.bytesLess x y || x == y) = true := by
  induction x with
  | nil => intro y h; cases y <;> simp [Op.bytesLess]
  | cons a x ih =>
    intro y h
    cases y with
    | nil => simp [Op.bytesLess] at h
    | cons b y =>
      simp only [Op.bytesLess, Bool.or_eq_true, decide_eq_true_eq, Bool.and_eq_true, beq_iff_eq, not_or, not_and] at h
      by_cases e : a = b
      · subst e
        have := ih (h.2 rfl)
        simp only [Bool.or_eq_true, beq_iff_eq] at this
        rcases this with h3 | h3
        · simp [Op.bytesLess, h3]
        · simp [h3]
      · have : a < b := by
          rcases UInt8.lt_or_lt_of_ne e with h3 | h3
          · exact h3
          · exact absurd h3 h.1
        simp [Op.bytesLess, this]
theorem bl_le {x y : List UInt8} (h : ¬ (Op.bytesLess y x = true)) : (Op.bytesLess x y || x == y) = true := bl_tot h
theorem bl_and {x y : List UInt8} (h : ¬ (Op.bytesLess y x = true)) : ((!Op.bytesLess x y) = true ∧ (!x == y) = true) = False := by
  have := bl_tot h
  simp only [Bool.or_eq_true] at this
  apply eq_false
  rintro ⟨h1, h2⟩
  rcases this with h3 | h3
  · rw [h3] at h1; cases h1
  · rw [h3] at h2; cases h2
theorem bl_bb {x y : List UInt8} (h : ¬ (Op.bytesLess y x = true)) : (!Op.bytesLess x y && !x == y) = false := by
  have := bl_tot h
  simp only [Bool.or_eq_true] at this
  rcases this with h3 | h3 <;> simp [h3]
theorem bl_nn {x y : List UInt8} (h : ¬ (Op.bytesLess y x = true)) : (!(Op.bytesLess x y || x == y)) = false := by rw [bl_tot h]; rfl
theorem bl_yy {x y : List UInt8} (h : Op.bytesLess y x = true) : (!(Op.bytesLess x y || x == y)) = true := by rw [bl_gt h, bl_ne h]; rfl
theorem bl_leq (x y : List UInt8) : (Op.bytesLess x y || x == y) = !Op.bytesLess y x := by
  cases h : Op.bytesLess y x with
  | true => rw [bl_gt h, bl_ne h]; rfl
  | false => rw [bl_tot (by rw [h]; decide)]; rfl
section
variable {P : Program} {ops : Array Oper} {rest : List Oper} {o : Oper} {a : Act} {Q : Exit → Act → World → Prop}
theorem bx_ {W : World} {N : Tmp} {cs : Array Value} {t : TypeId} (h : ∀ g, g = W.heap.size → ∀ w1, w1.heap[g]? = some (.cells cs t (0, 0)) → Below W.heap.size W w1 → wpList P ops Q rest (a.put o.dst (.pointer (some ⟨g, 0, none⟩))) w1) (hd : o.dst = some N := by rfl) (hgd : o.guard = none := by rfl) (hrun : (execOp a.eval o).run P W = .ok (.value (.pointer (some ⟨W.heap.size, 0, none⟩))) (W.alloc (.cells cs t (0, 0))) := by first | (go_simp; done) | (go_simp; rfl)) : wpList P ops Q (o :: rest) a W := bev hgd hd hrun h
end
end Go.Proofs.Ytjiblcncadekcaa

