import Derived.Test.YtfllpmmfjbjgoaaQRsFCB
import Derived.Test.YtfllpmmfjbjgoaaQRsPAx3
import Derived.Test.YtfllpmmfjbjgoaaQRsFO
import Derived.Test.YtfllpmmfjbjgoaaQRsPAx2
import Derived.Test.YtfllpmmfjbjgoaaQRsPAx0
import Derived.Test.YtfllpmmfjbjgoaaQRsPAx6
import Derived.Test.YtfllpmmfjbjgoaaQRsMCrcMath
namespace Go.Proofs.Ytfllpmmfjbjgoaa.PA
open Go.RowKit Go.Proofs.YtfllpmmfjbjgoaaW.PrintWords Go.Proofs.YtfllpmmfjbjgoaaW.PrintLast Go.Proofs.YtfllpmmfjbjgoaaW.PrintMore Go.Proofs.Ytfllpmmfjbjgoaa Go.Proofs.Ytfllpmmfjbjgoaa.PL CrcM
set_option linter.unusedSimpArgs false
def secB (n m : Int) (d : ByteArray) : List UInt8 := numB n.toNat ++ numB m.toNat ++ strB d
def pad60 (l : List UInt8) : List UInt8 := l ++ List.replicate (60 - l.length) 0
def tx (n m : Int) (d : ByteArray) : ByteArray := sealB ⟨(pad60 (secB n m d)).toArray⟩
def FitS (n m : Int) (d : ByteArray) : Prop := n ≤ 1099511627776 ∧ 0 ≤ m ∧ m ≤ 255 ∧ d.size ≤ 44
theorem secB_length (n m : Int) (d : ByteArray) (h : FitS n m d) : (numB n.toNat).length ≤ 7 ∧ (numB m.toNat).length ≤ 2 ∧ (strB d).length ≤ 46 ∧ (secB n m d).length ≤ 55 := by
  obtain ⟨h1, h2, h3, h4⟩ := h
  have e : ∀ k j, nlen k ≤ j → (numB k).length ≤ j + 1 := fun k j hk => by rw [numB, List.length_cons, digs_length]; omega
  have l1 := e n.toNat 6 (nlen_le 6 _ (by have : (256 : Nat) ^ 6 = 281474976710656 := by decide
                                          omega))
  have l2 := e m.toNat 1 (nlen_le 1 _ (by omega))
  have l3 := e d.size 1 (nlen_le 1 _ (by omega))
  have l4 : (strB d).length ≤ 46 := by unfold strB; rw [List.length_append, ← ba_size]; omega
  refine ⟨l1, l2, l4, ?_⟩
  unfold secB
  rw [List.length_append, List.length_append]; omega
theorem pad60_length (l : List UInt8) (h : l.length ≤ 60) : (pad60 l).length = 60 := by
  unfold pad60; rw [List.length_append, List.length_replicate]; omega
theorem tx_size (n m : Int) (d : ByteArray) (h : FitS n m d) : (tx n m d).size = 64 := by
  unfold tx
  rw [sealB_size, ba_mk_size, pad60_length _ (by have := (secB_length n m d h).2.2.2; omega)]
theorem zeros_str (n : Nat) : strOfNums (List.replicate n 0) = ⟨(List.replicate n (0 : UInt8)).toArray⟩ := by
  refine bytes_ext ?_
  rw [strOfNums_data]
  simp
theorem text_f (n m : Int) (d : ByteArray) (h : FitS n m d) : Ev (fun k => stamp_Sector_Text.f k n m d) (tx n m d) := by
  have hl := secB_length n m d h
  obtain ⟨h1, h2, h3, h4⟩ := h
  have hm : wrap64 m = m := by unfold wrap64; omega
  have e1 := wN2 ⟨#[]⟩ n m (by decide) (by omega) (by omega)
  have e2 := wS1 ⟨(numB n.toNat ++ numB m.toNat).toArray⟩ d (by rw [ba_mk_size, List.length_append]; omega) (by omega)
  rw [show (⟨#[]⟩ : ByteArray).data.toList = [] from rfl, List.nil_append] at e1
  rw [ba_mk] at e2
  have hs : numB n.toNat ++ numB m.toNat ++ strB d = secB n m d := rfl
  rw [hs] at e2
  unfold stamp_Sector_Text.f
  rw [hm]
  simp only [e1, e2, codec_Out_Text.f, Option.bind_some]
  obtain ⟨b, hb⟩ : ∃ b, b = secB n m d := ⟨_, rfl⟩
  have ht : tx n m d = sealB ⟨(pad60 b).toArray⟩ := by rw [hb]; rfl
  rw [ht, ← hb]
  rw [← hb] at hl
  have hbl := hl.2.2.2
  clear hs e2 e1 ht hb hl hm
  have hw : wrap64 (60 - ((⟨b.toArray⟩ : ByteArray).size : Int)) = ((60 - b.length : Nat) : Int) := by rw [ba_mk_size]; unfold wrap64; omega
  have c0 : (0 : Int) ≤ ((60 - b.length : Nat) : Int) := by omega
  have c1 : 60 - b.length ≤ 281474976710656 := by omega
  have hz : (⟨b.toArray⟩ : ByteArray) ++ strOfNums (List.replicate (60 - b.length) 0) = ⟨(pad60 b).toArray⟩ := by
    rw [zeros_str, ba_mk_append]; rfl
  have c2 : (⟨b.toArray⟩ : ByteArray).size + (strOfNums (List.replicate (60 - b.length) 0)).size ≤ 9223372036854775807 := by
    rw [zeros_str, ba_mk_size, ba_mk_size, List.length_replicate]; omega
  have hp := pad60_length b (by omega)
  have c3 : (⟨(cB (sm ⟨(pad60 b).toArray⟩)).toArray⟩ : ByteArray).size + (⟨(pad60 b).toArray⟩ : ByteArray).size ≤ 9223372036854775807 := by rw [ba_mk_size, ba_mk_size, cB_length, hp]; omega
  have e : (⟨(cB (sm ⟨(pad60 b).toArray⟩)).toArray⟩ : ByteArray) ++ (⟨(pad60 b).toArray⟩ : ByteArray) = sealB ⟨(pad60 b).toArray⟩ := bytes_ext (by rw [ba_append]; rfl)
  simp only [hw, if_pos c0, if_pos c1, Int.toNat_natCast, if_pos c2, hz]
  refine Ev.bind (sum_f _ (by rw [ba_mk_size, hp]; omega)) ?_
  simp only [cB_f _ (sm_lt _), Option.bind_some, if_pos c3, e]
  exact Ev.now _
def chkS (n : Int) (d : ByteArray) : Int := if n < 1 ∨ n > 1099511627776 then 18 else if d.size > 44 then 3 else 0
theorem check_k (k : Nat) (n m : Int) (d : ByteArray) : stamp_Sector_Check.f (k + 1) n m d = some (chkS n d) := by
  unfold stamp_Sector_Check.f chkS
  simp only [stamp_Sector_Check.j0]
  by_cases c1 : n < 1
  · simp [c1]
  · by_cases c2 : n > 1099511627776
    · simp [c1, c2]
    · by_cases c3 : d.size > 44
      · have c4 : (d.size : Int) > 44 := by omega
        simp [c1, c2, c3, c4]
      · have c4 : ¬ (d.size : Int) > 44 := by omega
        simp [c1, c2, c3, c4]
theorem check_f (n m : Int) (d : ByteArray) : Ev (fun k => stamp_Sector_Check.f k n m d) (chkS n d) :=
  ⟨1, fun k hk => by obtain ⟨q, rfl⟩ : ∃ q, k = q + 1 := ⟨k - 1, by omega⟩
                     exact check_k q n m d⟩
def pS (a : ByteArray) : Int × Int × ByteArray × Int :=
  if ¬ a.size = 64 then (0, 0, ⟨#[]⟩, 1)
  else if ¬ (a.extract 0 4).data.toList = cB (sm (a.extract 4 a.size)) then (0, 0, ⟨#[]⟩, 5)
  else
    let x := tN (a.extract 4 a.size) 0 1099511627776
    let y := tN x.2.1 x.2.2 255
    let z := tS y.2.1 y.2.2 44
    if ¬ z.2.2 = 0 then (0, 0, ⟨#[]⟩, z.2.2)
    else if x.1 < 1 then (0, 0, ⟨#[]⟩, 2)
    else if (tx x.1 y.1 z.1).data.toList = a.data.toList then (x.1, y.1, z.1, 0) else (0, 0, ⟨#[]⟩, 2)
theorem tS_size (s : ByteArray) (e m : Int) (hm : 0 ≤ m) (hm2 : m < 9223372036854775808) : (tS s e m).1.size ≤ m.toNat := by
  have h := tN_nonneg s e m hm2
  have hx : mx m 0 = m := by unfold mx; split <;> omega
  rw [hx] at h
  have := (tk_size (s := (tN s e m).2.1) (e := (tN s e m).2.2) (n := (tN s e m).1.toNat) (by omega)).2.1
  unfold tS
  omega
theorem mx_pos (m : Int) (h : 0 ≤ m) : mx m 0 = m := by unfold mx; split <;> omega
set_option maxHeartbeats 1000000 in
theorem parse_fit (a : ByteArray) : FitS (tN (a.extract 4 a.size) 0 1099511627776).1 (tN (tN (a.extract 4 a.size) 0 1099511627776).2.1 (tN (a.extract 4 a.size) 0 1099511627776).2.2 255).1 (tS (tN (tN (a.extract 4 a.size) 0 1099511627776).2.1 (tN (a.extract 4 a.size) 0 1099511627776).2.2 255).2.1 (tN (tN (a.extract 4 a.size) 0 1099511627776).2.1 (tN (a.extract 4 a.size) 0 1099511627776).2.2 255).2.2 44).1 := by
  have h1 := tN_nonneg (a.extract 4 a.size) 0 1099511627776 (by decide)
  rw [mx_pos _ (by decide)] at h1
  generalize tN (a.extract 4 a.size) 0 1099511627776 = x at h1 ⊢
  have h2 := tN_nonneg x.2.1 x.2.2 255 (by decide)
  rw [mx_pos _ (by decide)] at h2
  generalize tN x.2.1 x.2.2 255 = y at h2 ⊢
  have h3 := tS_size y.2.1 y.2.2 44 (by decide) (by decide)
  exact ⟨h1.2, h2.1, h2.2, h3⟩
set_option maxHeartbeats 1000000 in
theorem parse_f (a : ByteArray) (_ha : a.size ≤ 1000000) : Ev (fun k => stamp_Parse.f k a) (pS a) := by
  have hfit := parse_fit a
  unfold stamp_Parse.f pS
  by_cases c : a.size = 64
  rotate_left
  · have c' : ¬ (a.size : Int) = 64 := by omega
    rw [if_pos c]
    simp only [if_neg c']
    exact Ev.now _
  have c' : (a.size : Int) = 64 := by omega
  have c1 : (4 : Int) ≤ (a.size : Int) := by omega
  have c0 : (0 : Int) ≤ 4 := by decide
  have hz : (a.extract 4 a.size).size ≤ 1000000 := by rw [ba_size, ba_extract, List.length_take, List.length_drop, ← ba_size]; omega
  have hv : Val (a.extract 4 a.size) 0 := ⟨by omega, fun h => absurd rfl h⟩
  rw [if_neg (fun h => h c)]
  simp only [if_pos c', if_pos c1, if_pos c0]
  refine Ev.bind (sum_f _ hz) ?_
  simp only [cB_f _ (sm_lt _), Option.bind_some, ba_toList, ba_mk]
  by_cases e : (a.extract 0 4).data.toList = cB (sm (a.extract 4 a.size))
  rotate_left
  · rw [if_pos e]
    simp only [if_neg e]
    exact Ev.now _
  rw [if_neg (fun h => h e)]
  simp only [if_pos e, codec_Read.f, Option.bind_some]
  have h1 := tN_f _ 0 1099511627776 hv
  have v1 := hv.tN 1099511627776
  have h2 := tN_f _ _ 255 v1
  have v2 := v1.tN 255
  have h3 := tS_f _ _ 44 v2 (by decide)
  simp only [h1, h2, h3, Option.bind_some, codec_In_Err.f]
  generalize tN (a.extract 4 a.size) 0 1099511627776 = x at hfit ⊢
  generalize tN x.2.1 x.2.2 255 = y at hfit ⊢
  generalize tS y.2.1 y.2.2 44 = z at hfit ⊢
  have hy : y.1 % 256 = y.1 := by have := hfit.2.1; have := hfit.2.2.1; omega
  by_cases cz : z.2.2 = 0
  rotate_left
  · simp only [if_neg cz, if_pos cz]
    exact Ev.now _
  have cz' : ¬ ¬ z.2.2 = 0 := fun h => h cz
  simp only [if_pos cz, if_neg cz']
  by_cases cx : x.1 < 1
  · simp only [if_pos cx]
    exact Ev.now _
  simp only [if_neg cx, hy]
  refine Ev.bind (text_f _ _ _ hfit) ?_
  by_cases ct : (tx x.1 y.1 z.1).data.toList = a.data.toList
  · simp only [if_pos ct]; exact Ev.now _
  · simp only [if_neg ct]; exact Ev.now _
theorem pS_tx (n m : Int) (d : ByteArray) (h : FitS n m d) (hn : 1 ≤ n) : pS (tx n m d) = (n, m, d, 0) := by
  have hz := tx_size n m d h
  obtain ⟨h1, h2, h3, h4⟩ := h
  have e1 := tN_num n.toNat 1099511627776 (by omega) (by decide) (numB m.toNat ++ (strB d ++ List.replicate (60 - (secB n m d).length) 0))
  have e2 := tN_num m.toNat 255 (by omega) (by decide) (strB d ++ List.replicate (60 - (secB n m d).length) 0)
  have e3 := tS_str d 44 (by omega) (by decide) (List.replicate (60 - (secB n m d).length) 0)
  rw [show ((n.toNat : Nat) : Int) = n by omega] at e1
  rw [show ((m.toNat : Nat) : Int) = m by omega] at e2
  have ht : (tx n m d).extract 4 (tx n m d).size = ⟨(numB n.toNat ++ (numB m.toNat ++ (strB d ++ List.replicate (60 - (secB n m d).length) 0))).toArray⟩ := by
    unfold tx
    rw [sealB_tail]
    unfold pad60
    rw [show secB n m d = numB n.toNat ++ numB m.toNat ++ strB d from rfl]
    simp only [List.append_assoc]
  unfold pS
  rw [if_neg (by simp [hz]), if_neg (by
    unfold tx
    rw [sealB_head, sealB_tail, ba_mk]
    simp)]
  rw [ht, e1]
  dsimp only
  rw [e2]
  dsimp only
  rw [e3]
  dsimp only
  rw [if_neg (by simp), if_neg (by omega), if_pos rfl]
end Go.Proofs.Ytfllpmmfjbjgoaa.PA

namespace Go.Proofs.Ytfllpmmfjbjgoaa.PA
set_option linter.unusedSimpArgs false
open Go.RowKit Go.Proofs.YtfllpmmfjbjgoaaW.PrintWords Go.Proofs.YtfllpmmfjbjgoaaW.PrintLast Go.Proofs.YtfllpmmfjbjgoaaW.PrintMore Go.Proofs.Ytfllpmmfjbjgoaa Go.Proofs.Ytfllpmmfjbjgoaa.PL
def stW (d : Dv) (a n m : Int) (t : ByteArray) : Int × Dv := if chkS n t = 0 then dvWrite d a (tx n m t) else (chkS n t, d)
def stR (d : Dv) (a : Int) : Int × Int × ByteArray × Bool × Int := if (dvRead d a).2 = 0 then ((pS (dvRead d a).1).1, (pS (dvRead d a).1).2.1, (pS (dvRead d a).1).2.2.1, (pS (dvRead d a).1).2.2.2 == 0, 0) else (0, 0, ⟨#[]⟩, false, (dvRead d a).2)
theorem chkS_fit {n m : Int} {t : ByteArray} (h : chkS n t = 0) (h0 : 0 ≤ m) (h1 : m ≤ 255) : FitS n m t ∧ 1 ≤ n := by
  by_cases c1 : n < 1 ∨ n > 1099511627776
  · unfold chkS at h; rw [if_pos c1] at h; exact absurd h (by decide)
  · by_cases c2 : t.size > 44
    · unfold chkS at h; rw [if_neg c1, if_pos c2] at h; exact absurd h (by decide)
    · exact ⟨⟨by omega, h0, h1, by omega⟩, by omega⟩
set_option maxHeartbeats 1000000 in
set_option maxRecDepth 100000 in
theorem stamp_Write.calls (g : Nat) (d : Dv) (a n m : Int) (t : ByteArray) (w0 w : World) (hm : 0 ≤ m ∧ m ≤ 255) (hI : IsDev w0 w g d) (hB : Below w0.heap.size w0 w) (hl : -9223372036854775808 ≤ d.left ∧ d.left < 9223372036854775808) (hn : d.cache.length ≤ 1000000) :
    Calls Try.prog 18 #[.pointer (some ⟨g, 0, none⟩), .int .i64 a, .agg #[.int .i64 n, .int .u8 m, .string t]] w fun e w' => e = .returned (.int .i64 (stW d a n m t).1) ∧ IsDev w0 w' g (stW d a n m t).2 ∧ Below w0.heap.size w0 w' ∧ DevKeep w w' g := by
  have HI := Aside0.mk hI
  have HB := Aside0.mk hB
  obtain ⟨k1, hc⟩ := Ev.rounds (check_f n m t)
  have HC := Aside0.mk hc
  clear hI hB hc
  obtain ⟨o, ho⟩ : ∃ o : Obj, o = .cells #[.int .i64 n, .int .u8 m, .string t] 41 := ⟨_, rfl⟩
  have hA : Below w.heap.size w (w.alloc o) := bal (Below.refl _ _) o
  have HA := Aside0.mk hA
  clear hA
  have hb0 : (w.alloc o).heap[w.heap.size]? = some o := World.alloc_heap_new w o
  unfold stW
  by_cases q : chkS n t = 0
  · obtain ⟨hf, -⟩ := chkS_fit q hm.1 hm.2
    have htx := tx_size n m t hf
    obtain ⟨k2, hT⟩ := Ev.rounds (text_f n m t hf)
    have HT := Aside0.mk hT
    have HZ := Aside0.mk htx
    rw [if_pos q]
    rw [q] at HC
    clear hT htx hf q
    generalize tx n m t = x at HT HZ ⊢
    go_enter Try.func18, Try.ntmps18
    go_wp2_with fail
    refine (stamp_Sector_Check.calls k1 n m t 0 _ HC.out).mono ?_
    rintro e w1 ⟨rfl, hD⟩
    rw [← ho] at hD
    have hb1 := (hD.block w.heap.size (by simp)).trans hb0
    rw [ho] at hb1
    have c0 := (kcl hb1 0).trans rfl
    have c1 := (kcl hb1 1).trans rfl
    have c2 := (kcl hb1 2).trans rfl
    have HB1 := Aside0.mk (bsp HA.out hD)
    clear hD hb1 hb0
    go_wp2_with fail
    refine (stamp_Sector_Text.calls k2 n m t x _ HT.out).mono ?_
    rintro e w2 ⟨rfl, hD⟩
    have HB2 := Aside0.mk (bsp HB1.out hD)
    clear hD HB1 c0 c1 c2
    go_wp2_with fail
    refine (device_Write.calls g d a x w0 w2 (HI.out.below HB2.out) (HB.out.trans (HB2.out.mono HB.out.size)) hl hn (by have := HZ.out; omega)).mono ?_
    rintro e w3 ⟨rfl, hI3, hB3, hK3⟩
    obtain ⟨vs, vc, hD0⟩ := HI.out
    have HE := Aside0.mk (And.intro hI3 (And.intro hB3 ((DevKeep.of_below hD0.lt HB2.out).trans hK3)))
    clear hI3 hB3 hK3 hD0
    go_wp2
    go_ret
    exact ⟨rfl, HE.out⟩
  · rw [if_neg q]
    have q1 : (chkS n t != 0) = true := bne_iff_ne.2 q
    have q2 : (chkS n t == 0) = false := beq_eq_false_iff_ne.2 q
    clear q
    generalize chkS n t = x at q1 q2 HC ⊢
    go_enter Try.func18, Try.ntmps18
    go_wp2_with fail
    refine (stamp_Sector_Check.calls k1 n m t x _ HC.out).mono ?_
    rintro e w1 ⟨rfl, hD⟩
    rw [← ho] at hD
    have hb1 := (hD.block w.heap.size (by simp)).trans hb0
    rw [ho] at hb1
    have c0 := (kcl hb1 0).trans rfl
    have c1 := (kcl hb1 1).trans rfl
    have c2 := (kcl hb1 2).trans rfl
    have HB1 := Aside0.mk (bsp HA.out hD)
    clear hD hb1 hb0
    obtain ⟨vs, vc, hD0⟩ := HI.out
    have HE := Aside0.mk (And.intro (HI.out.below HB1.out) (And.intro (HB.out.trans (HB1.out.mono HB.out.size)) (DevKeep.of_below hD0.lt HB1.out)))
    clear hD0 c0 c1 c2
    go_wp2
    go_ret
    exact ⟨rfl, HE.out⟩
theorem dvRead_size {d : Dv} {a : Int} (h1 : ∀ x ∈ d.sec, x.size ≤ 1000000) (h2 : ∀ x ∈ d.cache, x.text.size ≤ 1000000) : (dvRead d a).1.size ≤ 1000000 := by
  unfold dvRead
  split
  · exact Nat.zero_le _
  · split
    · exact Nat.zero_le _
    · show (readB d a).size ≤ 1000000
      unfold readB
      cases h : d.cache.reverse.find? (fun x => x.at_ == a) with
      | some x => exact h2 x (List.mem_reverse.1 (List.mem_of_find?_eq_some h))
      | none =>
        show (d.sec.getD a.toNat ByteArray.empty).size ≤ 1000000
        rw [List.getD_eq_getElem?_getD]
        cases h : d.sec[a.toNat]? with
        | some x => exact h1 x (List.mem_of_getElem? h)
        | none => exact Nat.zero_le _
set_option maxHeartbeats 1000000 in
set_option maxRecDepth 100000 in
theorem stamp_Read.calls (g : Nat) (d : Dv) (a : Int) (w0 w : World) (hI : IsDev w0 w g d) (hz : (dvRead d a).1.size ≤ 1000000) :
    Calls Try.prog 37 #[.pointer (some ⟨g, 0, none⟩), .int .i64 a] w fun e w' => e = .returned (.tuple #[.agg #[.int .i64 (stR d a).1, .int .u8 (stR d a).2.1, .string (stR d a).2.2.1], .bool (stR d a).2.2.2.1, .int .i64 (stR d a).2.2.2.2]) ∧ Below w.heap.size w w' := by
  unfold stR
  have HI := Aside0.mk hI
  clear hI
  obtain ⟨x, hx⟩ : ∃ x, x = dvRead d a := ⟨_, rfl⟩
  have HX := Aside0.mk hx
  rw [← hx] at hz ⊢
  clear hx
  obtain ⟨s, e⟩ := x
  dsimp only at hz ⊢
  by_cases q : e = 0
  · subst q
    rw [if_pos rfl]
    have hp := parse_f s hz
    obtain ⟨y, hy⟩ : ∃ y, y = pS s := ⟨_, rfl⟩
    rw [← hy] at hp ⊢
    clear hy
    obtain ⟨n, m, t, f⟩ := y
    obtain ⟨k, hp⟩ := Ev.rounds hp
    have HP := Aside0.mk hp
    clear hp
    dsimp only
    go_enter Try.func37, Try.ntmps37
    go_wp2_with fail
    have hR := device_Read.calls g d a w0 _ (HI.out.below (bal (Below.refl _ _) (.cells #[.int .i64 0, .int .u8 0, .string ⟨#[]⟩] 41)))
    rw [← HX.out] at hR
    dsimp only at hR
    refine hR.mono ?_
    rintro e w1 ⟨rfl, hB⟩
    have hb1 := (hB.block w.heap.size (by simp)).trans (World.alloc_heap_new w _)
    have HA1 := Aside0.mk (bsp (bal (Below.refl _ w) (.cells #[.int .i64 0, .int .u8 0, .string ⟨#[]⟩] 41)) hB)
    clear hB hR
    go_wp2_with fail
    refine (stamp_Parse.calls k s n m t f w1 HP.out).mono ?_
    rintro e w2 ⟨rfl, hB⟩
    have hb2 := (hB.block w.heap.size (blk_lt hb1)).trans hb1
    have hb3 := fun o => (Below.heap_alloc w2 o _ (blk_lt hb2)).trans hb2
    have c0 := fun o => (kcl (hb3 o) 0).trans rfl
    have c1 := fun o => (kcl (hb3 o) 1).trans rfl
    have c2 := fun o => (kcl (hb3 o) 2).trans rfl
    have f0 := fun o => kfr (hb3 o) 0
    have f1 := fun o => kfr (hb3 o) 1
    have f2 := fun o => kfr (hb3 o) 2
    have HA2 := Aside0.mk (bsp HA1.out hB)
    have HB3 := Aside0.mk hb3
    clear hB hb1 hb2 hb3 HA1
    go_wp2
    have hblk : ((((w2.alloc (.cells #[.int .i64 n, .int .u8 m, .string t] 41)).setCell ⟨w.heap.size, 0, none⟩ (.int .i64 n)).setCell ⟨w.heap.size, 1, none⟩ (.int .u8 m)).setCell ⟨w.heap.size, 2, none⟩ (.string t)).heap[w.heap.size]? = some (.cells #[.int .i64 n, .int .u8 m, .string t] 41 (0, 0)) := blk_set (blk_set (blk_set (HB3.out _) 0 _) 1 _) 2 _
    refine bodyPost_ret (results_ctt rfl _ _ w.heap.size 41 #[.int .i64 n, .int .u8 m, .string t] (0, 0) _ rfl hblk Try.underlying41 rfl (by kernel_rfl)) rfl ?_
    exact ⟨rfl, (((bal HA2.out _).setCell (p := ⟨w.heap.size, 0, none⟩) (Nat.le_refl _) _).setCell (p := ⟨w.heap.size, 1, none⟩) (Nat.le_refl _) _).setCell (p := ⟨w.heap.size, 2, none⟩) (Nat.le_refl _) _⟩
  · rw [if_neg q]
    have q1 : (e != 0) = true := bne_iff_ne.2 q
    have q2 : (e == 0) = false := beq_eq_false_iff_ne.2 q
    clear q
    dsimp only
    go_enter Try.func37, Try.ntmps37
    go_wp2_with fail
    have hR := device_Read.calls g d a w0 _ (HI.out.below (bal (Below.refl _ _) (.cells #[.int .i64 0, .int .u8 0, .string ⟨#[]⟩] 41)))
    rw [← HX.out] at hR
    dsimp only at hR
    refine hR.mono ?_
    rintro e w1 ⟨rfl, hB⟩
    have hb1 := (hB.block w.heap.size (by simp)).trans (World.alloc_heap_new w _)
    have HA1 := Aside0.mk (bsp (bal (Below.refl _ w) (.cells #[.int .i64 0, .int .u8 0, .string ⟨#[]⟩] 41)) hB)
    have c0 := (kcl hb1 0).trans rfl
    have c1 := (kcl hb1 1).trans rfl
    have c2 := (kcl hb1 2).trans rfl
    have f0 := kfr hb1 0
    have f1 := kfr hb1 1
    have f2 := kfr hb1 2
    have HB3 := Aside0.mk hb1
    clear hB hR hb1
    go_wp2
    have hblk : (((w1.setCell ⟨w.heap.size, 0, none⟩ (.int .i64 0)).setCell ⟨w.heap.size, 1, none⟩ (.int .u8 0)).setCell ⟨w.heap.size, 2, none⟩ (.string ⟨#[]⟩)).heap[w.heap.size]? = some (.cells #[.int .i64 0, .int .u8 0, .string ⟨#[]⟩] 41 (0, 0)) := blk_set (blk_set (blk_set HB3.out 0 _) 1 _) 2 _
    refine bodyPost_ret (results_ctt rfl _ _ w.heap.size 41 #[.int .i64 0, .int .u8 0, .string ⟨#[]⟩] (0, 0) _ rfl hblk Try.underlying41 rfl (by kernel_rfl)) rfl ?_
    exact ⟨rfl, ((HA1.out.setCell (p := ⟨w.heap.size, 0, none⟩) (Nat.le_refl _) _).setCell (p := ⟨w.heap.size, 1, none⟩) (Nat.le_refl _) _).setCell (p := ⟨w.heap.size, 2, none⟩) (Nat.le_refl _) _⟩
end Go.Proofs.Ytfllpmmfjbjgoaa.PA

namespace Go.Proofs.Ytfllpmmfjbjgoaa.PA
set_option linter.unusedSimpArgs false
open Go.RowKit Go.Proofs.YtfllpmmfjbjgoaaW.PrintWords Go.Proofs.YtfllpmmfjbjgoaaW.PrintLast Go.Proofs.YtfllpmmfjbjgoaaW.PrintMore Go.Proofs.Ytfllpmmfjbjgoaa Go.Proofs.Ytfllpmmfjbjgoaa.PL
structure DI (n k : Nat) (d : Dv) : Prop where
  sec : d.sec.length = n
  ok : DvOk d
  cache : d.cache.length ≤ k
  left : -9223372036854775808 ≤ d.left ∧ d.left < 9223372036854775808
  s1 : ∀ x ∈ d.sec, x.size = 64
  s2 : ∀ x ∈ d.cache, x.text.size = 64
theorem z64_size : Z64.size = 64 := by decide +kernel
theorem pad_size (s : ByteArray) (h : s.size ≤ 64) : (pad s).size = 64 := by
  unfold pad
  rw [ByteArray.size_append, ByteArray.size_extract, z64_size]; omega
theorem DI.new (n : Nat) : DI n 0 (dvNew n) := ⟨by simp [dvNew], fun x hx => (by simp [dvNew] at hx), Nat.zero_le _, by simp only [dvNew]; omega, fun x hx => by simp only [dvNew, List.mem_replicate] at hx; rw [hx.2]; exact z64_size, fun x hx => (by simp [dvNew] at hx)⟩
theorem DI.later {n k k' : Nat} {d : Dv} (h : DI n k d) (hk : k ≤ k') : DI n k' d := ⟨h.sec, h.ok, Nat.le_trans h.cache hk, h.left, h.s1, h.s2⟩
theorem DI.call {n k : Nat} {d : Dv} (h : DI n k d) : DI n k (dvCall d).2 := by
  have hl := h.left
  unfold dvCall
  split
  · exact h
  · split
    · exact ⟨h.sec, h.ok, h.cache, hl, h.s1, h.s2⟩
    · split
      · exact ⟨h.sec, h.ok, h.cache, by simp only; omega, h.s1, h.s2⟩
      · exact ⟨h.sec, h.ok, h.cache, hl, h.s1, h.s2⟩
theorem DI.write {n k : Nat} {d : Dv} (h : DI n k d) (a : Int) (s : ByteArray) : DI n (k + 1) (dvWrite d a s).2 := by
  have hc := h.call
  have hs := h.sec
  unfold dvWrite
  split
  · exact h.later (Nat.le_succ _)
  · rename_i q
    split
    · exact hc.later (Nat.le_succ _)
    · refine ⟨hc.sec, fun x hx => ?_, ?_, hc.left, hc.s1, fun x hx => ?_⟩
      · rcases List.mem_append.1 hx with hx | hx
        · exact hc.ok x hx
        · obtain rfl : x = ⟨a, pad s⟩ := by simpa using hx
          have := hc.sec
          exact ⟨by simp only; omega, by simp only; omega⟩
      · have := hc.cache; simp only [List.length_append, List.length_cons, List.length_nil]; omega
      · rcases List.mem_append.1 hx with hx | hx
        · exact hc.s2 x hx
        · obtain rfl : x = ⟨a, pad s⟩ := by simpa using hx
          exact pad_size s (by omega)
theorem lastB_sizes (ws : List Wr) : ∀ l : List ByteArray, (∀ x ∈ l, x.size = 64) → (∀ x ∈ ws, x.text.size = 64) → ∀ x ∈ lastB l ws, x.size = 64 := by
  induction ws with
  | nil => intro l h _ x hx; exact h x hx
  | cons w ws ih =>
    intro l h h2 x hx
    refine ih (l.set w.at_.toNat w.text) (fun y hy => ?_) (fun y hy => h2 y (List.mem_cons_of_mem _ hy)) x hx
    rcases List.mem_or_eq_of_mem_set hy with hy | rfl
    · exact h y hy
    · exact h2 w List.mem_cons_self
theorem DI.flush {n k : Nat} {d : Dv} (h : DI n k d) : DI n k (dvFlush d).2 := by
  have hc := h.call
  unfold dvFlush
  split
  · exact hc
  · exact ⟨(lastB_length _ _).trans h.sec, fun x hx => (by simp at hx), Nat.zero_le _, hc.left, lastB_sizes _ _ h.s1 h.s2, fun x hx => (by simp at hx)⟩
theorem pick_sub (K : List Int) (l : List Wr) : ∀ x ∈ pick K l, x ∈ l := by
  intro x hx
  unfold pick at hx
  obtain ⟨p, hp, rfl⟩ := List.mem_map.1 hx
  obtain ⟨a, b⟩ := p
  exact (List.mem_zipIdx (List.mem_filter.1 hp).1).2.2 ▸ List.getElem_mem _
theorem DI.crash {n k : Nat} {d : Dv} (h : DI n k d) (K : List Int) : DI n 0 (dvCrash d K) :=
  ⟨(lastB_length _ _).trans h.sec, fun x hx => (by simp [dvCrash] at hx), Nat.le_refl _, by simp only [dvCrash]; omega, lastB_sizes _ _ h.s1 (fun x hx => h.s2 x (pick_sub K _ x hx)), fun x hx => (by simp [dvCrash] at hx)⟩
theorem DI.arm {n k : Nat} {d : Dv} (h : DI n k d) (m : Int) (hm : -9223372036854775808 ≤ m ∧ m < 9223372036854775808) : DI n k { d with left := m } := ⟨h.sec, h.ok, h.cache, hm, h.s1, h.s2⟩
theorem DI.read {n k : Nat} {d : Dv} (h : DI n k d) (a : Int) : (dvRead d a).1.size ≤ 1000000 :=
  dvRead_size (fun x hx => by have := h.s1 x hx; omega) (fun x hx => by have := h.s2 x hx; omega)
theorem DI.stamp {n k : Nat} {d : Dv} (h : DI n k d) (a s m : Int) (t : ByteArray) : DI n (k + 1) (stW d a s m t).2 := by
  unfold stW
  split
  · exact h.write _ _
  · exact h.later (Nat.le_succ _)
structure Lg where
  dev : Dv
  fr : Int
  ln : Int
  hd : Int
  nx : Int
structure LogSt (w0 W : World) (g b : Nat) (l : Lg) : Prop where
  dev : IsDev w0 W g l.dev
  below : Below w0.heap.size w0 W
  ge : w0.heap.size ≤ b
  apart : ¬ Foot W g b
  blk : W.heap[b]? = some (.cells #[.pointer (some ⟨g, 0, none⟩), .int .i64 l.fr, .int .i64 l.ln, .int .i64 l.hd, .int .i64 l.nx] 84 (0, 0))
structure LogKeep (w W : World) (g b : Nat) : Prop where
  kept : Kept w W (fun k => Foot w g k ∨ k = b)
  foot : ∀ k, Foot W g k → Foot w g k ∨ w.heap.size ≤ k
section
variable {w0 w W W1 : World} {g b : Nat} {l : Lg}
theorem LogSt.lt (h : LogSt w0 W g b l) : b < W.heap.size := blk_lt h.blk
theorem LogSt.c0 (h : LogSt w0 W g b l) : W.cell? ⟨b, 0, none⟩ = some (.pointer (some ⟨g, 0, none⟩)) := (kcl h.blk 0).trans rfl
theorem LogSt.c1 (h : LogSt w0 W g b l) : W.cell? ⟨b, 1, none⟩ = some (.int .i64 l.fr) := (kcl h.blk 1).trans rfl
theorem LogSt.c2 (h : LogSt w0 W g b l) : W.cell? ⟨b, 2, none⟩ = some (.int .i64 l.ln) := (kcl h.blk 2).trans rfl
theorem LogSt.c3 (h : LogSt w0 W g b l) : W.cell? ⟨b, 3, none⟩ = some (.int .i64 l.hd) := (kcl h.blk 3).trans rfl
theorem LogSt.c4 (h : LogSt w0 W g b l) : W.cell? ⟨b, 4, none⟩ = some (.int .i64 l.nx) := (kcl h.blk 4).trans rfl
theorem LogSt.fz (h : LogSt w0 W g b l) (i : Nat) : W.frozen? ⟨b, i, none⟩ = false := kfr h.blk i
theorem LogSt.call {d : Dv} (h : LogSt w0 W g b l) (hI : IsDev w0 W1 g d) (hB : Below w0.heap.size w0 W1) (hK : DevKeep W W1 g) : LogSt w0 W1 g b { l with dev := d } :=
  ⟨hI, hB, h.ge, fun hf => (hK.foot b hf).elim h.apart (fun h2 => by have := h.lt; omega), (hK.kept.2 b h.lt h.apart).trans h.blk⟩
theorem LogSt.step (h : LogSt w0 W g b l) (hB : Below W.heap.size W W1) : LogSt w0 W1 g b l := by
  obtain ⟨vs, vc, hD⟩ := h.dev
  exact h.call ⟨vs, vc, hD.below hB⟩ (bsp h.below hB) (DevKeep.of_below hD.lt hB)
theorem LogSt.put {i : Nat} {u : Value} {l2 : Lg} (h : LogSt w0 W g b l) (hs : (#[.pointer (some ⟨g, 0, none⟩), .int .i64 l.fr, .int .i64 l.ln, .int .i64 l.hd, .int .i64 l.nx] : Array Value).setIfInBounds i u = #[.pointer (some ⟨g, 0, none⟩), .int .i64 l2.fr, .int .i64 l2.ln, .int .i64 l2.hd, .int .i64 l2.nx]) (hd : l2.dev = l.dev) :
    LogSt w0 (W.setCell ⟨b, i, none⟩ u) g b l2 := by
  obtain ⟨vs, vc, hD⟩ := h.dev
  have hm : ∀ k, Foot W g k → (W.setCell ⟨b, i, none⟩ u).heap[k]? = W.heap[k]? := fun k hk => Below.heap_setCell W ⟨b, i, none⟩ u k (fun e => h.apart (by cases e; exact hk))
  exact ⟨⟨vs, vc, hd ▸ hD.move hm⟩, h.below.setCell (p := ⟨b, i, none⟩) h.ge u, h.ge, fun hf => h.apart ((foot_same (hm g (.inl rfl)) b).1 hf), by rw [← hs]; exact blk_set h.blk i u⟩
theorem LogKeep.refl (w : World) (g b : Nat) : LogKeep w w g b := ⟨Kept.refl _ _, fun _ h => .inl h⟩
theorem LogKeep.trans (h : LogKeep w W g b) (k : LogKeep W W1 g b) : LogKeep w W1 g b :=
  ⟨h.kept.then_ k.kept (fun x hx => hx.elim (fun hf => (h.foot x hf).elim (fun h1 => .inl (.inl h1)) .inr) (fun e => .inl (.inr e))), fun x hx => (k.foot x hx).elim (h.foot x) (fun h2 => .inr (Nat.le_trans h.kept.1 h2))⟩
theorem LogKeep.of_dev (h : DevKeep w W g) (b : Nat) : LogKeep w W g b := ⟨⟨h.kept.1, fun k hk hs => h.kept.2 k hk (fun hf => hs (.inl hf))⟩, h.foot⟩
theorem LogKeep.of_below (h : LogSt w0 w g b l) (hB : Below w.heap.size w W) : LogKeep w W g b := by
  obtain ⟨vs, vc, hD⟩ := h.dev
  exact LogKeep.of_dev (DevKeep.of_below hD.lt hB) b
theorem LogKeep.put (h : LogSt w0 w g b l) (i : Nat) (u : Value) : LogKeep w (w.setCell ⟨b, i, none⟩ u) g b := by
  obtain ⟨vs, vc, hD⟩ := h.dev
  have hm : ∀ k, k ≠ b → (w.setCell ⟨b, i, none⟩ u).heap[k]? = w.heap[k]? := fun k hk => Below.heap_setCell w ⟨b, i, none⟩ u k hk
  have hg : g ≠ b := fun e => h.apart (.inl e.symm)
  exact ⟨⟨((Below.refl w0.heap.size w).setCell (p := ⟨b, i, none⟩) h.ge u).size, fun k _ hs => hm k (fun e => hs (.inr e))⟩, fun k hf => .inl ((foot_same (hm g hg) k).1 hf)⟩
theorem row_log {α : Type} {k : Kd α} {e base : Nat} {v : Value} {xs : List α} (h : k.R e W base (fun x => ¬ Foot W g x ∧ x ≠ b) v xs) (hK : LogKeep W W1 g b) : k.R e W1 base (fun x => ¬ Foot W1 g x ∧ x ≠ b) v xs := by
  have h1 := Kd.R_bound h
  have h2 := Kd.R_step h1 (w1 := W1) (fun x hx hlt => hK.kept.2 x hlt (fun hs => hs.elim hx.1.1 hx.1.2))
  exact Kd.R_mono h2 (fun x hx => ⟨fun hf => (hK.foot x hf).elim hx.1.1 (fun h3 => by have := hx.2.2.1; omega), hx.1.2⟩)
end
end Go.Proofs.Ytfllpmmfjbjgoaa.PA

namespace Go.Proofs.Ytfllpmmfjbjgoaa.PA
set_option linter.unusedSimpArgs false
open Go.RowKit Go.Proofs.YtfllpmmfjbjgoaaW.PrintWords Go.Proofs.YtfllpmmfjbjgoaaW.PrintLast Go.Proofs.YtfllpmmfjbjgoaaW.PrintMore Go.Proofs.Ytfllpmmfjbjgoaa Go.Proofs.Ytfllpmmfjbjgoaa.PL
theorem wrapI (n : Int) (h : -9223372036854775808 ≤ n ∧ n ≤ 9223372036854775807) : wrap64 n = n := by unfold wrap64; omega
set_option maxHeartbeats 1000000 in
theorem wal_Head.calls (g b : Nat) (l : Lg) (w0 w : World) (h : LogSt w0 w g b l) :
    Calls Try.prog 29 #[.pointer (some ⟨b, 0, none⟩)] w fun e w' => e = .returned (.int .i64 l.hd) ∧ w' = w := by
  have h3 := h.c3
  go_enter Try.func29, Try.ntmps29
  go_wp2
  go_ret
  exact ⟨rfl, rfl⟩
set_option maxHeartbeats 1000000 in
theorem wal_Next.calls (g b : Nat) (l : Lg) (w0 w : World) (h : LogSt w0 w g b l) :
    Calls Try.prog 30 #[.pointer (some ⟨b, 0, none⟩)] w fun e w' => e = .returned (.int .i64 l.nx) ∧ w' = w := by
  have h3 := h.c4
  go_enter Try.func30, Try.ntmps30
  go_wp2
  go_ret
  exact ⟨rfl, rfl⟩
structure LgOk (l : Lg) : Prop where
  ln : 2 ≤ l.ln ∧ l.ln ≤ 1000
  fr : 0 ≤ l.fr ∧ l.fr ≤ 1000
  hd : 1 ≤ l.hd ∧ l.hd ≤ l.nx
  nx : l.nx ≤ l.hd + l.ln ∧ l.nx ≤ 1000000
set_option maxHeartbeats 1000000 in
theorem wal_Free.calls (g b : Nat) (l : Lg) (w0 w : World) (h : LogSt w0 w g b l) (ho : LgOk l) :
    Calls Try.prog 31 #[.pointer (some ⟨b, 0, none⟩)] w fun e w' => e = .returned (.int .i64 (l.ln - (l.nx - l.hd))) ∧ Drawn0 w w' := by
  have h2 : w.cell? ⟨b, 2, none⟩ = some (.int .i64 l.ln) := h.c2
  have h3 : w.cell? ⟨b, 3, none⟩ = some (.int .i64 l.hd) := h.c3
  have h4 : w.cell? ⟨b, 4, none⟩ = some (.int .i64 l.nx) := h.c4
  have e1 : wrap64 (l.nx - l.hd) = l.nx - l.hd := wrapI _ (by have := ho.hd; have := ho.nx; omega)
  have e2 : wrap64 (l.ln - (l.nx - l.hd)) = l.ln - (l.nx - l.hd) := wrapI _ (by have := ho.hd; have := ho.nx; have := ho.ln; omega)
  clear h ho
  go_enter Try.func31, Try.ntmps31
  go_wp2
  go_quiet (fail)
  go_wp2
  go_ret
  exact ⟨by show Ending.returned (.int .i64 (wrap64 (l.ln - (l.nx - l.hd)))) = _; rw [e2], ⟨_, rfl⟩⟩
def chkA (fr ln n : Int) : Int := if ln < 2 ∨ fr < 0 ∨ ln > n ∨ fr > n - ln then 4 else 0
set_option maxHeartbeats 2000000 in
theorem wal_Check.calls (g : Nat) (d : Dv) (fr ln : Int) (w0 w : World) (hI : IsDev w0 w g d) (hn : d.sec.length ≤ 1000000) :
    Calls Try.prog 38 #[.agg #[.int .i64 fr, .int .i64 ln], .pointer (some ⟨g, 0, none⟩)] w fun e w' => e = .returned (.int .i64 (chkA fr ln d.sec.length)) ∧ Below w.heap.size w w' := by
  obtain ⟨vs, vc, hD⟩ := hI
  have hD2 := fun m => (hD.alloc (.cells #[.int .i64 fr, .int .i64 ln] 28)).drewN m
  have hb : (w.alloc (.cells #[.int .i64 fr, .int .i64 ln] 28)).heap[w.heap.size]? = _ := World.alloc_heap_new w (.cells #[.int .i64 fr, .int .i64 ln] 28)
  have HB := Aside0.mk (bal (Below.refl w.heap.size w) (.cells #[.int .i64 fr, .int .i64 ln] 28))
  have b0 := (kcl hb 0).trans rfl
  have b1 := (kcl hb 1).trans rfl
  have hL := fun m => device_Len.calls g vs vc d w0 _ (hD2 m)
  obtain ⟨n, hnn⟩ : ∃ n : Int, n = d.sec.length := ⟨_, rfl⟩
  rw [← hnn] at hL ⊢
  have HL := Aside0.mk hL
  have hn0 : 0 ≤ n ∧ n ≤ 1000000 := by omega
  obtain ⟨r, hr⟩ : ∃ r, r = chkA fr ln n := ⟨_, rfl⟩
  rw [← hr]
  unfold chkA at hr
  have HR := Aside0.mk hr
  clear hD hD2 hb hL hn hnn hr
  by_cases q1 : ln < 2
  · have hr : r = 4 := HR.out.trans (if_pos (.inl q1))
    subst hr
    have p1 : decide (ln < 2) = true := decide_eq_true q1
    go_enter Try.func38, Try.ntmps38
    go_wp2
    go_quiet (first | (go_at_call 48; exact Calls.quiet_of_same (HL.out _)))
    go_wp2
    go_ret
    exact ⟨rfl, bdn HB.out _⟩
  have p1 : decide (ln < 2) = false := decide_eq_false q1
  by_cases q2 : fr < 0
  · have hr : r = 4 := HR.out.trans (if_pos (.inr (.inl q2)))
    subst hr
    have p2 : decide (fr < 0) = true := decide_eq_true q2
    go_enter Try.func38, Try.ntmps38
    go_wp2
    go_quiet (first | (go_at_call 48; exact Calls.quiet_of_same (HL.out _)))
    go_wp2
    go_ret
    exact ⟨rfl, bdn HB.out _⟩
  have p2 : decide (fr < 0) = false := decide_eq_false q2
  by_cases q3 : ln > n
  · have hr : r = 4 := HR.out.trans (if_pos (.inr (.inr (.inl q3))))
    subst hr
    have p3 : decide (n < ln) = true := decide_eq_true q3
    go_enter Try.func38, Try.ntmps38
    go_wp2
    go_quiet (first | (go_at_call 48; exact Calls.quiet_of_same (HL.out _)))
    go_wp2
    go_ret
    exact ⟨rfl, bdn HB.out _⟩
  have p3 : decide (n < ln) = false := decide_eq_false q3
  have e1 : wrap64 (n - ln) = n - ln := wrapI _ (by omega)
  by_cases q4 : fr > n - ln
  · have hr : r = 4 := HR.out.trans (if_pos (.inr (.inr (.inr q4))))
    subst hr
    have p4 : decide (n - ln < fr) = true := decide_eq_true q4
    go_enter Try.func38, Try.ntmps38
    go_wp2
    go_quiet (first | (go_at_call 48; exact Calls.quiet_of_same (HL.out _)))
    go_wp2
    go_ret
    exact ⟨rfl, bdn HB.out _⟩
  · have hr : r = 0 := HR.out.trans (if_neg (by omega))
    subst hr
    have p4 : decide (n - ln < fr) = false := decide_eq_false q4
    go_enter Try.func38, Try.ntmps38
    go_wp2
    go_quiet (first | (go_at_call 48; exact Calls.quiet_of_same (HL.out _)))
    go_wp2
    go_ret
    exact ⟨rfl, bdn HB.out _⟩
def openE (fr ln next n : Int) : Int := if chkA fr ln n = 0 then (if next < 1 ∨ next > 1099511627776 then 18 else 0) else chkA fr ln n
theorem openE_ok {fr ln next n : Int} (h : openE fr ln next n = 0) : chkA fr ln n = 0 ∧ 1 ≤ next ∧ next ≤ 1099511627776 := by
  unfold openE at h
  by_cases q : chkA fr ln n = 0
  · rw [if_pos q] at h
    by_cases q1 : next < 1 ∨ next > 1099511627776
    · rw [if_pos q1] at h; exact absurd h (by decide)
    · exact ⟨q, by omega, by omega⟩
  · rw [if_neg q] at h; exact absurd h q
set_option maxHeartbeats 2000000 in
theorem wal_Open_ok (g : Nat) (d : Dv) (fr ln next : Int) (w0 w : World) (hI : IsDev w0 w g d) (hB0 : Below w0.heap.size w0 w) (hn : d.sec.length ≤ 1000000) (hb : openE fr ln next d.sec.length = 0) :
    Calls Try.prog 12 #[.pointer (some ⟨g, 0, none⟩), .agg #[.int .i64 fr, .int .i64 ln], .int .i64 next] w fun e w' => ∃ b : Nat, e = .returned (.tuple #[.pointer (some ⟨b, 0, none⟩), .int .i64 0]) ∧ LogSt w0 w' g b ⟨d, fr, ln, next, next⟩ ∧ Below w.heap.size w w' := by
  obtain ⟨hq, q1, q2⟩ := openE_ok hb
  have hC := wal_Check.calls g d fr ln w0 _ (hI.below (bal (Below.refl w.heap.size w) (.cells #[.int .i64 fr, .int .i64 ln] 28))) hn
  rw [hq] at hC
  have hx : (w.alloc (.cells #[.int .i64 fr, .int .i64 ln] 28)).heap[w.heap.size]? = _ := World.alloc_heap_new w (.cells #[.int .i64 fr, .int .i64 ln] 28)
  have HX := Aside0.mk hx
  have HB := Aside0.mk (bal (Below.refl w.heap.size w) (.cells #[.int .i64 fr, .int .i64 ln] 28))
  have HI := Aside0.mk hI
  have HB0 := Aside0.mk hB0
  have b0 := (kcl hx 0).trans rfl
  have b1 := (kcl hx 1).trans rfl
  have HC := Aside0.mk hC
  have p1 : decide (next < 1) = false := decide_eq_false (by omega)
  have p2 : decide (1099511627776 < next) = false := decide_eq_false (by omega)
  clear hC hx hn hI hB0 hb hq
  go_enter Try.func12, Try.ntmps12
  go_wp2_with fail
  refine HC.out.mono ?_
  rintro e w1 ⟨rfl, hB⟩
  have HB1 := Aside0.mk (bsp HB.out hB)
  have hx1 := (hB.block w.heap.size (blk_lt HX.out)).trans HX.out
  clear b0 b1
  have b0 := (kcl hx1 0).trans rfl
  have b1 := (kcl hx1 1).trans rfl
  clear hB hx1
  go_wp2
  go_ret2
  have hB2 := bal HB1.out (.cells #[.pointer (some ⟨g, 0, none⟩), .int .i64 fr, .int .i64 ln, .int .i64 next, .int .i64 next] 84)
  obtain ⟨vs, vc, hD⟩ := HI.out
  refine ⟨_, rfl, ⟨⟨vs, vc, hD.below hB2⟩, bsp HB0.out hB2, Nat.le_trans HB0.out.size HB1.out.size, fun hf => ?_, World.alloc_heap_new w1 _⟩, hB2⟩
  have h1 := (hD.foot_lt ((foot_same (hB2.block g hD.lt) _).1 hf)).1
  have h2 := HB1.out.size
  omega
set_option maxHeartbeats 2000000 in
theorem wal_Force.calls (g b : Nat) (l : Lg) (w0 w : World) (h : LogSt w0 w g b l) (hl : -9223372036854775808 ≤ l.dev.left ∧ l.dev.left < 9223372036854775808) (hok : DvOk l.dev) :
    Calls Try.prog 26 #[.pointer (some ⟨b, 0, none⟩)] w fun e w' => e = .returned (.int .i64 (dvFlush l.dev).1) ∧ LogSt w0 w' g b { l with dev := (dvFlush l.dev).2 } ∧ LogKeep w w' g b := by
  have h0 := h.c0
  have H := Aside0.mk h
  have HF := Aside0.mk (device_Flush.calls g l.dev w0 w h.dev h.below hl hok)
  clear h hl hok
  go_enter Try.func26, Try.ntmps26
  go_wp2_with fail
  refine HF.out.mono ?_
  rintro e w1 ⟨rfl, hI, hB, hK⟩
  have HL := Aside0.mk (H.out.call hI hB hK)
  have HK := Aside0.mk (LogKeep.of_dev hK b)
  clear hI hB hK h0
  go_wp2
  go_ret
  exact ⟨rfl, HL.out, HK.out⟩
end Go.Proofs.Ytfllpmmfjbjgoaa.PA

