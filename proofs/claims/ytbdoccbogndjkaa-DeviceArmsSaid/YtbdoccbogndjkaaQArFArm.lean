import Derived.Test.YtbdoccbogndjkaaQArMDevNew
import Derived.Test.YtbdoccbogndjkaaQArMDevRead
import Derived.Test.YtbdoccbogndjkaaQArPFx1
namespace Go.Proofs.Ytbdoccbogndjkaa
set_option linter.unusedSimpArgs false
open Go.RowKit Go.Proofs.YtbdoccbogndjkaaW.PrintWords Go.Proofs.YtbdoccbogndjkaaW.PrintLast
theorem fresh_foot {w0 W : World} {g : Nat} {vs vc : Value} {d : Dv} (h : Dev w0 W g vs vc d) (o : Obj) : ¬ Foot (W.alloc o) g W.heap.size := fun hk => by
  have := (h.foot_lt ((foot_same (Below.heap_alloc _ _ _ h.lt) _).1 hk)).1
  omega
def aw1 : Dv := (dvWrite (dvNew 2) 0 ⟨#[97]⟩).2
def aw2 : Dv := (dvWrite aw1 1 ⟨#[98]⟩).2
def aw3 : Dv := dvCrash aw2 [1]
theorem aw_ok : DvOk aw2 := by
  intro x hx
  have : aw2.cache = [⟨0, pad ⟨#[97]⟩⟩, ⟨1, pad ⟨#[98]⟩⟩] := rfl
  rw [this] at hx
  simp only [List.mem_cons, List.not_mem_nil, or_false] at hx
  rcases hx with rfl | rfl <;> exact ⟨by decide, by decide⟩
theorem fill_e : PF.armoireref03_Fill.f 70 ⟨#[]⟩ = some Z64 := by decide +kernel
theorem fill_b : PF.armoireref03_Fill.f 70 ⟨#[98]⟩ = some (pad ⟨#[98]⟩) := by decide +kernel
theorem aw_r0 : dvRead aw3 0 = (Z64, 0) := by kernel_rfl
theorem aw_r1 : dvRead aw3 1 = (pad ⟨#[98]⟩, 0) := by kernel_rfl
theorem one_kept {w0 W W_ : World} {g : Nat} {vs vc : Value} {d : Dv} (h : Dev w0 W g vs vc d) (n : Int) (t : TypeId) (hk : Kept (W.alloc (.cells #[.int .i64 n] t)) W_ (Foot (W.alloc (.cells #[.int .i64 n] t)) g)) :
    Kd.C (Kd.int .i64) W_ (some ⟨W.heap.size, 0, none⟩) [n].length [n] := by
  have hb : W_.heap[W.heap.size]? = some (.cells #[.int .i64 n] t (0, 0)) := (hk.2 W.heap.size (by simp) (fresh_foot h _)).trans (World.alloc_heap_new W _)
  refine Kd.C_of_reads (enc := Value.int .i64) (d := (0 : Int)) ⟨rfl, by simp, fun _ => ⟨_, rfl, fun j hj => ?_⟩⟩
  obtain rfl : j = 0 := by simpa using hj
  exact (kcl hb 0).trans rfl
set_option maxHeartbeats 2000000 in
set_option maxRecDepth 100000 in
theorem armoirelaw03_awake.calls (w : World) : Calls Try.prog 8 #[] w fun e w' => e = .returned (.bool true) ∧ Below w.heap.size w w' := by
  have HN := device_New_good 2 w w (Below.refl _ _) (by omega) (by omega)
  rw [show ((2 : Nat) : Int) = 2 from rfl] at HN
  have HN := Aside0.mk HN
  have H1 := fun W hI hB => device_Write.calls w.heap.size (dvNew 2) 0 ⟨#[97]⟩ w W hI hB (by decide) (by decide) (by decide)
  rw [show (dvWrite (dvNew 2) 0 ⟨#[97]⟩).1 = 0 from rfl, ← aw1] at H1
  have H2 := fun W hI hB => device_Write.calls w.heap.size aw1 1 ⟨#[98]⟩ w W hI hB (by decide) (by decide) (by decide)
  rw [show (dvWrite aw1 1 ⟨#[98]⟩).1 = 0 from rfl, ← aw2] at H2
  go_enter Try.func8, Try.ntmps8
  go_wp2_with fail
  refine HN.out.mono ?_
  rintro e w1 ⟨rfl, hI, hB, -⟩
  have HI1 := Aside0.mk hI
  have HB1 := Aside0.mk hB
  clear hI hB
  go_wp2_with fail
  refine (H1 _ HI1.out HB1.out).mono ?_
  rintro e w2 ⟨rfl, hI, hB, -⟩
  have HI2 := Aside0.mk hI
  have HB2 := Aside0.mk hB
  clear hI hB HI1 HB1
  go_wp2_with fail
  refine (H2 _ HI2.out HB2.out).mono ?_
  rintro e w3 ⟨rfl, hI, hB, -⟩
  obtain ⟨vs3, vc3, hD⟩ := hI
  have HI3 := Aside0.mk hD
  have HB3 := Aside0.mk hB
  clear hD hB HI2 HB2
  go_wp2_with fail
  refine (device_Crash.calls w.heap.size aw2 (some ⟨w3.heap.size, 0, none⟩) 1 [1] w (w3.alloc (.cells #[.int .i64 1] 3)) ⟨_, _, HI3.out.alloc _⟩ (bal HB3.out _) aw_ok (fun _ hk => one_kept HI3.out 1 _ hk)).mono ?_
  rintro e w4 ⟨rfl, hI, hB, -⟩
  rw [← aw3] at hI
  have HI4 := Aside0.mk hI
  have HB4 := Aside0.mk hB
  clear hI hB HI3 HB3
  go_wp2_with fail
  have HR := device_Read.calls w.heap.size aw3 0 w w4 HI4.out
  rw [aw_r0] at HR
  refine HR.mono ?_
  rintro e w5 ⟨rfl, hB⟩
  have HI5 := Aside0.mk (HI4.out.below hB)
  have HB5 := Aside0.mk (bsp HB4.out hB)
  clear hB HI4 HB4 HR
  go_wp2_with fail
  have HR := device_Read.calls w.heap.size aw3 1 w w5 HI5.out
  rw [aw_r1] at HR
  refine HR.mono ?_
  rintro e w6 ⟨rfl, hB⟩
  obtain ⟨vs6, vc6, hD⟩ := HI5.out.below hB
  have HI6 := Aside0.mk hD
  have HB6 := Aside0.mk (bsp HB5.out hB)
  clear hB HI5 HB5 HR
  go_wp2_with fail
  refine (PF.armoireref03_Fill.calls 70 ⟨#[]⟩ Z64 w6 fill_e).mono ?_
  rintro e w7 ⟨rfl, hD⟩
  have HI7 := Aside0.mk (HI6.out.below hD.below)
  have HB7 := Aside0.mk (bsp HB6.out hD.below)
  clear hD HI6 HB6
  have hz : (Z64.toList == Z64.toList) = true := by simp
  have hp : ((pad ⟨#[98]⟩).toList == (pad ⟨#[98]⟩).toList) = true := by simp
  go_wp2_with fail
  refine (PF.armoireref03_Fill.calls 70 ⟨#[98]⟩ (pad ⟨#[98]⟩) w7 fill_b).mono ?_
  rintro e w8 ⟨rfl, hD⟩
  have HI8 := Aside0.mk (HI7.out.below hD.below)
  have HB8 := Aside0.mk (bsp HB7.out hD.below)
  clear hD HI7 HB7
  go_wp2_with fail
  refine (device_Loose.calls w.heap.size vs6 vc6 aw3 w w8 HI8.out).mono ?_
  rintro e w9 ⟨rfl, rfl⟩
  have hl0 : Value.int .i64 (aw3.cache.length : Int) = .int .i64 0 := rfl
  rw [hl0]
  go_wp2_with fail
  refine (device_Calls.calls w.heap.size vs6 vc6 aw3 w _ HI8.out).mono ?_
  rintro e w9 ⟨rfl, rfl⟩
  have hc0 : Value.int .i64 aw3.calls = .int .i64 2 := by kernel_rfl
  rw [hc0]
  go_wp2
  go_ret
  exact ⟨rfl, HB8.out⟩
end Go.Proofs.Ytbdoccbogndjkaa

namespace Go.Proofs.Ytbdoccbogndjkaa
set_option linter.unusedSimpArgs false
open Go.RowKit Go.Proofs.YtbdoccbogndjkaaW.PrintWords Go.Proofs.YtbdoccbogndjkaaW.PrintLast
theorem wrap64_in (n : Int) (h : -9223372036854775808 ≤ n ∧ n ≤ 9223372036854775807) : wrap64 n = n := by unfold wrap64; omega
set_option maxRecDepth 100000 in
theorem i64_and2k (k : Nat) (m : Int) (hm : (BitVec.ofInt 64 m).toNat = 2 ^ k - 1) (hk : k ≤ 10) (n : Int) : bits .and .i64 n m = n % ((2 ^ k : Nat) : Int) := by
  have key : (BitVec.ofInt 64 n &&& BitVec.ofInt 64 m).toNat = (n % ((2 ^ 64 : Nat) : Int)).toNat % 2 ^ k := by
    rw [BitVec.toNat_and, BitVec.toNat_ofInt, hm, Nat.and_two_pow_sub_one_eq_mod]
  show IntKind.i64.wrap ((BitVec.ofInt 64 n &&& BitVec.ofInt 64 m).toNat : Nat) = n % ((2 ^ k : Nat) : Int)
  rw [key, IntKind.wrap_i64]
  have h1 : (2 ^ k : Nat) ∣ 2 ^ 64 := Nat.pow_dvd_pow 2 (by omega)
  have h2 : (2 : Nat) ^ k ≤ 2 ^ 10 := Nat.pow_le_pow_right (by omega) hk
  have h3 : 0 < (2 : Nat) ^ k := Nat.two_pow_pos k
  have h4 : ((n % ((2 ^ 64 : Nat) : Int)).toNat % 2 ^ k : Nat) = n % ((2 ^ k : Nat) : Int) := by
    rw [Int.natCast_emod, Int.toNat_of_nonneg (Int.emod_nonneg _ (by decide))]
    exact Int.emod_emod_of_dvd n (Int.natCast_dvd_natCast.2 h1)
  have h5 : (n % ((2 ^ 64 : Nat) : Int)).toNat % 2 ^ k < 2 ^ k := Nat.mod_lt _ h3
  rw [← h4]
  clear h4 key h1
  revert h5
  generalize (n % ((2 ^ 64 : Nat) : Int)).toNat % 2 ^ k = X
  intro h5
  have h6 : X < 1024 := by omega
  clear h5 h2 h3
  omega
theorem i64_and15 (n : Int) : bits .and .i64 n 15 = n % 16 := i64_and2k 4 15 (by decide) (by decide) n
theorem i64_and31 (n : Int) : bits .and .i64 n 31 = n % 32 := i64_and2k 5 31 (by decide) (by decide) n
theorem i64_and3 (n : Int) : bits .and .i64 n 3 = n % 4 := i64_and2k 2 3 (by decide) (by decide) n
structure ArmInv (n : Int) (k : Nat) (d : Dv) : Prop where
  sec : d.sec.length = 4
  ok : DvOk d
  cache : d.cache.length ≤ k
  c0 : 0 ≤ d.calls
  c1 : d.calls ≤ n
  left : d.down = true ∨ d.left = n - d.calls
  l0 : -1 ≤ d.left ∧ d.left ≤ n
theorem wr1 {x : Int} (h0 : 0 ≤ x) (h1 : x ≤ 100) : wrap64 (x + 1) = x + 1 := wrap64_in _ ⟨by omega, by omega⟩
theorem arm_call {n : Int} {k : Nat} {d : Dv} (hn : n ≤ 15) (h : ArmInv n k d) : ((dvCall d).1 = true ∧ (dvCall d).2.down = false ∨ (dvCall d).1 = false ∧ (dvCall d).2.down = true) ∧ ArmInv n k (dvCall d).2 := by
  have h2 := h.left; have h3 := h.c0; have h4 := h.c1; have h5 := h.l0
  have e := wr1 h3 (by omega)
  unfold dvCall
  by_cases q1 : d.down = true
  · rw [if_pos q1]; exact ⟨.inr ⟨rfl, q1⟩, h⟩
  · rw [if_neg q1]
    have q1' : d.down = false := by simpa using q1
    have h2 : d.left = n - d.calls := h2.resolve_left q1
    by_cases q2 : d.left = 0
    · rw [if_pos q2]; exact ⟨.inr ⟨rfl, rfl⟩, h.sec, h.ok, h.cache, h3, h4, .inl rfl, h5⟩
    · rw [if_neg q2, if_pos (by omega), e]
      exact ⟨.inl ⟨rfl, q1'⟩, h.sec, h.ok, h.cache, by simp only; omega, by simp only; omega, .inr (by simp only; omega), by simp only; omega, by simp only; omega⟩
theorem arm_write {n : Int} {k : Nat} {d : Dv} (hn : n ≤ 15) (h : ArmInv n k d) (a : Int) (s : ByteArray) (h0 : 0 ≤ a) (h1 : a < 4) (hs : s.size ≤ 64) :
    ((dvWrite d a s).1 = 0 ∧ (dvWrite d a s).2.down = false ∨ (dvWrite d a s).1 = 16 ∧ (dvWrite d a s).2.down = true) ∧ ArmInv n (k + 1) (dvWrite d a s).2 := by
  have hl := h.sec
  obtain ⟨hc, hi⟩ := arm_call hn h
  unfold dvWrite
  rw [if_neg (by omega)]
  rcases hc with ⟨e1, e2⟩ | ⟨e1, e2⟩
  · rw [if_neg (by rw [e1]; decide)]
    refine ⟨.inl ⟨rfl, e2⟩, hi.sec, fun x hx => ?_, ?_, hi.c0, hi.c1, hi.left, hi.l0⟩
    · rcases List.mem_append.1 hx with hx | hx
      · exact hi.ok x hx
      · obtain rfl : x = ⟨a, pad s⟩ := by simpa using hx
        have := hi.sec
        exact ⟨h0, by simp only; omega⟩
    · have := hi.cache; simp only [List.length_append, List.length_cons, List.length_nil]; omega
  · rw [if_pos e1]
    exact ⟨.inr ⟨rfl, e2⟩, hi.sec, hi.ok, Nat.le_succ_of_le hi.cache, hi.c0, hi.c1, hi.left, hi.l0⟩
theorem arm_flush {n : Int} {k : Nat} {d : Dv} (hn : n ≤ 15) (h : ArmInv n k d) :
    ((dvFlush d).1 = 0 ∧ (dvFlush d).2.down = false ∨ (dvFlush d).1 = 16 ∧ (dvFlush d).2.down = true) ∧ ArmInv n k (dvFlush d).2 := by
  obtain ⟨hc, hi⟩ := arm_call hn h
  unfold dvFlush
  rcases hc with ⟨e1, e2⟩ | ⟨e1, e2⟩
  · rw [if_neg (by rw [e1]; decide)]
    exact ⟨.inl ⟨rfl, e2⟩, (lastB_length _ _).trans h.sec, fun x hx => (by simp at hx), Nat.zero_le _, hi.c0, hi.c1, hi.left, hi.l0⟩
  · rw [if_pos e1]
    exact ⟨.inr ⟨rfl, e2⟩, hi⟩
set_option maxHeartbeats 4000000 in
set_option maxRecDepth 100000 in
theorem DeviceArms.walk (a0 : Int) (_ : (Lit.int .i64 a0).wf = true) (a1 : Int) (_ : (Lit.int .i64 a1).wf = true) (w : World) :
    Calls Try.prog 5 #[.int .i64 a0, .int .i64 a1] w fun e w' => e = .returned (.bool true) ∧ Below w.heap.size w w' := by
  have HN := device_New_good 4 w w (Below.refl _ _) (by omega) (by omega)
  rw [show ((4 : Nat) : Int) = 4 from rfl] at HN
  have HN := Aside0.mk HN
  have m15 := i64_and15 a0
  have m31 := i64_and31 a1
  obtain ⟨N, hN⟩ : ∃ N : Int, a0 % 16 = N := ⟨_, rfl⟩
  obtain ⟨c, hc⟩ : ∃ c : Nat, a1 % 32 = c := ⟨(a1 % 32).toNat, by omega⟩
  rw [hN] at m15
  rw [hc] at m31
  have NB := Aside0.mk (show 0 ≤ N ∧ N ≤ 15 by omega)
  have CB := Aside0.mk (show c < 32 by omega)
  clear hN hc
  go_enter Try.func5, Try.ntmps5
  go_wp2_with fail
  refine HN.out.mono ?_
  rintro e w1 ⟨rfl, hI, hB, -⟩
  have HI1 := Aside0.mk hI
  have HB1 := Aside0.mk hB
  clear hI hB
  go_wp2_with fail
  refine (armoirelaw03_awake.calls _).mono ?_
  rintro e w2 ⟨rfl, hB⟩
  obtain ⟨vs, vc, hD⟩ := HI1.out.below hB
  have HI2 := Aside0.mk hD
  have HB2 := Aside0.mk (bsp HB1.out hB)
  clear hB hD HI1 HB1
  go_wp2_with fail
  refine (device_Arm.calls w.heap.size vs vc (dvNew 4) N w w2 HI2.out).mono ?_
  rintro e w3 ⟨rfl, rfl⟩
  have HI3 := Aside0.mk (HI2.out.num (d2 := { dvNew 4 with left := N }) (i := 2) (u := .int .i64 N) rfl rfl rfl)
  have HB3 := Aside0.mk (HB2.out.setCell (p := ⟨w.heap.size, 2, none⟩) (Nat.le_refl _) (.int .i64 N))
  clear HI2 HB2
  obtain ⟨w3, hw3⟩ : ∃ w3, w3 = w2.setCell ⟨w.heap.size, 2, none⟩ (.int .i64 N) := ⟨_, rfl⟩
  rw [← hw3] at HI3 HB3 ⊢
  clear hw3
  have HA0 : ArmInv N 0 { dvNew 4 with left := N } := ⟨rfl, fun x hx => (by simp [dvNew] at hx), Nat.zero_le _, Int.le_refl 0, NB.out.1, .inr (by simp [dvNew]), by simp only; have := NB.out; omega, by simp only; omega⟩
  have HA0 := Aside0.mk HA0
  go_wp2_with fail
  go_loopw [31] (fun v31 wr => ∃ (i : Nat) (d : Dv), v31 = .int .i64 i ∧ i ≤ c ∧ Aside0 (ArmInv N i d) ∧ Aside0 (IsDev w wr w.heap.size d) ∧ Aside0 (Below w.heap.size w wr)) (fun v31 _ => c - (intOf v31).toNat)
  case atStart => exact ⟨0, _, rfl, Nat.zero_le _, HA0, ⟨⟨_, _, HI3.out⟩⟩, HB3⟩
  case round =>
    obtain ⟨i, d, rfl, hi, HA, HI, HB⟩ := hrel
    clear HI3 HB3 HA0
    by_cases q1 : i < c
    · have m3 := i64_and3 (i : Int)
      obtain ⟨j, hj⟩ : ∃ j : Int, (i : Int) % 4 = j := ⟨_, rfl⟩
      rw [hj] at m3
      have hm : i ≤ 9223372036854775806 := by have := CB.out; omega
      have HJ := Aside0.mk (show 0 ≤ j ∧ j < 4 by omega)
      clear hj
      have HW := Aside0.mk (arm_write NB.out.2 HA.out j ⟨#[120]⟩ HJ.out.1 HJ.out.2 (by decide))
      go_wp2_with fail
      refine (device_Write.calls w.heap.size d j ⟨#[120]⟩ w wr HI.out HB.out ⟨by have := HA.out.l0; omega, by have := HA.out.l0; have := NB.out; omega⟩ (by have := HA.out.cache; have := CB.out; omega) (by decide)).mono ?_
      rintro e w4 ⟨rfl, hI, hB, -⟩
      have HI4 := Aside0.mk hI
      have HB4 := Aside0.mk hB
      clear hI hB HI HB
      obtain ⟨hr, hA⟩ := HW.out
      generalize (dvWrite d j ⟨#[120]⟩).1 = f at hr ⊢
      generalize (dvWrite d j ⟨#[120]⟩).2 = d4 at hr hA HI4
      have HA4 := Aside0.mk hA
      clear hA HW HA
      rcases hr with ⟨rfl, hE⟩ | ⟨rfl, hE⟩
      · have hE := Aside0.mk hE
        by_cases q5 : ((i : Int) % 5 == 4) = true
        · have HF := Aside0.mk (arm_flush NB.out.2 HA4.out)
          go_wp2_with fail
          refine (device_Flush.calls w.heap.size d4 w _ HI4.out HB4.out ⟨by have := HA4.out.l0; omega, by have := HA4.out.l0; have := NB.out; omega⟩ HA4.out.ok).mono ?_
          rintro e w5 ⟨rfl, hI, hB, -⟩
          have HI5 := Aside0.mk hI
          have HB5 := Aside0.mk hB
          clear hI hB HI4 HB4
          obtain ⟨hr, hA⟩ := HF.out
          generalize (dvFlush d4).1 = f5 at hr ⊢
          generalize (dvFlush d4).2 = d5 at hr hA HI5
          have HA5 := Aside0.mk hA
          clear hA HF
          rcases hr with ⟨rfl, hE5⟩ | ⟨rfl, hE5⟩
          · have hE5 := Aside0.mk hE5
            obtain ⟨vs, vc, hD⟩ := HI5.out
            have HD := Aside0.mk hD
            have hcn : decide (N < d5.calls) = false := decide_eq_false (by have := HA5.out.c1; omega)
            clear hD
            go_wp2_with fail
            refine (device_Down.calls w.heap.size vs vc d5 w _ HD.out).mono ?_
            rintro e w6 ⟨rfl, rfl⟩
            rw [hE5.out]
            go_wp2_with fail
            refine (device_Calls.calls w.heap.size vs vc d5 w _ HD.out).mono ?_
            rintro e w6 ⟨rfl, rfl⟩
            go_wp2
            go_roundw
            case rel => exact ⟨i + 1, d5, by go_num, by omega, HA5, HI5, HB5⟩
            case measure => simp [intOf]; omega
          · have hE5 := Aside0.mk hE5
            obtain ⟨vs, vc, hD⟩ := HI5.out
            have HD := Aside0.mk hD
            have hcn : decide (N < d5.calls) = false := decide_eq_false (by have := HA5.out.c1; omega)
            clear hD
            go_wp2_with fail
            refine (device_Down.calls w.heap.size vs vc d5 w _ HD.out).mono ?_
            rintro e w6 ⟨rfl, rfl⟩
            rw [hE5.out]
            go_wp2_with fail
            refine (device_Calls.calls w.heap.size vs vc d5 w _ HD.out).mono ?_
            rintro e w6 ⟨rfl, rfl⟩
            go_wp2
            go_roundw
            case rel => exact ⟨i + 1, d5, by go_num, by omega, HA5, HI5, HB5⟩
            case measure => simp [intOf]; omega
        · have q5 : ((i : Int) % 5 == 4) = false := by simpa using q5
          obtain ⟨vs, vc, hD⟩ := HI4.out
          have HD := Aside0.mk hD
          have hcn : decide (N < d4.calls) = false := decide_eq_false (by have := HA4.out.c1; omega)
          clear hD
          go_wp2_with fail
          refine (device_Down.calls w.heap.size vs vc d4 w _ HD.out).mono ?_
          rintro e w5 ⟨rfl, rfl⟩
          rw [hE.out]
          go_wp2_with fail
          refine (device_Calls.calls w.heap.size vs vc d4 w _ HD.out).mono ?_
          rintro e w5 ⟨rfl, rfl⟩
          go_wp2
          go_roundw
          case rel => exact ⟨i + 1, d4, by go_num, by omega, HA4, HI4, HB4⟩
          case measure => simp [intOf]; omega
      · have hE := Aside0.mk hE
        by_cases q5 : ((i : Int) % 5 == 4) = true
        · have HF := Aside0.mk (arm_flush NB.out.2 HA4.out)
          go_wp2_with fail
          refine (device_Flush.calls w.heap.size d4 w _ HI4.out HB4.out ⟨by have := HA4.out.l0; omega, by have := HA4.out.l0; have := NB.out; omega⟩ HA4.out.ok).mono ?_
          rintro e w5 ⟨rfl, hI, hB, -⟩
          have HI5 := Aside0.mk hI
          have HB5 := Aside0.mk hB
          clear hI hB HI4 HB4
          obtain ⟨hr, hA⟩ := HF.out
          generalize (dvFlush d4).1 = f5 at hr ⊢
          generalize (dvFlush d4).2 = d5 at hr hA HI5
          have HA5 := Aside0.mk hA
          clear hA HF
          rcases hr with ⟨rfl, hE5⟩ | ⟨rfl, hE5⟩
          · have hE5 := Aside0.mk hE5
            obtain ⟨vs, vc, hD⟩ := HI5.out
            have HD := Aside0.mk hD
            have hcn : decide (N < d5.calls) = false := decide_eq_false (by have := HA5.out.c1; omega)
            clear hD
            go_wp2_with fail
            refine (device_Down.calls w.heap.size vs vc d5 w _ HD.out).mono ?_
            rintro e w6 ⟨rfl, rfl⟩
            rw [hE5.out]
            go_wp2_with fail
            refine (device_Calls.calls w.heap.size vs vc d5 w _ HD.out).mono ?_
            rintro e w6 ⟨rfl, rfl⟩
            go_wp2
            go_roundw
            case rel => exact ⟨i + 1, d5, by go_num, by omega, HA5, HI5, HB5⟩
            case measure => simp [intOf]; omega
          · have hE5 := Aside0.mk hE5
            obtain ⟨vs, vc, hD⟩ := HI5.out
            have HD := Aside0.mk hD
            have hcn : decide (N < d5.calls) = false := decide_eq_false (by have := HA5.out.c1; omega)
            clear hD
            go_wp2_with fail
            refine (device_Down.calls w.heap.size vs vc d5 w _ HD.out).mono ?_
            rintro e w6 ⟨rfl, rfl⟩
            rw [hE5.out]
            go_wp2_with fail
            refine (device_Calls.calls w.heap.size vs vc d5 w _ HD.out).mono ?_
            rintro e w6 ⟨rfl, rfl⟩
            go_wp2
            go_roundw
            case rel => exact ⟨i + 1, d5, by go_num, by omega, HA5, HI5, HB5⟩
            case measure => simp [intOf]; omega
        · have q5 : ((i : Int) % 5 == 4) = false := by simpa using q5
          obtain ⟨vs, vc, hD⟩ := HI4.out
          have HD := Aside0.mk hD
          have hcn : decide (N < d4.calls) = false := decide_eq_false (by have := HA4.out.c1; omega)
          clear hD
          go_wp2_with fail
          refine (device_Down.calls w.heap.size vs vc d4 w _ HD.out).mono ?_
          rintro e w5 ⟨rfl, rfl⟩
          rw [hE.out]
          go_wp2_with fail
          refine (device_Calls.calls w.heap.size vs vc d4 w _ HD.out).mono ?_
          rintro e w5 ⟨rfl, rfl⟩
          go_wp2
          go_roundw
          case rel => exact ⟨i + 1, d4, by go_num, by omega, HA4, HI4, HB4⟩
          case measure => simp [intOf]; omega
    · obtain rfl : i = c := by omega
      obtain ⟨vs, vc, hD⟩ := HI.out
      have HD := Aside0.mk hD
      clear hD
      have hrd : dvRead d 0 = if d.down then ((⟨#[]⟩ : ByteArray), (16 : Int)) else (readB d 0, 0) := by
        unfold dvRead; rw [if_neg (by have := HA.out.sec; omega)]
      have HRd := Aside0.mk hrd
      clear hrd
      have hcr : (dvCrash d []).sec.length = 4 := (lastB_length _ _).trans HA.out.sec
      have hcd : (dvCrash d []).down = false := rfl
      have hcl : (dvCrash d []).left = -1 := rfl
      have hcc : (dvCrash d []).cache = [] := rfl
      have hce := Aside0.mk (And.intro hcr (And.intro hcd (And.intro hcl hcc)))
      clear hcr hcd hcl hcc
      cases hdn : d.down
      all_goals
        go_wp2_with fail
        refine (device_Down.calls w.heap.size vs vc d w _ HD.out).mono ?_
        rintro e w5 ⟨rfl, rfl⟩
        rw [hdn]
        go_wp2_with fail
        have hR := device_Read.calls w.heap.size d 0 w _ ⟨_, _, HD.out⟩
        rw [HRd.out, hdn] at hR
        simp only [if_true, if_false, Bool.false_eq_true] at hR
        refine hR.mono ?_
        rintro e w6 ⟨rfl, hB⟩
        have HD6 := Aside0.mk (HD.out.below hB)
        have HB6 := Aside0.mk (bsp HB.out hB)
        clear hB hR
        go_wp2_with fail
        refine (device_Crash.calls w.heap.size d none 0 [] w _ ⟨_, _, HD6.out⟩ HB6.out HA.out.ok (fun _ _ => Kd.C_nil _ _)).mono ?_
        rintro e w7 ⟨rfl, hI, hB, -⟩
        obtain ⟨vs7, vc7, hD⟩ := hI
        have HD7 := Aside0.mk hD
        have HB7 := Aside0.mk hB
        clear hD hB HD6 HB6
        obtain ⟨d7, hd7⟩ : ∃ d7, d7 = dvCrash d [] := ⟨_, rfl⟩
        have hcf := hce.out
        rw [← hd7] at HD7 hcf
        clear hd7
        have HCF := Aside0.mk hcf
        clear hcf
        go_wp2_with fail
        refine (device_Down.calls w.heap.size vs7 vc7 d7 w _ HD7.out).mono ?_
        rintro e w8 ⟨rfl, rfl⟩
        rw [HCF.out.2.1]
        have hcall : dvCall d7 = (true, { d7 with calls := wrap64 (d7.calls + 1) }) := by
          unfold dvCall; rw [if_neg (by rw [HCF.out.2.1]; decide), if_neg (by rw [HCF.out.2.2.1]; decide), if_neg (by rw [HCF.out.2.2.1]; decide)]
        have hwr : dvWrite d7 0 ⟨#[121]⟩ = (0, { d7 with calls := wrap64 (d7.calls + 1), cache := d7.cache ++ [⟨0, pad ⟨#[121]⟩⟩] }) := by
          unfold dvWrite; rw [hcall, if_neg (by have := HCF.out.1; simp only [ByteArray.size, List.size_toArray, List.length_cons, List.length_nil]; omega), if_neg (by simp)]
        have HWR := Aside0.mk hwr
        clear hcall hwr
        go_wp2_with fail
        have hW := device_Write.calls w.heap.size d7 0 ⟨#[121]⟩ w _ ⟨_, _, HD7.out⟩ HB7.out (by rw [HCF.out.2.2.1]; decide) (by rw [HCF.out.2.2.2]; decide) (by decide)
        rw [HWR.out] at hW
        refine hW.mono ?_
        rintro e w9 ⟨rfl, hI, hB, -⟩
        have HI9 := Aside0.mk hI
        have HB9 := Aside0.mk hB
        clear hI hB hW
        obtain ⟨d9, hd9⟩ : ∃ d9 : Dv, d9 = { d7 with calls := wrap64 (d7.calls + 1), cache := d7.cache ++ [⟨0, pad ⟨#[121]⟩⟩] } := ⟨_, rfl⟩
        simp only at HI9
        rw [← hd9] at HI9
        have hok : DvOk d9 := by
          intro x hx
          rw [hd9] at hx ⊢
          simp only [HCF.out.2.2.2, List.nil_append, List.mem_singleton] at hx
          subst hx
          have := HCF.out.1
          exact ⟨by simp only; omega, by simp only; omega⟩
        have hl9 : d9.left = -1 := by rw [hd9]; exact HCF.out.2.2.1
        have hf9 : (dvFlush d9).1 = 0 := by
          have hdn9 : d9.down = false := by rw [hd9]; exact HCF.out.2.1
          have hc9 : (dvCall d9).1 = true := by unfold dvCall; rw [if_neg (by rw [hdn9]; decide), if_neg (by rw [hl9]; decide), if_neg (by rw [hl9]; decide)]
          unfold dvFlush; rw [if_neg (by rw [hc9]; decide)]
        have HOK := Aside0.mk (And.intro hok (And.intro hl9 hf9))
        clear hok hl9 hf9 hd9
        go_wp2_with fail
        have hF := device_Flush.calls w.heap.size d9 w _ HI9.out HB9.out (by rw [HOK.out.2.1]; decide) HOK.out.1
        rw [HOK.out.2.2] at hF
        refine hF.mono ?_
        rintro e w10 ⟨rfl, -, hB, -⟩
        have HBz := Aside0.mk hB
        clear hB hF
        go_wp2
        go_ret
        exact ⟨rfl, HBz.out⟩
end Go.Proofs.Ytbdoccbogndjkaa

