import Derived.Test.YtbdoccbogndjkaaQLsMDevNew
import Derived.Test.YtbdoccbogndjkaaQLsMDevRead
import Derived.Test.YtbdoccbogndjkaaQLsPFx1
import Derived.ChangeSlices
import Derived.ProofKit
import Derived.DataReads
import Derived.Test.YtbdoccbogndjkaaQLsWWords
namespace Go.Proofs.Ytbdoccbogndjkaa
set_option linter.unusedSimpArgs false
open Go.RowKit Go.Proofs.YtbdoccbogndjkaaW.PrintWords Go.Proofs.YtbdoccbogndjkaaW.PrintLast
theorem fresh_foot {w0 W : World} {g : Nat} {vs vc : Value} {d : Dv} (h : Dev w0 W g vs vc d) (o : Obj) : ¬ Foot (W.alloc o) g W.heap.size := fun hk => by
  have := (h.foot_lt ((foot_same (Below.heap_alloc _ _ _ h.lt) _).1 hk)).1
  omega
def aw1 : Dv := (dvWrite (dvNew 2) 0 ⟨#[97]⟩).2
def aw2 : Dv := (dvWrite aw1 1 ⟨#[98]⟩).2
def aw3 : Dv := dvCrash aw2 [1]
theorem aw_ok : DvOk aw2 := by
  intro x hx
  have : aw2.cache = [⟨0, pad ⟨#[97]⟩⟩, ⟨1, pad ⟨#[98]⟩⟩] := rfl
  rw [this] at hx
  simp only [List.mem_cons, List.not_mem_nil, or_false] at hx
  rcases hx with rfl | rfl <;> exact ⟨by decide, by decide⟩
theorem fill_e : PF.armoireref03_Fill.f 70 ⟨#[]⟩ = some Z64 := by decide +kernel
theorem fill_b : PF.armoireref03_Fill.f 70 ⟨#[98]⟩ = some (pad ⟨#[98]⟩) := by decide +kernel
theorem aw_r0 : dvRead aw3 0 = (Z64, 0) := by kernel_rfl
theorem aw_r1 : dvRead aw3 1 = (pad ⟨#[98]⟩, 0) := by kernel_rfl
theorem one_kept {w0 W W_ : World} {g : Nat} {vs vc : Value} {d : Dv} (h : Dev w0 W g vs vc d) (n : Int) (t : TypeId) (hk : Kept (W.alloc (.cells #[.int .i64 n] t)) W_ (Foot (W.alloc (.cells #[.int .i64 n] t)) g)) :
    Kd.C (Kd.int .i64) W_ (some ⟨W.heap.size, 0, none⟩) [n].length [n] := by
  have hb : W_.heap[W.heap.size]? = some (.cells #[.int .i64 n] t (0, 0)) := (hk.2 W.heap.size (by simp) (fresh_foot h _)).trans (World.alloc_heap_new W _)
  refine Kd.C_of_reads (enc := Value.int .i64) (d := (0 : Int)) ⟨rfl, by simp, fun _ => ⟨_, rfl, fun j hj => ?_⟩⟩
  obtain rfl : j = 0 := by simpa using hj
  exact (kcl hb 0).trans rfl
set_option maxHeartbeats 2000000 in
set_option maxRecDepth 100000 in
theorem armoirelaw03_awake.calls (w : World) : Calls Try.prog 8 #[] w fun e w' => e = .returned (.bool true) ∧ Below w.heap.size w w' := by
  have HN := device_New_good 2 w w (Below.refl _ _) (by omega) (by omega)
  rw [show ((2 : Nat) : Int) = 2 from rfl] at HN
  have HN := Aside0.mk HN
  have H1 := fun W hI hB => device_Write.calls w.heap.size (dvNew 2) 0 ⟨#[97]⟩ w W hI hB (by decide) (by decide) (by decide)
  rw [show (dvWrite (dvNew 2) 0 ⟨#[97]⟩).1 = 0 from rfl, ← aw1] at H1
  have H2 := fun W hI hB => device_Write.calls w.heap.size aw1 1 ⟨#[98]⟩ w W hI hB (by decide) (by decide) (by decide)
  rw [show (dvWrite aw1 1 ⟨#[98]⟩).1 = 0 from rfl, ← aw2] at H2
  go_enter Try.func8, Try.ntmps8
  go_wp2_with fail
  refine HN.out.mono ?_
  rintro e w1 ⟨rfl, hI, hB, -⟩
  have HI1 := Aside0.mk hI
  have HB1 := Aside0.mk hB
  clear hI hB
  go_wp2_with fail
  refine (H1 _ HI1.out HB1.out).mono ?_
  rintro e w2 ⟨rfl, hI, hB, -⟩
  have HI2 := Aside0.mk hI
  have HB2 := Aside0.mk hB
  clear hI hB HI1 HB1
  go_wp2_with fail
  refine (H2 _ HI2.out HB2.out).mono ?_
  rintro e w3 ⟨rfl, hI, hB, -⟩
  obtain ⟨vs3, vc3, hD⟩ := hI
  have HI3 := Aside0.mk hD
  have HB3 := Aside0.mk hB
  clear hD hB HI2 HB2
  go_wp2_with fail
  refine (device_Crash.calls w.heap.size aw2 (some ⟨w3.heap.size, 0, none⟩) 1 [1] w (w3.alloc (.cells #[.int .i64 1] 3)) ⟨_, _, HI3.out.alloc _⟩ (bal HB3.out _) aw_ok (fun _ hk => one_kept HI3.out 1 _ hk)).mono ?_
  rintro e w4 ⟨rfl, hI, hB, -⟩
  rw [← aw3] at hI
  have HI4 := Aside0.mk hI
  have HB4 := Aside0.mk hB
  clear hI hB HI3 HB3
  go_wp2_with fail
  have HR := device_Read.calls w.heap.size aw3 0 w w4 HI4.out
  rw [aw_r0] at HR
  refine HR.mono ?_
  rintro e w5 ⟨rfl, hB⟩
  have HI5 := Aside0.mk (HI4.out.below hB)
  have HB5 := Aside0.mk (bsp HB4.out hB)
  clear hB HI4 HB4 HR
  go_wp2_with fail
  have HR := device_Read.calls w.heap.size aw3 1 w w5 HI5.out
  rw [aw_r1] at HR
  refine HR.mono ?_
  rintro e w6 ⟨rfl, hB⟩
  obtain ⟨vs6, vc6, hD⟩ := HI5.out.below hB
  have HI6 := Aside0.mk hD
  have HB6 := Aside0.mk (bsp HB5.out hB)
  clear hB HI5 HB5 HR
  go_wp2_with fail
  refine (PF.armoireref03_Fill.calls 70 ⟨#[]⟩ Z64 w6 fill_e).mono ?_
  rintro e w7 ⟨rfl, hD⟩
  have HI7 := Aside0.mk (HI6.out.below hD.below)
  have HB7 := Aside0.mk (bsp HB6.out hD.below)
  clear hD HI6 HB6
  have hz : (Z64.toList == Z64.toList) = true := by simp
  have hp : ((pad ⟨#[98]⟩).toList == (pad ⟨#[98]⟩).toList) = true := by simp
  go_wp2_with fail
  refine (PF.armoireref03_Fill.calls 70 ⟨#[98]⟩ (pad ⟨#[98]⟩) w7 fill_b).mono ?_
  rintro e w8 ⟨rfl, hD⟩
  have HI8 := Aside0.mk (HI7.out.below hD.below)
  have HB8 := Aside0.mk (bsp HB7.out hD.below)
  clear hD HI7 HB7
  go_wp2_with fail
  refine (device_Loose.calls w.heap.size vs6 vc6 aw3 w w8 HI8.out).mono ?_
  rintro e w9 ⟨rfl, rfl⟩
  have hl0 : Value.int .i64 (aw3.cache.length : Int) = .int .i64 0 := rfl
  rw [hl0]
  go_wp2_with fail
  refine (device_Calls.calls w.heap.size vs6 vc6 aw3 w _ HI8.out).mono ?_
  rintro e w9 ⟨rfl, rfl⟩
  have hc0 : Value.int .i64 aw3.calls = .int .i64 2 := by kernel_rfl
  rw [hc0]
  go_wp2
  go_ret
  exact ⟨rfl, HB8.out⟩
end Go.Proofs.Ytbdoccbogndjkaa

namespace Go.Proofs.Ytbdoccbogndjkaa
set_option linter.unusedSimpArgs false
open Go.RowKit Go.Proofs.YtbdoccbogndjkaaW.PrintWords Go.Proofs.YtbdoccbogndjkaaW.PrintLast
theorem C_take_int {w : World} {A : Option Addr} {l : List Int} (h : Kd.C (Kd.int .i64) w A l.length l) (m : Nat) : Kd.C (Kd.int .i64) w A (l.take m).length (l.take m) := by
  refine ⟨rfl, Nat.le_trans (List.length_take_le' m l) h.2.1, fun hn => ?_⟩
  obtain ⟨ad, e, hc⟩ := h.2.2 (Nat.lt_of_lt_of_le hn (List.length_take_le' m l))
  exact ⟨ad, e, fun j p hj => hc j p (by rw [List.getElem?_take] at hj; split at hj; exact hj; cases hj)⟩
theorem few.calls (A : Option Addr) (c : Nat) (l : List Int) (w : World) (h : Kd.C (Kd.int .i64) w A l.length l) (hc : l.length ≤ c) :
    Calls Try.prog 13 #[.slice A l.length c] w fun e w' => e = .returned (.slice A (l.take 30).length c) ∧ w' = w := by
  by_cases h1 : 30 < l.length
  · obtain ⟨ad, rfl, -⟩ := h.2.2 (by omega)
    have q1 : decide ((30 : Int) < (l.length : Int)) = true := decide_eq_true (by omega)
    have q2 : (30 : Int) ≤ (c : Int) := by omega
    have e : (l.take 30).length = 30 := by rw [List.length_take]; omega
    rw [e]
    clear h h1 e
    go_enter Try.func13, Try.ntmps13
    go_wp2
    go_ret
    exact ⟨rfl, rfl⟩
  · have q1 : decide ((30 : Int) < (l.length : Int)) = false := decide_eq_false (by omega)
    rw [List.take_of_length_le (by omega)]
    clear h h1
    go_enter Try.func13, Try.ntmps13
    go_wp2
    go_ret
    exact ⟨rfl, rfl⟩
end Go.Proofs.Ytbdoccbogndjkaa

namespace Go.Proofs.Ytbdoccbogndjkaa
set_option linter.unusedSimpArgs false
open Go.RowKit Go.Proofs.YtbdoccbogndjkaaW.PrintWords Go.Proofs.YtbdoccbogndjkaaW.PrintLast
theorem wrap64_in' (n : Int) (h : -9223372036854775808 ≤ n ∧ n ≤ 9223372036854775807) : wrap64 n = n := by unfold wrap64; omega
theorem z64_step : ∀ n, n < 65 → 0 < n → (⟨#[0]⟩ : ByteArray) ++ Z64.extract (65 - n) 64 = Z64.extract (64 - n) 64 := by decide +kernel
theorem fill_loop : ∀ (n : Nat) (k : Nat) (x : ByteArray) (i : Int), x.size + n = 64 → 0 ≤ i → i + n ≤ 64 → n < k → PF.armoireref03_Fill.l0 k x i = some (x ++ Z64.extract (64 - n) 64) := by
  intro n
  induction n with
  | zero =>
    intro k x i h0 h1 h2 h3
    obtain ⟨k, rfl⟩ : ∃ m, k = m + 1 := ⟨k - 1, by omega⟩
    have e0 : x ++ Z64.extract (64 - 0) 64 = x := by
      rw [show Z64.extract (64 - 0) 64 = ⟨#[]⟩ from by decide +kernel]; exact ByteArray.append_empty
    have e1 : x.extract 0 64 = x := by rw [show (64 : Nat) = x.size by omega]; exact ByteArray.extract_zero_size
    rw [e0]
    unfold PF.armoireref03_Fill.l0
    rw [if_neg (show ¬((x.size : Int) < 64) by omega)]
    have hb : (64 : Int) ≤ x.size := by omega
    simp only [hb, e1, if_true, ite_self]
    simp
  | succ n ih =>
    intro k x i h0 h1 h2 h3
    obtain ⟨k, rfl⟩ : ∃ m, k = m + 1 := ⟨k - 1, by omega⟩
    have hs : (x ++ (⟨#[0]⟩ : ByteArray)).size + n = 64 := by rw [ByteArray.size_append]; have : (⟨#[0]⟩ : ByteArray).size = 1 := rfl; omega
    have hw : wrap64 (i + 1) = i + 1 := wrap64_in' _ ⟨by omega, by omega⟩
    unfold PF.armoireref03_Fill.l0
    rw [if_pos (show i < 64 by omega), if_pos (show (x.size : Int) < 64 by omega), if_pos (show x.size + 1 ≤ 9223372036854775807 by omega), hw, ih k _ (i + 1) hs (by omega) (by omega) (by omega), ByteArray.append_assoc]
    have := z64_step (n + 1) (by omega) (by omega)
    rw [show 65 - (n + 1) = 64 - n by omega] at this
    rw [this]
theorem fill_pad (s : ByteArray) (h : s.size ≤ 64) : PF.armoireref03_Fill.f 70 s = some (pad s) := by
  unfold PF.armoireref03_Fill.f pad
  rw [fill_loop (64 - s.size) 70 s 0 (by omega) (by omega) (by omega) (by omega), show 64 - (64 - s.size) = s.size by omega]
theorem pad_empty : pad ⟨#[]⟩ = Z64 := by decide +kernel
def cut64 (s : ByteArray) : ByteArray := s.extract 0 (min 64 s.size)
theorem cut64_size (s : ByteArray) : (cut64 s).size ≤ 64 := by unfold cut64; rw [ByteArray.size_extract]; omega
theorem cut64_f (s : ByteArray) : PF.armoirelaw01_Cut.f s 64 = some (cut64 s) := by
  unfold PF.armoirelaw01_Cut.f cut64
  by_cases h : (s.size : Int) > 64
  · rw [if_pos h, if_pos (by decide), if_pos (by omega), show min 64 s.size = 64 by omega]; rfl
  · rw [if_neg h, show min 64 s.size = s.size by omega, ByteArray.extract_zero_size]
structure Up (d : Dv) (sec : List ByteArray) (cache : List Wr) : Prop where
  sec : d.sec = sec
  cache : d.cache = cache
  left : d.left = -1
  down : d.down = false
theorem Up.call {d : Dv} {sec : List ByteArray} {cache : List Wr} (h : Up d sec cache) : (dvCall d).1 = true ∧ Up (dvCall d).2 sec cache := by
  unfold dvCall
  rw [if_neg (by rw [h.down]; decide), if_neg (by rw [h.left]; decide), if_neg (by rw [h.left]; decide)]
  exact ⟨rfl, h.sec, h.cache, h.left, h.down⟩
theorem Up.write {d : Dv} {sec : List ByteArray} {cache : List Wr} (h : Up d sec cache) (a : Int) (s : ByteArray) (h0 : 0 ≤ a) (h1 : a < sec.length) (hs : s.size ≤ 64) : (dvWrite d a s).1 = 0 ∧ Up (dvWrite d a s).2 sec (cache ++ [⟨a, pad s⟩]) := by
  have hl := congrArg List.length h.sec
  obtain ⟨e, hu⟩ := h.call
  unfold dvWrite
  rw [if_neg (by omega), if_neg (by rw [e]; decide)]
  exact ⟨rfl, hu.sec, by simp only [hu.cache], hu.left, hu.down⟩
theorem Up.flush {d : Dv} {sec : List ByteArray} {cache : List Wr} (h : Up d sec cache) : (dvFlush d).1 = 0 ∧ Up (dvFlush d).2 (lastB sec cache) [] := by
  obtain ⟨e, hu⟩ := h.call
  unfold dvFlush
  rw [if_neg (by rw [e]; decide)]
  exact ⟨rfl, by simp only [h.sec, h.cache], rfl, hu.left, hu.down⟩
theorem Up.crash {d : Dv} {sec : List ByteArray} {cache : List Wr} (h : Up d sec cache) (keep : List Int) : Up (dvCrash d keep) (lastB sec (pick keep cache)) [] := by
  unfold dvCrash; exact ⟨by simp only [h.sec, h.cache], rfl, rfl, rfl⟩
theorem Up.read {d : Dv} {sec : List ByteArray} (h : Up d sec []) (a : Int) (h0 : 0 ≤ a) (h1 : a < sec.length) : dvRead d a = (sec.getD a.toNat ByteArray.empty, 0) := by
  have hl := congrArg List.length h.sec
  unfold dvRead readB
  rw [if_neg (by omega), h.cache, h.sec, h.down]
  rfl
def loose (f : Nat → ByteArray) (m : Nat) : List Wr := (List.range m).map fun (i : Nat) => ⟨i, pad (f i)⟩
theorem loose_succ (f : Nat → ByteArray) (m : Nat) : loose f (m + 1) = loose f m ++ [⟨m, pad (f m)⟩] := by simp [loose, List.range_succ]
theorem loose_ok (f : Nat → ByteArray) (m n : Nat) (h : m ≤ n) : ∀ x ∈ loose f m, 0 ≤ x.at_ ∧ x.at_ < n := by
  intro x hx
  obtain ⟨i, hi, rfl⟩ := List.mem_map.1 hx
  have := List.mem_range.1 hi
  exact ⟨by simp only; omega, by simp only; omega⟩
def secs (f : Nat → ByteArray) : List ByteArray := (List.range 8).map f
theorem secs_length (f : Nat → ByteArray) : (secs f).length = 8 := by simp [secs]
theorem secs_set (f : Nat → ByteArray) (i : Nat) (s : ByteArray) : (secs f).set i s = secs (fun j => if j = i then s else f j) := by
  refine List.ext_getElem (by simp [secs]) fun j h1 h2 => ?_
  simp only [secs, List.getElem_set, List.getElem_map, List.getElem_range]
  by_cases h : i = j
  · rw [if_pos h, if_pos h.symm]
  · rw [if_neg h, if_neg (Ne.symm h)]
theorem secs_congr {f g : Nat → ByteArray} (h : ∀ j, j < 8 → f j = g j) : secs f = secs g := List.map_congr_left fun j hj => h j (List.mem_range.1 hj)
theorem secs_getD (f : Nat → ByteArray) (j : Nat) (h : j < 8) (z : ByteArray) : (secs f).getD j z = f j := by
  rw [List.getD_eq_getElem?_getD, List.getElem?_eq_getElem (by rw [secs_length]; exact h)]; simp [secs]
theorem secs_new (n : Nat) (h : n = 8) : (dvNew n).sec = secs (fun _ => Z64) := by subst h; decide +kernel
theorem lastB_loose (g f : Nat → ByteArray) : ∀ m, m ≤ 8 → lastB (secs g) (loose f m) = secs (fun j => if j < m then pad (f j) else g j) := by
  intro m
  induction m with
  | zero => intro _; exact secs_congr fun j _ => by simp
  | succ m ih =>
    intro hm
    rw [loose_succ, lastB_snoc, ih (by omega), Int.toNat_natCast, secs_set]
    refine secs_congr fun j _ => ?_
    by_cases h : j = m
    · subst h; simp
    · by_cases h2 : j < m
      · rw [if_neg h, if_pos h2, if_pos (by omega)]
      · rw [if_neg h, if_neg h2, if_neg (by omega)]
theorem loose_length (f : Nat → ByteArray) (m : Nat) : (loose f m).length = m := by simp [loose]
theorem lastB_pick (g f : Nat → ByteArray) (keep : List Int) : ∀ m, m ≤ 8 → lastB (secs g) (pick keep (loose f m)) = secs (fun j => if j < m ∧ keep.contains (j : Int) = true then pad (f j) else g j) := by
  intro m
  induction m with
  | zero => intro _; exact secs_congr fun j _ => by simp
  | succ m ih =>
    intro hm
    rw [loose_succ, pick_snoc, loose_length]
    by_cases hk : keep.contains (m : Int) = true
    · rw [if_pos hk, lastB_snoc, ih (by omega), Int.toNat_natCast, secs_set]
      refine secs_congr fun j _ => ?_
      by_cases h : j = m
      · subst h; rw [if_pos rfl, if_pos ⟨by omega, hk⟩]
      · rw [if_neg h]
        by_cases h2 : j < m ∧ keep.contains (j : Int) = true
        · rw [if_pos h2, if_pos ⟨by omega, h2.2⟩]
        · rw [if_neg h2, if_neg (fun h3 => h2 ⟨by omega, h3.2⟩)]
    · rw [if_neg hk, List.append_nil, ih (by omega)]
      refine secs_congr fun j _ => ?_
      by_cases h : j = m
      · subst h; rw [if_neg (fun h3 => by omega), if_neg (fun h3 => hk h3.2)]
      · by_cases h2 : j < m ∧ keep.contains (j : Int) = true
        · rw [if_pos h2, if_pos ⟨by omega, h2.2⟩]
        · rw [if_neg h2, if_neg (fun h3 => h2 ⟨by omega, h3.2⟩)]
end Go.Proofs.Ytbdoccbogndjkaa

namespace Go.Proofs.Ytbdoccbogndjkaa
set_option linter.unusedSimpArgs false
open Go.RowKit Go.Proofs.YtbdoccbogndjkaaW.PrintWords Go.Proofs.YtbdoccbogndjkaaW.PrintLast Go.Proofs.YtbdoccbogndjkaaW.PrintMore
structure LS (w W : World) (b : Nat) (d : Dv) (ws : List ByteArray) : Prop where
  dev : IsDev w W w.heap.size d
  below : Below w.heap.size w W
  ge : w.heap.size ≤ b
  apart : ¬ Foot W w.heap.size b
  want : W.heap[b]? = some (.cells (ws.map Value.string).toArray 9 (0, 0))
theorem LS.move {w W W' : World} {b : Nat} {d d' : Dv} {ws : List ByteArray} (h : LS w W b d ws) (hI : IsDev w W' w.heap.size d') (hB : Below w.heap.size w W') (hK : DevKeep W W' w.heap.size) : LS w W' b d' ws :=
  ⟨hI, hB, h.ge, fun hf => (hK.foot b hf).elim h.apart (fun h2 => by have := blk_lt h.want; omega), (hK.kept.2 b (blk_lt h.want) h.apart).trans h.want⟩
theorem LS.step {w W W' : World} {b : Nat} {d : Dv} {ws : List ByteArray} (h : LS w W b d ws) (hB : Below W.heap.size W W') : LS w W' b d ws := by
  obtain ⟨vs, vc, hD⟩ := h.dev
  exact h.move ⟨vs, vc, hD.below hB⟩ (bsp h.below hB) (DevKeep.of_below hD.lt hB)
theorem LS.put {w W : World} {b : Nat} {d : Dv} {ws : List ByteArray} (h : LS w W b d ws) (i : Nat) (s : ByteArray) : LS w (W.setCell ⟨b, i, none⟩ (.string s)) b d (ws.set i s) := by
  obtain ⟨vs, vc, hD⟩ := h.dev
  have hm : ∀ k, Foot W w.heap.size k → (W.setCell ⟨b, i, none⟩ (.string s)).heap[k]? = W.heap[k]? := fun k hk => Below.heap_setCell _ _ _ k (fun e => h.apart (by cases e; exact hk))
  refine ⟨⟨vs, vc, hD.move hm⟩, h.below.setCell h.ge _, h.ge, fun hf => h.apart ((foot_same (hm _ (.inl rfl)) _).1 hf), ?_⟩
  have := blk_set h.want i (.string s)
  rw [this, List.setIfInBounds_toArray, List.map_set]
theorem LS.cell {w W : World} {b : Nat} {d : Dv} {ws : List ByteArray} (h : LS w W b d ws) (i : Nat) (hi : i < ws.length) : W.cell? ⟨b, i, none⟩ = some (.string (ws.getD i ByteArray.empty)) := by
  rw [kcl h.want i]; simp [hi, List.getD_eq_getElem?_getD]
theorem LS.frozen {w W : World} {b : Nat} {d : Dv} {ws : List ByteArray} (h : LS w W b d ws) (i : Nat) : W.frozen? ⟨b, i, none⟩ = false := kfr h.want i
theorem C_scalar_move {α : Type} {enc : α → Value} {h1 : ∀ x, (enc x).oneCell' = true} {w W : World} {A : Option Addr} {n : Nat} {xs : List α} (h : (Kd.scalar enc h1).C w A n xs) (hm : ∀ k, k < w.heap.size → W.heap[k]? = w.heap[k]?) : (Kd.scalar enc h1).C W A n xs := by
  refine ⟨h.1, h.2.1, fun hn => ?_⟩
  obtain ⟨ad, e, hc⟩ := h.2.2 hn
  refine ⟨ad, e, fun j p hj => ?_⟩
  obtain ⟨c, hs, hr, hcell⟩ := hc j p hj
  refine ⟨c, hs, hr, fun i u hu => ?_⟩
  have h2 := hcell i u hu
  have hlt := World.block_lt_of_cell? w _ h2
  rw [← h2]
  simp only [World.cell?, hm _ hlt]
theorem LS.keep {w W : World} {b : Nat} {d : Dv} {ws : List ByteArray} (h : LS w W b d ws) {A : Option Addr} {l : List Int} (hk : Kd.C (Kd.int .i64) w A l.length l) : ∀ W_, Kept W W_ (Foot W w.heap.size) → Kd.C (Kd.int .i64) W_ A l.length l := fun W_ hK => by
  obtain ⟨vs, vc, hD⟩ := h.dev
  refine C_scalar_move hk fun k hlt => ?_
  exact (hK.2 k (by have := h.below.size; omega) (fun hf => by have := (hD.foot_lt hf).2; omega)).trans (h.below.block k hlt)
theorem mk8_cells : madeCells #[.string ByteArray.empty] 8 = ((secs (fun _ => (⟨#[]⟩ : ByteArray))).map Value.string).toArray := by kernel_rfl
theorem mk8 (W : World) : (Instr.makeSlice 29 (.int .i64 8) (.int .i64 8)).run Try.prog W = .ok (.slice (some ⟨W.heap.size, 0, none⟩) 8 8) (W.alloc (.cells ((secs (fun _ => (⟨#[]⟩ : ByteArray))).map Value.string).toArray 9)) := by
  rw [← mk8_cells]
  exact print_make_of (P := Try.prog) 29 9 (.string ByteArray.empty) 16 Try.underlying29 infoStr rfl (by decide) 8 (by decide) W
attribute [local go_sem] max2_int min2_int max_two min_two
set_option maxHeartbeats 4000000 in
set_option maxRecDepth 100000 in
theorem DeviceLasts.walk (w : World) (A0 : Option Addr) (c0 : Nat) (l0 : List ByteArray) (hr0 : Kd.C Kd.string w A0 l0.length l0) (_ : l0.length ≤ c0) (A1 : Option Addr) (c1 : Nat) (l1 : List ByteArray) (hr1 : Kd.C Kd.string w A1 l1.length l1) (_ : l1.length ≤ c1)
    (A2 : Option Addr) (c2 : Nat) (l2 : List Int) (hr2 : Kd.C (Kd.int .i64) w A2 l2.length l2) (hc2 : l2.length ≤ c2) :
    Calls Try.prog 4 #[.slice A0 l0.length c0, .slice A1 l1.length c1, .slice A2 l2.length c2] w fun e w' => e = .returned (.bool true) ∧ Below w.heap.size w w' := by
  have HN := device_New_good 8 w w (Below.refl _ _) (by omega) (by omega)
  rw [show ((8 : Nat) : Int) = 8 from rfl] at HN
  have HN := Aside0.mk HN
  have HR0 := Aside0.mk hr0
  have HR1 := Aside0.mk hr1
  have HR2 := Aside0.mk hr2
  have hm0 : l0.length ≤ 9223372036854775807 := Kd.C_max hr0
  have hm1 : l1.length ≤ 9223372036854775807 := Kd.C_max hr1
  have hm2 : l2.length ≤ 9223372036854775807 := Kd.C_max hr2
  have hmk := mk8
  clear hr0 hr1 hr2
  obtain ⟨F, hF⟩ : ∃ F : Nat → ByteArray, F = fun j => cut64 (l0.getD j ByteArray.empty) := ⟨_, rfl⟩
  have HF := Aside0.mk hF
  clear hF
  obtain ⟨G, hG⟩ : ∃ G : Nat → ByteArray, G = fun j => cut64 (l1.getD j ByteArray.empty) := ⟨_, rfl⟩
  have HG := Aside0.mk hG
  clear hG
  go_enter Try.func4, Try.ntmps4
  go_wp2_with fail
  refine HN.out.mono ?_
  rintro e w1 ⟨rfl, hI, hB, -⟩
  have HI1 := Aside0.mk hI
  have HB1 := Aside0.mk hB
  clear hI hB
  go_wp2_with fail
  refine (armoirelaw03_awake.calls _).mono ?_
  rintro e w2 ⟨rfl, hB⟩
  obtain ⟨vs, vc, hD⟩ := HI1.out.below hB
  have HI2 := Aside0.mk hD
  have HB2 := Aside0.mk (bsp HB1.out hB)
  clear hB hD HI1 HB1
  have HS := Aside0.mk (show LS w (w2.alloc (.cells ((secs (fun _ => (⟨#[]⟩ : ByteArray))).map Value.string).toArray 9)) w2.heap.size (dvNew 8) (secs (fun _ => ⟨#[]⟩)) from
    ⟨⟨_, _, HI2.out.alloc _⟩, bal HB2.out _, HB2.out.size, fresh_foot HI2.out _, World.alloc_heap_new _ _⟩)
  have HU := Aside0.mk (show Up (dvNew 8) (secs (fun _ => Z64)) (loose F 0) from ⟨secs_new 8 rfl, rfl, rfl, rfl⟩)
  clear HI2 HB2
  go_wp2_with fail
  go_loopw [10] (fun v10 wr => ∃ (i : Nat) (d : Dv), v10 = .int .i64 i ∧ (i ≤ l0.length ∧ i ≤ 8) ∧ Aside0 (Up d (secs (fun _ => Z64)) (loose F i)) ∧ Aside0 (LS w wr w2.heap.size d (secs (fun j => if j < i then F j else ⟨#[]⟩)))) (fun v10 _ => 8 - (intOf v10).toNat)
  case atStart => exact ⟨0, _, rfl, ⟨Nat.zero_le _, Nat.zero_le _⟩, HU, ⟨by simpa using HS.out⟩⟩
  case round =>
    clear HU HS
    obtain ⟨i, d, rfl, ⟨hi, hi8⟩, HU, HS⟩ := hrel
    by_cases q1 : i < l0.length ∧ i < 8
    · obtain ⟨q1, q2⟩ := q1
      have hC0 := Kd.C_below HR0.out HS.out.below
      have hp : (0 : Int) ≤ (i : Int) := by omega
      have hq : (i : Int) < (l0.length : Int) := by omega
      have hm : i ≤ 9223372036854775806 := by omega
      obtain ⟨ad0, e0, hx0⟩ := Kd.at_string hC0 (i : Int) hp hq
      cases e0
      clear hC0
      rw [Int.toNat_natCast] at hx0
      have hFi : F i = cut64 (rdOf ByteArray.empty l0 (i : Int)) := by rw [HF.out]; simp [rdOf]
      have HFi := Aside0.mk hFi
      clear hFi
      generalize rdOf ByteArray.empty l0 (i : Int) = y at hx0 HFi
      go_wp2_with fail
      refine (PF.armoirelaw01_Cut.calls y 64 (cut64 y) _ (cut64_f y)).mono ?_
      rintro e w3 ⟨rfl, hD⟩
      have HS3 := Aside0.mk (HS.out.step hD.below)
      clear hD hx0
      have z1 := HS3.out.cell i (by rw [secs_length]; exact q2)
      have z2 := HS3.out.frozen i
      go_wp2_with fail
      have HS4 := Aside0.mk (HS3.out.put i (cut64 y))
      clear z1 z2
      have hu := HU.out.write (i : Int) (cut64 y) (by omega) (by rw [secs_length]; omega) (cut64_size y)
      have HW := Aside0.mk hu
      clear hu
      refine (device_Write.calls w.heap.size d i (cut64 y) w _ HS4.out.dev HS4.out.below (by rw [HU.out.left]; decide) (by rw [HU.out.cache, loose_length]; omega) (by have := cut64_size y; omega)).mono ?_
      rintro e w5 ⟨rfl, hI, hB, hK⟩
      have HS5 := Aside0.mk (HS4.out.move hI hB hK)
      clear hI hB hK HS3 HS
      obtain ⟨hw1, hw2⟩ := HW.out
      rw [← HFi.out, ← loose_succ] at hw2
      have HU5 := Aside0.mk hw2
      clear hw2
      rw [hw1]
      have hset := secs_set (fun j => if j < i then F j else (⟨#[]⟩ : ByteArray)) i (cut64 y)
      have hcg : secs (fun j => if j = i then cut64 y else if j < i then F j else (⟨#[]⟩ : ByteArray)) = secs (fun j => if j < i + 1 then F j else ⟨#[]⟩) := secs_congr fun j _ => by
        by_cases h : j = i
        · subst h; rw [if_pos rfl, if_pos (Nat.lt_succ_self _), HFi.out]
        · by_cases h2 : j < i
          · rw [if_neg h, if_pos h2, if_pos (by omega)]
          · rw [if_neg h, if_neg h2, if_neg (by omega)]
      have HS6 := HS5.out
      rw [← HFi.out] at HS6 hset hcg
      rw [hset, hcg] at HS6
      have HS6 := Aside0.mk HS6
      clear hset hcg hw1 HS5 HS4
      go_wp2
      go_roundw
      case rel => exact ⟨i + 1, _, by go_num, ⟨by omega, by omega⟩, HU5, HS6⟩
      case measure => simp [intOf]; omega
    · obtain ⟨W0, hW0⟩ : ∃ W0 : Nat → ByteArray, W0 = fun j => if j < i then F j else ⟨#[]⟩ := ⟨_, rfl⟩
      have hS := HS.out
      rw [← hW0] at hS
      have HS7 := Aside0.mk hS
      have HWs := Aside0.mk (show ∀ j, (W0 j).size ≤ 64 by intro j; rw [hW0]; simp only; split; (rw [HF.out]; exact cut64_size _); exact Nat.zero_le _)
      have hfl := HU.out.flush
      rw [lastB_loose _ _ _ hi8, secs_congr (g := fun j => pad (W0 j)) (fun j _ => by rw [hW0]; simp only; split; rfl; exact pad_empty.symm)] at hfl
      have HFL := Aside0.mk hfl
      have HOK := Aside0.mk (show DvOk d by intro x hx; rw [HU.out.cache] at hx; rw [HU.out.sec, secs_length]; exact loose_ok _ _ _ hi8 x hx)
      clear hS hfl hW0 HS
      obtain ⟨m, hm⟩ : ∃ m : Nat, m = min l1.length 8 := ⟨_, rfl⟩
      have HM := Aside0.mk (show m ≤ l1.length ∧ m ≤ 8 by omega)
      have q : ¬ (i < l0.length) ∨ (i < l0.length ∧ ¬ (i < 8)) := by omega
      clear q1 hi hi8
      have hmin : (if (8 : Int) < (l1.length : Int) then (8 : Int) else (l1.length : Int)) = (m : Int) := by split <;> omega
      clear hm
      have q9 : (l0.length : Int) ≤ (i : Int) ∨ ((i : Int) < (l0.length : Int) ∧ (8 : Int) ≤ (i : Int)) := by omega
      clear q
      rcases q9 with q3 | ⟨q3, q4⟩
      all_goals
        go_wp2_with fail
        refine (device_Flush.calls w.heap.size d w _ HS7.out.dev HS7.out.below (by rw [HU.out.left]; decide) HOK.out).mono ?_
        rintro e w8 ⟨rfl, hI, hB, hK⟩
        have HS8 := Aside0.mk (HS7.out.move hI hB hK)
        clear hI hB hK HS7
        obtain ⟨hf1, hf2⟩ := HFL.out
        rw [hf1]
        generalize (dvFlush d).2 = d8 at hf2 HS8
        have HU8 := Aside0.mk hf2
        clear hf1 hf2 HFL HOK HU
        go_wp2_with fail
        go_loopw [61] (fun v61 wr => ∃ (i : Nat) (d : Dv), v61 = .int .i64 i ∧ i ≤ m ∧ Aside0 (Up d (secs (fun j => pad (W0 j))) (loose G i)) ∧ Aside0 (LS w wr w2.heap.size d (secs W0))) (fun v61 _ => m - (intOf v61).toNat)
        case atStart => exact ⟨0, _, rfl, Nat.zero_le _, HU8, HS8⟩
        case round =>
          clear HU8 HS8
          obtain ⟨i, d, rfl, hi, HU, HS⟩ := hrel
          by_cases q1 : i < m
          · have hC0 := Kd.C_below HR1.out HS.out.below
            have hp : (0 : Int) ≤ (i : Int) := by omega
            have hq : (i : Int) < (l1.length : Int) := by have := HM.out; omega
            have hmx : i ≤ 9223372036854775806 := by omega
            obtain ⟨ad0, e0, hx0⟩ := Kd.at_string hC0 (i : Int) hp hq
            cases e0
            clear hC0
            rw [Int.toNat_natCast] at hx0
            have hFi : G i = cut64 (rdOf ByteArray.empty l1 (i : Int)) := by rw [HG.out]; simp [rdOf]
            have HFi := Aside0.mk hFi
            clear hFi
            generalize rdOf ByteArray.empty l1 (i : Int) = y at hx0 HFi
            go_wp2_with fail
            refine (PF.armoirelaw01_Cut.calls y 64 (cut64 y) _ (cut64_f y)).mono ?_
            rintro e w3 ⟨rfl, hD⟩
            have HS3 := Aside0.mk (HS.out.step hD.below)
            clear hD hx0 HS
            go_wp2_with fail
            have HW := Aside0.mk (HU.out.write (i : Int) (cut64 y) (by omega) (by rw [secs_length]; have := HM.out; omega) (cut64_size y))
            refine (device_Write.calls w.heap.size d i (cut64 y) w _ HS3.out.dev HS3.out.below (by rw [HU.out.left]; decide) (by rw [HU.out.cache, loose_length]; have := HM.out; omega) (by have := cut64_size y; omega)).mono ?_
            rintro e w5 ⟨rfl, hI, hB, hK⟩
            have HS5 := Aside0.mk (HS3.out.move hI hB hK)
            clear hI hB hK HS3
            obtain ⟨hw1, hw2⟩ := HW.out
            rw [hw1]
            rw [← HFi.out] at hw2 HS5
            rw [← loose_succ] at hw2
            have HU5 := Aside0.mk hw2
            clear hw1 hw2
            go_wp2
            go_roundw
            case rel => exact ⟨i + 1, _, by go_num, by omega, HU5, HS5⟩
            case measure => simp [intOf]; omega
          · obtain rfl : m = i := by omega
            obtain ⟨K, hK⟩ : ∃ K, K = l2.take 30 := ⟨_, rfl⟩
            have hCK := C_take_int HR2.out 30
            rw [← hK] at hCK
            have hml : K.length ≤ 9223372036854775807 := Kd.C_max hCK
            have HCK := Aside0.mk hCK
            have HK := Aside0.mk hK
            clear hCK hK
            go_wp2_with fail
            have hfew := few.calls A2 c2 l2 _ (Kd.C_below HR2.out HS.out.below) hc2
            rw [← HK.out] at hfew
            refine hfew.mono ?_
            rintro e w3 ⟨rfl, rfl⟩
            clear hfew
            have hcr := HU.out.crash K
            rw [lastB_pick _ _ _ _ HM.out.2] at hcr
            obtain ⟨V, hV⟩ : ∃ V : Nat → Nat → ByteArray, V = fun i j => if j < m ∧ (K.take i).contains (j : Int) = true then G j else W0 j := ⟨_, rfl⟩
            have hcg : secs (fun j => if j < m ∧ K.contains (j : Int) = true then pad (G j) else pad (W0 j)) = secs (fun j => pad (V K.length j)) := secs_congr fun j _ => by
              rw [hV]; simp only [List.take_length]; split <;> rfl
            rw [hcg] at hcr
            have HC := Aside0.mk hcr
            have HOK := Aside0.mk (show DvOk d by intro x hx; rw [HU.out.cache] at hx; rw [HU.out.sec, secs_length]; exact loose_ok _ _ _ HM.out.2 x hx)
            have HV := Aside0.mk hV
            clear hcr hcg hV
            go_wp2_with fail
            refine (device_Crash.calls w.heap.size d A2 c2 K w _ HS.out.dev HS.out.below HOK.out (HS.out.keep HCK.out)).mono ?_
            rintro e w4 ⟨rfl, hI, hB, hK⟩
            have HS9 := Aside0.mk (HS.out.move hI hB hK)
            clear hI hB hK HS
            have hU9 := HC.out
            generalize dvCrash d K = d9 at hU9 HS9
            have HU9 := Aside0.mk hU9
            clear hU9 HC HOK HU
            go_wp2_with fail
            go_loopw [80] (fun v80 wr => ∃ (i : Nat), v80 = .int .i64 i ∧ i ≤ K.length ∧ Aside0 (LS w wr w2.heap.size d9 (secs (V i)))) (fun v80 _ => K.length - (intOf v80).toNat)
            case atStart => exact ⟨0, rfl, Nat.zero_le _, ⟨by have := HS9.out; rw [secs_congr (g := V 0) (fun j _ => by rw [HV.out]; simp)] at this; exact this⟩⟩
            case round =>
              clear HS9
              obtain ⟨i, rfl, hi, HS⟩ := hrel
              by_cases q1 : i < K.length
              · have hC0 := Kd.C_below HCK.out HS.out.below
                have hp : (0 : Int) ≤ (i : Int) := by omega
                have hq : (i : Int) < (K.length : Int) := by omega
                have hmx : i ≤ 9223372036854775806 := by omega
                obtain ⟨ad0, e0, hx0⟩ := Kd.at_int hC0 (i : Int) hp hq
                cases e0
                clear hC0
                rw [Int.toNat_natCast] at hx0
                have hrd : rd K (i : Int) = K.getD i 0 := by simp [rd]
                obtain ⟨k, hk⟩ : ∃ k, k = rd K (i : Int) := ⟨_, rfl⟩
                rw [← hk] at hx0
                have htk : K.take (i + 1) = K.take i ++ [k] := by
                  rw [hk, hrd, List.take_add_one, List.getD_eq_getElem?_getD, List.getElem?_eq_getElem q1]; rfl
                have HT := Aside0.mk htk
                clear htk hrd hk
                have hvs : ∀ x : Nat, V (i + 1) x = if (x : Int) = k ∧ x < m then G x else V i x := by
                  intro x
                  rw [HV.out]
                  simp only [HT.out, List.contains_append, List.contains_cons, List.contains_nil, Bool.or_false, Bool.or_eq_true, beq_iff_eq]
                  by_cases h1 : (x : Int) = k
                  · by_cases h2 : x < m
                    · rw [if_pos ⟨h2, .inr h1⟩, if_pos ⟨h1, h2⟩]
                    · rw [if_neg (fun h => h2 h.1), if_neg (fun h => h2 h.2), if_neg (fun h => h2 h.1)]
                  · rw [if_neg (fun h : (x : Int) = k ∧ x < m => h1 h.1)]
                    by_cases h2 : x < m ∧ (K.take i).contains (x : Int) = true
                    · rw [if_pos h2, if_pos ⟨h2.1, .inl h2.2⟩]
                    · rw [if_neg h2, if_neg (fun h => h2 ⟨h.1, h.2.elim id (fun h => absurd h h1)⟩)]
                have HVS := Aside0.mk hvs
                clear hvs HT
                by_cases q8 : 0 ≤ k ∧ k < (m : Int)
                · obtain ⟨q6, q7⟩ := q8
                  obtain ⟨j, rfl⟩ : ∃ j : Nat, k = j := ⟨k.toNat, by omega⟩
                  have hC0 := Kd.C_below HR1.out HS.out.below
                  have hq2 : (j : Int) < (l1.length : Int) := by have := HM.out; omega
                  have hq3 : (j : Int) < 8 := by have := HM.out; omega
                  obtain ⟨ad1, e1, hx1⟩ := Kd.at_string hC0 (j : Int) q6 hq2
                  cases e1
                  clear hC0
                  rw [Int.toNat_natCast] at hx1
                  have hFi : G j = cut64 (rdOf ByteArray.empty l1 (j : Int)) := by rw [HG.out]; simp [rdOf]
                  have HFi := Aside0.mk hFi
                  clear hFi
                  generalize rdOf ByteArray.empty l1 (j : Int) = y at hx1 HFi
                  have hq4 : j < l1.length := by omega
                  have hq5 : j < 8 := by omega
                  have hq6 : j < m := by omega
                  go_wp2_with fail
                  refine (PF.armoirelaw01_Cut.calls y 64 (cut64 y) _ (cut64_f y)).mono ?_
                  rintro e w3 ⟨rfl, hD⟩
                  have HS3 := Aside0.mk (HS.out.step hD.below)
                  clear hD hx1 HS
                  have z1 := HS3.out.cell j (by rw [secs_length]; exact hq5)
                  have z2 := HS3.out.frozen j
                  go_wp2
                  have hS4 := HS3.out.put j (cut64 y)
                  rw [secs_set, secs_congr (g := V (i + 1)) (fun x _ => by
                    rw [HVS.out x]
                    by_cases h : x = j
                    · subst h; rw [if_pos rfl, if_pos ⟨rfl, hq6⟩, HFi.out]
                    · rw [if_neg h, if_neg (fun h2 => h (by omega))])] at hS4
                  go_roundw
                  case rel => exact ⟨i + 1, by go_num, by omega, ⟨hS4⟩⟩
                  case measure => simp [intOf]; omega
                · have hS4 := HS.out
                  rw [secs_congr (g := V (i + 1)) (fun x _ => by
                    rw [HVS.out x, if_neg (fun h2 => q8 ⟨by omega, by omega⟩)])] at hS4
                  have HS4 := Aside0.mk hS4
                  clear hS4 HS
                  have q9 : k < 0 ∨ (0 ≤ k ∧ (m : Int) ≤ k) := by omega
                  clear q8
                  rcases q9 with q6 | ⟨q6, q7⟩
                  · go_wp2
                    go_roundw
                    case rel => exact ⟨i + 1, by go_num, by omega, HS4⟩
                    case measure => simp [intOf]; omega
                  · go_wp2
                    go_roundw
                    case rel => exact ⟨i + 1, by go_num, by omega, HS4⟩
                    case measure => simp [intOf]; omega
              · obtain rfl : i = K.length := by omega
                have HVZ := Aside0.mk (show ∀ j, (V K.length j).size ≤ 64 by intro j; rw [HV.out]; simp only; split; (rw [HG.out]; exact cut64_size _); exact HWs.out j)
                go_wp2_with fail
                go_loopw [102] (fun v102 wr => ∃ (i : Nat), v102 = .int .i64 i ∧ i ≤ 8 ∧ Aside0 (LS w wr w2.heap.size d9 (secs (V K.length)))) (fun v102 _ => 8 - (intOf v102).toNat)
                case atStart => exact ⟨0, rfl, Nat.zero_le _, HS⟩
                case round =>
                  clear HS
                  obtain ⟨i, rfl, hi, HS⟩ := hrel
                  by_cases q1 : i < 8
                  · have z1 := HS.out.cell i (by rw [secs_length]; exact q1)
                    rw [secs_getD _ _ q1] at z1
                    have hrd := HU9.out.read (i : Int) (by omega) (by rw [secs_length]; omega)
                    rw [Int.toNat_natCast, secs_getD _ _ q1] at hrd
                    have hfp := fill_pad (V K.length i) (HVZ.out i)
                    generalize V K.length i = y at z1 hrd hfp
                    have HRD := Aside0.mk hrd
                    have HFP := Aside0.mk hfp
                    clear hrd hfp
                    have hyy : ((pad y).toList != (pad y).toList) = false := by simp
                    have hyz : ((pad y).toList == (pad y).toList) = true := by simp
                    go_wp2_with fail
                    have hR := device_Read.calls w.heap.size d9 i w _ HS.out.dev
                    rw [HRD.out] at hR
                    refine hR.mono ?_
                    rintro e w6 ⟨rfl, hB⟩
                    have HS6 := Aside0.mk (HS.out.step hB)
                    clear hB hR HS z1
                    go_wp2_with fail
                    refine (PF.armoireref03_Fill.calls 70 y (pad y) _ HFP.out).mono ?_
                    rintro e w7 ⟨rfl, hD⟩
                    have HS7 := Aside0.mk (HS6.out.step hD.below)
                    clear hD HS6
                    go_wp2
                    go_roundw
                    case rel => exact ⟨i + 1, by go_num, by omega, HS7⟩
                    case measure => simp [intOf]; omega
                  · obtain rfl : i = 8 := by omega
                    obtain ⟨vs, vc, hD⟩ := HS.out.dev
                    have HD := Aside0.mk hD
                    clear hD
                    go_wp2_with fail
                    refine (device_Loose.calls w.heap.size vs vc d9 w _ HD.out).mono ?_
                    rintro e w8 ⟨rfl, rfl⟩
                    rw [HU9.out.cache]
                    go_wp2
                    go_ret
                    exact ⟨rfl, HS.out.below⟩
end Go.Proofs.Ytbdoccbogndjkaa

namespace Go.Proofs.Ytbdoccbogndjkaa
open Go.RowKit Go.Proofs.YtbdoccbogndjkaaW.PrintWords
def Reads {H : Type} (enc : TypeId × Value → H) (P : Program) (W : World) (base : Nat) (spare : Nat → Bool) (held : Bool) {α : Type} (d : Kd α) (t : TypeId) (ok : α → Prop) : Prop :=
  P.cellsOf t = d.sz ∧ ∀ fuel cs x, DataW.trod enc P W base spare held fuel t cs = some x → ∃ y, d.K W y cs ∧ ok y
section
variable {H : Type} {enc : TypeId × Value → H} {P : Program} {W : World} {base : Nat} {spare : Nat → Bool} {held : Bool}
theorem Reads.int {k : IntKind} {t : TypeId} (hu : P.underlying t = some (.int k)) (hc : P.cellsOf t = 1) : Reads enc P W base spare held (Kd.int k) t (fun n => (Lit.int k n).wf = true) :=
  ⟨hc, fun _ _ _ h => by obtain ⟨n, rfl, _, hw⟩ := DataW.trod_int hu h; exact ⟨n, rfl, hw⟩⟩
theorem Reads.bool {t : TypeId} (hu : P.underlying t = some .bool) (hc : P.cellsOf t = 1) : Reads enc P W base spare held Kd.bool t (fun _ => True) :=
  ⟨hc, fun _ _ _ h => by obtain ⟨n, rfl, _⟩ := DataW.trod_bool hu h; exact ⟨n, rfl, trivial⟩⟩
theorem Reads.string {t : TypeId} (hu : P.underlying t = some .string) (hc : P.cellsOf t = 1) : Reads enc P W base spare held Kd.string t (fun s => s.size ≤ maxLen) :=
  ⟨hc, fun _ _ _ h => by obtain ⟨n, rfl, _, hw⟩ := DataW.trod_string hu h; exact ⟨n, rfl, hw⟩⟩
theorem list_of {α β : Type} (l : List β) (R : α → β → Prop) (h : ∀ b ∈ l, ∃ a, R a b) : ∃ xs : List α, xs.length = l.length ∧ ∀ (j : Nat) (a : α), xs[j]? = some a → ∃ b, l[j]? = some b ∧ R a b := by
  induction l with
  | nil => exact ⟨[], rfl, fun j a h => by simp at h⟩
  | cons b l ih =>
    obtain ⟨a, ha⟩ := h b List.mem_cons_self
    obtain ⟨xs, hl, hx⟩ := ih (fun b hb => h b (List.mem_cons_of_mem _ hb))
    refine ⟨a :: xs, by simp [hl], fun j a' hj => ?_⟩
    cases j with
    | zero => simp only [List.getElem?_cons_zero, Option.some.injEq] at hj; subst hj; exact ⟨b, rfl, ha⟩
    | succ j => exact hx j a' (by simpa using hj)
theorem Reads.row {α : Type} {d : Kd α} {ok : α → Prop} {t e : TypeId} (hu : P.underlying t = some (.slice e)) (he : Reads enc P W base spare held d e ok) {fuel : Nat} {cs : List Value} {x : DataW H × List MemPlace}
    (h : DataW.trod enc P W base spare held fuel t cs = some x) : ∃ A c, ∃ xs : List α, cs = [.slice A xs.length c] ∧ xs.length ≤ c ∧ Kd.C d W A xs.length xs ∧ xs.length ≤ maxLen ∧ ∀ y ∈ xs, ok y := by
  rcases DataW.trod_slice hu h with ⟨rfl, _⟩ | ⟨a, len, cap, elems, rest, n, _, rfl, _, _, hl, hm, hlen, hel, _, _⟩
  · exact ⟨none, 0, [], rfl, Nat.le_refl _, ⟨rfl, by simp, fun h => by simp at h⟩, by simp, fun y hy => by simp at hy⟩
  · have each : ∀ i ∈ List.range len, ∃ y : α, (∃ c, d.K W y c ∧ c.length = d.sz ∧ ∀ j u, c[j]? = some u → W.cell? (a.add (i * d.sz + j)) = some u) ∧ ok y := by
      intro i hi
      have hi' : i < len := by simpa using hi
      have h1 := hel i hi'
      rw [he.1] at h1
      have h2 : ∃ c, W.cells? base (a.add (i * d.sz)) d.sz = some c ∧ (DataW.trod enc P W base spare held n e c) = elems[i]? := by
        cases hc : W.cells? base (a.add (i * d.sz)) d.sz with
        | none =>
          rw [hc] at h1
          have : i < elems.length := by omega
          simp [this] at h1
        | some c =>
          rw [hc] at h1
          exact ⟨c, rfl, h1⟩
      obtain ⟨c, hc, hx⟩ := h2
      have hi2 : i < elems.length := by omega
      rw [List.getElem?_eq_getElem hi2] at hx
      obtain ⟨y, hy, hok⟩ := he.2 _ _ _ hx
      obtain ⟨_, hcl, hcc⟩ := World.cells?_some hc
      refine ⟨y, ⟨c, hy, hcl, fun j u hj => ?_⟩, hok⟩
      have hj' : j < c.length := (List.getElem?_eq_some_iff.1 hj).1
      have h3 := hcc j (by omega)
      rw [hj] at h3
      have e1 : (a.add (i * d.sz)).add j = a.add (i * d.sz + j) := by
        by_cases hi0 : i * d.sz = 0 <;> by_cases hj0 : j = 0 <;> simp [Addr.add, hi0, hj0] <;> omega
      rwa [e1] at h3
    obtain ⟨xs, hxl, hxs⟩ := list_of (List.range len) _ each
    have hxl' : xs.length = len := by simpa using hxl
    have hm' : len ≤ maxLen := Nat.le_trans hl hm
    refine ⟨some a, cap, xs, by rw [hxl'], by omega, ⟨rfl, by unfold maxLen at hm'; omega, fun _ => ⟨a, rfl, fun j p hp => ?_⟩⟩, by omega, fun y hy => ?_⟩
    · obtain ⟨i, hi, ⟨c, hk, hcl, hcc⟩, _⟩ := hxs j p hp
      have hj : j < len := by have := (List.getElem?_eq_some_iff.1 hp).1; omega
      obtain rfl : j = i := by simpa [List.getElem?_range hj] using hi
      exact ⟨c, hcl, hk, hcc⟩
    · obtain ⟨j, hj⟩ := List.mem_iff_getElem?.1 hy
      obtain ⟨i, _, _, hok⟩ := hxs j y hj
      exact hok
theorem Reads.slice {α : Type} {d : Kd α} {ok : α → Prop} {t e : TypeId} (hu : P.underlying t = some (.slice e)) (hc : P.cellsOf t = 1) (he : Reads enc P W base spare held d e ok) :
    Reads enc P W base spare held (Kd.slice e d) t (fun xs => xs.length ≤ maxLen ∧ ∀ y ∈ xs, ok y) :=
  ⟨hc, fun _ _ _ h => by
    obtain ⟨A, c, xs, rfl, h1, h2, h3, h4⟩ := Reads.row hu he h
    exact ⟨xs, ⟨A, c, rfl, h1, h2⟩, h3, h4⟩⟩
end
end Go.Proofs.Ytbdoccbogndjkaa

