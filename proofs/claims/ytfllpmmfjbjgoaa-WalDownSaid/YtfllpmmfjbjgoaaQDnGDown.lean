import Derived.Test.YtfllpmmfjbjgoaaQDnGMath
import Derived.Test.YtfllpmmfjbjgoaaQDnPAx6
import Derived.Test.YtfllpmmfjbjgoaaQDnPAx0
namespace Go.Proofs.Ytfllpmmfjbjgoaa.PA
set_option linter.unusedSimpArgs false
open Go.RowKit Go.Proofs.YtfllpmmfjbjgoaaW.PrintWords Go.Proofs.YtfllpmmfjbjgoaaW.PrintLast Go.Proofs.YtfllpmmfjbjgoaaW.PrintMore Go.Proofs.Ytfllpmmfjbjgoaa Go.Proofs.Ytfllpmmfjbjgoaa.PL
set_option maxHeartbeats 2000000 in
theorem law_begin.calls (fr ln next : Int) (w : World) (h : openE fr ln next 24 = 0) :
    Calls Try.prog 24 #[.agg #[.int .i64 fr, .int .i64 ln], .int .i64 next] w fun e w' => ∃ g b : Nat, e = .returned (.tuple #[.pointer (some ⟨g, 0, none⟩), .pointer (some ⟨b, 0, none⟩), .bool true]) ∧ LogSt w w' g b ⟨dvNew 24, fr, ln, next, next⟩ := by
  have hb : (w.alloc (.cells #[.int .i64 fr, .int .i64 ln] 28)).heap[w.heap.size]? = _ := World.alloc_heap_new w (.cells #[.int .i64 fr, .int .i64 ln] 28)
  have HX := Aside0.mk hb
  have HB := Aside0.mk (bal (Below.refl w.heap.size w) (.cells #[.int .i64 fr, .int .i64 ln] 28))
  have hn := device_New_good 24 w (w.alloc (.cells #[.int .i64 fr, .int .i64 ln] 28)) HB.out (by decide) (by decide)
  rw [show ((24 : Nat) : Int) = 24 from rfl, show (w.alloc (.cells #[.int .i64 fr, .int .i64 ln] 28)).heap.size = w.heap.size + 1 by simp] at hn
  have hs24 : (dvNew 24).sec.length = 24 := by simp [dvNew]
  generalize dvNew 24 = dn at hn hs24 ⊢
  have HN := Aside0.mk hn
  have HS24 := Aside0.mk hs24
  have H := Aside0.mk h
  clear hb h hn hs24
  go_enter Try.func24, Try.ntmps24
  go_wp2_with fail
  refine HN.out.mono ?_
  rintro e w1 ⟨rfl, hI, hB, hB2⟩
  have HI1 := Aside0.mk hI
  have HB1 := Aside0.mk hB
  have hx1 := (hB2.block w.heap.size (by omega)).trans HX.out
  have b0 := (kcl hx1 0).trans rfl
  have b1 := (kcl hx1 1).trans rfl
  clear hI hB hB2 hx1
  go_wp2_with fail
  refine (wal_Open_ok _ dn fr ln next w w1 HI1.out HB1.out (by rw [HS24.out]; decide) (by rw [HS24.out, show ((24 : Nat) : Int) = 24 from rfl]; exact H.out)).mono ?_
  rintro e w2 ⟨b, rfl, hL, hB⟩
  have HL := Aside0.mk hL
  clear hL hB
  go_wp2
  go_ret3
  exact ⟨_, _, rfl, HL.out⟩
set_option maxRecDepth 100000 in
theorem i64_and2k (k : Nat) (m : Int) (hm : (BitVec.ofInt 64 m).toNat = 2 ^ k - 1) (hk : k ≤ 16) (n : Int) : bits .and .i64 n m = n % ((2 ^ k : Nat) : Int) := by
  have key : (BitVec.ofInt 64 n &&& BitVec.ofInt 64 m).toNat = (n % ((2 ^ 64 : Nat) : Int)).toNat % 2 ^ k := by
    rw [BitVec.toNat_and, BitVec.toNat_ofInt, hm, Nat.and_two_pow_sub_one_eq_mod]
  show IntKind.i64.wrap ((BitVec.ofInt 64 n &&& BitVec.ofInt 64 m).toNat : Nat) = n % ((2 ^ k : Nat) : Int)
  rw [key, IntKind.wrap_i64]
  have h1 : (2 ^ k : Nat) ∣ 2 ^ 64 := Nat.pow_dvd_pow 2 (by omega)
  have h2 : (2 : Nat) ^ k ≤ 2 ^ 16 := Nat.pow_le_pow_right (by omega) hk
  have h3 : 0 < (2 : Nat) ^ k := Nat.two_pow_pos k
  have h4 : ((n % ((2 ^ 64 : Nat) : Int)).toNat % 2 ^ k : Nat) = n % ((2 ^ k : Nat) : Int) := by
    rw [Int.natCast_emod, Int.toNat_of_nonneg (Int.emod_nonneg _ (by decide))]
    exact Int.emod_emod_of_dvd n (Int.natCast_dvd_natCast.2 h1)
  have h5 : (n % ((2 ^ 64 : Nat) : Int)).toNat % 2 ^ k < 2 ^ k := Nat.mod_lt _ h3
  rw [← h4]
  clear h4 key h1
  revert h5
  generalize (n % ((2 ^ 64 : Nat) : Int)).toNat % 2 ^ k = X
  intro h5
  have h6 : X < 65536 := by omega
  clear h5 h2 h3
  omega
theorem i64_and7 (n : Int) : bits .and .i64 n 7 = n % 8 := i64_and2k 3 7 (by decide) (by decide) n
theorem i64_and255 (n : Int) : bits .and .i64 n 255 = n % 256 := i64_and2k 8 255 (by decide) (by decide) n
def Z100 : ByteArray := ⟨(List.replicate 100 (0 : UInt8)).toArray⟩
def zObj100 : Obj := .cells (madeCells #[.int .u8 0] 100) 5
theorem str_zeros100 : strOfNums (List.replicate 100 (0 : Int)) = Z100 := by decide +kernel
theorem zeros100_make (W : World) : (Instr.makeSlice 79 (.int .i64 100) (.int .i64 100)).run Try.prog W = .ok (.slice (some ⟨W.heap.size, 0, none⟩) 100 100) (W.alloc zObj100) :=
  print_make_int (P := Try.prog) 79 5 (.int .u8 0) 1 Try.underlying79 infoU8d rfl (by decide) 100 (by decide) (by decide) W
theorem zeros100_conv (W : World) : (convert 79 9 (.slice (some ⟨W.heap.size, 0, none⟩) 100 100)).run Try.prog (W.alloc zObj100) = .ok (.string Z100) (W.alloc zObj100) := by
  have h := own_made' W 0 5 .u8 100 (Nat.zero_le _) (by decide)
  have hr := own_reads' h
  have h2 := string_of_reads (P := Try.prog) (c := 100) Try.underlying79 Try.underlying5 Try.underlying9 hr
  rw [str_zeros100] at h2
  exact h2
theorem z100_size : Z100.size = 100 := by decide +kernel
theorem aw_open : openE 1 10 7 24 = 0 := by decide
theorem lgok_mk (d : Dv) (fr ln hd nx : Int) (h1 : 2 ≤ ln ∧ ln ≤ 1000) (h2 : 0 ≤ fr ∧ fr ≤ 1000) (h3 : 1 ≤ hd ∧ hd ≤ nx) (h4 : nx ≤ hd + ln ∧ nx ≤ 1000000) : LgOk ⟨d, fr, ln, hd, nx⟩ := ⟨h1, h2, h3, h4⟩
def aw0 : Lg := ⟨dvNew 24, 1, 10, 7, 7⟩
theorem aw_ok : LgOk aw0 := ⟨⟨by decide, by decide⟩, ⟨by decide, by decide⟩, ⟨by decide, by decide⟩, ⟨by decide, by decide⟩⟩
theorem aw_cost : costN Z100.size = 3 := by rw [z100_size]; rfl
theorem aw_app : ∃ d, lgApp aw0 Z100 = (⟨7, 9, Z100⟩, 0, ⟨d, 1, 10, 7, 10⟩) ∧ DI 24 3 d ∧ stR d 8 = (7, 1, piece Z100 0, true, 0) := by
  have hc := aw_cost
  obtain ⟨d, h1, h2, h3⟩ := lgApp_up aw0 Z100 24 0 aw_ok (upn_new 24) (DI.new 24) (by decide) (by decide) (by rw [hc]; decide)
  have hr := h2.read (by rw [hc]; decide) 0 (by rw [hc]; decide)
  rw [hc] at h1 h3 hr
  refine ⟨d, h1, h3, ?_⟩
  have hf := sec_fit 7 Z100 0 3 (by decide)
  have hd : dvRead d 8 = (tx (7 + ((0 : Nat) : Int)) (markN 0 3) (piece Z100 0), 0) := by
    unfold dvRead
    have hr8 : readB d 8 = tx (7 + ((0 : Nat) : Int)) (markN 0 3) (piece Z100 0) := hr
    rw [if_neg (by rw [h3.sec]; decide), h2.up.down, if_neg (by decide), hr8]
  unfold stR
  rw [hd, if_pos rfl, pS_tx _ _ _ hf (by decide)]
  rfl
set_option maxHeartbeats 4000000 in
set_option maxRecDepth 100000 in
theorem law_awake.calls (w : World) : Calls Try.prog 11 #[] w fun e w' => e = .returned (.bool true) ∧ Below w.heap.size w w' := by
  obtain ⟨d, ha, hd, hs⟩ := aw_app
  have HA := Aside0.mk ha
  have HD := Aside0.mk hd
  have HS := Aside0.mk hs
  have m1 := zeros100_make
  have m2 := zeros100_conv
  have hc := cost_f 45 (by decide)
  rw [show (costN 45 : Int) = 2 from rfl] at hc
  have HC := Aside0.mk hc
  clear ha hd hs hc
  go_enter Try.func11, Try.ntmps11
  go_wp2_with fail
  refine (law_begin.calls 1 10 7 w aw_open).mono ?_
  rintro e w1 ⟨g, b, rfl, hL⟩
  have HL1 := Aside0.mk (hL.step (bal (Below.refl _ _) zObj100))
  clear hL
  go_wp2_with fail
  have hap := wal_Append.calls g b 24 0 aw0 Z100 w _ HL1.out aw_ok (DI.new 24) (by decide) (by rw [z100_size]; decide)
  rw [HA.out] at hap
  refine hap.mono ?_
  rintro e w2 ⟨rfl, hL, hK⟩
  have hL2 := hL.step (bal (Below.refl _ _) (.cells #[.int .i64 7, .int .i64 9, .string Z100] 59))
  have hO2 := Own.new hL #[.int .i64 7, .int .i64 9, .string Z100] 59
  have HL2 := Aside0.mk hL2
  have HO2 := Aside0.mk hO2
  clear hap hL hK hL2 hO2 m1 m2
  go_wp2_with fail
  have hrd := stamp_Read.calls g d 8 w _ HL2.out.dev (HD.out.read 8)
  rw [HS.out] at hrd
  refine hrd.mono ?_
  rintro e w3 ⟨rfl, hB⟩
  have HL3 := Aside0.mk ((HL2.out.step hB).step (bal (Below.refl _ _) (.cells #[.int .i64 7, .int .u8 1, .string (piece Z100 0)] 41)))
  have hO3 := (HO2.out.below HL2.out hB).below (HL2.out.step hB) (bal (Below.refl _ _) (.cells #[.int .i64 7, .int .u8 1, .string (piece Z100 0)] 41))
  have HO3 := Aside0.mk hO3
  have r0 := (kcl hO3.blk 0).trans rfl
  have r1 := (kcl hO3.blk 1).trans rfl
  clear hB hrd hO3
  go_wp2_with fail
  refine (wal_Next.calls g b _ w _ HL3.out).mono ?_
  rintro e w4 ⟨rfl, rfl⟩
  go_wp2_with fail
  refine (wal_Free.calls g b _ w _ HL3.out (lgok_mk _ 1 10 7 10 (by decide) (by decide) (by decide) (by decide))).mono ?_
  rintro e w5 ⟨rfl, ⟨m5, rfl⟩⟩
  go_wp2_with fail
  refine (wal_Cost.calls _ _ _ HC.out).mono ?_
  rintro e w6 ⟨rfl, hB⟩
  have HB6 := Aside0.mk (bsp (bdn HL3.out.below m5) hB)
  clear hB
  go_wp2
  go_ret
  exact ⟨rfl, HB6.out⟩
end Go.Proofs.Ytfllpmmfjbjgoaa.PA

namespace Go.Proofs.Ytfllpmmfjbjgoaa.PA
set_option linter.unusedSimpArgs false
open Go.RowKit Go.Proofs.YtfllpmmfjbjgoaaW.PrintWords Go.Proofs.YtfllpmmfjbjgoaaW.PrintLast Go.Proofs.YtfllpmmfjbjgoaaW.PrintMore Go.Proofs.Ytfllpmmfjbjgoaa Go.Proofs.Ytfllpmmfjbjgoaa.PL
theorem log_Arm (g b : Nat) (l : Lg) (n : Int) (w0 w : World) (h : LogSt w0 w g b l) :
    Calls Try.prog 32 #[.pointer (some ⟨g, 0, none⟩), .int .i64 n] w fun e w' => e = .returned (.tuple #[]) ∧ LogSt w0 w' g b { l with dev := { l.dev with left := n } } ∧ LogKeep w w' g b := by
  obtain ⟨vs, vc, hD⟩ := h.dev
  refine (device_Arm.calls g vs vc l.dev n w0 w hD).mono ?_
  rintro e w' ⟨rfl, rfl⟩
  have hD2 : Dev w0 (w.setCell ⟨g, 2, none⟩ (.int .i64 n)) g vs vc { l.dev with left := n } := hD.num rfl rfl rfl
  have hK : DevKeep w (w.setCell ⟨g, 2, none⟩ (.int .i64 n)) g := (DevKeep.refl _ _).num hD hD2
  exact ⟨rfl, h.call ⟨vs, vc, hD2⟩ (h.below.setCell (p := ⟨g, 2, none⟩) hD.ge _) hK, LogKeep.of_dev hK b⟩
theorem log_Crash (g b : Nat) (l : Lg) (A1 : Option Addr) (k1 : Nat) (keep : List Int) (w0 w : World) (h : LogSt w0 w g b l) (hok : DvOk l.dev) (hf : ∀ W_, Kept w W_ (Foot w g) → Kd.C (Kd.int .i64) W_ A1 keep.length keep) :
    Calls Try.prog 33 #[.pointer (some ⟨g, 0, none⟩), .slice A1 keep.length k1] w fun e w' => e = .returned (.tuple #[]) ∧ LogSt w0 w' g b { l with dev := dvCrash l.dev keep } ∧ LogKeep w w' g b := by
  refine (device_Crash.calls g l.dev A1 k1 keep w0 w h.dev h.below hok hf).mono ?_
  rintro e w' ⟨rfl, hI, hB, hK⟩
  exact ⟨rfl, h.call hI hB hK, LogKeep.of_dev hK b⟩
theorem no_keep (W : World) : Kd.C (Kd.int .i64) W none ([] : List Int).length [] := ⟨rfl, by simp, fun h => by simp at h⟩
end Go.Proofs.Ytfllpmmfjbjgoaa.PA

namespace Go.Proofs.Ytfllpmmfjbjgoaa.PA
set_option linter.unusedSimpArgs false
open Go.RowKit Go.Proofs.YtfllpmmfjbjgoaaW.PrintWords Go.Proofs.YtfllpmmfjbjgoaaW.PrintLast Go.Proofs.YtfllpmmfjbjgoaaW.PrintMore Go.Proofs.Ytfllpmmfjbjgoaa Go.Proofs.Ytfllpmmfjbjgoaa.PL
theorem ref_cost_l0 (n : Nat) (hn : n ≤ 1000000) : ∀ (d j k : Nat), j + d = costN n → 1 ≤ j → d < k → armoireref05_Cost.l0 k (n : Int) (j : Int) = some (costN n : Int) := by
  have hc := cost_pos n
  intro d
  induction d with
  | zero =>
    intro j k h1 h2 h3
    obtain ⟨k, rfl⟩ : ∃ q, k = q + 1 := ⟨k - 1, by omega⟩
    have hj : j = costN n := by omega
    rw [armoireref05_Cost.l0, wrapI _ (by omega), if_neg (by omega), hj]
  | succ d ih =>
    intro j k h1 h2 h3
    obtain ⟨k, rfl⟩ : ∃ q, k = q + 1 := ⟨k - 1, by omega⟩
    have hlt : 44 * j < n := by unfold costN at h1; omega
    rw [armoireref05_Cost.l0, wrapI (44 * (j : Int)) (by omega), if_pos (by omega), wrapI _ (by omega), show (j : Int) + 1 = ((j + 1 : Nat) : Int) by omega]
    exact ih (j + 1) k (by omega) (by omega) (by omega)
theorem ref_cost (n : Nat) (hn : n ≤ 1000000) : armoireref05_Cost.f (costN n + 1) (n : Int) = some (costN n : Int) := by
  have hc := cost_pos n
  exact ref_cost_l0 n hn (costN n - 1) 1 (costN n + 1) (by omega) (by omega) (by omega)
end Go.Proofs.Ytfllpmmfjbjgoaa.PA

namespace Go.Proofs.Ytfllpmmfjbjgoaa.PA
set_option linter.unusedSimpArgs false
open Go.RowKit Go.Proofs.YtfllpmmfjbjgoaaW.PrintWords Go.Proofs.YtfllpmmfjbjgoaaW.PrintLast Go.Proofs.YtfllpmmfjbjgoaaW.PrintMore Go.Proofs.Ytfllpmmfjbjgoaa Go.Proofs.Ytfllpmmfjbjgoaa.PL
theorem appLoop_lim (fr ln nx : Int) (t : ByteArray) (n : Nat) (hln : 1 ≤ ln) (hfr : 0 ≤ fr) (hnx : 1 ≤ nx) (hmx : nx + n ≤ 1000000) : ∀ (m k c : Nat) (d : Dv), k + m = n → d.down = false → d.left = c → fr + ln ≤ d.sec.length →
    (appLoop fr ln nx t n m k d).1 = (if m ≤ c then 0 else 16) ∧ (appLoop fr ln nx t n m k d).2.sec = d.sec := by
  intro m
  induction m with
  | zero => intro k c d _ _ _ _; exact ⟨(if_pos (Nat.zero_le _)).symm, rfl⟩
  | succ m ih =>
    intro k c d hk hd hl hs
    have h1 := Int.emod_nonneg (nx + k) (show ln ≠ 0 by omega)
    have h2 := Int.emod_lt_of_pos (nx + k) (show (0 : Int) < ln by omega)
    have hf := sec_fit nx t k n (by omega)
    have hz := tx_size _ _ _ hf
    have hc : chkS (nx + k) (piece t k) = 0 := by
      unfold chkS
      rw [if_neg (by omega), if_neg (by have := piece_size t k; omega)]
    have e : stW d (fr + (nx + k) % ln) (nx + k) (markN k n) (piece t k) = dvWrite d (fr + (nx + k) % ln) (tx (nx + k) (markN k n) (piece t k)) := by unfold stW; rw [if_pos hc]
    have hw : dvWrite d (fr + (nx + k) % ln) (tx (nx + k) (markN k n) (piece t k)) = if (dvCall d).1 = false then (16, (dvCall d).2) else (0, { (dvCall d).2 with cache := (dvCall d).2.cache ++ [⟨fr + (nx + k) % ln, pad (tx (nx + k) (markN k n) (piece t k))⟩] }) := by
      unfold dvWrite
      rw [if_neg (by omega)]
    cases c with
    | zero =>
      have hcl : dvCall d = (false, { d with down := true }) := by
        unfold dvCall
        rw [if_neg (by rw [hd]; decide), if_pos (by rw [hl]; rfl)]
      have h2 : dvWrite d (fr + (nx + k) % ln) (tx (nx + k) (markN k n) (piece t k)) = (16, { d with down := true }) := by rw [hw, hcl]; rfl
      rw [appLoop, e, h2, if_neg (show ¬ ((16, { d with down := true }) : Int × Dv).1 = 0 from (by decide : ¬ (16 : Int) = 0)), if_neg (by omega)]
      exact ⟨rfl, rfl⟩
    | succ c =>
      have hcl : dvCall d = (true, { d with left := d.left - 1, calls := wrap64 (d.calls + 1) }) := by
        unfold dvCall
        rw [if_neg (by rw [hd]; decide), if_neg (by omega), if_pos (by omega)]
      obtain ⟨d2, hd2⟩ : ∃ d2 : Dv, d2 = { d with left := d.left - 1, calls := wrap64 (d.calls + 1), cache := d.cache ++ [⟨fr + (nx + k) % ln, pad (tx (nx + k) (markN k n) (piece t k))⟩] } := ⟨_, rfl⟩
      have h2 : dvWrite d (fr + (nx + k) % ln) (tx (nx + k) (markN k n) (piece t k)) = (0, d2) := by rw [hw, hcl, hd2]; rfl
      rw [appLoop, e, h2, if_pos (show ((0, d2) : Int × Dv).1 = 0 from rfl)]
      have := ih (k + 1) c d2 (by omega) (by rw [hd2]; exact hd) (by rw [hd2]; show d.left - 1 = c; omega) (by rw [hd2]; exact hs)
      have hse : d2.sec = d.sec := by rw [hd2]
      rw [hse] at this
      by_cases q : m ≤ c
      · rw [if_pos q] at this; rw [if_pos (by omega)]; exact this
      · rw [if_neg q] at this; rw [if_neg (by omega)]; exact this
theorem crash_none (d : Dv) (h : d.sec = List.replicate 24 Z64) : dvCrash d [] = { sec := List.replicate 24 Z64, cache := [], left := -1, down := false, calls := d.calls } := by
  have hp : pick [] d.cache = [] := by
    unfold pick
    have : (List.filter (fun p : Wr × Nat => ([] : List Int).contains (p.2 : Int)) d.cache.zipIdx) = [] := by simp
    rw [this]; rfl
  unfold dvCrash
  rw [hp, h]
  rfl
theorem down_app (s : ByteArray) (c : Nat) (nx : Int) (hs : s.size ≤ 200) (hn : 1 ≤ nx ∧ nx ≤ 300) (hc7 : c ≤ 7) : ∃ r d' nx', lgApp ⟨{ dvNew 24 with left := c }, 0, 10, nx, nx⟩ s = (r, (if costN s.size ≤ c then 0 else 16), ⟨d', 0, 10, nx, nx'⟩) ∧ DI 24 10 d' ∧ d'.sec = List.replicate 24 Z64 ∧ (¬ costN s.size ≤ c → nx' = nx) ∧ 1 ≤ nx ∧ nx ≤ nx' := by
  have hc := cost_pos s.size
  obtain ⟨a1, a2⟩ := appLoop_lim 0 10 nx s (costN s.size) (by decide) (by decide) hn.1 (by omega) (costN s.size) 0 c { dvNew 24 with left := c } (by omega) rfl rfl (by simp [dvNew])
  have a3 := appLoop_DI 0 10 nx s (costN s.size) (costN s.size) 0 0 { dvNew 24 with left := c } (N := 24) ((DI.new 24).arm c (by omega))
  unfold lgApp
  rw [if_neg (by show ¬ (costN s.size : Int) > 10 - (nx - nx); omega)]
  dsimp only
  rw [a1]
  by_cases q : costN s.size ≤ c
  · rw [if_pos q, if_pos rfl]
    exact ⟨_, _, _, rfl, a3.later (by omega), a2, fun h => absurd q h, hn.1, by omega⟩
  · rw [if_neg q, if_neg (by decide)]
    exact ⟨_, _, _, rfl, a3.later (by omega), a2, fun _ => rfl, hn.1, by omega⟩
theorem zeros_scan (n : Nat) (at_ : Int) (d : Dv) (hd : d.down = false) (hs : d.sec = List.replicate 24 Z64) (hc : d.cache = []) (fr ln : Int) (h1 : 0 ≤ fr + at_ % ln) (h2 : fr + at_ % ln < 24) : scan (secAt d fr ln) n at_ 0 ⟨#[]⟩ = ([], at_) := by
  cases n with
  | zero => simp [scan]
  | succ n =>
    have hv : secAt d fr ln at_ = none := by
      have hlen : d.sec.length = 24 := by rw [hs]; simp
      rw [secAt_gd hd h1 (by omega)]
      have hr : readB d (fr + at_ % ln) = Z64 := by
        unfold readB
        rw [hc]
        show d.sec.getD (fr + at_ % ln).toNat ByteArray.empty = Z64
        rw [hs, List.getD_eq_getElem?_getD, List.getElem?_replicate, if_pos (by omega)]
        rfl
      rw [hr]; exact gd_z64 _
    rw [scan_none hv]; simp
theorem crash_sec (d : Dv) (h : d.sec = List.replicate 24 Z64) : (dvCrash d []).sec = List.replicate 24 Z64 := by rw [crash_none d h]
set_option maxHeartbeats 16000000 in
set_option maxRecDepth 100000 in
theorem WalDown.walk (a0 : Int) (_ : (Lit.int .i64 a0).wf = true) (a1 : ByteArray) (hs : a1.size ≤ 140737488351232) (a2 : Int) (_ : (Lit.int .i64 a2).wf = true) (w : World) :
    Calls Try.prog 6 #[.int .i64 a0, .string a1, .int .i64 a2] w fun e w' => e = .returned (.bool true) ∧ Below w.heap.size w w' := by
  have m1 := i64_and255 a0
  have m2 := i64_and7 a2
  obtain ⟨c, hc⟩ : ∃ c : Nat, a2 % 8 = c := ⟨(a2 % 8).toNat, by omega⟩
  obtain ⟨q0, hq0⟩ : ∃ q0 : Nat, a0 % 256 = q0 := ⟨(a0 % 256).toNat, by omega⟩
  obtain ⟨nn, hnx⟩ : ∃ nn : Nat, nn = q0 + 1 := ⟨_, rfl⟩
  rw [hq0] at m1
  have HQ := Aside0.mk (show 1 ≤ (nn : Int) ∧ (nn : Int) ≤ 300 by omega)
  have hc8 : c ≤ 7 := by omega
  have E1 := Aside0.mk (show wrap64 (1 + (q0 : Int)) = (nn : Int) by rw [wrapI _ ⟨by omega, by omega⟩]; omega)
  rw [hc] at m2
  clear hnx hc hq0
  obtain ⟨s1, hs1⟩ : ∃ s1 : ByteArray, s1 = if 200 < a1.size then a1.extract 0 200 else a1 := ⟨_, rfl⟩
  have hz1 : s1.size ≤ 200 := by rw [hs1]; split; (rw [ByteArray.size_extract]; omega); omega
  obtain ⟨r, d', nx', hap, hdi, hse, hne, hp1, hp2⟩ := down_app s1 c (nn : Int) hz1 HQ.out hc8
  have hrc := ref_cost s1.size (by omega)
  have hk := cost_pos s1.size
  have HS1 := Aside0.mk hs1
  have HZ1 := Aside0.mk hz1
  have HA := Aside0.mk hap
  have HDI := Aside0.mk hdi
  have HSE := Aside0.mk hse
  have HNE := Aside0.mk hne
  have HDN := Aside0.mk ((DI.new 24).arm c (by omega))
  have HRC := Aside0.mk hrc
  generalize costN s1.size = kk at HRC HA HNE
  obtain ⟨er, her⟩ : ∃ er : Int, er = if kk ≤ c then 0 else 16 := ⟨_, rfl⟩
  rw [← her] at HA
  have HER := Aside0.mk her
  clear her
  clear hs1 hz1 hap hdi hse hne hrc hk hs
  have e1 := E1.out
  go_enter Try.func6, Try.ntmps6
  go_wp2_with fail
  refine (law_awake.calls _).mono ?_
  rintro e w0 ⟨rfl, hB⟩
  have HB0 := Aside0.mk hB
  clear hB
  go_upto_if 22 with fail
  go_cut [1] (fun v1 wc => v1 = .string s1 ∧ w0 = wc)
  case first =>
    by_cases q : 200 < a1.size
    · clear e1
      have q1 : decide ((200 : Int) < (a1.size : Int)) = true := decide_eq_true (by omega)
      have q2 : (200 : Int) ≤ (a1.size : Int) := by omega
      have Q := Aside0.mk q
      clear q
      rw [q1]
      go_wp2
      go_meet
      exact ⟨by rw [HS1.out, if_pos Q.out], rfl⟩
    · clear e1
      have q1 : decide ((200 : Int) < (a1.size : Int)) = false := decide_eq_false (by omega)
      have Q := Aside0.mk q
      clear q
      rw [q1]
      go_wp2
      go_meet
      exact ⟨by rw [HS1.out, if_neg Q.out], rfl⟩
  case rest =>
    obtain ⟨rfl, rfl⟩ := hcut
    clear e1
    have hx := World.alloc_heap_new w0 (.cells #[.int .i64 0, .int .i64 10] 28)
    have HX := Aside0.mk hx
    have HB1 := Aside0.mk (bal HB0.out (.cells #[.int .i64 0, .int .i64 10] 28))
    have b0 := (kcl hx 0).trans rfl
    have b1 := (kcl hx 1).trans rfl
    have ho : openE 0 10 (nn : Int) 24 = 0 := by
      unfold openE
      rw [if_pos (show chkA 0 10 24 = 0 by decide), if_neg (by have := HQ.out; omega)]
    have HO := Aside0.mk ho
    clear hx ho
    obtain ⟨w1, hw1⟩ : ∃ w1, w1 = w0.alloc (.cells #[.int .i64 0, .int .i64 10] 28) := ⟨_, rfl⟩
    rw [← hw1] at HX HB1 b0 b1
    have e1 := E1.out
    go_wp2_with fail
    rw [← hw1]
    clear e1
    refine (law_begin.calls 0 10 (nn : Int) w1 HO.out).mono ?_
    rintro e w3 ⟨g, b, rfl, hL⟩
    have HL3 := Aside0.mk hL
    clear hL b0 b1
    go_wp2_with fail
    refine (wal_Next.calls g b _ _ _ HL3.out).mono ?_
    rintro e w4 ⟨rfl, rfl⟩
    go_wp2_with fail
    refine (log_Arm g b _ c _ _ HL3.out).mono ?_
    rintro e w4 ⟨rfl, hL, hK⟩
    have HL4 := Aside0.mk hL
    clear hL hK
    go_wp2_with fail
    have hap := wal_Append.calls g b 24 0 _ s1 _ w4 HL4.out (lgok_mk _ 0 10 (nn : Int) (nn : Int) (by decide) (by decide) (by have := HQ.out; omega) (by have := HQ.out; omega)) HDN.out (by decide) (by have := HZ1.out; omega)
    rw [HA.out] at hap
    refine hap.mono ?_
    rintro e w5 ⟨rfl, hL, hK⟩
    have HL5 := Aside0.mk (hL.step (bal (Below.refl _ _) (.cells #[.int .i64 r.f0, .int .i64 r.f1, .string r.f2] 59)))
    clear hL hK hap
    go_wp2_with fail
    refine (armoireref05_Cost.calls _ _ _ _ HRC.out).mono ?_
    rintro e w6 ⟨rfl, ⟨m6, rfl⟩⟩
    have HL6 := Aside0.mk (HL5.out.step (bdn (Below.refl _ _) m6))
    generalize World.drewN _ m6 = w6 at HL6 ⊢
    by_cases q : kk ≤ c
    · have q1 : decide ((kk : Int) ≤ (c : Int)) = true := decide_eq_true (by omega)
      have her : er = 0 := HER.out.trans (if_pos q)
      clear HER
      subst her
      have q2 : decide (kk ≤ c) = true := decide_eq_true q
      go_wp2_with fail
      refine (log_Crash g b _ none 0 [] _ _ HL6.out HDI.out.ok (fun W_ _ => no_keep W_)).mono ?_
      rintro e w7 ⟨rfl, hL, hK⟩
      have HL7 := Aside0.mk hL
      have hx7 := (hL.below.block w0.heap.size (blk_lt HX.out)).trans HX.out
      have b0 := (kcl hx7 0).trans rfl
      have b1 := (kcl hx7 1).trans rfl
      clear hL hK hx7
      go_wp2_with fail
      have hsc := wal_Scan.calls g (dvCrash d' []) 0 10 (nn : Int) _ w7 24 0 HL7.out.dev rfl ((HDI.out).crash []) (by decide) (by decide) (by have := HQ.out; omega)
      rw [zeros_scan _ (nn : Int) (dvCrash d' []) rfl (crash_sec d' HSE.out) rfl 0 10 (by omega) (by omega)] at hsc
      refine hsc.mono ?_
      rintro e w8 ⟨v, rfl, hR, hB⟩
      obtain ⟨A8, c8, rfl⟩ := Kd.R_slice hR
      have HB8 := Aside0.mk (bsp (bsp HB1.out HL7.out.below) hB)
      clear hR hB hsc
      go_wp2
      go_ret
      exact ⟨rfl, HB8.out⟩
    · have q1 : decide ((kk : Int) ≤ (c : Int)) = false := decide_eq_false (by omega)
      have hnx' := HNE.out q
      have her : er = 16 := HER.out.trans (if_neg q)
      clear HER
      subst her hnx'
      have q2 : decide (kk ≤ c) = false := decide_eq_false q
      go_wp2_with fail
      refine (wal_Next.calls g b _ _ _ HL6.out).mono ?_
      rintro e w9 ⟨rfl, rfl⟩
      go_wp2_with fail
      refine (log_Crash g b _ none 0 [] _ _ HL6.out HDI.out.ok (fun W_ _ => no_keep W_)).mono ?_
      rintro e w7 ⟨rfl, hL, hK⟩
      have HL7 := Aside0.mk hL
      have hx7 := (hL.below.block w0.heap.size (blk_lt HX.out)).trans HX.out
      have b0 := (kcl hx7 0).trans rfl
      have b1 := (kcl hx7 1).trans rfl
      clear hL hK hx7
      go_wp2_with fail
      have hsc := wal_Scan.calls g (dvCrash d' []) 0 10 (nn : Int) _ w7 24 0 HL7.out.dev rfl ((HDI.out).crash []) (by decide) (by decide) (by have := HQ.out; omega)
      rw [zeros_scan _ (nn : Int) (dvCrash d' []) rfl (crash_sec d' HSE.out) rfl 0 10 (by omega) (by omega)] at hsc
      refine hsc.mono ?_
      rintro e w8 ⟨v, rfl, hR, hB⟩
      obtain ⟨A8, c8, rfl⟩ := Kd.R_slice hR
      have HB8 := Aside0.mk (bsp (bsp HB1.out HL7.out.below) hB)
      clear hR hB hsc
      go_wp2
      go_ret
      exact ⟨rfl, HB8.out⟩
end Go.Proofs.Ytfllpmmfjbjgoaa.PA

