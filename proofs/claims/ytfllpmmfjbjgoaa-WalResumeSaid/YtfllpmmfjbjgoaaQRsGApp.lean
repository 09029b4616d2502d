import Derived.Test.YtfllpmmfjbjgoaaQRsGSmall
import Derived.Test.YtfllpmmfjbjgoaaQRsPAx6
namespace Go.Proofs.Ytfllpmmfjbjgoaa.PA
set_option linter.unusedSimpArgs false
open Go.RowKit Go.Proofs.YtfllpmmfjbjgoaaW.PrintWords Go.Proofs.YtfllpmmfjbjgoaaW.PrintLast Go.Proofs.YtfllpmmfjbjgoaaW.PrintMore Go.Proofs.Ytfllpmmfjbjgoaa Go.Proofs.Ytfllpmmfjbjgoaa.PL
structure Own (W : World) (g b q : Nat) (o : Obj) : Prop where
  blk : W.heap[q]? = some o
  apart : ¬ Foot W g q
  ne : q ≠ b
section
variable {w0 w W W1 : World} {g b q : Nat} {l : Lg} {o : Obj}
theorem Own.keep (h : Own W g b q o) (hK : LogKeep W W1 g b) : Own W1 g b q o := by
  have hlt : q < W.heap.size := (Array.getElem?_eq_some_iff.1 h.blk).1
  exact ⟨(hK.kept.2 q hlt (fun hs => hs.elim h.apart h.ne)).trans h.blk, fun hf => (hK.foot q hf).elim h.apart (fun h2 => by omega), h.ne⟩
theorem Own.below (h : Own W g b q o) (hL : LogSt w0 W g b l) (hB : Below W.heap.size W W1) : Own W1 g b q o := h.keep (LogKeep.of_below hL hB)
theorem Own.new (h : LogSt w0 W g b l) (cs : Array Value) (t : Nat) : Own (W.alloc (.cells cs t)) g b W.heap.size (.cells cs t (0, 0)) := by
  obtain ⟨vs, vc, hD⟩ := h.dev
  have hB : Below W.heap.size W (W.alloc (.cells cs t)) := bal (Below.refl _ _) _
  exact ⟨World.alloc_heap_new W _, fun hf => by have := (hD.foot_lt ((foot_same (hB.block g hD.lt) _).1 hf)).1; omega, fun e => by have := h.lt; omega⟩
theorem Own.set {cs : Array Value} {t : Nat} (h : Own W g b q (.cells cs t (0, 0))) (hg : g ≠ q) (i : Nat) (u : Value) : Own (W.setCell ⟨q, i, none⟩ u) g b q (.cells (cs.setIfInBounds i u) t (0, 0)) :=
  ⟨blk_set h.blk i u, fun hf => h.apart ((foot_same (Below.heap_setCell W ⟨q, i, none⟩ u g hg) q).1 hf), h.ne⟩
theorem Own.g_ne (h : Own W g b q o) : g ≠ q := fun e => h.apart (.inl e.symm)
theorem Own.other {q2 : Nat} {o2 : Obj} (h : Own W g b q o) (h2 : Own W g b q2 o2) (hne : q ≠ q2) (i : Nat) (u : Value) : Own (W.setCell ⟨q2, i, none⟩ u) g b q o :=
  ⟨(Below.heap_setCell W ⟨q2, i, none⟩ u q hne).trans h.blk, fun hf => h.apart ((foot_same (Below.heap_setCell W ⟨q2, i, none⟩ u g h2.g_ne) q).1 hf), h.ne⟩
theorem LogSt.own (h : LogSt w0 W g b l) (hq : Own W g b q o) (hge : w0.heap.size ≤ q) (i : Nat) (u : Value) : LogSt w0 (W.setCell ⟨q, i, none⟩ u) g b l := by
  obtain ⟨vs, vc, hD⟩ := h.dev
  have hm : ∀ k, k ≠ q → (W.setCell ⟨q, i, none⟩ u).heap[k]? = W.heap[k]? := fun k hk => Below.heap_setCell W ⟨q, i, none⟩ u k hk
  have hmf : ∀ k, Foot W g k → (W.setCell ⟨q, i, none⟩ u).heap[k]? = W.heap[k]? := fun k hk => hm k (fun e => hq.apart (e ▸ hk))
  exact ⟨⟨vs, vc, hD.move hmf⟩, h.below.setCell (p := ⟨q, i, none⟩) hge u, h.ge, fun hf => h.apart ((foot_same (hm g hq.g_ne) b).1 hf), (hm b (Ne.symm hq.ne)).trans h.blk⟩
theorem LogKeep.own (hK : LogKeep w W g b) (hq : Own W g b q o) (hge : w.heap.size ≤ q) (i : Nat) (u : Value) : LogKeep w (W.setCell ⟨q, i, none⟩ u) g b :=
  ⟨hK.kept.setCell (p := ⟨q, i, none⟩) (.inr hge) u, fun k hf => hK.foot k ((foot_same (Below.heap_setCell W ⟨q, i, none⟩ u g hq.g_ne) k).1 hf)⟩
end
theorem wrapK (n : Int) (h : -9223372036854775808 ≤ n ∧ n ≤ 9223372036854775807) : IntKind.i64.wrap n = n := by
  have e : IntKind.i64.wrap n = wrap64 n := by
    simp [IntKind.wrap, IntKind.signed, IntKind.bits, wrap64]
    split <;> omega
  rw [e]; unfold wrap64; omega
def costN (n : Nat) : Nat := (n - 1) / 44 + 1
theorem cost_f (n : Nat) (h : n ≤ 1000000000000000) : wal_Cost.f (n : Int) = some (costN n : Int) := by
  have hm : mx (n : Int) 1 = ((max n 1 : Nat) : Int) := by unfold mx; split <;> omega
  unfold wal_Cost.f costN
  rw [hm, show wrap64 (((max n 1 : Nat) : Int) - 1) = ((n - 1 : Nat) : Int) by unfold wrap64; omega, Int.tdiv_eq_ediv_of_nonneg (by omega)]
  congr 1
  unfold wrap64
  omega
def markN (k n : Nat) : Int := (if k = 0 then 1 else 0) + (if k + 1 = n then 2 else 0)
def piece (t : ByteArray) (k : Nat) : ByteArray := t.extract (44 * k) (min (44 * k + 44) t.size)
def appLoop (fr ln nx : Int) (t : ByteArray) (n : Nat) : Nat → Nat → Dv → Int × Dv
  | 0, _, d => (0, d)
  | m + 1, k, d => if (stW d (fr + (nx + k) % ln) (nx + k) (markN k n) (piece t k)).1 = 0 then appLoop fr ln nx t n m (k + 1) (stW d (fr + (nx + k) % ln) (nx + k) (markN k n) (piece t k)).2 else stW d (fr + (nx + k) % ln) (nx + k) (markN k n) (piece t k)
def noRec : S59 := ⟨0, 0, ⟨#[]⟩⟩
def lgApp (l : Lg) (t : ByteArray) : S59 × Int × Lg :=
  if (costN t.size : Int) > l.ln - (l.nx - l.hd) then (noRec, 13, l)
  else if (appLoop l.fr l.ln l.nx t (costN t.size) (costN t.size) 0 l.dev).1 = 0 then (⟨l.nx, l.nx + costN t.size - 1, t⟩, 0, { l with dev := (appLoop l.fr l.ln l.nx t (costN t.size) (costN t.size) 0 l.dev).2, nx := l.nx + costN t.size })
  else (noRec, (appLoop l.fr l.ln l.nx t (costN t.size) (costN t.size) 0 l.dev).1, { l with dev := (appLoop l.fr l.ln l.nx t (costN t.size) (costN t.size) 0 l.dev).2 })
theorem bits_or3 : bits .or .u8 0 1 = 1 ∧ bits .or .u8 0 2 = 2 ∧ bits .or .u8 1 2 = 3 := by decide +kernel
structure AS (w0 w W : World) (g b : Nat) (l : Lg) (q1 q2 q3 : Nat) (o1 o2 o3 : Obj) : Prop where
  log : LogSt w0 W g b l
  keep : LogKeep w W g b
  a1 : Own W g b q1 o1
  a2 : Own W g b q2 o2
  a3 : Own W g b q3 o3
theorem AS.set {w0 w W : World} {g b : Nat} {l l0 : Lg} {q1 q2 q3 : Nat} {o1 o2 : Obj} {cs : Array Value} {t : Nat} (h : AS w0 w W g b l q1 q2 q3 o1 o2 (.cells cs t (0, 0))) (h1 : q1 < q3) (h2 : q2 < q3) (hw : LogSt w0 w g b l0) (i : Nat) (u : Value) (hq : w.heap.size ≤ q1 := by exact Nat.le_refl _) : AS w0 w (W.setCell ⟨q3, i, none⟩ u) g b l q1 q2 q3 o1 o2 (.cells (cs.setIfInBounds i u) t (0, 0)) :=
  ⟨h.log.own h.a3 (by have := hw.below.size; omega) i u, h.keep.own h.a3 (by omega) i u, h.a1.other h.a3 (by omega) i u, h.a2.other h.a3 (by omega) i u, h.a3.set h.a3.g_ne i u⟩
theorem AS.step {w0 w W W1 : World} {g b : Nat} {l l2 : Lg} {q1 q2 q3 : Nat} {o1 o2 o3 : Obj} (h : AS w0 w W g b l q1 q2 q3 o1 o2 o3) (hL : LogSt w0 W1 g b l2) (hK : LogKeep W W1 g b) : AS w0 w W1 g b l2 q1 q2 q3 o1 o2 o3 :=
  ⟨hL, h.keep.trans hK, h.a1.keep hK, h.a2.keep hK, h.a3.keep hK⟩
attribute [local go_sem] max2_int max_two min2_int min_two
set_option maxHeartbeats 8000000 in
set_option maxRecDepth 100000 in
theorem wal_Append_full (g b : Nat) (l : Lg) (t : ByteArray) (w0 w : World) (h : LogSt w0 w g b l) (ho : LgOk l) (ht : t.size ≤ 1000000000000000) (hb : (costN t.size : Int) > l.ln - (l.nx - l.hd)) :
    Calls Try.prog 25 #[.pointer (some ⟨b, 0, none⟩), .string t] w fun e w' => e = .returned (.tuple #[.agg #[.int .i64 0, .int .i64 0, .string ⟨#[]⟩], .int .i64 13]) ∧ LogSt w0 w' g b l ∧ LogKeep w w' g b := by
  have hO := Own.new h #[.int .i64 0, .int .i64 0, .string ⟨#[]⟩] 59
  have hL := h.step (bal (Below.refl _ _) (.cells #[.int .i64 0, .int .i64 0, .string ⟨#[]⟩] 59))
  have HK := Aside0.mk (LogKeep.of_below h (bal (Below.refl _ _) (.cells #[.int .i64 0, .int .i64 0, .string ⟨#[]⟩] 59)))
  have HL := Aside0.mk hL
  have HO := Aside0.mk hO
  have HW := Aside0.mk h
  have HC := Aside0.mk (cost_f t.size ht)
  have p1 : decide (l.ln - (l.nx - l.hd) < (costN t.size : Int)) = true := decide_eq_true hb
  have LO := Aside0.mk ho
  clear h hO hL ht hb ho
  generalize costN t.size = n at HC p1
  go_enter Try.func25, Try.ntmps25
  go_wp2_with fail
  refine (wal_Cost.calls _ _ _ HC.out).mono ?_
  rintro e w2 ⟨rfl, hB⟩
  have HL2 := Aside0.mk (HL.out.step hB)
  have HO2 := Aside0.mk (HO.out.below HL.out hB)
  have HK2 := Aside0.mk (HK.out.trans (LogKeep.of_below HL.out hB))
  clear hB
  go_wp2_with fail
  refine (wal_Free.calls g b l w0 _ HL2.out LO.out).mono ?_
  rintro e w3 ⟨rfl, ⟨m3, rfl⟩⟩
  have hB := bdn (Below.refl w2.heap.size w2) m3
  have hO3 := HO2.out.below HL2.out hB
  have HO3 := Aside0.mk hO3
  have HL3 := Aside0.mk (HL2.out.step hB)
  have HK3 := Aside0.mk (HK2.out.trans (LogKeep.of_below HL2.out hB))
  have r0 := (kcl hO3.blk 0).trans rfl
  have r1 := (kcl hO3.blk 1).trans rfl
  have r2 := (kcl hO3.blk 2).trans rfl
  have f0 := kfr hO3.blk 0
  have f1 := kfr hO3.blk 1
  have f2 := kfr hO3.blk 2
  clear hB hO3
  go_wp2
  have hge : w.heap.size ≤ w.heap.size := Nat.le_refl _
  have hq0 := HO3.out.set HO3.out.g_ne 0 (.int .i64 0)
  have hq1 := hq0.set hq0.g_ne 1 (.int .i64 0)
  have hq2 := hq1.set hq1.g_ne 2 (.string ⟨#[]⟩)
  refine bodyPost_ret (results_ct rfl _ _ w.heap.size 59 #[.int .i64 0, .int .i64 0, .string ⟨#[]⟩] (0, 0) _ rfl hq2.blk Try.underlying59 rfl (by kernel_rfl)) rfl ?_
  have hw0 : w0.heap.size ≤ w.heap.size := HW.out.below.size
  exact ⟨rfl, ((HL3.out.own HO3.out hw0 0 _).own hq0 hw0 1 _).own hq1 hw0 2 _, ((HK3.out.own HO3.out hge 0 _).own hq0 hge 1 _).own hq1 hge 2 _⟩
set_option maxHeartbeats 16000000 in
set_option maxRecDepth 100000 in
theorem wal_Append.calls (g b N k : Nat) (l : Lg) (t : ByteArray) (w0 w : World) (h : LogSt w0 w g b l) (ho : LgOk l) (hn : DI N k l.dev) (hk : k ≤ 900000) (ht : t.size ≤ 1000000000000000) :
    Calls Try.prog 25 #[.pointer (some ⟨b, 0, none⟩), .string t] w fun e w' => e = .returned (.tuple #[.agg #[.int .i64 (lgApp l t).1.f0, .int .i64 (lgApp l t).1.f1, .string (lgApp l t).1.f2], .int .i64 (lgApp l t).2.1]) ∧ LogSt w0 w' g b (lgApp l t).2.2 ∧ LogKeep w w' g b := by
  unfold lgApp
  by_cases hb : (costN t.size : Int) > l.ln - (l.nx - l.hd)
  · rw [if_pos hb]
    exact wal_Append_full g b l t w0 w h ho ht hb
  rw [if_neg hb]
  obtain ⟨n, hn2⟩ : ∃ n, n = costN t.size := ⟨_, rfl⟩
  have hn1 : t.size ≤ 44 * n ∧ 44 * n ≤ t.size + 44 ∧ 1 ≤ n := by rw [hn2]; unfold costN; omega
  have hnl : (n : Int) ≤ 1000 ∧ l.nx + n ≤ 1002000 ∧ 1 ≤ l.nx := by have := ho.ln; have := ho.hd; have := ho.nx; omega
  rw [← hn2] at hb ⊢
  obtain ⟨R, hR⟩ : ∃ R, R = appLoop l.fr l.ln l.nx t n n 0 l.dev := ⟨_, rfl⟩
  rw [← hR]
  obtain ⟨X, hX⟩ : ∃ X : S59 × Int × Lg, X = if R.1 = 0 then (⟨l.nx, l.nx + n - 1, t⟩, 0, { l with dev := R.2, nx := l.nx + n }) else (noRec, R.1, { l with dev := R.2 }) := ⟨_, rfl⟩
  rw [← hX]
  have HXR := Aside0.mk hX
  clear hX
  have hO := Own.new h #[.int .i64 0, .int .i64 0, .string ⟨#[]⟩] 59
  have hL := h.step (bal (Below.refl _ _) (.cells #[.int .i64 0, .int .i64 0, .string ⟨#[]⟩] 59))
  have HK := Aside0.mk (LogKeep.of_below h (bal (Below.refl _ _) (.cells #[.int .i64 0, .int .i64 0, .string ⟨#[]⟩] 59)))
  have HL := Aside0.mk hL
  have HO := Aside0.mk hO
  have HW := Aside0.mk h
  have hc := cost_f t.size ht
  rw [← hn2] at hc
  have HC := Aside0.mk hc
  have HN := Aside0.mk hn
  have HR := Aside0.mk hR
  have LO := Aside0.mk ho
  have HNL := Aside0.mk hnl
  have HN1 := Aside0.mk hn1
  have p1 : decide (l.ln - (l.nx - l.hd) < (n : Int)) = false := decide_eq_false hb
  have e1 : wrap64 (l.nx + (n : Int)) = l.nx + (n : Int) := wrapI _ (by omega)
  have e2 : wrap64 (l.nx + (n : Int) - 1) = l.nx + (n : Int) - 1 := wrapI _ (by omega)
  have p2 : decide ((1099511627776 : Int) < l.nx + (n : Int) - 1) = false := decide_eq_false (by omega)
  have hmx : n ≤ 9223372036854775807 := by omega
  clear h hO hL ht hb ho hc hn hR hn2 hnl hn1
  go_enter Try.func25, Try.ntmps25
  go_wp2_with fail
  refine (wal_Cost.calls _ _ _ HC.out).mono ?_
  rintro e w2 ⟨rfl, hB⟩
  have HL2 := Aside0.mk (HL.out.step hB)
  have HO2 := Aside0.mk (HO.out.below HL.out hB)
  have HK2 := Aside0.mk (HK.out.trans (LogKeep.of_below HL.out hB))
  clear hB
  go_wp2_with fail
  refine (wal_Free.calls g b l w0 _ HL2.out LO.out).mono ?_
  rintro e w3 ⟨rfl, ⟨m3, rfl⟩⟩
  have hB := bdn (Below.refl w2.heap.size w2) m3
  have HO3 := Aside0.mk (HO2.out.below HL2.out hB)
  have HL3 := Aside0.mk (HL2.out.step hB)
  have HK3 := Aside0.mk (HK2.out.trans (LogKeep.of_below HL2.out hB))
  clear hB HL HL2 HO HO2 HK HK2
  generalize w2.drewN m3 = w3 at HO3 HL3 HK3 ⊢
  have c4 := HL3.out.c4
  go_wp2_with fail
  go_region_held3 (fun w' => w'.cell? ⟨b, 4, none⟩ = some (.int .i64 l.nx)) (first | exact c4 | exact pw_cell_below (bal (Below.refl _ _) _) c4) (first | fail)
  have e3 : IntKind.i64.wrap (l.nx + (n : Int)) = l.nx + (n : Int) := wrapK _ (by have := HNL.out; omega)
  have e4 : IntKind.i64.wrap (l.nx + (n : Int) - 1) = l.nx + (n : Int) - 1 := wrapK _ (by have := HNL.out; omega)
  rw [e3, e4]
  have hB4 := below_drew (bal (Below.refl w3.heap.size w3) (.cells #[.int .i64 l.nx, .int .i64 (l.nx + (n : Int) - 1), .string t] 59))
  have HO4 := Aside0.mk (HO3.out.below HL3.out hB4)
  have hQ4 : Own (w3.alloc (.cells #[.int .i64 l.nx, .int .i64 (l.nx + (n : Int) - 1), .string t] 59)).drew g b w3.heap.size _ := let h := Own.new HL3.out #[.int .i64 l.nx, .int .i64 (l.nx + (n : Int) - 1), .string t] 59; ⟨h.blk, h.apart, h.ne⟩
  have HQ4 := Aside0.mk hQ4
  have HL4 := Aside0.mk (HL3.out.step hB4)
  have HK4 := Aside0.mk (HK3.out.trans (LogKeep.of_below HL3.out hB4))
  have hne4 : w.heap.size ≠ w3.heap.size := fun e => by have h1 := (Array.getElem?_eq_some_iff.1 HO3.out.blk).1; omega
  have HNE4 := Aside0.mk hne4
  clear hB4 c4 hne4 hQ4 e3 e4
  go_wp2_with fail
  go_loopw [44] (fun v44 wr => ∃ (j : Nat) (d : Dv), v44 = .int .i64 j ∧ j ≤ n ∧ Aside0 (appLoop l.fr l.ln l.nx t n (n - j) j d = R) ∧ Aside0 (DI N (k + j) d) ∧ Aside0 (LogSt w0 wr g b { l with dev := d }) ∧ Aside0 (LogKeep w wr g b) ∧ Aside0 (Own wr g b w.heap.size (.cells #[.int .i64 0, .int .i64 0, .string ⟨#[]⟩] 59 (0, 0))) ∧ Aside0 (Own wr g b w3.heap.size (.cells #[.int .i64 l.nx, .int .i64 (l.nx + (n : Int) - 1), .string t] 59 (0, 0)))) (fun v44 _ => n - (intOf v44).toNat)
  case atStart => exact ⟨0, l.dev, rfl, Nat.zero_le _, ⟨HR.out.symm⟩, HN, HL4, HK4, HO4, HQ4⟩
  case round =>
    clear HL4 HK4 HO4 HQ4
    obtain ⟨j, d, rfl, hj, HR, HN, HL, HK, HO, HQ⟩ := hrel
    have c0 := HL.out.c0
    have c1 := HL.out.c1
    have c2 := HL.out.c2
    have c4 := HL.out.c4
    by_cases q : j < n
    rotate_left
    · obtain rfl : j = n := by omega
      have hr := HR.out
      rw [Nat.sub_self, appLoop] at hr
      have HR' := Aside0.mk hr
      have f4 := HL.out.fz 4
      have r0 := (kcl HQ.out.blk 0).trans rfl
      have r1 := (kcl HQ.out.blk 1).trans rfl
      have r2 := (kcl HQ.out.blk 2).trans rfl
      have f0 := kfr HO.out.blk 0
      have f1 := kfr HO.out.blk 1
      have f2 := kfr HO.out.blk 2
      have o0 := (kcl HO.out.blk 0).trans rfl
      have o1 := (kcl HO.out.blk 1).trans rfl
      have o2 := (kcl HO.out.blk 2).trans rfl
      have n1 := HO.out.ne
      have n2 := HQ.out.ne
      have n3 := HNE4.out
      clear hr
      go_wp2
      have hL5 := HL.out.put (i := 4) (u := .int .i64 (l.nx + (j : Int))) (l2 := { l with dev := d, nx := l.nx + j }) rfl rfl
      have hK5 := HK.out.trans (LogKeep.put HL.out 4 (.int .i64 (l.nx + (j : Int))))
      have hO5 := HO.out.keep (LogKeep.put HL.out 4 (.int .i64 (l.nx + (j : Int))))
      have hq0 := hO5.set hO5.g_ne 0 (.int .i64 l.nx)
      have hq1 := hq0.set hq0.g_ne 1 (.int .i64 (l.nx + (j : Int) - 1))
      have hq2 := hq1.set hq1.g_ne 2 (.string t)
      refine bodyPost_ret (results_ct rfl _ _ w.heap.size 59 #[.int .i64 l.nx, .int .i64 (l.nx + (j : Int) - 1), .string t] (0, 0) _ rfl hq2.blk Try.underlying59 rfl (by kernel_rfl)) rfl ?_
      have hw0 : w0.heap.size ≤ w.heap.size := HW.out.below.size
      have hge : w.heap.size ≤ w.heap.size := Nat.le_refl _
      rw [HXR.out, ← HR'.out, if_pos (show ((0, d) : Int × Dv).1 = 0 from rfl)]
      exact ⟨rfl, ((hL5.own hO5 hw0 0 _).own hq0 hw0 1 _).own hq1 hw0 2 _, ((hK5.own hO5 hge 0 _).own hq0 hge 1 _).own hq1 hge 2 _⟩
    obtain ⟨nn, hnn⟩ : ∃ nn, n - j = nn + 1 := ⟨n - j - 1, by omega⟩
    have hnn2 : n - (j + 1) = nn := by omega
    have hr := HR.out
    rw [hnn, appLoop] at hr
    have HR' := Aside0.mk hr
    have HNN := Aside0.mk hnn2
    obtain ⟨hi, hhi⟩ : ∃ hi : Nat, hi = min (44 * j + 44) t.size := ⟨_, rfl⟩
    have hs1 := HN1.out
    have hnl := HNL.out
    have hmin : (if (t.size : Int) < 44 * (j : Int) + 44 then (t.size : Int) else 44 * (j : Int) + 44) = (hi : Int) := by split <;> omega
    have hb1 : (0 : Int) ≤ 44 * (j : Int) := by omega
    have hb2 : 44 * (j : Int) ≤ (hi : Int) := by omega
    have hb3 : (hi : Int) ≤ (t.size : Int) := by omega
    have hpc : piece t j = t.extract (44 * j) hi := by unfold piece; rw [hhi]
    have HPC := Aside0.mk hpc
    clear hr hnn hnn2 hhi hs1 hpc
    obtain ⟨k3, k4, k5, k6⟩ : IntKind.i64.wrap (l.nx + (j : Int)) = l.nx + (j : Int) ∧ IntKind.i64.wrap ((j : Int) * 44) = 44 * (j : Int) ∧ IntKind.i64.wrap ((j : Int) + 1) = (j : Int) + 1 ∧ IntKind.i64.wrap (((j : Int) + 1) * 44) = 44 * (j : Int) + 44 :=
      ⟨wrapK _ (by omega), (wrapK _ (by omega)).trans (by omega), wrapK _ (by omega), (wrapK _ (by omega)).trans (by omega)⟩
    obtain ⟨e3, e4, e5, e6⟩ : wrap64 (l.nx + (j : Int)) = l.nx + (j : Int) ∧ wrap64 ((j : Int) * 44) = 44 * (j : Int) ∧ wrap64 ((j : Int) + 1) = (j : Int) + 1 ∧ wrap64 (((j : Int) + 1) * 44) = 44 * (j : Int) + 44 :=
      ⟨wrapI _ (by omega), (wrapI _ (by omega)).trans (by omega), wrapI _ (by omega), (wrapI _ (by omega)).trans (by omega)⟩
    go_wp2_with fail
    go_cut [9] (fun v9 wc => v9 = .pointer (some ⟨wr.heap.size, 0, none⟩) ∧ wc = (wr.alloc (.cells #[.int .i64 (l.nx + (j : Int)), .int .u8 0, .string (piece t j)] 41)).drew)
    case first =>
      go_region_held3 (fun w' => w'.cell? ⟨b, 4, none⟩ = some (.int .i64 l.nx)) (first | exact c4 | exact pw_cell_below (bal (Below.refl _ _) _) c4) (first | fail)
      all_goals
        go_wp2
        go_meet
        exact ⟨rfl, by rw [HPC.out]; rfl⟩
    case rest =>
      obtain ⟨rfl, rfl⟩ := hcut
      clear e3 e4 e5 e6 k3 k4 k5 k6 hmin hb1 hb2 hb3 e1 e2
      have hB6 := below_drew (bal (Below.refl wr.heap.size wr) (.cells #[.int .i64 (l.nx + (j : Int)), .int .u8 0, .string (piece t j)] 41))
      have hq6 : Own (wr.alloc (.cells #[.int .i64 (l.nx + (j : Int)), .int .u8 0, .string (piece t j)] 41)).drew g b wr.heap.size _ := let h := Own.new HL.out #[.int .i64 (l.nx + (j : Int)), .int .u8 0, .string (piece t j)] 41; ⟨h.blk, h.apart, h.ne⟩
      have hA6 : AS w0 w (wr.alloc (.cells #[.int .i64 (l.nx + (j : Int)), .int .u8 0, .string (piece t j)] 41)).drew g b { l with dev := d } w.heap.size w3.heap.size wr.heap.size _ _ _ := ⟨HL.out.step hB6, HK.out.trans (LogKeep.of_below HL.out hB6), HO.out.below HL.out hB6, HQ.out.below HL.out hB6, hq6⟩
      have hqn : w.heap.size < wr.heap.size ∧ w3.heap.size < wr.heap.size := ⟨(Array.getElem?_eq_some_iff.1 HO.out.blk).1, (Array.getElem?_eq_some_iff.1 HQ.out.blk).1⟩
      have HQN := Aside0.mk hqn
      clear hq6 hB6 hqn c0 c1 c2 c4 HO HQ HL HK
      generalize (wr.alloc (.cells #[.int .i64 (l.nx + (j : Int)), .int .u8 0, .string (piece t j)] 41)).drew = W6 at hA6 ⊢
      have HA6 := Aside0.mk hA6
      have s1 := (kcl hA6.a3.blk 1).trans rfl
      have z1 := kfr hA6.a3.blk 1
      obtain ⟨o1, o2, o3⟩ := bits_or3
      clear hA6
      go_upto_if 65 with fail
      go_cut [] (fun wc => Aside0 (AS w0 w wc g b { l with dev := d } w.heap.size w3.heap.size wr.heap.size (.cells #[.int .i64 0, .int .i64 0, .string ⟨#[]⟩] 59 (0, 0)) (.cells #[.int .i64 l.nx, .int .i64 (l.nx + (n : Int) - 1), .string t] 59 (0, 0)) (.cells #[.int .i64 (l.nx + (j : Int)), .int .u8 (if j = 0 then 1 else 0), .string (piece t j)] 41 (0, 0))))
      case first =>
        by_cases z : j = 0
        · have zj : ((j : Int) == 0) = true := beq_iff_eq.2 (by omega)
          have Z := Aside0.mk z
          clear z
          go_wp2
          go_meet
          exact ⟨by rw [if_pos Z.out]; exact HA6.out.set HQN.out.1 HQN.out.2 HW.out 1 (.int .u8 1)⟩
        · have zj : ((j : Int) == 0) = false := beq_eq_false_iff_ne.2 (by omega)
          have Z := Aside0.mk z
          clear z
          go_wp2
          go_meet
          exact ⟨by rw [if_neg Z.out]; exact HA6.out⟩
      case rest =>
        clear HA6 s1 z1
        have HA7 := hcut
        clear hcut
        have s1 := (kcl HA7.out.a3.blk 1).trans rfl
        have z1 := kfr HA7.out.a3.blk 1
        have e7 : wrap64 ((n : Int) - 1) = (n : Int) - 1 := wrapI _ (by omega)
        go_upto_if 73 with fail
        go_cut [] (fun wc => Aside0 (AS w0 w wc g b { l with dev := d } w.heap.size w3.heap.size wr.heap.size (.cells #[.int .i64 0, .int .i64 0, .string ⟨#[]⟩] 59 (0, 0)) (.cells #[.int .i64 l.nx, .int .i64 (l.nx + (n : Int) - 1), .string t] 59 (0, 0)) (.cells #[.int .i64 (l.nx + (j : Int)), .int .u8 (markN j n), .string (piece t j)] 41 (0, 0))))
        case first =>
          by_cases y : j + 1 = n
          · have yj : ((j : Int) == (n : Int) - 1) = true := beq_iff_eq.2 (by omega)
            by_cases z : j = 0
            · have MK := Aside0.mk (show markN j n = 3 by unfold markN; rw [if_pos z, if_pos y]; rfl)
              rw [if_pos z] at s1 HA7
              clear z y
              go_wp2
              go_meet
              exact ⟨by rw [MK.out]; exact HA7.out.set HQN.out.1 HQN.out.2 HW.out 1 (.int .u8 3)⟩
            · have MK := Aside0.mk (show markN j n = 2 by unfold markN; rw [if_neg z, if_pos y]; rfl)
              rw [if_neg z] at s1 HA7
              clear z y
              go_wp2
              go_meet
              exact ⟨by rw [MK.out]; exact HA7.out.set HQN.out.1 HQN.out.2 HW.out 1 (.int .u8 2)⟩
          · have yj : ((j : Int) == (n : Int) - 1) = false := beq_eq_false_iff_ne.2 (by omega)
            have MK := Aside0.mk (show markN j n = if j = 0 then 1 else 0 by unfold markN; rw [if_neg y, Int.add_zero])
            clear y
            go_wp2
            go_meet
            exact ⟨by rw [MK.out]; exact HA7.out⟩
        case rest =>
          clear HA7 s1 z1 e7 o1 o2 o3
          have HA8 := hcut
          clear hcut
          have hmk : 0 ≤ markN j n ∧ markN j n ≤ 255 := by unfold markN; constructor <;> split <;> split <;> omega
          generalize markN j n = m at HA8 HR' hmk
          obtain ⟨p, hp⟩ : ∃ p, p = l.fr + (l.nx + (j : Int)) % l.ln := ⟨_, rfl⟩
          have hlo := LO.out.ln
          have hfo := LO.out.fr
          have hat : wal_Area_at.f l.fr l.ln (l.nx + (j : Int)) = some p := by
            unfold wal_Area_at.f
            have h1 := Int.emod_nonneg (l.nx + (j : Int)) (show l.ln ≠ 0 by omega)
            have h2 := Int.emod_lt_of_pos (l.nx + (j : Int)) (show (0 : Int) < l.ln by omega)
            rw [if_neg (by omega), Int.tmod_eq_emod_of_nonneg (by omega), wrapI _ (by omega), hp]
          rw [← hp] at HR'
          have HAT := Aside0.mk hat
          have HMK := Aside0.mk hmk
          clear hat hmk hp hlo hfo
          have HA8d := Aside0.mk (HA8.out.step (HA8.out.log.step (below_drew (Below.refl _ _))) (LogKeep.of_below HA8.out.log (below_drew (Below.refl _ _))))
          have k0 := HA8d.out.log.c0
          have k1 := HA8d.out.log.c1
          have k2 := HA8d.out.log.c2
          have k3 := (kcl HA8d.out.a3.blk 0).trans rfl
          have k4 := (kcl HA8d.out.a3.blk 1).trans rfl
          have k5 := (kcl HA8d.out.a3.blk 2).trans rfl
          have HWr := Aside0.mk (fun W1 (hL : LogSt w0 W1 g b { l with dev := d }) => stamp_Write.calls g d p (l.nx + (j : Int)) m (piece t j) w0 W1 HMK.out hL.dev hL.below HN.out.left (by have := HN.out.cache; have := HNL.out; omega))
          go_wp2_with fail
          go_cut [10] (fun v10 wc => v10 = .int .i64 (stW d p (l.nx + (j : Int)) m (piece t j)).1 ∧ Aside0 (AS w0 w wc g b { l with dev := (stW d p (l.nx + (j : Int)) m (piece t j)).2 } w.heap.size w3.heap.size wr.heap.size (.cells #[.int .i64 0, .int .i64 0, .string ⟨#[]⟩] 59 (0, 0)) (.cells #[.int .i64 l.nx, .int .i64 (l.nx + (n : Int) - 1), .string t] 59 (0, 0)) (.cells #[.int .i64 (l.nx + (j : Int)), .int .u8 m, .string (piece t j)] 41 (0, 0))))
          case first =>
            go_region_held3 (fun w' => w'.cell? ⟨b, 0, none⟩ = some (.pointer (some ⟨g, 0, none⟩)) ∧ w'.cell? ⟨b, 1, none⟩ = some (.int .i64 l.fr) ∧ w'.cell? ⟨b, 2, none⟩ = some (.int .i64 l.ln) ∧ w'.cell? ⟨wr.heap.size, 0, none⟩ = some (.int .i64 (l.nx + (j : Int))) ∧ w'.cell? ⟨wr.heap.size, 1, none⟩ = some (.int .u8 m) ∧ w'.cell? ⟨wr.heap.size, 2, none⟩ = some (.string (piece t j))) (first | exact ⟨k0, k1, k2, k3, k4, k5⟩) (first
              | (go_simp; go_at_call 39; (with_reducible refine (wal_Area_at.calls l.fr l.ln (l.nx + (j : Int)) p _ HAT.out).mono ?_); rintro e w9 ⟨rfl, hB⟩; have HA9 := Aside0.mk (HA8d.out.step (HA8d.out.log.step hB) (LogKeep.of_below HA8d.out.log hB)); have k0 := HA9.out.log.c0; have k1 := HA9.out.log.c1; have k2 := HA9.out.log.c2; have k3 := (kcl HA9.out.a3.blk 0).trans rfl; have k4 := (kcl HA9.out.a3.blk 1).trans rfl; have k5 := (kcl HA9.out.a3.blk 2).trans rfl; clear hB)
              | (go_simp; go_at_call 18; (with_reducible refine (HWr.out _ HA9.out.log).mono ?_); rintro e w10 ⟨rfl, hI, hB, hK⟩; have HA10 := Aside0.mk (HA9.out.step (HA9.out.log.call hI hB hK) (LogKeep.of_dev hK b)); have k0 := HA10.out.log.c0; have k1 := HA10.out.log.c1; have k2 := HA10.out.log.c2; have k3 := (kcl HA10.out.a3.blk 0).trans rfl; have k4 := (kcl HA10.out.a3.blk 1).trans rfl; have k5 := (kcl HA10.out.a3.blk 2).trans rfl; clear hI hB hK))
            all_goals
              go_wp2
              go_meet
              exact ⟨rfl, HA10⟩
          case rest =>
            obtain ⟨rfl, HA9⟩ := hcut
            clear HWr HA8 HA8d k0 k1 k2 k3 k4 k5
            have hdi := HN.out.stamp p (l.nx + (j : Int)) m (piece t j)
            generalize stW d p (l.nx + (j : Int)) m (piece t j) = r at HA9 HR' hdi ⊢
            obtain ⟨er, d2⟩ := r
            dsimp only at HA9 HR' hdi ⊢
            have HDI := Aside0.mk hdi
            clear hdi
            by_cases qe : er = 0
            · subst qe
              have hr := HR'.out
              rw [if_pos rfl] at hr
              have HR2 := Aside0.mk hr
              have e8 : wrap64 ((j : Int) + 1) = (j : Int) + 1 := wrapI _ (by omega)
              clear hr
              go_wp2
              go_roundw
              case rel => exact ⟨j + 1, d2, by go_num, by omega, ⟨by rw [HNN.out]; exact HR2.out⟩, HDI, ⟨HA9.out.log⟩, ⟨HA9.out.keep⟩, ⟨HA9.out.a1⟩, ⟨HA9.out.a2⟩⟩
              case measure => simp [intOf]; omega
            · have q1 : (er != 0) = true := bne_iff_ne.2 qe
              have hr := HR'.out
              rw [if_neg qe] at hr
              have HR2 := Aside0.mk hr
              have QE := Aside0.mk qe
              have f0 := kfr HA9.out.a1.blk 0
              have f1 := kfr HA9.out.a1.blk 1
              have f2 := kfr HA9.out.a1.blk 2
              have o0 := (kcl HA9.out.a1.blk 0).trans rfl
              have o1 := (kcl HA9.out.a1.blk 1).trans rfl
              have o2 := (kcl HA9.out.a1.blk 2).trans rfl
              clear hr qe
              go_wp2
              have hq0 := HA9.out.a1.set HA9.out.a1.g_ne 0 (.int .i64 0)
              have hq1 := hq0.set hq0.g_ne 1 (.int .i64 0)
              have hq2 := hq1.set hq1.g_ne 2 (.string ⟨#[]⟩)
              refine bodyPost_ret (results_ct rfl _ _ w.heap.size 59 #[.int .i64 0, .int .i64 0, .string ⟨#[]⟩] (0, 0) _ rfl hq2.blk Try.underlying59 rfl (by kernel_rfl)) rfl ?_
              have hw0 : w0.heap.size ≤ w.heap.size := HW.out.below.size
              have hge : w.heap.size ≤ w.heap.size := Nat.le_refl _
              rw [HXR.out, ← HR2.out, if_neg (show ¬ ((er, d2) : Int × Dv).1 = 0 from QE.out)]
              exact ⟨rfl, ((HA9.out.log.own HA9.out.a1 hw0 0 _).own hq0 hw0 1 _).own hq1 hw0 2 _, ((HA9.out.keep.own HA9.out.a1 hge 0 _).own hq0 hge 1 _).own hq1 hge 2 _⟩
end Go.Proofs.Ytfllpmmfjbjgoaa.PA

