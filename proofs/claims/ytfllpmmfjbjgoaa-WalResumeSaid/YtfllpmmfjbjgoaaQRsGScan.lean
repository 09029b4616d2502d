import Derived.Test.YtfllpmmfjbjgoaaQRsGSmall
import Derived.Test.YtfllpmmfjbjgoaaQRsPAx6
namespace Go.Proofs.Ytfllpmmfjbjgoaa.PA
set_option linter.unusedSimpArgs false
open Go.RowKit Go.Proofs.YtfllpmmfjbjgoaaW.PrintWords Go.Proofs.YtfllpmmfjbjgoaaW.PrintLast Go.Proofs.YtfllpmmfjbjgoaaW.PrintMore Go.Proofs.Ytfllpmmfjbjgoaa Go.Proofs.Ytfllpmmfjbjgoaa.PL
def secAt (d : Dv) (fr ln at_ : Int) : Option (Int × ByteArray) := if (stR d (fr + at_ % ln)).2.2.2.1 = true ∧ (stR d (fr + at_ % ln)).1 = at_ ∧ (stR d (fr + at_ % ln)).2.1 ≤ 3 then some ((stR d (fr + at_ % ln)).2.1, (stR d (fr + at_ % ln)).2.2.1) else none
def scan (v : Int → Option (Int × ByteArray)) : Nat → Int → Int → ByteArray → List S59 × Int
  | 0, at_, f, _ => ([], if f > 0 then f else at_)
  | n + 1, at_, f, t => match v at_ with
    | none => ([], if f > 0 then f else at_)
    | some (m, s) => if (m % 2 = 1 ↔ f = 0) then
        (if 2 ≤ m then (⟨if f = 0 then at_ else f, at_, t ++ s⟩ :: (scan v n (at_ + 1) 0 ⟨#[]⟩).1, (scan v n (at_ + 1) 0 ⟨#[]⟩).2) else scan v n (at_ + 1) (if f = 0 then at_ else f) (t ++ s))
      else ([], if f > 0 then f else at_)
theorem pS_bounds (a : ByteArray) : 0 ≤ (pS a).2.1 ∧ (pS a).2.1 ≤ 255 ∧ (pS a).2.2.1.size ≤ 44 := by
  have hf := parse_fit a
  have h0 : ∀ e : Int, 0 ≤ ((0, 0, ⟨#[]⟩, e) : Int × Int × ByteArray × Int).2.1 ∧ ((0, 0, ⟨#[]⟩, e) : Int × Int × ByteArray × Int).2.1 ≤ 255 ∧ ((0, 0, ⟨#[]⟩, e) : Int × Int × ByteArray × Int).2.2.1.size ≤ 44 := fun e => ⟨Int.le_refl 0, (by decide : (0 : Int) ≤ 255), Nat.zero_le 44⟩
  unfold pS
  dsimp only
  generalize tN (a.extract 4 a.size) 0 1099511627776 = x at hf ⊢
  generalize tN x.2.1 x.2.2 255 = y at hf ⊢
  generalize tS y.2.1 y.2.2 44 = z at hf ⊢
  by_cases c1 : ¬ a.size = 64
  · rw [if_pos c1]; exact h0 1
  rw [if_neg c1]
  by_cases c2 : ¬ (a.extract 0 4).data.toList = cB (sm (a.extract 4 a.size))
  · rw [if_pos c2]; exact h0 5
  rw [if_neg c2]
  by_cases c3 : ¬ z.2.2 = 0
  · rw [if_pos c3]; exact h0 _
  rw [if_neg c3]
  by_cases c4 : x.1 < 1
  · rw [if_pos c4]; exact h0 2
  rw [if_neg c4]
  by_cases c5 : (tx x.1 y.1 z.1).data.toList = a.data.toList
  · rw [if_pos c5]; exact ⟨hf.2.1, hf.2.2.1, hf.2.2.2⟩
  · rw [if_neg c5]; exact h0 2
theorem stR_bounds (d : Dv) (a : Int) : 0 ≤ (stR d a).2.1 ∧ (stR d a).2.1 ≤ 255 ∧ (stR d a).2.2.1.size ≤ 44 := by
  unfold stR
  split
  · exact pS_bounds _
  · exact ⟨Int.le_refl 0, (by decide : (0 : Int) ≤ 255), Nat.zero_le 44⟩
theorem dvRead_up {d : Dv} {a : Int} (hd : d.down = false) (h0 : 0 ≤ a) (h1 : a < d.sec.length) : (dvRead d a).2 = 0 := by
  unfold dvRead
  rw [if_neg (by omega), hd]; rfl
theorem stR_up {d : Dv} {a : Int} (hd : d.down = false) (h0 : 0 ≤ a) (h1 : a < d.sec.length) : (stR d a).2.2.2.2 = 0 := by
  unfold stR
  rw [if_pos (dvRead_up hd h0 h1)]
theorem bits_or_and : bits .and .u8 0 1 = 0 ∧ bits .and .u8 1 1 = 1 ∧ bits .and .u8 2 1 = 0 ∧ bits .and .u8 3 1 = 1 ∧ bits .and .u8 0 2 = 0 ∧ bits .and .u8 1 2 = 0 ∧ bits .and .u8 2 2 = 2 ∧ bits .and .u8 3 2 = 2 := by decide +kernel
theorem info_rec : (Try.prog.info? 59).map (fun i => (i.zero, i.size, i.bytes)) = some (some (.agg #[(.int .i64 0), (.int .i64 0), (.string ⟨#[]⟩)]), 3, 32) := by kernel_rfl
structure SS (w W : World) (br g : Nat) (fr ln f x : Int) (t : ByteArray) (v : Value) (outs : List S59) : Prop where
  below : Below w.heap.size w W
  area : W.heap[w.heap.size]? = some (.cells #[.int .i64 fr, .int .i64 ln] 28 (0, 0))
  lt : w.heap.size < br
  rcd : W.heap[br]? = some (.cells #[.int .i64 f, .int .i64 x, .string t] 59 (0, 0))
  row : Kd.R k59 59 W (br + 1) (fun _ => True) v outs
theorem SS.step {w W W1 : World} {br g : Nat} {fr ln f x : Int} {t : ByteArray} {v : Value} {outs : List S59} (h : SS w W br g fr ln f x t v outs) (hB : Below W.heap.size W W1) : SS w W1 br g fr ln f x t v outs :=
  ⟨bsp h.below hB, (hB.block _ (blk_lt h.area)).trans h.area, h.lt, (hB.block _ (blk_lt h.rcd)).trans h.rcd, Kd.R_below h.row hB⟩
theorem SS.put {w W : World} {br g : Nat} {fr ln f f2 x x2 : Int} {t t2 : ByteArray} {v u : Value} {i : Nat} {outs : List S59} (h : SS w W br g fr ln f x t v outs) (hs : (#[.int .i64 f, .int .i64 x, .string t] : Array Value).setIfInBounds i u = #[.int .i64 f2, .int .i64 x2, .string t2]) : SS w (W.setCell ⟨br, i, none⟩ u) br g fr ln f2 x2 t2 v outs :=
  ⟨h.below.setCell (p := ⟨br, i, none⟩) (Nat.le_of_lt h.lt) u, (Below.heap_setCell W ⟨br, i, none⟩ u _ (Nat.ne_of_lt h.lt)).trans h.area, h.lt, by rw [← hs]; exact blk_set h.rcd i u,
    Kd.R_mono (Kd.R_far (p := ⟨br, i, none⟩) (Kd.R_bound h.row) (fun k hk e => by have := hk.2.1; simp only at e; omega) u) (fun _ _ => trivial)⟩
theorem SS.grown {w W W1 : World} {br g : Nat} {fr ln f x : Int} {t : ByteArray} {v v1 : Value} {outs o2 : List S59} (h : SS w W br g fr ln f x t v outs) (hb : Below (br + 1) W W1) (hr : Kd.R k59 59 W1 (br + 1) (fun _ => True) v1 o2) : SS w W1 br g fr ln f x t v1 o2 :=
  ⟨h.below.trans (hb.mono (by have := h.lt; omega)), (hb.block _ (by have := h.lt; omega)).trans h.area, h.lt, (hb.block _ (by omega)).trans h.rcd, hr⟩
theorem scan_none {v : Int → Option (Int × ByteArray)} {n : Nat} {at_ f : Int} {t : ByteArray} (h : v at_ = none) : scan v (n + 1) at_ f t = ([], if f > 0 then f else at_) := by unfold scan; rw [h]
theorem scan_odd {v : Int → Option (Int × ByteArray)} {n : Nat} {at_ f m : Int} {t s : ByteArray} (h : v at_ = some (m, s)) (hx : ¬ (m % 2 = 1 ↔ f = 0)) : scan v (n + 1) at_ f t = ([], if f > 0 then f else at_) := by unfold scan; rw [h]; exact if_neg hx
theorem scan_end {v : Int → Option (Int × ByteArray)} {n : Nat} {at_ f m : Int} {t s : ByteArray} (h : v at_ = some (m, s)) (hx : m % 2 = 1 ↔ f = 0) (h2 : 2 ≤ m) : scan v (n + 1) at_ f t = (⟨if f = 0 then at_ else f, at_, t ++ s⟩ :: (scan v n (at_ + 1) 0 ⟨#[]⟩).1, (scan v n (at_ + 1) 0 ⟨#[]⟩).2) := by
  rw [scan, h]; exact (if_pos hx).trans (if_pos h2)
theorem scan_on {v : Int → Option (Int × ByteArray)} {n : Nat} {at_ f m : Int} {t s : ByteArray} (h : v at_ = some (m, s)) (hx : m % 2 = 1 ↔ f = 0) (h2 : ¬ 2 ≤ m) : scan v (n + 1) at_ f t = scan v n (at_ + 1) (if f = 0 then at_ else f) (t ++ s) := by
  rw [scan, h]; exact (if_pos hx).trans (if_neg h2)
attribute [local go_sem] max2_int max_two
set_option maxHeartbeats 8000000 in
set_option maxRecDepth 100000 in
theorem wal_Scan.calls (g : Nat) (d : Dv) (fr ln from_ : Int) (w0 w : World) (n k : Nat) (hI : IsDev w0 w g d) (hd : d.down = false) (hn : DI n k d) (hA : chkA fr ln n = 0) (hz : n ≤ 1000) (hf : 1 ≤ from_ ∧ from_ ≤ 2000000) :
    Calls Try.prog 13 #[.pointer (some ⟨g, 0, none⟩), .agg #[.int .i64 fr, .int .i64 ln], .int .i64 from_] w fun e w' => ∃ v : Value, e = .returned (.tuple #[v, .int .i64 (scan (secAt d fr ln) ln.toNat from_ 0 ⟨#[]⟩).2, .int .i64 0]) ∧
      Kd.R k59 59 w' w.heap.size (fun _ => True) v (scan (secAt d fr ln) ln.toNat from_ 0 ⟨#[]⟩).1 ∧ Below w.heap.size w w' := by
  have hln : 2 ≤ ln ∧ ln ≤ n ∧ 0 ≤ fr ∧ fr + ln ≤ n := by
    unfold chkA at hA
    by_cases q : ln < 2 ∨ fr < 0 ∨ ln > n ∨ fr > n - ln
    · rw [if_pos q] at hA; exact absurd hA (by decide)
    · omega
  obtain ⟨L, hL⟩ : ∃ L : Nat, ln = L := ⟨ln.toNat, by omega⟩
  subst hL
  have hC := wal_Check.calls g d fr L w0 _ (hI.below (bal (Below.refl w.heap.size w) (.cells #[.int .i64 fr, .int .i64 L] 28))) (by have := hn.sec; omega)
  rw [hn.sec, hA] at hC
  have HC := Aside0.mk hC
  have HI := Aside0.mk hI
  have HN := Aside0.mk hn
  have HD := Aside0.mk hd
  have HL := Aside0.mk hln
  have HF := Aside0.mk hf
  have HZ := Aside0.mk hz
  obtain ⟨V, hV⟩ : ∃ V, V = secAt d fr L := ⟨_, rfl⟩
  rw [Int.toNat_natCast, ← hV]
  have HV := Aside0.mk hV
  obtain ⟨R1, hR1⟩ : ∃ R1, R1 = scan V L from_ 0 ⟨#[]⟩ := ⟨_, rfl⟩
  rw [← hR1]
  have HR1 := Aside0.mk hR1
  have hx : (w.alloc (.cells #[.int .i64 fr, .int .i64 L] 28)).heap[w.heap.size]? = _ := World.alloc_heap_new w (.cells #[.int .i64 fr, .int .i64 L] 28)
  have HX := Aside0.mk hx
  have b0 := (kcl hx 0).trans rfl
  have b1 := (kcl hx 1).trans rfl
  have HB := Aside0.mk (bal (Below.refl w.heap.size w) (.cells #[.int .i64 fr, .int .i64 L] 28))
  clear hC hI hn hd hln hf hz hV hR1 hx hA
  go_enter Try.func13, Try.ntmps13
  go_wp2_with fail
  refine HC.out.mono ?_
  rintro e w2 ⟨rfl, hB⟩
  have hx2 := (hB.block w.heap.size (blk_lt HX.out)).trans HX.out
  have HS := Aside0.mk (show SS w (w2.alloc (.cells #[.int .i64 0, .int .i64 0, .string ⟨#[]⟩] 59)) w2.heap.size g fr L 0 0 ⟨#[]⟩ (.slice none 0 0) [] from
    ⟨bal (bsp HB.out hB) _, (Below.heap_alloc w2 _ _ (blk_lt hx2)).trans hx2, blk_lt hx2, World.alloc_heap_new w2 _, Kd.R_nil _ _ _ _ _⟩)
  clear b0 b1 hB hx2 HX HB HC
  go_wp2_with fail
  go_loopw [12, 10] (fun v12 v10 wr => ∃ (j : Nat) (f : Int) (t : ByteArray) (outs : List S59), v12 = .int .i64 (from_ + j) ∧ j ≤ L ∧ (0 ≤ f ∧ f ≤ 4000000) ∧ Aside0 (t.size ≤ 44 * j) ∧ Aside0 (outs.length ≤ j) ∧ Aside0 (outs ++ (scan V (L - j) (from_ + j) f t).1 = R1.1 ∧ (scan V (L - j) (from_ + j) f t).2 = R1.2) ∧ Aside0 (SS w wr w2.heap.size g fr L f 0 t v10 outs)) (fun v12 _ _ => L - (intOf v12 - from_).toNat)
  case atStart => exact ⟨0, 0, ⟨#[]⟩, [], by simp, Nat.zero_le _, ⟨by decide, by decide⟩, ⟨Nat.zero_le _⟩, ⟨Nat.zero_le _⟩, ⟨by rw [HR1.out]; simp⟩, HS⟩
  case round =>
    clear HS
    obtain ⟨j, f, t, outs, rfl, hj, hf, HT, HO, HR, HS⟩ := hrel
    have hfb := HF.out
    have hT := HT.out
    have a0 := (kcl HS.out.area 0).trans rfl
    have a1 := (kcl HS.out.area 1).trans rfl
    have r0 := (kcl HS.out.rcd 0).trans rfl
    have hLb := HL.out
    have hZb := HZ.out
    have p1 : decide (1 ≤ from_ + (j : Int)) = true := decide_eq_true (by omega)
    have e1 : wrap64 (from_ + (L : Int)) = from_ + (L : Int) := wrapI _ (by omega)
    by_cases q : j < L
    rotate_left
    · obtain rfl : j = L := by omega
      have hr := HR.out
      rw [Nat.sub_self, scan, List.append_nil] at hr
      have HR' := Aside0.mk hr
      clear hr HR
      by_cases qf : 0 < f
      · have p3 : decide (0 < f) = true := decide_eq_true qf
        go_wp2
        go_ret3
        rw [← HR'.out.1, ← HR'.out.2, if_pos qf]
        exact ⟨_, rfl, Kd.R_lower HS.out.row (by have := HS.out.lt; omega), HS.out.below⟩
      · have p3 : decide (0 < f) = false := decide_eq_false qf
        go_wp2
        go_ret3
        rw [← HR'.out.1, ← HR'.out.2, if_neg (by omega)]
        exact ⟨_, rfl, Kd.R_lower HS.out.row (by have := HS.out.lt; omega), HS.out.below⟩
    obtain ⟨nn, hm⟩ : ∃ nn, L - j = nn + 1 := ⟨L - j - 1, by omega⟩
    have hm2 : L - (j + 1) = nn := by omega
    have HM := Aside0.mk (And.intro hm hm2)
    have p2 : decide (from_ + (j : Int) < from_ + (L : Int)) = true := decide_eq_true (by omega)
    obtain ⟨p, hp⟩ : ∃ p, p = fr + (from_ + j) % L := ⟨_, rfl⟩
    have hpb : 0 ≤ p ∧ p < n := by
      have h1 := Int.emod_nonneg (from_ + j) (show (L : Int) ≠ 0 by omega)
      have h2 := Int.emod_lt_of_pos (from_ + j) (show (0 : Int) < L by omega)
      omega
    have hat : wal_Area_at.f fr L (from_ + j) = some p := by
      unfold wal_Area_at.f
      rw [if_neg (by omega), Int.tmod_eq_emod_of_nonneg (by omega), wrapI _ (by omega), hp]
    have HAT := Aside0.mk hat
    have hup := stR_up (d := d) (a := p) HD.out hpb.1 (by have := HN.out.sec; omega)
    have hbd := stR_bounds d p
    have hVat : V (from_ + j) = if (stR d p).2.2.2.1 = true ∧ (stR d p).1 = from_ + j ∧ (stR d p).2.1 ≤ 3 then some ((stR d p).2.1, (stR d p).2.2.1) else none := by rw [HV.out]; unfold secAt; rw [← hp]
    have hRd := fun W h => stamp_Read.calls g d p w0 W h (DI.read HN.out p)
    generalize stR d p = S at hRd hup hbd hVat
    obtain ⟨sn, m, s, ok, er⟩ := S
    dsimp only at hRd hup hbd hVat
    subst hup
    have HBD := Aside0.mk hbd
    have HVA := Aside0.mk hVat
    have HRD := Aside0.mk hRd
    clear hat hp hbd hVat hRd hm hm2
    go_wp2_with fail
    refine (wal_Area_at.calls fr L (from_ + j) p _ HAT.out).mono ?_
    rintro e w4 ⟨rfl, hB⟩
    have HS4 := Aside0.mk (HS.out.step hB)
    clear hB a0 a1 r0 HAT
    go_wp2_with fail
    refine (HRD.out w4 (HI.out.below HS4.out.below)).mono ?_
    rintro e w5 ⟨rfl, hB⟩
    have HS6 := Aside0.mk ((HS4.out.step hB).step (bal (Below.refl _ _) (.cells #[.int .i64 sn, .int .u8 m, .string s] 41)))
    have HNE := Aside0.mk (show w2.heap.size ≠ w5.heap.size from fun e => by have h1 := blk_lt HS4.out.rcd; have := hB.size; omega)
    have r0 := (kcl HS6.out.rcd 0).trans rfl
    have r1 := (kcl HS6.out.rcd 1).trans rfl
    have r2 := (kcl HS6.out.rcd 2).trans rfl
    have f0 := kfr HS6.out.rcd 0
    have f1 := kfr HS6.out.rcd 1
    have f2 := kfr HS6.out.rcd 2
    clear hB p1 p2 e1
    have hbrk : V (from_ + j) = none → scan V (L - j) (from_ + j) f t = ([], if f > 0 then f else from_ + j) := fun h => by rw [HM.out.1]; exact scan_none h
    have HBK := Aside0.mk hbrk
    clear hbrk
    by_cases qf : f = 0
    · subst qf
      cases ok with
      | false =>
        have hr := HR.out
        rw [HBK.out (HVA.out.trans (if_neg (by simp))), List.append_nil, if_neg (by omega)] at hr
        have HR' := Aside0.mk hr
        clear hr
        go_wp2
        go_ret3
        rw [← HR'.out.1, ← HR'.out.2]
        exact ⟨_, rfl, Kd.R_lower HS6.out.row (by have := HS6.out.lt; omega), HS6.out.below⟩
      | true =>
        by_cases c1 : sn = from_ + (j : Int)
        rotate_left
        · have p1 : (sn != from_ + (j : Int)) = true := bne_iff_ne.2 c1
          have hn := HBK.out (HVA.out.trans (if_neg (fun h => c1 h.2.1)))
          have HN1 := Aside0.mk hn
          clear hn c1
          have hr := HR.out
          rw [HN1.out, List.append_nil, if_neg (by omega)] at hr
          have HR' := Aside0.mk hr
          clear hr
          go_wp2
          go_ret3
          rw [← HR'.out.1, ← HR'.out.2]
          exact ⟨_, rfl, Kd.R_lower HS6.out.row (by have := HS6.out.lt; omega), HS6.out.below⟩
        subst c1
        by_cases c2 : 3 < m
        · have p1 : decide (3 < m) = true := decide_eq_true c2
          have hr := HR.out
          rw [HBK.out (HVA.out.trans (if_neg (fun h => absurd h.2.2 (by omega)))), List.append_nil, if_neg (by omega)] at hr
          have HR' := Aside0.mk hr
          clear hr
          go_wp2
          go_ret3
          rw [← HR'.out.1, ← HR'.out.2]
          exact ⟨_, rfl, Kd.R_lower HS6.out.row (by have := HS6.out.lt; omega), HS6.out.below⟩
        have hm4 : m = 0 ∨ m = 1 ∨ m = 2 ∨ m = 3 := by have := HBD.out; omega
        clear c2
        obtain ⟨b1, b2, b3, b4, b5, b6, b7, b8⟩ := bits_or_and
        have hsz : (9223372036854775807 < t.size + s.size) = False := eq_false (by have := HBD.out; omega)
        have e2 : wrap64 (from_ + (j : Int) + 1) = from_ + (j : Int) + 1 := wrapI _ (by omega)
        have e3 : wrap64 (from_ + (j : Int)) = from_ + (j : Int) := wrapI _ (by omega)
        have hne := HNE.out
        rcases hm4 with rfl | rfl | rfl | rfl
        · have hr := HR.out
          rw [HM.out.1, scan_odd (HVA.out.trans (if_pos ⟨rfl, rfl, by decide⟩)) (by simp), List.append_nil, if_neg (by omega)] at hr
          have HR' := Aside0.mk hr
          clear hr
          go_wp2
          go_ret3
          rw [← HR'.out.1, ← HR'.out.2]
          exact ⟨_, rfl, Kd.R_lower HS6.out.row (by have := HS6.out.lt; omega), HS6.out.below⟩
        · have hr := HR.out
          rw [HM.out.1, scan_on (HVA.out.trans (if_pos ⟨rfl, rfl, by decide⟩)) (by simp) (by decide), if_pos rfl] at hr
          have HR' := Aside0.mk hr
          clear hr
          have hS7 := ((HS6.out.put (i := 0) (u := .int .i64 (from_ + (j : Int))) (f2 := (from_ + (j : Int))) (x2 := 0) (t2 := t) rfl).put (i := 2) (u := .string (t ++ s)) (f2 := (from_ + (j : Int))) (x2 := 0) (t2 := (t ++ s)) rfl)
          have HS7 := Aside0.mk hS7
          clear hS7
          go_wp2
          go_roundw
          case rel => exact ⟨j + 1, (from_ + (j : Int)), t ++ s, outs, by rw [show ((j + 1 : Nat) : Int) = (j : Int) + 1 by omega, ← Int.add_assoc], by omega, ⟨by omega, by omega⟩, ⟨by have := HBD.out; rw [ByteArray.size_append]; have := HT.out; omega⟩, ⟨by have := HO.out; omega⟩, ⟨by rw [HM.out.2, show ((j + 1 : Nat) : Int) = (j : Int) + 1 by omega, ← Int.add_assoc]; exact HR'.out⟩, HS7⟩
          case measure => simp [intOf]; omega
        · have hr := HR.out
          rw [HM.out.1, scan_odd (HVA.out.trans (if_pos ⟨rfl, rfl, by decide⟩)) (by simp), List.append_nil, if_neg (by omega)] at hr
          have HR' := Aside0.mk hr
          clear hr
          go_wp2
          go_ret3
          rw [← HR'.out.1, ← HR'.out.2]
          exact ⟨_, rfl, Kd.R_lower HS6.out.row (by have := HS6.out.lt; omega), HS6.out.below⟩
        · have hr := HR.out
          rw [HM.out.1, scan_end (HVA.out.trans (if_pos ⟨rfl, rfl, by decide⟩)) (by simp) (by decide), if_pos rfl] at hr
          have HR' := Aside0.mk hr
          clear hr
          have hS7 := (((HS6.out.put (i := 0) (u := .int .i64 (from_ + (j : Int))) (f2 := (from_ + (j : Int))) (x2 := 0) (t2 := t) rfl).put (i := 2) (u := .string (t ++ s)) (f2 := (from_ + (j : Int))) (x2 := 0) (t2 := (t ++ s)) rfl).put (i := 1) (u := .int .i64 (from_ + (j : Int))) (f2 := (from_ + (j : Int))) (x2 := (from_ + (j : Int))) (t2 := (t ++ s)) rfl)
          have HS7 := Aside0.mk hS7
          clear hS7
          obtain ⟨W9, hW9⟩ : ∃ W9, W9 = ((((w5.alloc (.cells #[.int .i64 (from_ + (j : Int)), .int .u8 3, .string s] 41)).setCell ⟨w2.heap.size, 0, none⟩ (.int .i64 (from_ + (j : Int)))).setCell ⟨w2.heap.size, 2, none⟩ (.string (t ++ s))).setCell ⟨w2.heap.size, 1, none⟩ (.int .i64 (from_ + (j : Int)))) := ⟨_, rfl⟩
          rw [← hW9] at HS7
          go_wp2_with (first
            | ((with_reducible refine gate_builtin (b := .append) (xs := #[.tmp 88, .tmp 90]) rfl ?_); at_builtin; refine Kd.R_append k59 (w0 := W9) (w2.heap.size + 1) rfl (.tmp 88) (.tmp 90) 32 59 (.agg #[(.int .i64 0), (.int .i64 0), (.string ⟨#[]⟩)]) 32 rfl Try.underlying32 info_rec rfl (by decide) (by omega) _ outs (⟨(from_ + (j : Int)), (from_ + (j : Int)), t ++ s⟩ : S59) [.int .i64 (from_ + (j : Int)), .int .i64 (from_ + (j : Int)), .string (t ++ s)] (fun _ => True) (fun _ => False) rfl (by first | rfl | (simp [Act.eval]; done)) ?aP (fun _ hk => hk.elim) ?aF ?aO ?aB ?aS ?aL ?_; (case aP => exact k59_mkM _ _ _ (⟨(from_ + (j : Int)), (from_ + (j : Int)), t ++ s⟩ : S59)); (case aF => exact (fun _ _ => trivial)); (case aO => rw [← hW9]; exact HS7.out.row); (case aB => rw [← hW9]; exact Below.refl _ _); (case aS => rw [← hW9]; have := blk_lt HS7.out.rcd; omega); (case aL => have := HO.out; omega); intro v1 w9 ho hb hg hat; have HS8 := Aside0.mk (HS7.out.grown hb ho); have g0 := (kcl HS8.out.rcd 0).trans rfl; have g1 := (kcl HS8.out.rcd 1).trans rfl; have g2 := (kcl HS8.out.rcd 2).trans rfl; have gf0 := kfr HS8.out.rcd 0; have gf1 := kfr HS8.out.rcd 1; have gf2 := kfr HS8.out.rcd 2; clear ho hb hg hat))
          have hS9 := ((HS8.out.put (i := 0) (u := .int .i64 0) (f2 := 0) (x2 := (from_ + (j : Int))) (t2 := (t ++ s)) rfl).put (i := 1) (u := .int .i64 0) (f2 := 0) (x2 := 0) (t2 := (t ++ s)) rfl).put (i := 2) (u := .string ⟨#[]⟩) (f2 := 0) (x2 := 0) (t2 := ⟨#[]⟩) rfl
          have HS9 := Aside0.mk hS9
          clear hS9
          go_roundw
          case rel => exact ⟨j + 1, 0, ⟨#[]⟩, outs ++ [(⟨(from_ + (j : Int)), (from_ + (j : Int)), t ++ s⟩ : S59)], by rw [show ((j + 1 : Nat) : Int) = (j : Int) + 1 by omega, ← Int.add_assoc], by omega, ⟨by omega, by omega⟩, ⟨Nat.zero_le _⟩, ⟨by have := HO.out; rw [List.length_append]; simp; omega⟩, ⟨by rw [HM.out.2, show ((j + 1 : Nat) : Int) = (j : Int) + 1 by omega, ← Int.add_assoc, List.append_assoc]; exact HR'.out⟩, HS9⟩
          case measure => simp [intOf]; omega
    · have qf2 : (f == 0) = false := beq_eq_false_iff_ne.2 qf
      have qf3 : decide (0 < f) = true := decide_eq_true (by omega)
      have QF := Aside0.mk qf
      clear qf
      cases ok with
      | false =>
        have hr := HR.out
        rw [HBK.out (HVA.out.trans (if_neg (by simp))), List.append_nil, if_pos (by have := QF.out; omega)] at hr
        have HR' := Aside0.mk hr
        clear hr
        go_wp2
        go_ret3
        rw [← HR'.out.1, ← HR'.out.2]
        exact ⟨_, rfl, Kd.R_lower HS6.out.row (by have := HS6.out.lt; omega), HS6.out.below⟩
      | true =>
        by_cases c1 : sn = from_ + (j : Int)
        rotate_left
        · have p1 : (sn != from_ + (j : Int)) = true := bne_iff_ne.2 c1
          have hn := HBK.out (HVA.out.trans (if_neg (fun h => c1 h.2.1)))
          have HN1 := Aside0.mk hn
          clear hn c1
          have hr := HR.out
          rw [HN1.out, List.append_nil, if_pos (by have := QF.out; omega)] at hr
          have HR' := Aside0.mk hr
          clear hr
          go_wp2
          go_ret3
          rw [← HR'.out.1, ← HR'.out.2]
          exact ⟨_, rfl, Kd.R_lower HS6.out.row (by have := HS6.out.lt; omega), HS6.out.below⟩
        subst c1
        by_cases c2 : 3 < m
        · have p1 : decide (3 < m) = true := decide_eq_true c2
          have hr := HR.out
          rw [HBK.out (HVA.out.trans (if_neg (fun h => absurd h.2.2 (by omega)))), List.append_nil, if_pos (by have := QF.out; omega)] at hr
          have HR' := Aside0.mk hr
          clear hr
          go_wp2
          go_ret3
          rw [← HR'.out.1, ← HR'.out.2]
          exact ⟨_, rfl, Kd.R_lower HS6.out.row (by have := HS6.out.lt; omega), HS6.out.below⟩
        have hm4 : m = 0 ∨ m = 1 ∨ m = 2 ∨ m = 3 := by have := HBD.out; omega
        clear c2
        obtain ⟨b1, b2, b3, b4, b5, b6, b7, b8⟩ := bits_or_and
        have hsz : (9223372036854775807 < t.size + s.size) = False := eq_false (by have := HBD.out; omega)
        have e2 : wrap64 (from_ + (j : Int) + 1) = from_ + (j : Int) + 1 := wrapI _ (by omega)
        have e3 : wrap64 (from_ + (j : Int)) = from_ + (j : Int) := wrapI _ (by omega)
        have hne := HNE.out
        rcases hm4 with rfl | rfl | rfl | rfl
        · have hr := HR.out
          rw [HM.out.1, scan_on (HVA.out.trans (if_pos ⟨rfl, rfl, by decide⟩)) (by have := QF.out; omega) (by decide), if_neg QF.out] at hr
          have HR' := Aside0.mk hr
          clear hr
          have hS7 := (HS6.out.put (i := 2) (u := .string (t ++ s)) (f2 := f) (x2 := 0) (t2 := (t ++ s)) rfl)
          have HS7 := Aside0.mk hS7
          clear hS7
          go_wp2
          go_roundw
          case rel => exact ⟨j + 1, f, t ++ s, outs, by rw [show ((j + 1 : Nat) : Int) = (j : Int) + 1 by omega, ← Int.add_assoc], by omega, ⟨by omega, by omega⟩, ⟨by have := HBD.out; rw [ByteArray.size_append]; have := HT.out; omega⟩, ⟨by have := HO.out; omega⟩, ⟨by rw [HM.out.2, show ((j + 1 : Nat) : Int) = (j : Int) + 1 by omega, ← Int.add_assoc]; exact HR'.out⟩, HS7⟩
          case measure => simp [intOf]; omega
        · have hr := HR.out
          rw [HM.out.1, scan_odd (HVA.out.trans (if_pos ⟨rfl, rfl, by decide⟩)) (by have := QF.out; omega), List.append_nil, if_pos (by have := QF.out; omega)] at hr
          have HR' := Aside0.mk hr
          clear hr
          go_wp2
          go_ret3
          rw [← HR'.out.1, ← HR'.out.2]
          exact ⟨_, rfl, Kd.R_lower HS6.out.row (by have := HS6.out.lt; omega), HS6.out.below⟩
        · have hr := HR.out
          rw [HM.out.1, scan_end (HVA.out.trans (if_pos ⟨rfl, rfl, by decide⟩)) (by have := QF.out; omega) (by decide), if_neg QF.out] at hr
          have HR' := Aside0.mk hr
          clear hr
          have hS7 := ((HS6.out.put (i := 2) (u := .string (t ++ s)) (f2 := f) (x2 := 0) (t2 := (t ++ s)) rfl).put (i := 1) (u := .int .i64 (from_ + (j : Int))) (f2 := f) (x2 := (from_ + (j : Int))) (t2 := (t ++ s)) rfl)
          have HS7 := Aside0.mk hS7
          clear hS7
          obtain ⟨W9, hW9⟩ : ∃ W9, W9 = (((w5.alloc (.cells #[.int .i64 (from_ + (j : Int)), .int .u8 2, .string s] 41)).setCell ⟨w2.heap.size, 2, none⟩ (.string (t ++ s))).setCell ⟨w2.heap.size, 1, none⟩ (.int .i64 (from_ + (j : Int)))) := ⟨_, rfl⟩
          rw [← hW9] at HS7
          go_wp2_with (first
            | ((with_reducible refine gate_builtin (b := .append) (xs := #[.tmp 88, .tmp 90]) rfl ?_); at_builtin; refine Kd.R_append k59 (w0 := W9) (w2.heap.size + 1) rfl (.tmp 88) (.tmp 90) 32 59 (.agg #[(.int .i64 0), (.int .i64 0), (.string ⟨#[]⟩)]) 32 rfl Try.underlying32 info_rec rfl (by decide) (by omega) _ outs (⟨f, (from_ + (j : Int)), t ++ s⟩ : S59) [.int .i64 f, .int .i64 (from_ + (j : Int)), .string (t ++ s)] (fun _ => True) (fun _ => False) rfl (by first | rfl | (simp [Act.eval]; done)) ?aP (fun _ hk => hk.elim) ?aF ?aO ?aB ?aS ?aL ?_; (case aP => exact k59_mkM _ _ _ (⟨f, (from_ + (j : Int)), t ++ s⟩ : S59)); (case aF => exact (fun _ _ => trivial)); (case aO => rw [← hW9]; exact HS7.out.row); (case aB => rw [← hW9]; exact Below.refl _ _); (case aS => rw [← hW9]; have := blk_lt HS7.out.rcd; omega); (case aL => have := HO.out; omega); intro v1 w9 ho hb hg hat; have HS8 := Aside0.mk (HS7.out.grown hb ho); have g0 := (kcl HS8.out.rcd 0).trans rfl; have g1 := (kcl HS8.out.rcd 1).trans rfl; have g2 := (kcl HS8.out.rcd 2).trans rfl; have gf0 := kfr HS8.out.rcd 0; have gf1 := kfr HS8.out.rcd 1; have gf2 := kfr HS8.out.rcd 2; clear ho hb hg hat))
          have hS9 := ((HS8.out.put (i := 0) (u := .int .i64 0) (f2 := 0) (x2 := (from_ + (j : Int))) (t2 := (t ++ s)) rfl).put (i := 1) (u := .int .i64 0) (f2 := 0) (x2 := 0) (t2 := (t ++ s)) rfl).put (i := 2) (u := .string ⟨#[]⟩) (f2 := 0) (x2 := 0) (t2 := ⟨#[]⟩) rfl
          have HS9 := Aside0.mk hS9
          clear hS9
          go_roundw
          case rel => exact ⟨j + 1, 0, ⟨#[]⟩, outs ++ [(⟨f, (from_ + (j : Int)), t ++ s⟩ : S59)], by rw [show ((j + 1 : Nat) : Int) = (j : Int) + 1 by omega, ← Int.add_assoc], by omega, ⟨by omega, by omega⟩, ⟨Nat.zero_le _⟩, ⟨by have := HO.out; rw [List.length_append]; simp; omega⟩, ⟨by rw [HM.out.2, show ((j + 1 : Nat) : Int) = (j : Int) + 1 by omega, ← Int.add_assoc, List.append_assoc]; exact HR'.out⟩, HS9⟩
          case measure => simp [intOf]; omega
        · have hr := HR.out
          rw [HM.out.1, scan_odd (HVA.out.trans (if_pos ⟨rfl, rfl, by decide⟩)) (by have := QF.out; omega), List.append_nil, if_pos (by have := QF.out; omega)] at hr
          have HR' := Aside0.mk hr
          clear hr
          go_wp2
          go_ret3
          rw [← HR'.out.1, ← HR'.out.2]
          exact ⟨_, rfl, Kd.R_lower HS6.out.row (by have := HS6.out.lt; omega), HS6.out.below⟩
end Go.Proofs.Ytfllpmmfjbjgoaa.PA

