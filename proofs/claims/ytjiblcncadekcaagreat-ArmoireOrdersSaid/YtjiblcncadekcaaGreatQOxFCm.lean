import Derived.Test.YtjiblcncadekcaaGreatQOxFCl
import Derived.Test.YtjiblcncadekcaaGreatQOxPAx0
namespace Go.Proofs.YtjiblcncadekcaaGreat.PA
set_option linter.unusedSimpArgs false
set_option linter.unusedVariables false
open Go.RowKit Go.Proofs.YtjiblcncadekcaaGreatW.PrintWords Go.Proofs.YtjiblcncadekcaaGreatW.PrintLast Go.Proofs.YtjiblcncadekcaaGreatW.PrintMore Go.Proofs.YtjiblcncadekcaaGreat Go.Proofs.YtjiblcncadekcaaGreat.PL
structure OkM (kind n : Int) (xs : List Rw) (m : Nat) : Prop where
  k1 : 1 ≤ kind
  k7 : kind ≤ 7
  num : kind = 2 ∨ kind = 3 → xs = []
  acc : kind = 3 → 0 ≤ n ∧ n ≤ 1099511627776 + 1048576 * (m : Int)
  lo : -9223372036854775808 ≤ n
  hi : n < 9223372036854775808
  len : xs.length ≤ 8 + m
  one : kind = 1 → xs.length ≤ 1
  row : ∀ x ∈ xs, (kind ≠ 5 → x.f1.toList = []) ∧ (kind = 1 → x.f0.toList ≠ [])
  ord : xs.Pairwise (ordS kind)
def eps : ByteArray := ⟨#[]⟩
def Leg (kind n : Int) (xs : List Rw) (s : Stp) : Prop :=
  kind = kindR s.op ∧
  if s.op = 1 then s.code = 1 ∧ s.rn = 0 ∧ s.text = (xs.head?.map (·.f0)).getD eps
  else if s.op = 4 ∨ s.op = 7 then s.code = 1 ∧ s.text = eps ∧ s.rn = n
  else if s.op = 6 then s.text = eps ∧ s.rn = 0 ∧ ((s.code = 1 ∧ s.n ≤ n) ∨ (s.code = 2 ∧ n < s.n))
  else if s.op = 8 ∨ s.op = 11 then s.text = eps ∧ s.rn = 0 ∧ ((s.code = 1 ∧ ¬ hasK xs s.a) ∨ (s.code = 2 ∧ hasK xs s.a))
  else if s.op = 9 ∨ s.op = 10 ∨ s.op = 12 then s.text = eps ∧ s.rn = 0 ∧ ((s.code = 1 ∧ hasK xs s.a) ∨ (s.code = 2 ∧ ¬ hasK xs s.a))
  else if s.op = 13 then s.rn = 0 ∧ ((s.code = 1 ∧ ∃ x ∈ xs, x.f0 = s.a ∧ s.text = x.f1) ∨ (s.code = 2 ∧ s.text = eps ∧ ¬ hasK xs s.a))
  else if s.op = 15 then s.rn = 0 ∧ ((s.code = 1 ∧ ∃ x l, xs = x :: l ∧ s.text = x.f0) ∨ (s.code = 2 ∧ s.text = eps ∧ xs = []))
  else if s.op = 17 then s.rn = 0 ∧ ((s.code = 1 ∧ hasK xs s.text) ∨ (s.code = 2 ∧ s.text = eps ∧ xs = []))
  else s.code = 1 ∧ s.text = eps ∧ s.rn = 0
def plainR (s : Stp) (c : Int) : Bool := s.code == c && (s.text.toList == ([] : List UInt8) && s.rn == 0)
def possR (s : Stp) : Bool :=
  if s.op = 1 then s.code == 1 && s.rn == 0
  else if s.op = 4 then s.code == 1 && s.text.toList == ([] : List UInt8)
  else if s.op = 7 then s.code == 1 && (s.text.toList == ([] : List UInt8) && decide (0 ≤ s.rn))
  else if s.op = 13 ∨ s.op = 15 ∨ s.op = 17 then (s.code == 1 && s.rn == 0) || plainR s 2
  else if s.op = 6 ∨ s.op = 8 ∨ s.op = 9 ∨ s.op = 10 ∨ s.op = 11 ∨ s.op = 12 then plainR s 1 || plainR s 2
  else plainR s 1
def paidR (s : Stp) : Bool := s.op == 6 && s.code == 1
def insideR (s : Stp) : Bool := if s.op = 8 ∨ s.op = 11 then s.code == 2 else s.code == 1
def sameR (x y : Stp) : Bool := x.code == y.code && (x.text.toList == y.text.toList && x.rn == y.rn)
def ruleR (kind : Int) (x y : Stp) : Bool :=
  if kind = 1 then (if y.op = 1 then false else if x.op = 1 then x.text.toList != y.a.toList else x.a.toList != y.a.toList)
  else if kind = 2 then x.op == 3 && (y.op == 4 && x.n != 0)
  else if kind = 3 then (if x.op = 5 then y.op == 7 || (y.op == 6 && !paidR y) else if paidR x = true ∧ y.op = 7 then decide (x.n ≤ y.rn) else paidR x && paidR y)
  else if kind = 6 then (if x.op = 15 then x.code == 1 && sameR x y else if y.op = 14 then x.a.toList != y.a.toList else y.code == 2)
  else if kind = 7 then (if x.op = 17 then x.code == 1 && sameR x y else if y.op = 16 then false else y.code == 2)
  else x.a.toList == y.a.toList && (insideR x == insideR y && (changesR x.op x.n x.code || changesR y.op y.n y.code))
def confR (x y : Stp) : Bool := kindR x.op != 0 && (kindR x.op == kindR y.op && (possR x && (possR y && ruleR (kindR x.op) x y)))
def conflictR (x y : Stp) : Bool := if y.op < x.op then confR y x else confR x y
def app (kind : Int) (st : Int × List Rw) (s : Stp) : Int × List Rw := applyR kind st.1 st.2 s.op s.a s.b s.n s.code s.text
theorem toL {a b : ByteArray} : a.toList = b.toList ↔ a = b := ⟨bytes_eq, fun h => by rw [h]⟩
theorem eps_toL {a : ByteArray} : a.toList = [] ↔ a = eps := by
  rw [← toL, show eps.toList = [] by rw [ba_toList]; rfl]
theorem hop_of {kind : Int} {op : Int} (hk : 1 ≤ kind) (h : kind = kindR op) : op = 1 ∨ op = 2 ∨ op = 3 ∨ op = 4 ∨ op = 5 ∨ op = 6 ∨ op = 7 ∨ op = 8 ∨ op = 9 ∨ op = 10 ∨ op = 11 ∨ op = 12 ∨ op = 13 ∨ op = 14 ∨ op = 15 ∨ op = 16 ∨ op = 17 := by
  have : ¬ (op < 1 ∨ 17 < op) := fun q => by
    unfold kindR at h
    rw [if_pos q] at h
    omega
  omega
theorem leg_poss {kind n : Int} {xs : List Rw} {m : Nat} {s : Stp} (hk : OkM kind n xs m) (h : Leg kind n xs s) : possR s = true := by
  obtain ⟨hkd, h⟩ := h
  have hop := hop_of hk.k1 hkd
  obtain ⟨op, a, b, sn, code, text, rn⟩ := s
  dsimp only at hkd hop h
  unfold possR plainR
  dsimp only
  have he : eps.toList = [] := by rw [ba_toList]; rfl
  rcases hop with rfl | rfl | rfl | rfl | rfl | rfl | rfl | rfl | rfl | rfl | rfl | rfl | rfl | rfl | rfl | rfl | rfl
  · obtain ⟨rfl, rfl, -⟩ := h; simp [he]
  · obtain ⟨rfl, rfl, rfl⟩ := h; simp [he]
  · obtain ⟨rfl, rfl, rfl⟩ := h; simp [he]
  · obtain ⟨rfl, rfl, rfl⟩ := h; simp [he]
  · obtain ⟨rfl, rfl, rfl⟩ := h; simp [he]
  · obtain ⟨rfl, rfl, (⟨rfl, -⟩ | ⟨rfl, -⟩)⟩ := h <;> simp [he]
  · obtain ⟨rfl, rfl, rfl⟩ := h
    have := (hk.acc hkd).1
    simp [he, this]
  · obtain ⟨rfl, rfl, (⟨rfl, -⟩ | ⟨rfl, -⟩)⟩ := h <;> simp [he]
  · obtain ⟨rfl, rfl, (⟨rfl, -⟩ | ⟨rfl, -⟩)⟩ := h <;> simp [he]
  · obtain ⟨rfl, rfl, (⟨rfl, -⟩ | ⟨rfl, -⟩)⟩ := h <;> simp [he]
  · obtain ⟨rfl, rfl, (⟨rfl, -⟩ | ⟨rfl, -⟩)⟩ := h <;> simp [he]
  · obtain ⟨rfl, rfl, (⟨rfl, -⟩ | ⟨rfl, -⟩)⟩ := h <;> simp [he]
  · obtain ⟨rfl, (⟨rfl, -⟩ | ⟨rfl, rfl, -⟩)⟩ := h <;> simp [he]
  · obtain ⟨rfl, rfl, rfl⟩ := h; simp [he]
  · obtain ⟨rfl, (⟨rfl, -⟩ | ⟨rfl, rfl, -⟩)⟩ := h <;> simp [he]
  · obtain ⟨rfl, rfl, rfl⟩ := h; simp [he]
  · obtain ⟨rfl, (⟨rfl, -⟩ | ⟨rfl, rfl, -⟩)⟩ := h <;> simp [he]
def Dia (kind : Int) (st : Int × List Rw) (x y : Stp) : Prop :=
  Leg kind (app kind st x).1 (app kind st x).2 y ∧ Leg kind (app kind st y).1 (app kind st y).2 x ∧ app kind (app kind st x) y = app kind (app kind st y) x
theorem Dia.symm {kind : Int} {st : Int × List Rw} {x y : Stp} (h : Dia kind st x y) : Dia kind st y x := ⟨h.2.1, h.1, h.2.2.symm⟩
theorem app_no {kind : Int} {st : Int × List Rw} {s : Stp} (h : changesR s.op s.n s.code = false) : app kind st s = st := applyR_no (.inl h)
theorem dia_no {kind : Int} {st : Int × List Rw} {x y : Stp} (hx : Leg kind st.1 st.2 x) (hy : changesR y.op y.n y.code = false) (h : Leg kind (app kind st x).1 (app kind st x).2 y) : Dia kind st x y :=
  ⟨h, by rw [app_no hy]; exact hx, by rw [app_no hy, app_no hy]⟩
theorem dia_nono {kind : Int} {st : Int × List Rw} {x y : Stp} (hx : Leg kind st.1 st.2 x) (hy : Leg kind st.1 st.2 y) (cx : changesR x.op x.n x.code = false) (cy : changesR y.op y.n y.code = false) : Dia kind st x y :=
  dia_no hx cy (by rw [app_no cx]; exact hy)
theorem app_yes {kind : Int} {st : Int × List Rw} {s : Stp} (h : changesR s.op s.n s.code = true) (hk : kind = kindR s.op) : app kind st s = if s.op = 2 then (st.1, if s.a.toList = [] then [] else [⟨s.a, ⟨#[]⟩⟩]) else if s.op = 3 ∨ s.op = 5 then (wrap64 (st.1 + s.n), st.2) else if s.op = 6 then (wrap64 (st.1 - s.n), st.2)
    else if s.op = 8 ∨ s.op = 14 ∨ s.op = 16 then (st.1, withR kind st.2 ⟨s.a, ⟨#[]⟩⟩) else if s.op = 11 then (st.1, withR kind st.2 ⟨s.a, s.b⟩) else if s.op = 9 ∨ s.op = 12 then (st.1, withoutR st.2 s.a) else (st.1, withoutR st.2 s.text) := by
  unfold app applyR
  rw [if_neg (by rintro (q | q); rw [h] at q; cases q; exact q hk)]
theorem reg_dia {n : Int} {xs : List Rw} {m : Nat} {x y : Stp} (hk : OkM 1 n xs m) (hx : Leg 1 n xs x) (hy : Leg 1 n xs y) (ox : x.op = 1 ∨ x.op = 2) (oy : y.op = 1 ∨ y.op = 2) (hle : x.op ≤ y.op) (hr : ruleR 1 x y = false) : Dia 1 (n, xs) x y := by
  obtain ⟨xo, xa, xb, xn, xc, xt, xr⟩ := x
  obtain ⟨yo, ya, yb, yn, yc, yt, yr⟩ := y
  dsimp only at ox oy hle
  have cy : ∀ a b n c t r, changesR (Stp.mk 2 a b n c t r).op (Stp.mk 2 a b n c t r).n (Stp.mk 2 a b n c t r).code = true := fun _ _ _ _ _ _ => rfl
  rcases ox with rfl | rfl <;> rcases oy with rfl | rfl
  · exact dia_nono hx hy rfl rfl
  · simp only [ruleR] at hr
    have hxt : xt = ya := by simpa [toL] using hr
    obtain ⟨hx1, rfl, rfl, hx4⟩ := hx
    obtain ⟨hy1, rfl, rfl, rfl⟩ := hy
    dsimp only at hx4
    have e : app 1 (n, xs) ⟨2, ya, yb, yn, 1, eps, 0⟩ = (n, xs) := by
      refine (app_yes (s := ⟨2, ya, yb, yn, 1, eps, 0⟩) rfl rfl).trans ?_
      show (n, if ya.toList = [] then [] else [⟨ya, ⟨#[]⟩⟩]) = (n, xs)
      rw [← hxt, hx4]
      have h1 := hk.one rfl
      have h2 := hk.row
      match xs, h1, h2 with
      | [], _, _ =>
        show (n, if eps.toList = [] then ([] : List Rw) else [⟨eps, ⟨#[]⟩⟩]) = (n, [])
        rw [if_pos (eps_toL.2 rfl)]
      | [z], _, h2 =>
        have h3 := h2 z (by simp)
        have h4 : z.f1 = ⟨#[]⟩ := eps_toL.1 (h3.1 (by decide))
        show (n, if z.f0.toList = [] then [] else [⟨z.f0, ⟨#[]⟩⟩]) = (n, [z])
        rw [if_neg (h3.2 rfl), ← h4]
    refine ⟨?_, ?_, ?_⟩
    · exact ⟨rfl, rfl, rfl, rfl⟩
    · rw [e]; exact ⟨rfl, rfl, rfl, hx4⟩
    · rw [e, show app 1 (n, xs) ⟨1, xa, xb, xn, 1, xt, 0⟩ = (n, xs) from app_no rfl, e]
  · exact absurd hle (by decide)
  · simp only [ruleR] at hr
    have hxa : xa = ya := by simpa [toL] using hr
    obtain ⟨hx1, rfl, rfl, rfl⟩ := hx
    obtain ⟨hy1, rfl, rfl, rfl⟩ := hy
    subst hxa
    refine ⟨⟨rfl, rfl, rfl, rfl⟩, ⟨rfl, rfl, rfl, rfl⟩, ?_⟩
    have hap : ∀ st b n, app 1 st ⟨2, xa, b, n, 1, eps, 0⟩ = (st.1, if xa.toList = [] then [] else [⟨xa, ⟨#[]⟩⟩]) := fun st b n => by
      exact (app_yes (s := ⟨2, xa, b, n, 1, eps, 0⟩) rfl rfl).trans rfl
    rw [hap, hap, hap, hap]
theorem cnt_dia {n : Int} {xs : List Rw} {m : Nat} {x y : Stp} (hk : OkM 2 n xs m) (hx : Leg 2 n xs x) (hy : Leg 2 n xs y) (ox : x.op = 3 ∨ x.op = 4) (oy : y.op = 3 ∨ y.op = 4) (hle : x.op ≤ y.op) (hr : ruleR 2 x y = false) : Dia 2 (n, xs) x y := by
  obtain ⟨xo, xa, xb, xn, xc, xt, xr⟩ := x
  obtain ⟨yo, ya, yb, yn, yc, yt, yr⟩ := y
  dsimp only at ox oy hle
  have hap : ∀ n a b k, app 2 (n, xs) ⟨3, a, b, k, 1, eps, 0⟩ = if k = 0 then (n, xs) else (wrap64 (n + k), xs) := fun n a b k => by
    by_cases q : k = 0
    · subst q
      rw [app_no rfl, if_pos rfl]
    · rw [if_neg q]
      exact (app_yes (s := ⟨3, a, b, k, 1, eps, 0⟩) (by simp [changesR, q]) rfl).trans rfl
  rcases ox with rfl | rfl <;> rcases oy with rfl | rfl
  · obtain ⟨hx1, rfl, rfl, rfl⟩ := hx
    obtain ⟨hy1, rfl, rfl, rfl⟩ := hy
    refine ⟨?_, ?_, ?_⟩
    · exact ⟨rfl, rfl, rfl, rfl⟩
    · exact ⟨rfl, rfl, rfl, rfl⟩
    · have hlo := hk.lo
      have hhi := hk.hi
      by_cases q1 : xn = 0
      · rw [show app 2 (n, xs) ⟨3, xa, xb, xn, 1, eps, 0⟩ = (n, xs) by rw [hap, if_pos q1], hap]
        by_cases q2 : yn = 0
        · rw [if_pos q2, hap, if_pos q1]
        · rw [if_neg q2, hap, if_pos q1]
      · rw [show app 2 (n, xs) ⟨3, xa, xb, xn, 1, eps, 0⟩ = (wrap64 (n + xn), xs) by rw [hap, if_neg q1], hap, hap]
        by_cases q2 : yn = 0
        · rw [if_pos q2, if_pos q2, hap, if_neg q1]
        · rw [if_neg q2, if_neg q2, hap, if_neg q1]
          have : wrap64 (wrap64 (n + xn) + yn) = wrap64 (wrap64 (n + yn) + xn) := by unfold wrap64; omega
          rw [this]
  · obtain ⟨hx1, rfl, rfl, rfl⟩ := hx
    obtain ⟨hy1, rfl, rfl, rfl⟩ := hy
    simp only [ruleR] at hr
    have hz : xn = 0 := by simpa using hr
    subst hz
    refine dia_nono ?_ ?_ rfl rfl
    · exact ⟨rfl, rfl, rfl, rfl⟩
    · exact ⟨rfl, rfl, rfl, rfl⟩
  · exact absurd hle (by decide)
  · exact dia_nono hx hy rfl rfl
theorem acc_dia {n : Int} {xs : List Rw} {m : Nat} {x y : Stp} (hm : m ≤ 1000) (hk : OkM 3 n xs m) (hx : Leg 3 n xs x) (hy : Leg 3 n xs y) (cx : CallOk x.op x.a x.b x.n) (cy : CallOk y.op y.a y.b y.n) (ox : x.op = 5 ∨ x.op = 6 ∨ x.op = 7) (oy : y.op = 5 ∨ y.op = 6 ∨ y.op = 7) (hle : x.op ≤ y.op) (hr : ruleR 3 x y = false) : Dia 3 (n, xs) x y := by
  obtain ⟨xo, xa, xb, xn, xc, xt, xr⟩ := x
  obtain ⟨yo, ya, yb, yn, yc, yt, yr⟩ := y
  dsimp only at ox oy hle cx cy
  have hacc := hk.acc rfl
  have hcr : ∀ n a b k, app 3 (n, xs) ⟨5, a, b, k, 1, eps, 0⟩ = (wrap64 (n + k), xs) := fun n a b k => (app_yes (s := ⟨5, a, b, k, 1, eps, 0⟩) rfl rfl).trans rfl
  have hde : ∀ n a b k, app 3 (n, xs) ⟨6, a, b, k, 1, eps, 0⟩ = (wrap64 (n - k), xs) := fun n a b k => (app_yes (s := ⟨6, a, b, k, 1, eps, 0⟩) rfl rfl).trans rfl
  have hno : ∀ n a b k, app 3 (n, xs) ⟨6, a, b, k, 2, eps, 0⟩ = (n, xs) := fun n a b k => app_no rfl
  rcases ox with rfl | rfl | rfl <;> rcases oy with rfl | rfl | rfl
  · obtain ⟨hx1, rfl, rfl, rfl⟩ := hx
    obtain ⟨hy1, rfl, rfl, rfl⟩ := hy
    refine ⟨⟨rfl, rfl, rfl, rfl⟩, ⟨rfl, rfl, rfl, rfl⟩, ?_⟩
    rw [hcr, hcr, hcr, hcr]
    have : wrap64 (wrap64 (n + xn) + yn) = wrap64 (wrap64 (n + yn) + xn) := by unfold wrap64; omega
    rw [this]
  · obtain ⟨hx1, rfl, rfl, rfl⟩ := hx
    obtain ⟨hy1, rfl, rfl, hy2⟩ := hy
    dsimp only at hy2
    have h1 := cx.2.2 (.inl rfl)
    have h2 := cy.2.2 (.inr rfl)
    have hc : yc = 1 := by
      rcases hy2 with ⟨h, -⟩ | ⟨rfl, -⟩
      · exact h
      · exact absurd hr (by simp [ruleR, paidR])
    subst hc
    have hyn : yn ≤ n := by
      rcases hy2 with ⟨-, h⟩ | ⟨h, -⟩
      · exact h
      · exact absurd h (by decide)
    have e1 : wrap64 (n + xn) = n + xn := by unfold wrap64; omega
    have e2 : wrap64 (n - yn) = n - yn := by unfold wrap64; omega
    have e3 : wrap64 (n + xn - yn) = n + xn - yn := by unfold wrap64; omega
    have e4 : wrap64 (n - yn + xn) = n + xn - yn := by unfold wrap64; omega
    refine ⟨?_, ?_, ?_⟩
    · rw [hcr, e1]
      exact ⟨rfl, rfl, rfl, .inl ⟨rfl, show yn ≤ n + xn by omega⟩⟩
    · exact ⟨rfl, rfl, rfl, rfl⟩
    · rw [hcr, e1, hde, e3, hde, e2, hcr, e4]
  · obtain ⟨hx1, rfl, rfl, rfl⟩ := hx
    exact absurd hr (by simp [ruleR])
  · exact absurd hle (by decide)
  · obtain ⟨hx1, rfl, rfl, hx2⟩ := hx
    obtain ⟨hy1, rfl, rfl, hy2⟩ := hy
    dsimp only at hx2 hy2
    have h1 := cx.2.2 (.inr rfl)
    have h2 := cy.2.2 (.inr rfl)
    have e1 : 0 ≤ n - xn → wrap64 (n - xn) = n - xn := fun h => by unfold wrap64; omega
    have e2 : 0 ≤ n - yn → wrap64 (n - yn) = n - yn := fun h => by unfold wrap64; omega
    rcases hx2 with ⟨rfl, hx2⟩ | ⟨rfl, hx2⟩ <;> rcases hy2 with ⟨rfl, hy2⟩ | ⟨rfl, hy2⟩
    · exact absurd hr (by simp [ruleR, paidR])
    · refine dia_no ⟨rfl, rfl, rfl, .inl ⟨rfl, hx2⟩⟩ rfl ?_
      rw [hde, e1 (by omega)]
      exact ⟨rfl, rfl, rfl, .inr ⟨rfl, show n - xn < yn by omega⟩⟩
    · refine Dia.symm ?_
      refine dia_no ⟨rfl, rfl, rfl, .inl ⟨rfl, hy2⟩⟩ rfl ?_
      rw [hde, e2 (by omega)]
      exact ⟨rfl, rfl, rfl, .inr ⟨rfl, show n - yn < xn by omega⟩⟩
    · exact dia_nono ⟨rfl, rfl, rfl, .inr ⟨rfl, hx2⟩⟩ ⟨rfl, rfl, rfl, .inr ⟨rfl, hy2⟩⟩ rfl rfl
  · obtain ⟨hx1, rfl, rfl, hx2⟩ := hx
    obtain ⟨hy1, rfl, rfl, rfl⟩ := hy
    dsimp only at hx2
    rcases hx2 with ⟨rfl, hx2⟩ | ⟨rfl, hx2⟩
    · exact absurd hr (by simp [ruleR, paidR, hx2])
    · exact dia_nono ⟨rfl, rfl, rfl, .inr ⟨rfl, hx2⟩⟩ ⟨rfl, rfl, rfl, rfl⟩ rfl rfl
  · exact absurd hle (by decide)
  · exact absurd hle (by decide)
  · exact dia_nono hx hy rfl rfl
theorem with6 (xs : List Rw) (r : Rw) : withR 6 xs r = xs ++ [r] := by
  have h : insPos 6 xs r.f0 xs.length = xs.length := by
    cases xs with
    | nil => rfl
    | cons z l => show insPos 6 (z :: l) r.f0 (l.length + 1) = l.length + 1; unfold insPos; rw [if_neg (fun h => h.1 rfl)]
  unfold withR
  rw [h, List.take_length, List.drop_length]
theorem without_head (z : Rw) (l : List Rw) : withoutR (z :: l) z.f0 = l := by
  have h : posR (z :: l) z.f0 = some 0 := by
    unfold posR
    rw [List.findIdx?_cons, if_pos (by simp)]
  unfold withoutR
  rw [h]
  rfl
theorem que_dia {n : Int} {xs : List Rw} {x y : Stp} (hx : Leg 6 n xs x) (hy : Leg 6 n xs y) (ox : x.op = 14 ∨ x.op = 15) (oy : y.op = 14 ∨ y.op = 15) (hle : x.op ≤ y.op) (hr : ruleR 6 x y = false) : Dia 6 (n, xs) x y := by
  obtain ⟨xo, xa, xb, xn, xc, xt, xr⟩ := x
  obtain ⟨yo, ya, yb, yn, yc, yt, yr⟩ := y
  dsimp only at ox oy hle
  have hen : ∀ xs a b k, app 6 (n, xs) ⟨14, a, b, k, 1, eps, 0⟩ = (n, xs ++ [⟨a, ⟨#[]⟩⟩]) := fun xs a b k => (app_yes (s := ⟨14, a, b, k, 1, eps, 0⟩) rfl rfl).trans (by rw [← with6]; rfl)
  have hde : ∀ (z : Rw) (l : List Rw) a b k, app 6 (n, z :: l) ⟨15, a, b, k, 1, z.f0, 0⟩ = (n, l) := fun z l a b k => (app_yes (s := ⟨15, a, b, k, 1, z.f0, 0⟩) rfl rfl).trans (by show (n, withoutR (z :: l) z.f0) = (n, l); rw [without_head])
  rcases ox with rfl | rfl <;> rcases oy with rfl | rfl
  · obtain ⟨hx1, rfl, rfl, rfl⟩ := hx
    obtain ⟨hy1, rfl, rfl, rfl⟩ := hy
    have hxa : xa = ya := by
      simp only [ruleR] at hr
      simpa [toL] using hr
    subst hxa
    refine ⟨⟨rfl, rfl, rfl, rfl⟩, ⟨rfl, rfl, rfl, rfl⟩, ?_⟩
    rw [hen, hen, hen, hen]
  · obtain ⟨hx1, rfl, rfl, rfl⟩ := hx
    obtain ⟨hy1, rfl, hy2⟩ := hy
    dsimp only at hy2
    rcases hy2 with ⟨rfl, z, l, rfl, rfl⟩ | ⟨rfl, rfl, rfl⟩
    · refine ⟨?_, ⟨rfl, rfl, rfl, rfl⟩, ?_⟩
      · rw [hen]
        exact ⟨rfl, rfl, .inl ⟨rfl, z, _, rfl, rfl⟩⟩
      · rw [hen, hde, hen, List.cons_append, hde]
    · exact absurd hr (by simp [ruleR])
  · exact absurd hle (by decide)
  · obtain ⟨hx1, rfl, hx2⟩ := hx
    obtain ⟨hy1, rfl, hy2⟩ := hy
    dsimp only at hx2 hy2
    rcases hx2 with ⟨rfl, z, l, rfl, rfl⟩ | ⟨rfl, rfl, rfl⟩
    · rcases hy2 with ⟨rfl, z', l', hz, rfl⟩ | ⟨rfl, rfl, h⟩
      · obtain ⟨rfl, rfl⟩ := List.cons.inj hz
        exact absurd hr (by simp [ruleR, sameR])
      · cases h
    · rcases hy2 with ⟨rfl, z', l', hz, rfl⟩ | ⟨rfl, rfl, h⟩
      · cases hz
      · exact dia_nono ⟨rfl, rfl, .inr ⟨rfl, rfl, rfl⟩⟩ ⟨rfl, rfl, .inr ⟨rfl, rfl, rfl⟩⟩ rfl rfl
theorem rows_eq {kind : Int} {l1 l2 : List Rw} (hk : kind = 4 ∨ kind = 5 ∨ kind = 7) (h7 : kind = 7 → ∀ x ∈ l1, x.f1 = eps) (h1 : l1.Pairwise (ordS kind)) (h2 : l2.Pairwise (ordS kind)) (hp : l1.Perm l2) : l1 = l2 := by
  refine perm_eq l1 l2 (fun a ha b hb h k => ?_) h1 h2 hp
  rcases hk with rfl | rfl | rfl
  · exact absurd (k.1 (.inl rfl)) (lt_asymm' (h.1 (.inl rfl)))
  · exact absurd (k.1 (.inr rfl)) (lt_asymm' (h.1 (.inr rfl)))
  · have e : a.f0 = b.f0 := by
      rcases lt_tot (k.2 rfl) with q | q
      · exact absurd q (h.2 rfl)
      · exact q
    have e1 := h7 rfl a ha
    have e2 := h7 rfl b hb
    obtain ⟨a0, a1⟩ := a
    obtain ⟨b0, b1⟩ := b
    dsimp only at e e1 e2
    subst e e1 e2
    rfl
theorem uq7 {xs : List Rw} (h : ∀ x ∈ xs, x.f1 = eps) : Uq xs := fun x hx y hy e => by
  have e1 := h x hx
  have e2 := h y hy
  obtain ⟨a0, a1⟩ := x
  obtain ⟨b0, b1⟩ := y
  dsimp only at e e1 e2
  subst e e1 e2
  rfl
theorem uq45 {kind : Int} {xs : List Rw} (hk : kind = 4 ∨ kind = 5) (h : xs.Pairwise (ordS kind)) : Uq xs := by
  induction xs with
  | nil => exact fun x hx => by cases hx
  | cons z l ih =>
    have hz := (List.pairwise_cons.1 h).1
    have hl := ih (List.pairwise_cons.1 h).2
    intro x hx y hy e
    rcases List.mem_cons.1 hx with q | hx' <;> rcases List.mem_cons.1 hy with r | hy'
    · rw [q, r]
    · have := (hz y hy').1 hk
      rw [← q, e] at this
      exact absurd this (lt_irrefl' _)
    · have := (hz x hx').1 hk
      rw [← r, e] at this
      exact absurd this (lt_irrefl' _)
    · exact hl x hx' y hy' e
theorem sem_dia {n : Int} {xs : List Rw} {m : Nat} {x y : Stp} (hk : OkM 7 n xs m) (hx : Leg 7 n xs x) (hy : Leg 7 n xs y) (ox : x.op = 16 ∨ x.op = 17) (oy : y.op = 16 ∨ y.op = 17) (hle : x.op ≤ y.op) (hr : ruleR 7 x y = false) : Dia 7 (n, xs) x y := by
  obtain ⟨xo, xa, xb, xn, xc, xt, xr⟩ := x
  obtain ⟨yo, ya, yb, yn, yc, yt, yr⟩ := y
  dsimp only at ox oy hle
  have hput : ∀ xs a b k, app 7 (n, xs) ⟨16, a, b, k, 1, eps, 0⟩ = (n, withR 7 xs ⟨a, eps⟩) := fun xs a b k => (app_yes (s := ⟨16, a, b, k, 1, eps, 0⟩) rfl rfl).trans rfl
  have htak : ∀ xs a b k t, app 7 (n, xs) ⟨17, a, b, k, 1, t, 0⟩ = (n, withoutR xs t) := fun xs a b k t => (app_yes (s := ⟨17, a, b, k, 1, t, 0⟩) rfl rfl).trans rfl
  have hf1 : ∀ x ∈ xs, x.f1 = eps := fun x hx => eps_toL.1 ((hk.row x hx).1 (by decide))
  have hw1 : ∀ {xs : List Rw}, (∀ x ∈ xs, x.f1 = eps) → ∀ a, ∀ x ∈ withR 7 xs ⟨a, eps⟩, x.f1 = eps := fun h a x hx => by
    rcases with_mem hx with rfl | hx
    · rfl
    · exact h x hx
  have ho1 : ∀ {xs : List Rw}, xs.Pairwise (ordS 7) → ∀ a, (withR 7 xs ⟨a, eps⟩).Pairwise (ordS 7) := fun h a => with_ord 7 _ _ h (fun q => absurd q (by decide))
  rcases ox with rfl | rfl <;> rcases oy with rfl | rfl
  · obtain ⟨hx1, rfl, rfl, rfl⟩ := hx
    obtain ⟨hy1, rfl, rfl, rfl⟩ := hy
    refine ⟨⟨rfl, rfl, rfl, rfl⟩, ⟨rfl, rfl, rfl, rfl⟩, ?_⟩
    rw [hput, hput, hput, hput]
    rw [rows_eq (kind := 7) (.inr (.inr rfl)) (fun _ => hw1 (hw1 hf1 _) _) (ho1 (ho1 hk.ord _) _) (ho1 (ho1 hk.ord _) _) (with_with 7 7 7 7 xs _ _)]
  · obtain ⟨hx1, rfl, rfl, rfl⟩ := hx
    obtain ⟨hy1, rfl, hy2⟩ := hy
    dsimp only at hy2
    rcases hy2 with ⟨rfl, hy2⟩ | ⟨rfl, rfl, rfl⟩
    · refine ⟨?_, ⟨rfl, rfl, rfl, rfl⟩, ?_⟩
      · rw [hput]
        exact ⟨rfl, rfl, .inl ⟨rfl, (hasK_with _ _ _ _).2 (.inr hy2)⟩⟩
      · rw [hput, htak, htak, hput]
        rw [rows_eq (kind := 7) (.inr (.inr rfl)) (fun _ x hx => hw1 hf1 _ x ((without_sub _ _).subset hx)) ((ho1 hk.ord _).sublist (without_sub _ _)) (ho1 (hk.ord.sublist (without_sub _ _)) _) (with_without 7 hy2 (uq7 (hw1 hf1 _)))]
    · exact absurd hr (by simp [ruleR])
  · exact absurd hle (by decide)
  · obtain ⟨hx1, rfl, hx2⟩ := hx
    obtain ⟨hy1, rfl, hy2⟩ := hy
    dsimp only at hx2 hy2
    rcases hx2 with ⟨rfl, hx2⟩ | ⟨rfl, rfl, rfl⟩
    · rcases hy2 with ⟨rfl, hy2⟩ | ⟨rfl, rfl, rfl⟩
      · have hne : xt ≠ yt := fun e => by
          subst e
          exact absurd hr (by simp [ruleR, sameR])
        refine ⟨?_, ?_, ?_⟩
        · rw [htak]
          exact ⟨rfl, rfl, .inl ⟨rfl, (hasK_without (fun e => hne e.symm)).2 hy2⟩⟩
        · rw [htak]
          exact ⟨rfl, rfl, .inl ⟨rfl, (hasK_without hne).2 hx2⟩⟩
        · rw [htak, htak, htak, htak]
          rw [rows_eq (kind := 7) (.inr (.inr rfl)) (fun _ x hx => hf1 x ((without_sub _ _).subset ((without_sub _ _).subset hx))) ((hk.ord.sublist (without_sub _ _)).sublist (without_sub _ _)) ((hk.ord.sublist (without_sub _ _)).sublist (without_sub _ _)) (without_without hx2 hy2 hne (uq7 hf1))]
      · obtain ⟨z, hz, -⟩ := hx2
        cases hz
    · rcases hy2 with ⟨rfl, z, hz, -⟩ | ⟨rfl, rfl, h⟩
      · cases hz
      · exact dia_nono ⟨rfl, rfl, .inr ⟨rfl, rfl, rfl⟩⟩ ⟨rfl, rfl, .inr ⟨rfl, rfl, rfl⟩⟩ rfl rfl
def isMem (kind op : Int) : Prop := (kind = 4 ∧ (op = 8 ∨ op = 9 ∨ op = 10)) ∨ (kind = 5 ∧ (op = 11 ∨ op = 12 ∨ op = 13))
theorem mem_inside {kind n : Int} {xs : List Rw} {s : Stp} (ho : isMem kind s.op) (h : Leg kind n xs s) : (insideR s = true ↔ hasK xs s.a) ∧ (changesR s.op s.n s.code = true → (s.op = 8 ∨ s.op = 11 → ¬ hasK xs s.a) ∧ (s.op = 9 ∨ s.op = 12 → hasK xs s.a) ∧ (s.op = 8 ∨ s.op = 9 ∨ s.op = 11 ∨ s.op = 12)) := by
  obtain ⟨op, a, b, sn, code, text, rn⟩ := s
  obtain ⟨hkd, h⟩ := h
  dsimp only at ho h ⊢
  rcases ho with ⟨rfl, (rfl | rfl | rfl)⟩ | ⟨rfl, (rfl | rfl | rfl)⟩
  · obtain ⟨rfl, rfl, (⟨rfl, h⟩ | ⟨rfl, h⟩)⟩ := h
    · exact ⟨⟨fun q => absurd q (by simp [insideR]), fun q => absurd q h⟩, fun _ => ⟨fun _ => h, fun q => absurd q (by decide), .inl rfl⟩⟩
    · exact ⟨⟨fun _ => h, fun _ => by simp [insideR]⟩, fun q => by cases (show false = true from q)⟩
  · obtain ⟨rfl, rfl, (⟨rfl, h⟩ | ⟨rfl, h⟩)⟩ := h
    · exact ⟨⟨fun _ => h, fun _ => by simp [insideR]⟩, fun _ => ⟨fun q => absurd q (by decide), fun _ => h, .inr (.inl rfl)⟩⟩
    · exact ⟨⟨fun q => absurd q (by simp [insideR]), fun q => absurd q h⟩, fun q => by cases (show false = true from q)⟩
  · obtain ⟨rfl, rfl, (⟨rfl, h⟩ | ⟨rfl, h⟩)⟩ := h
    · exact ⟨⟨fun _ => h, fun _ => by simp [insideR]⟩, fun q => by cases (show false = true from q)⟩
    · exact ⟨⟨fun q => absurd q (by simp [insideR]), fun q => absurd q h⟩, fun q => by cases (show false = true from q)⟩
  · obtain ⟨rfl, rfl, (⟨rfl, h⟩ | ⟨rfl, h⟩)⟩ := h
    · exact ⟨⟨fun q => absurd q (by simp [insideR]), fun q => absurd q h⟩, fun _ => ⟨fun _ => h, fun q => absurd q (by decide), .inr (.inr (.inl rfl))⟩⟩
    · exact ⟨⟨fun _ => h, fun _ => by simp [insideR]⟩, fun q => by cases (show false = true from q)⟩
  · obtain ⟨rfl, rfl, (⟨rfl, h⟩ | ⟨rfl, h⟩)⟩ := h
    · exact ⟨⟨fun _ => h, fun _ => by simp [insideR]⟩, fun _ => ⟨fun q => absurd q (by decide), fun _ => h, .inr (.inr (.inr rfl))⟩⟩
    · exact ⟨⟨fun q => absurd q (by simp [insideR]), fun q => absurd q h⟩, fun q => by cases (show false = true from q)⟩
  · obtain ⟨rfl, (⟨rfl, x, hx, hxa, -⟩ | ⟨rfl, rfl, h⟩)⟩ := h
    · exact ⟨⟨fun _ => ⟨x, hx, hxa⟩, fun _ => by simp [insideR]⟩, fun q => by cases (show false = true from q)⟩
    · exact ⟨⟨fun q => absurd q (by simp [insideR]), fun q => absurd q h⟩, fun q => by cases (show false = true from q)⟩
def Alike (xs ys : List Rw) (a : ByteArray) : Prop := ∀ r : Rw, r.f0 = a → (r ∈ xs ↔ r ∈ ys)
theorem Alike.has {xs ys : List Rw} {a : ByteArray} (h : Alike xs ys a) : hasK xs a ↔ hasK ys a :=
  ⟨fun ⟨x, hx, e⟩ => ⟨x, (h x e).1 hx, e⟩, fun ⟨x, hx, e⟩ => ⟨x, (h x e).2 hx, e⟩⟩
theorem mem_leg {kind n : Int} {xs ys : List Rw} {s : Stp} (ho : isMem kind s.op) (h : Leg kind n xs s) (ha : Alike xs ys s.a) : Leg kind n ys s := by
  obtain ⟨op, a, b, sn, code, text, rn⟩ := s
  obtain ⟨hkd, h⟩ := h
  dsimp only at ho h ha
  have hh := ha.has
  rcases ho with ⟨rfl, (rfl | rfl | rfl)⟩ | ⟨rfl, (rfl | rfl | rfl)⟩
  · obtain ⟨rfl, rfl, (⟨rfl, h⟩ | ⟨rfl, h⟩)⟩ := h
    · exact ⟨hkd, rfl, rfl, .inl ⟨rfl, fun q => h (hh.2 q)⟩⟩
    · exact ⟨hkd, rfl, rfl, .inr ⟨rfl, hh.1 h⟩⟩
  · obtain ⟨rfl, rfl, (⟨rfl, h⟩ | ⟨rfl, h⟩)⟩ := h
    · exact ⟨hkd, rfl, rfl, .inl ⟨rfl, hh.1 h⟩⟩
    · exact ⟨hkd, rfl, rfl, .inr ⟨rfl, fun q => h (hh.2 q)⟩⟩
  · obtain ⟨rfl, rfl, (⟨rfl, h⟩ | ⟨rfl, h⟩)⟩ := h
    · exact ⟨hkd, rfl, rfl, .inl ⟨rfl, hh.1 h⟩⟩
    · exact ⟨hkd, rfl, rfl, .inr ⟨rfl, fun q => h (hh.2 q)⟩⟩
  · obtain ⟨rfl, rfl, (⟨rfl, h⟩ | ⟨rfl, h⟩)⟩ := h
    · exact ⟨hkd, rfl, rfl, .inl ⟨rfl, fun q => h (hh.2 q)⟩⟩
    · exact ⟨hkd, rfl, rfl, .inr ⟨rfl, hh.1 h⟩⟩
  · obtain ⟨rfl, rfl, (⟨rfl, h⟩ | ⟨rfl, h⟩)⟩ := h
    · exact ⟨hkd, rfl, rfl, .inl ⟨rfl, hh.1 h⟩⟩
    · exact ⟨hkd, rfl, rfl, .inr ⟨rfl, fun q => h (hh.2 q)⟩⟩
  · obtain ⟨rfl, (⟨rfl, x, hx, hxa, hxt⟩ | ⟨rfl, rfl, h⟩)⟩ := h
    · exact ⟨hkd, rfl, .inl ⟨rfl, x, (ha x hxa).1 hx, hxa, hxt⟩⟩
    · exact ⟨hkd, rfl, .inr ⟨rfl, rfl, fun q => h (hh.2 q)⟩⟩
theorem mem_app {kind n : Int} {xs : List Rw} {s : Stp} (hk : kind = kindR s.op) (ho : isMem kind s.op) (hc : changesR s.op s.n s.code = true) (h : (s.op = 8 ∨ s.op = 9 ∨ s.op = 11 ∨ s.op = 12)) :
    (∃ v, (s.op = 8 ∨ s.op = 11) ∧ ∀ xs, app kind (n, xs) s = (n, withR kind xs ⟨s.a, v⟩)) ∨ ((s.op = 9 ∨ s.op = 12) ∧ ∀ xs, app kind (n, xs) s = (n, withoutR xs s.a)) := by
  obtain ⟨op, a, b, sn, code, text, rn⟩ := s
  dsimp only at hk ho hc h ⊢
  rcases h with rfl | rfl | rfl | rfl
  · exact .inl ⟨⟨#[]⟩, .inl rfl, fun xs => (app_yes hc hk).trans rfl⟩
  · exact .inr ⟨.inl rfl, fun xs => (app_yes hc hk).trans rfl⟩
  · exact .inl ⟨b, .inr rfl, fun xs => (app_yes hc hk).trans rfl⟩
  · exact .inr ⟨.inr rfl, fun xs => (app_yes hc hk).trans rfl⟩
theorem alike_with (kind : Int) (xs : List Rw) (r : Rw) {a : ByteArray} (hne : r.f0 ≠ a) : Alike xs (withR kind xs r) a := fun x hx => by
  have hm : x ∈ withR kind xs r ↔ x = r ∨ x ∈ xs := by rw [(with_perm kind xs r).mem_iff, List.mem_cons]
  rw [hm]
  exact ⟨.inr, fun q => q.resolve_left (fun e => hne (by rw [← e]; exact hx))⟩
theorem alike_without (xs : List Rw) {k a : ByteArray} (hne : k ≠ a) : Alike xs (withoutR xs k) a := fun x hx => by
  by_cases h : hasK xs k
  · obtain ⟨z, hz, e, hp⟩ := without_perm h
    have hm : x ∈ xs ↔ x = z ∨ x ∈ withoutR xs k := by rw [hp.mem_iff, List.mem_cons]
    rw [hm]
    exact ⟨fun q => q.resolve_left (fun f => hne (by rw [← e, ← f]; exact hx)), .inr⟩
  · rw [without_none h]
theorem mem_dia {kind n : Int} {xs : List Rw} {x y : Stp} (hk : xs.Pairwise (ordS kind)) (hx : Leg kind n xs x) (hy : Leg kind n xs y) (ox : isMem kind x.op) (oy : isMem kind y.op) (hr : ruleR kind x y = false) : Dia kind (n, xs) x y := by
  have h45 : kind = 4 ∨ kind = 5 := by
    rcases ox with ⟨h, -⟩ | ⟨h, -⟩
    · exact .inl h
    · exact .inr h
  have hrr : ruleR kind x y = (x.a.toList == y.a.toList && (insideR x == insideR y && (changesR x.op x.n x.code || changesR y.op y.n y.code))) := by
    unfold ruleR
    rw [if_neg (by omega), if_neg (by omega), if_neg (by omega), if_neg (by omega), if_neg (by omega)]
  rw [hrr] at hr
  obtain ⟨ix, cx⟩ := mem_inside ox hx
  obtain ⟨iy, cy⟩ := mem_inside oy hy
  by_cases hne : x.a = y.a
  · have hi : insideR x = insideR y := by
      rw [Bool.eq_iff_iff, ix, iy, hne]
    have hc : changesR x.op x.n x.code = false ∧ changesR y.op y.n y.code = false := by
      rw [hne, hi] at hr
      simpa using hr
    exact dia_nono hx hy hc.1 hc.2
  · have hne' : y.a ≠ x.a := fun e => hne e.symm
    have al : ∀ {s t : Stp}, Leg kind n xs s → isMem kind s.op → s.a ≠ t.a → ∃ ys, app kind (n, xs) s = (n, ys) ∧ Alike xs ys t.a := fun {s t} hs os hst => by
      by_cases hc : changesR s.op s.n s.code = true
      · rcases mem_app (n := n) (xs := xs) hs.1 os hc ((mem_inside os hs).2 hc).2.2 with ⟨v, -, e⟩ | ⟨-, e⟩
        · exact ⟨_, e xs, alike_with kind xs ⟨s.a, v⟩ hst⟩
        · exact ⟨_, e xs, alike_without xs hst⟩
      · exact ⟨xs, app_no (by simpa using hc), fun _ _ => Iff.rfl⟩
    obtain ⟨xs1, e1, a1⟩ := al hx ox hne
    obtain ⟨xs2, e2, a2⟩ := al hy oy hne'
    have l1 : Leg kind n xs1 y := mem_leg oy hy a1
    have l2 : Leg kind n xs2 x := mem_leg ox hx a2
    refine ⟨by rw [e1]; exact l1, by rw [e2]; exact l2, ?_⟩
    by_cases qx : changesR x.op x.n x.code = true
    rotate_left
    · rw [app_no (s := x) (by simpa using qx), app_no (s := x) (by simpa using qx)]
    by_cases qy : changesR y.op y.n y.code = true
    rotate_left
    · rw [app_no (s := y) (by simpa using qy), app_no (s := y) (by simpa using qy)]
    have cx1 := cx qx
    have cy1 := cy qy
    have u0 := uq45 h45 hk
    have ow : ∀ {xs : List Rw} {r : Rw}, xs.Pairwise (ordS kind) → ¬ hasK xs r.f0 → (withR kind xs r).Pairwise (ordS kind) := fun h hn => with_ord kind _ _ h (fun _ z hz e => hn ⟨z, hz, e⟩)
    have h457 : kind = 4 ∨ kind = 5 ∨ kind = 7 := h45.imp id .inl
    have h7 : ∀ {P : Prop}, kind = 7 → P := fun h => by omega
    rcases mem_app (n := n) (xs := xs) hx.1 ox qx cx1.2.2 with ⟨vx, px, ex⟩ | ⟨px, ex⟩ <;> rcases mem_app (n := n) (xs := xs) hy.1 oy qy cy1.2.2 with ⟨vy, py, ey⟩ | ⟨py, ey⟩
    · have nx := cx1.1 px
      have ny := cy1.1 py
      rw [ex, ey, ey, ex]
      rw [rows_eq h457 h7 (ow (ow hk nx) (fun q => ((hasK_with _ _ _ _).1 q).elim hne ny)) (ow (ow hk ny) (fun q => ((hasK_with _ _ _ _).1 q).elim hne' nx)) (with_with _ _ _ _ xs _ _)]
    · have nx := cx1.1 px
      have ny := cy1.2.1 py
      rw [ex, ey, ey, ex]
      rw [rows_eq h457 h7 ((ow hk nx).sublist (without_sub _ _)) (ow (hk.sublist (without_sub _ _)) (fun q => nx ((hasK_without hne).1 q))) (with_without kind ny (uq45 h45 (ow hk nx)))]
    · have nx := cx1.2.1 px
      have ny := cy1.1 py
      rw [ex, ey, ey, ex]
      rw [← rows_eq h457 h7 ((ow hk ny).sublist (without_sub _ _)) (ow (hk.sublist (without_sub _ _)) (fun q => ny ((hasK_without hne').1 q))) (with_without kind nx (uq45 h45 (ow hk ny)))]
    · have nx := cx1.2.1 px
      have ny := cy1.2.1 py
      rw [ex, ey, ey, ex]
      rw [rows_eq h457 h7 ((hk.sublist (without_sub _ _)).sublist (without_sub _ _)) ((hk.sublist (without_sub _ _)).sublist (without_sub _ _)) (without_without nx ny hne u0)]
theorem ops_kind {kind op : Int} (hk1 : 1 ≤ kind) (h : kind = kindR op) :
    (kind = 1 ∧ (op = 1 ∨ op = 2)) ∨ (kind = 2 ∧ (op = 3 ∨ op = 4)) ∨ (kind = 3 ∧ (op = 5 ∨ op = 6 ∨ op = 7)) ∨ isMem kind op ∨ (kind = 6 ∧ (op = 14 ∨ op = 15)) ∨ (kind = 7 ∧ (op = 16 ∨ op = 17)) := by
  unfold isMem
  rcases hop_of hk1 h with rfl | rfl | rfl | rfl | rfl | rfl | rfl | rfl | rfl | rfl | rfl | rfl | rfl | rfl | rfl | rfl | rfl <;> (rw [show kind = _ from h]; decide)
theorem rule_dia {kind n : Int} {xs : List Rw} {m : Nat} {x y : Stp} (hm : m ≤ 1000) (hk : OkM kind n xs m) (hx : Leg kind n xs x) (hy : Leg kind n xs y) (cx : CallOk x.op x.a x.b x.n) (cy : CallOk y.op y.a y.b y.n) (hle : x.op ≤ y.op) (hr : ruleR kind x y = false) : Dia kind (n, xs) x y := by
  have ox := ops_kind hk.k1 hx.1
  have oy := ops_kind hk.k1 hy.1
  rcases ox with ⟨rfl, ox⟩ | ⟨rfl, ox⟩ | ⟨rfl, ox⟩ | ox | ⟨rfl, ox⟩ | ⟨rfl, ox⟩
  · exact reg_dia hk hx hy ox (by unfold isMem at oy; omega) hle hr
  · exact cnt_dia hk hx hy ox (by unfold isMem at oy; omega) hle hr
  · exact acc_dia hm hk hx hy cx cy ox (by unfold isMem at oy; omega) hle hr
  · exact mem_dia hk.ord hx hy ox (by unfold isMem at oy ox ⊢; omega) hr
  · exact que_dia hx hy ox (by unfold isMem at oy; omega) hle hr
  · exact sem_dia hk hx hy ox (by unfold isMem at oy; omega) hle hr
theorem conf_rule {kind n : Int} {xs : List Rw} {m : Nat} {x y : Stp} (hk : OkM kind n xs m) (hx : Leg kind n xs x) (hy : Leg kind n xs y) (hc : confR x y = false) : ruleR kind x y = false := by
  have h1 := hk.k1
  have px := leg_poss hk hx
  have py := leg_poss hk hy
  have h0 : (kindR x.op != 0) = true := by rw [← hx.1]; simp; omega
  unfold confR at hc
  rw [h0, px, py, ← hx.1, ← hy.1] at hc
  simpa using hc
theorem conflict_dia {kind n : Int} {xs : List Rw} {m : Nat} {x y : Stp} (hm : m ≤ 1000) (hk : OkM kind n xs m) (hx : Leg kind n xs x) (hy : Leg kind n xs y) (cx : CallOk x.op x.a x.b x.n) (cy : CallOk y.op y.a y.b y.n) (hc : conflictR x y = false) : Dia kind (n, xs) x y := by
  unfold conflictR at hc
  by_cases q : y.op < x.op
  · rw [if_pos q] at hc
    exact (rule_dia hm hk hy hx cy cx (by omega) (conf_rule hk hy hx hc)).symm
  · rw [if_neg q] at hc
    exact rule_dia hm hk hx hy cx cy (by omega) (conf_rule hk hx hy hc)
theorem okM_with {kind n : Int} {xs : List Rw} {r : Rw} {m : Nat} (h : OkM kind n xs m) (hn : ¬ (kind = 2 ∨ kind = 3)) (h1 : kind ≠ 1) (hr : kind ≠ 5 → r.f1.toList = []) (hne : kind = 4 ∨ kind = 5 → ¬ hasK xs r.f0) : OkM kind n (withR kind xs r) (m + 1) :=
  ⟨h.k1, h.k7, fun q => absurd q hn, fun q => absurd (.inr q) hn, h.lo, h.hi, by rw [withR_len]; have := h.len; omega, fun q => absurd q h1, fun x hx => by
    rcases with_mem hx with rfl | hx
    · exact ⟨hr, fun q => absurd q h1⟩
    · exact h.row x hx, with_ord kind xs r h.ord (fun q x hx e => hne q ⟨x, hx, e⟩)⟩
theorem okM_sub {kind n : Int} {xs ys : List Rw} {m : Nat} (h : OkM kind n xs m) (hs : ys.Sublist xs) : OkM kind n ys (m + 1) :=
  ⟨h.k1, h.k7, fun q => by have := h.num q; subst this; exact List.sublist_nil.1 hs, fun q => by have := h.acc q; omega, h.lo, h.hi, by have := h.len; have := hs.length_le; omega, fun q => Nat.le_trans hs.length_le (h.one q), fun x hx => h.row x (hs.subset hx), h.ord.sublist hs⟩
theorem okM_app {kind n : Int} {xs : List Rw} {m : Nat} {s : Stp} (hm : m ≤ 1000) (h : OkM kind n xs m) (hc : CallOk s.op s.a s.b s.n) (hl : Leg kind n xs s) : OkM kind (app kind (n, xs) s).1 (app kind (n, xs) s).2 (m + 1) := by
  by_cases qc : changesR s.op s.n s.code = true
  rotate_left
  · rw [app_no (by simpa using qc)]
    exact okM_sub h (List.Sublist.refl _)
  have hk := hl.1
  rw [app_yes qc hk]
  obtain ⟨op, a, b, sn, code, text, rn⟩ := s
  dsimp only at hk qc hc ⊢
  have hcode : op = 6 ∨ op = 8 ∨ op = 11 → code = 1 := fun q => by
    unfold changesR at qc
    rcases q with rfl | rfl | rfl <;> simpa using qc
  obtain ⟨ca, cb, cc⟩ := hc
  rcases ops_of qc with rfl | (rfl | rfl) | rfl | (rfl | rfl | rfl) | rfl | (rfl | rfl) | (rfl | rfl)
  · obtain rfl : kind = 1 := hk
    rw [if_pos rfl]
    refine ⟨by decide, by decide, fun q => absurd q (by decide), fun q => absurd q (by decide), h.lo, h.hi, ?_, ?_, ?_, ?_⟩
    · split <;> simp; omega
    · intro _; split <;> simp
    · intro x hx
      split at hx
      · simp at hx
      · rename_i ha
        obtain rfl := List.mem_singleton.1 hx
        exact ⟨fun _ => eps_toL.2 rfl, fun _ => ha⟩
    · split
      · exact List.Pairwise.nil
      · exact List.pairwise_singleton _ _
  · obtain rfl : kind = 2 := hk
    rw [if_neg (by decide), if_pos (by decide)]
    have hw : -9223372036854775808 ≤ wrap64 (n + sn) ∧ wrap64 (n + sn) < 9223372036854775808 := by unfold wrap64; omega
    exact ⟨h.k1, h.k7, h.num, fun q => absurd q (by decide), hw.1, hw.2, by have := h.len; show xs.length ≤ _; omega, h.one, h.row, h.ord⟩
  · obtain rfl : kind = 3 := hk
    rw [if_neg (by decide), if_pos (by decide)]
    have h2 := h.acc rfl
    have h3 := cc (.inl rfl)
    have hw : wrap64 (n + sn) = n + sn := by unfold wrap64; omega
    rw [hw]
    exact ⟨h.k1, h.k7, h.num, fun _ => ⟨by show 0 ≤ n + sn; omega, by show n + sn ≤ _; omega⟩, by show _ ≤ n + sn; omega, by show n + sn < _; omega, by have := h.len; show xs.length ≤ _; omega, h.one, h.row, h.ord⟩
  · obtain rfl : kind = 3 := hk
    rw [if_neg (by decide), if_neg (by decide), if_pos (by decide)]
    have h2 := h.acc rfl
    have h3 := cc (.inr rfl)
    obtain rfl := hcode (.inl rfl)
    obtain ⟨-, -, -, (⟨-, h4⟩ | ⟨h4, -⟩)⟩ := hl
    · have h4' : sn ≤ n := h4
      have hw : wrap64 (n - sn) = n - sn := by unfold wrap64; omega
      rw [hw]
      exact ⟨h.k1, h.k7, h.num, fun _ => ⟨by show 0 ≤ n - sn; omega, by show n - sn ≤ _; omega⟩, by show _ ≤ n - sn; omega, by show n - sn < _; omega, by have := h.len; show xs.length ≤ _; omega, h.one, h.row, h.ord⟩
    · exact absurd (show (1 : Int) = 2 from h4) (by decide)
  · obtain rfl : kind = 4 := hk
    rw [if_neg (by decide), if_neg (by decide), if_neg (by decide), if_pos (by decide)]
    obtain rfl := hcode (.inr (.inl rfl))
    obtain ⟨-, -, -, (⟨-, h4⟩ | ⟨h4, -⟩)⟩ := hl
    · exact okM_with h (by decide) (by decide) (fun _ => eps_toL.2 rfl) (fun _ => h4)
    · exact absurd (show (1 : Int) = 2 from h4) (by decide)
  · obtain rfl : kind = 6 := hk
    rw [if_neg (by decide), if_neg (by decide), if_neg (by decide), if_pos (by decide)]
    exact okM_with h (by decide) (by decide) (fun _ => eps_toL.2 rfl) (fun q => absurd q (by decide))
  · obtain rfl : kind = 7 := hk
    rw [if_neg (by decide), if_neg (by decide), if_neg (by decide), if_pos (by decide)]
    exact okM_with h (by decide) (by decide) (fun _ => eps_toL.2 rfl) (fun q => absurd q (by decide))
  · obtain rfl : kind = 5 := hk
    rw [if_neg (by decide), if_neg (by decide), if_neg (by decide), if_neg (by decide), if_pos (by decide)]
    obtain rfl := hcode (.inr (.inr rfl))
    obtain ⟨-, -, -, (⟨-, h4⟩ | ⟨h4, -⟩)⟩ := hl
    · exact okM_with h (by decide) (by decide) (fun q => absurd rfl q) (fun _ => h4)
    · exact absurd (show (1 : Int) = 2 from h4) (by decide)
  · rw [if_neg (by decide), if_neg (by decide), if_neg (by decide), if_neg (by decide), if_neg (by decide), if_pos (by decide)]
    exact okM_sub h (without_sub _ _)
  · rw [if_neg (by decide), if_neg (by decide), if_neg (by decide), if_neg (by decide), if_neg (by decide), if_pos (by decide)]
    exact okM_sub h (without_sub _ _)
  · rw [if_neg (by decide), if_neg (by decide), if_neg (by decide), if_neg (by decide), if_neg (by decide), if_neg (by decide)]
    exact okM_sub h (without_sub _ _)
  · rw [if_neg (by decide), if_neg (by decide), if_neg (by decide), if_neg (by decide), if_neg (by decide), if_neg (by decide)]
    exact okM_sub h (without_sub _ _)
end Go.Proofs.YtjiblcncadekcaaGreat.PA

