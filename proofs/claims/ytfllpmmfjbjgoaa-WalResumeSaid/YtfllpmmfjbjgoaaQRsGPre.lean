import Derived.Test.YtfllpmmfjbjgoaaQRsGScan
import Derived.Test.YtfllpmmfjbjgoaaQRsGApp
import Derived.Test.YtfllpmmfjbjgoaaQRsPAx0
import Derived.Test.YtfllpmmfjbjgoaaQRsPAx6
namespace Go.Proofs.Ytfllpmmfjbjgoaa.PA
set_option linter.unusedSimpArgs false
open Go.RowKit Go.Proofs.YtfllpmmfjbjgoaaW.PrintWords Go.Proofs.YtfllpmmfjbjgoaaW.PrintLast Go.Proofs.YtfllpmmfjbjgoaaW.PrintMore Go.Proofs.Ytfllpmmfjbjgoaa Go.Proofs.Ytfllpmmfjbjgoaa.PL
def Poss (P : Int → ByteArray → Prop) (d : Dv) : Prop := (∀ (i : Nat) (x : ByteArray), d.sec[i]? = some x → P i x) ∧ (∀ x ∈ d.cache, P x.at_ x.text)
section
variable {P Q : Int → ByteArray → Prop} {d : Dv}
theorem Poss.imp (h : Poss P d) (hi : ∀ a x, P a x → Q a x) : Poss Q d := ⟨fun i x hx => hi _ _ (h.1 i x hx), fun x hx => hi _ _ (h.2 x hx)⟩
theorem Poss.call (h : Poss P d) : Poss P (dvCall d).2 := by
  obtain ⟨e1, e2⟩ := dvCall_rows d
  exact ⟨by rw [e1]; exact h.1, by rw [e2]; exact h.2⟩
theorem Poss.write (h : Poss P d) (a : Int) (s : ByteArray) (hp : P a (pad s)) : Poss P (dvWrite d a s).2 := by
  unfold dvWrite
  split
  · exact h
  · split
    · exact h.call
    · refine ⟨h.call.1, fun x hx => ?_⟩
      rcases List.mem_append.1 hx with hx | hx
      · exact h.call.2 x hx
      · obtain rfl : x = ⟨a, pad s⟩ := by simpa using hx
        exact hp
theorem poss_last (ws : List Wr) : ∀ l : List ByteArray, (∀ (i : Nat) (x : ByteArray), l[i]? = some x → P i x) → (∀ x ∈ ws, P x.at_ x.text) → (∀ x ∈ ws, 0 ≤ x.at_) → ∀ (i : Nat) (x : ByteArray), (lastB l ws)[i]? = some x → P i x := by
  induction ws with
  | nil => intro l h _ _ i x hx; exact h i x hx
  | cons w ws ih =>
    intro l h h2 h3 i x hx
    refine ih (l.set w.at_.toNat w.text) (fun j y hy => ?_) (fun y hy => h2 y (List.mem_cons_of_mem _ hy)) (fun y hy => h3 y (List.mem_cons_of_mem _ hy)) i x hx
    rw [List.getElem?_set] at hy
    split at hy
    · rename_i e
      split at hy
      · injection hy with hy
        subst hy
        have h4 := h3 w List.mem_cons_self
        rw [show (j : Int) = w.at_ by omega]
        exact h2 w List.mem_cons_self
      · cases hy
    · exact h j y hy
theorem Poss.flush (h : Poss P d) (hk : DvOk d) : Poss P (dvFlush d).2 := by
  unfold dvFlush
  split
  · exact h.call
  · exact ⟨poss_last _ _ h.1 h.2 (fun x hx => (hk x hx).1), fun x hx => (by simp at hx)⟩
theorem Poss.crash (h : Poss P d) (hk : DvOk d) (K : List Int) : Poss P (dvCrash d K) :=
  ⟨poss_last _ _ h.1 (fun x hx => h.2 x (pick_sub K _ x hx)) (fun x hx => (hk x (pick_sub K _ x hx)).1), fun x hx => (by simp [dvCrash] at hx)⟩
theorem Poss.arm (h : Poss P d) (m : Int) : Poss P { d with left := m } := h
theorem Poss.read (h : Poss P d) {a : Int} (h0 : 0 ≤ a) (h1 : a < d.sec.length) : P a (readB d a) := by
  unfold readB
  cases hf : d.cache.reverse.find? (fun x => x.at_ == a) with
  | some x =>
    have e : x.at_ = a := by have := List.find?_some hf; simpa using this
    have := h.2 x (List.mem_reverse.1 (List.mem_of_find?_eq_some hf))
    rw [e] at this
    exact this
  | none =>
    have hl : a.toNat < d.sec.length := by omega
    show P a (d.sec.getD a.toNat ByteArray.empty)
    rw [List.getD_eq_getElem?_getD, List.getElem?_eq_getElem hl]
    have := h.1 a.toNat _ (List.getElem?_eq_getElem hl)
    rw [show ((a.toNat : Nat) : Int) = a by omega] at this
    exact this
theorem poss_new (n : Nat) (hp : ∀ a, P a Z64) : Poss P (dvNew n) :=
  ⟨fun i x hx => by
    have := List.mem_of_getElem? hx
    simp only [dvNew, List.mem_replicate] at this
    rw [this.2]; exact hp _, fun x hx => (by simp [dvNew] at hx)⟩
theorem poss_rows {d' : Dv} (h : Poss P d) (h1 : d'.sec = d.sec) (ws : List Wr) (h2 : d'.cache = d.cache ++ ws) (h3 : ∀ x ∈ ws, P x.at_ x.text) : Poss P d' :=
  ⟨by rw [h1]; exact h.1, fun x hx => by
    rw [h2] at hx
    rcases List.mem_append.1 hx with hx | hx
    · exact h.2 x hx
    · exact h3 x hx⟩
end
theorem readB_more (d d' : Dv) (ws : List Wr) (h1 : d'.sec = d.sec) (h2 : d'.cache = d.cache ++ ws) (a : Int) : readB d' a = match ws.reverse.find? (fun x => x.at_ == a) with
    | some x => x.text
    | none => readB d a := by
  unfold readB
  rw [h1, h2, List.reverse_append, List.find?_append]
  cases ws.reverse.find? (fun x => x.at_ == a) with
  | some x => rfl
  | none => rfl
theorem lastB_get (ws : List Wr) : ∀ (l : List ByteArray) (i : Nat), (∀ x ∈ ws, 0 ≤ x.at_ ∧ x.at_ < l.length) → i < l.length → (lastB l ws).getD i ByteArray.empty = match ws.reverse.find? (fun x => x.at_ == (i : Int)) with
    | some x => x.text
    | none => l.getD i ByteArray.empty := by
  induction ws with
  | nil => intro l i _ _; rfl
  | cons w ws ih =>
    intro l i h hi
    have h1 := h w List.mem_cons_self
    have hs : (l.set w.at_.toNat w.text).length = l.length := List.length_set
    rw [show lastB l (w :: ws) = lastB (l.set w.at_.toNat w.text) ws from rfl, ih _ i (fun x hx => by rw [hs]; exact h x (List.mem_cons_of_mem _ hx)) (by omega), List.reverse_cons, List.find?_append]
    cases hf : ws.reverse.find? (fun x => x.at_ == (i : Int)) with
    | some x => simp
    | none =>
      by_cases e : w.at_ = (i : Int)
      · have hi2 : w.at_.toNat = i := by omega
        simp [e, List.getD_eq_getElem?_getD, List.getElem?_set, hi]
      · have hi2 : ¬ w.at_.toNat = i := by omega
        simp [e, List.getD_eq_getElem?_getD, List.getElem?_set, hi2]
def Z60 : ByteArray := ⟨(List.replicate 60 (0 : UInt8)).toArray⟩
theorem z60_n : (tN Z60 0 1099511627776).1 = 0 := by decide +kernel
theorem pS_zero (s : ByteArray) (hs : s.size = 64) (hz : s.extract 4 s.size = Z60) : ∃ f, f ≠ 0 ∧ pS s = (0, 0, ⟨#[]⟩, f) := by
  unfold pS
  rw [if_neg (fun h => h hs)]
  rw [hz]
  split
  · exact ⟨5, by decide, rfl⟩
  · dsimp only
    split
    · exact ⟨_, by assumption, rfl⟩
    · rw [if_pos (by rw [z60_n]; decide)]
      exact ⟨2, by decide, rfl⟩
theorem z64_facts : Z64.size = 64 ∧ Z64.extract 4 Z64.size = Z60 := by decide +kernel
def gd (c : ByteArray) (s : Int) : Option (Int × ByteArray) := if ((pS c).2.2.2 == 0) = true ∧ (pS c).1 = s ∧ (pS c).2.1 ≤ 3 then some ((pS c).2.1, (pS c).2.2.1) else none
theorem gd_z64 (s : Int) : gd Z64 s = none := by
  obtain ⟨f, h1, h2⟩ := pS_zero Z64 z64_facts.1 z64_facts.2
  unfold gd
  rw [h2]
  exact if_neg (fun h => h1 (by simpa using h.1))
theorem gd_tx (n m : Int) (t : ByteArray) (h : FitS n m t) (h1 : 1 ≤ n) (h2 : m ≤ 3) (s : Int) : gd (tx n m t) s = if n = s then some (m, t) else none := by
  unfold gd
  rw [pS_tx n m t h h1]
  by_cases e : n = s
  · rw [if_pos e, if_pos ⟨rfl, e, h2⟩]
  · rw [if_neg e, if_neg (fun h => e h.2.1)]
theorem secAt_gd {d : Dv} {fr ln s : Int} (hd : d.down = false) (h0 : 0 ≤ fr + s % ln) (h1 : fr + s % ln < d.sec.length) : secAt d fr ln s = gd (readB d (fr + s % ln)) s := by
  have hr : dvRead d (fr + s % ln) = (readB d (fr + s % ln), 0) := by
    unfold dvRead
    rw [if_neg (by omega), hd]; rfl
  unfold secAt stR gd
  rw [hr]
  rfl
structure UpN (d : Dv) : Prop where
  down : d.down = false
  left : d.left < 0
theorem UpN.call {d : Dv} (h : UpN d) : (dvCall d).1 = true ∧ (dvCall d).2.left = d.left ∧ (dvCall d).2.down = false := by
  unfold dvCall
  rw [if_neg (by rw [h.down]; decide), if_neg (by have := h.left; omega), if_neg (by have := h.left; omega)]
  exact ⟨rfl, rfl, h.down⟩
theorem UpN.write {d : Dv} (h : UpN d) (a : Int) (s : ByteArray) (h0 : 0 ≤ a) (h1 : a < d.sec.length) (hs : s.size ≤ 64) : (dvWrite d a s).1 = 0 ∧ UpN (dvWrite d a s).2 ∧ (dvWrite d a s).2.sec = d.sec ∧ (dvWrite d a s).2.cache = d.cache ++ [⟨a, pad s⟩] := by
  obtain ⟨e, e1, e2⟩ := h.call
  obtain ⟨r1, r2⟩ := dvCall_rows d
  unfold dvWrite
  rw [if_neg (by omega), if_neg (by rw [e]; decide)]
  exact ⟨rfl, ⟨e2, by have := h.left; simp only; omega⟩, r1, by simp only [r2]⟩
theorem UpN.flush {d : Dv} (h : UpN d) : (dvFlush d).1 = 0 ∧ UpN (dvFlush d).2 ∧ (dvFlush d).2.cache = [] ∧ (dvFlush d).2.sec = lastB d.sec d.cache := by
  obtain ⟨e, e1, e2⟩ := h.call
  unfold dvFlush
  rw [if_neg (by rw [e]; decide)]
  exact ⟨rfl, ⟨e2, by have := h.left; simp only; omega⟩, rfl, rfl⟩
theorem upn_crash (d : Dv) (K : List Int) : UpN (dvCrash d K) := ⟨rfl, by show (-1 : Int) < 0; decide⟩
theorem upn_new (n : Nat) : UpN (dvNew n) := ⟨rfl, by show (-1 : Int) < 0; decide⟩
def wrs (fr ln nx : Int) (t : ByteArray) (n : Nat) : Nat → Nat → List Wr
  | 0, _ => []
  | m + 1, k => ⟨fr + (nx + k) % ln, tx (nx + k) (markN k n) (piece t k)⟩ :: wrs fr ln nx t n m (k + 1)
theorem wrs_mem {fr ln nx : Int} {t : ByteArray} {n : Nat} : ∀ {m k : Nat} {x : Wr}, x ∈ wrs fr ln nx t n m k → ∃ j : Nat, k ≤ j ∧ j < k + m ∧ x = ⟨fr + (nx + j) % ln, tx (nx + j) (markN j n) (piece t j)⟩ := by
  intro m
  induction m with
  | zero => intro k x h; cases h
  | succ m ih =>
    intro k x h
    rcases List.mem_cons.1 h with rfl | h
    · exact ⟨k, Nat.le_refl _, by omega, rfl⟩
    · obtain ⟨j, h1, h2, h3⟩ := ih h
      exact ⟨j, by omega, by omega, h3⟩
theorem mark_le (k n : Nat) : 0 ≤ markN k n ∧ markN k n ≤ 3 := by unfold markN; constructor <;> split <;> split <;> omega
theorem piece_size (t : ByteArray) (k : Nat) : (piece t k).size ≤ 44 := by unfold piece; rw [ByteArray.size_extract]; omega
theorem sec_fit (nx : Int) (t : ByteArray) (k n : Nat) (h : nx + k ≤ 1000000) : FitS (nx + k) (markN k n) (piece t k) := ⟨by omega, (mark_le k n).1, by have := (mark_le k n).2; omega, piece_size t k⟩
theorem appLoop_up (fr ln nx : Int) (t : ByteArray) (n : Nat) (hln : 1 ≤ ln) (hfr : 0 ≤ fr) (hnx : 1 ≤ nx) (hmx : nx + n ≤ 1000000) : ∀ (m k : Nat) (d : Dv), k + m = n → UpN d → fr + ln ≤ d.sec.length →
    (appLoop fr ln nx t n m k d).1 = 0 ∧ UpN (appLoop fr ln nx t n m k d).2 ∧ (appLoop fr ln nx t n m k d).2.sec = d.sec ∧ (appLoop fr ln nx t n m k d).2.cache = d.cache ++ wrs fr ln nx t n m k := by
  intro m
  induction m with
  | zero => intro k d _ h _; exact ⟨rfl, h, rfl, (List.append_nil _).symm⟩
  | succ m ih =>
    intro k d hk h hl
    have h1 := Int.emod_nonneg (nx + k) (show ln ≠ 0 by omega)
    have h2 := Int.emod_lt_of_pos (nx + k) (show (0 : Int) < ln by omega)
    have hf := sec_fit nx t k n (by omega)
    have hz := tx_size _ _ _ hf
    have hc : chkS (nx + k) (piece t k) = 0 := by
      unfold chkS
      rw [if_neg (by omega), if_neg (by have := piece_size t k; omega)]
    obtain ⟨w1, w2, w3, w4⟩ := h.write (fr + (nx + k) % ln) (tx (nx + k) (markN k n) (piece t k)) (by omega) (by omega) (by omega)
    have e : stW d (fr + (nx + k) % ln) (nx + k) (markN k n) (piece t k) = dvWrite d (fr + (nx + k) % ln) (tx (nx + k) (markN k n) (piece t k)) := by unfold stW; rw [if_pos hc]
    rw [pad_full _ hz] at w4
    rw [appLoop, e, if_pos w1]
    obtain ⟨i1, i2, i3, i4⟩ := ih (k + 1) _ (by omega) w2 (by rw [w3]; exact hl)
    refine ⟨i1, i2, i3.trans w3, ?_⟩
    rw [i4, w4, List.append_assoc]
    rfl
theorem appLoop_DI (fr ln nx : Int) (t : ByteArray) (n : Nat) {N : Nat} : ∀ (m k q : Nat) (d : Dv), DI N q d → DI N (q + m) (appLoop fr ln nx t n m k d).2 := by
  intro m
  induction m with
  | zero => intro k q d h; exact h
  | succ m ih =>
    intro k q d h
    rw [appLoop]
    have h1 := h.stamp (fr + (nx + k) % ln) (nx + k) (markN k n) (piece t k)
    split
    · have := ih (k + 1) (q + 1) _ h1
      rw [show q + (m + 1) = q + 1 + m by omega]; exact this
    · exact h1.later (by omega)
theorem emod_inj {a b ln : Int} (h : a % ln = b % ln) (h0 : 0 ≤ a - b) (h1 : a - b < ln) : a = b := by
  have h2 : (a - b) % ln = 0 := Int.emod_eq_emod_iff_emod_sub_eq_zero.1 h
  rw [Int.emod_eq_of_lt h0 h1] at h2
  omega
theorem emod_inj2 {a b ln : Int} (h : a % ln = b % ln) (h0 : a - b < ln) (h1 : b - a < ln) : a = b := by
  by_cases q : b ≤ a
  · exact emod_inj h (by omega) h0
  · exact (emod_inj h.symm (by omega) h1).symm
theorem wrs_find (fr ln nx : Int) (t : ByteArray) (n : Nat) : ∀ (m k j : Nat), (m : Int) ≤ ln → k ≤ j → j < k + m →
    (wrs fr ln nx t n m k).reverse.find? (fun x => x.at_ == fr + (nx + j) % ln) = some ⟨fr + (nx + j) % ln, tx (nx + j) (markN j n) (piece t j)⟩ := by
  intro m
  induction m with
  | zero => intro k j _ _ h; omega
  | succ m ih =>
    intro k j hm h1 h2
    simp only [wrs, List.reverse_cons, List.find?_append]
    by_cases e : j = k
    · subst e
      have hn : (wrs fr ln nx t n m (j + 1)).reverse.find? (fun x => x.at_ == fr + (nx + j) % ln) = none := by
        rw [List.find?_eq_none]
        intro x hx
        obtain ⟨i, i1, i2, rfl⟩ := wrs_mem (List.mem_reverse.1 hx)
        intro hc
        have hc2 : fr + (nx + (i : Int)) % ln = fr + (nx + (j : Int)) % ln := by simpa using hc
        have := emod_inj (a := nx + i) (b := nx + j) (ln := ln) (by omega) (by omega) (by omega)
        omega
      rw [hn]
      simp
    · rw [ih (k + 1) j (by omega) (by omega) (by omega)]
      rfl
structure AppUp (d d' : Dv) (fr ln nx : Int) (t : ByteArray) : Prop where
  up : UpN d'
  sec : d'.sec = d.sec
  cache : d'.cache = d.cache ++ wrs fr ln nx t (costN t.size) (costN t.size) 0
theorem lgApp_up (l : Lg) (t : ByteArray) (N k : Nat) (ho : LgOk l) (hu : UpN l.dev) (hd : DI N k l.dev) (hs : l.fr + l.ln ≤ N) (hm : l.hd + l.ln ≤ 1000000) (hc : (costN t.size : Int) ≤ l.ln - (l.nx - l.hd)) :
    ∃ d', lgApp l t = (⟨l.nx, l.nx + costN t.size - 1, t⟩, 0, ⟨d', l.fr, l.ln, l.hd, l.nx + costN t.size⟩) ∧ AppUp l.dev d' l.fr l.ln l.nx t ∧ DI N (k + costN t.size) d' := by
  have h1 := ho.ln
  have h2 := ho.fr
  have h3 := ho.hd
  have h4 := ho.nx
  have h5 := hd.sec
  obtain ⟨a1, a2, a3, a4⟩ := appLoop_up l.fr l.ln l.nx t (costN t.size) (by omega) h2.1 (by omega) (by omega) (costN t.size) 0 l.dev (by omega) hu (by omega)
  refine ⟨_, ?_, ⟨a2, a3, a4⟩, appLoop_DI _ _ _ _ _ _ _ _ _ hd⟩
  unfold lgApp
  rw [if_neg (by omega), if_pos a1]
theorem lgApp_full (l : Lg) (t : ByteArray) (hc : ¬ (costN t.size : Int) ≤ l.ln - (l.nx - l.hd)) : lgApp l t = (noRec, 13, l) := by
  unfold lgApp
  rw [if_pos (by omega)]
theorem AppUp.read {d d' : Dv} {fr ln nx : Int} {t : ByteArray} (h : AppUp d d' fr ln nx t) (hn : (costN t.size : Int) ≤ ln) (j : Nat) (hj : j < costN t.size) : readB d' (fr + (nx + j) % ln) = tx (nx + j) (markN j (costN t.size)) (piece t j) := by
  rw [readB_more d d' _ h.sec h.cache, wrs_find fr ln nx t _ _ 0 j (by omega) (by omega) (by omega)]
theorem AppUp.poss {P : Int → ByteArray → Prop} {d d' : Dv} {fr ln nx : Int} {t : ByteArray} (h : AppUp d d' fr ln nx t) (hp : Poss P d) (hq : ∀ j : Nat, j < costN t.size → P (fr + (nx + j) % ln) (tx (nx + j) (markN j (costN t.size)) (piece t j))) : Poss P d' :=
  poss_rows hp h.sec _ h.cache (fun x hx => by
    obtain ⟨j, _, h2, rfl⟩ := wrs_mem hx
    exact hq j (by omega))
theorem cost_pos (n : Nat) : 1 ≤ costN n ∧ n ≤ 44 * costN n ∧ 44 * (costN n - 1) < n + 1 := by unfold costN; omega
theorem pieces (t : ByteArray) (k : Nat) (h : 44 * k ≤ t.size) : t.extract 0 (44 * k) ++ piece t k = t.extract 0 (min (44 * k + 44) t.size) := by
  unfold piece
  rw [ByteArray.extract_append_extract]
  congr 1 <;> omega
theorem extract_all (t : ByteArray) (n : Nat) (h : t.size ≤ n) : t.extract 0 (min n t.size) = t := by
  rw [show min n t.size = t.size by omega]; simp
theorem scan_rec (V : Int → Option (Int × ByteArray)) (f0 : Int) (t : ByteArray) (hf : 1 ≤ f0) (n : Nat) (hn : n = costN t.size) (hV : ∀ k : Nat, k < n → V (f0 + k) = some (markN k n, piece t k)) : ∀ (m k r : Nat), k + m = n → 1 ≤ m →
    scan V (m + r) (f0 + k) (if k = 0 then 0 else f0) (t.extract 0 (44 * k)) = (⟨f0, f0 + n - 1, t⟩ :: (scan V r (f0 + n) 0 ⟨#[]⟩).1, (scan V r (f0 + n) 0 ⟨#[]⟩).2) := by
  have hc := cost_pos t.size
  intro m
  induction m with
  | zero => intro k r _ h; omega
  | succ m ih =>
    intro k r hk _
    have hv := hV k (by omega)
    have hx : markN k n % 2 = 1 ↔ (if k = 0 then 0 else f0) = 0 := by
      unfold markN
      split <;> split <;> omega
    have hff : (if (if k = 0 then 0 else f0) = 0 then f0 + (k : Int) else (if k = 0 then 0 else f0)) = f0 := by
      by_cases e : k = 0
      · subst e; rw [if_pos (if_pos rfl)]; omega
      · rw [if_neg e, if_neg (by omega)]
    have hp := pieces t k (by omega)
    rw [show m + 1 + r = (m + r) + 1 by omega]
    by_cases e2 : m = 0
    · subst e2
      have h2 : 2 ≤ markN k n := by unfold markN; rw [if_pos (show k + 1 = n by omega)]; split <;> omega
      rw [scan_end hv hx h2, hff, hp, show min (44 * k + 44) t.size = min (44 * n) t.size by congr 1; omega, extract_all t _ (by omega), Nat.zero_add, show f0 + (k : Int) + 1 = f0 + n by omega, show f0 + (k : Int) = f0 + n - 1 by omega]
    · have h2 : ¬ 2 ≤ markN k n := by unfold markN; rw [if_neg (show ¬ k + 1 = n by omega)]; split <;> omega
      rw [scan_on hv hx h2, hff, hp, show min (44 * k + 44) t.size = 44 * (k + 1) by omega, show f0 + (k : Int) + 1 = f0 + ((k + 1 : Nat) : Int) by omega]
      have := ih (k + 1) r (by omega) (by omega)
      rw [if_neg (by omega)] at this
      exact this
theorem scan_part (V : Int → Option (Int × ByteArray)) (f0 : Int) (t : ByteArray) (hf : 1 ≤ f0) (n j : Nat) (hj : j < n) (hV : ∀ k : Nat, k < j → V (f0 + k) = some (markN k n, piece t k)) (hN : V (f0 + j) = none) : ∀ (m k r : Nat) (u : ByteArray), k + m = j →
    scan V (m + 1 + r) (f0 + k) (if k = 0 then 0 else f0) u = ([], f0) := by
  intro m
  induction m with
  | zero =>
    intro k r u hk
    obtain rfl : k = j := by omega
    rw [show 0 + 1 + r = r + 1 by omega, scan_none hN]
    by_cases e : k = 0
    · subst e; rw [if_pos rfl, if_neg (by omega)]; simp
    · rw [if_neg e, if_pos (by omega)]
  | succ m ih =>
    intro k r u hk
    have hv := hV k (by omega)
    have hx : markN k n % 2 = 1 ↔ (if k = 0 then 0 else f0) = 0 := by
      unfold markN
      split <;> split <;> omega
    have hff : (if (if k = 0 then 0 else f0) = 0 then f0 + (k : Int) else (if k = 0 then 0 else f0)) = f0 := by
      by_cases e : k = 0
      · subst e; rw [if_pos (if_pos rfl)]; omega
      · rw [if_neg e, if_neg (by omega)]
    have h2 : ¬ 2 ≤ markN k n := by unfold markN; rw [if_neg (show ¬ k + 1 = n by omega)]; split <;> omega
    rw [show m + 1 + 1 + r = (m + 1 + r) + 1 by omega, scan_on hv hx h2, hff, show f0 + (k : Int) + 1 = f0 + ((k + 1 : Nat) : Int) by omega]
    have := ih (k + 1) r (u ++ piece t k) (by omega)
    rw [if_neg (by omega)] at this
    exact this
def costs : List ByteArray → Nat
  | [] => 0
  | t :: ts => costN t.size + costs ts
def recs (at_ : Int) : List ByteArray → List S59
  | [] => []
  | t :: ts => ⟨at_, at_ + costN t.size - 1, t⟩ :: recs (at_ + costN t.size) ts
def lay (at_ : Int) : List ByteArray → Int → Option (Int × ByteArray)
  | [], _ => none
  | t :: ts, s => if s < at_ + costN t.size then some (markN (s - at_).toNat (costN t.size), piece t (s - at_).toNat) else lay (at_ + costN t.size) ts s
theorem costs_append (xs ys : List ByteArray) : costs (xs ++ ys) = costs xs + costs ys := by
  induction xs with
  | nil => simp [costs]
  | cons x xs ih => simp only [List.cons_append, costs, ih]; omega
theorem recs_length (ts : List ByteArray) : ∀ at_, (recs at_ ts).length = ts.length := by
  induction ts with
  | nil => intro _; rfl
  | cons t ts ih => intro at_; simp only [recs, List.length_cons, ih]
theorem recs_append (xs ys : List ByteArray) : ∀ at_, recs at_ (xs ++ ys) = recs at_ xs ++ recs (at_ + costs xs) ys := by
  induction xs with
  | nil => intro at_; simp [costs, recs]
  | cons x xs ih => intro at_; simp only [List.cons_append, recs, costs, ih]; rw [show at_ + (costN x.size : Int) + (costs xs : Int) = at_ + ((costN x.size + costs xs : Nat) : Int) by omega]
theorem lay_append (xs ys : List ByteArray) : ∀ (at_ s : Int), at_ ≤ s → lay at_ (xs ++ ys) s = if s < at_ + costs xs then lay at_ xs s else lay (at_ + costs xs) ys s := by
  induction xs with
  | nil =>
    intro at_ s h
    rw [if_neg (show ¬ s < at_ + ((costs [] : Nat) : Int) by simp [costs]; exact h)]
    simp [costs]
  | cons x xs ih =>
    intro at_ s h0
    have hc : (costs (x :: xs) : Int) = costN x.size + costs xs := by simp [costs]
    by_cases h : s < at_ + costN x.size
    · rw [if_pos (show s < at_ + costs (x :: xs) by omega)]
      simp only [List.cons_append, lay]
      rw [if_pos h, if_pos h]
    · simp only [List.cons_append, lay]
      rw [if_neg h, if_neg h, ih _ _ (by omega), show at_ + (costN x.size : Int) + (costs xs : Int) = at_ + (costs (x :: xs) : Int) by omega]
theorem bad_or (V W : Int → Option (Int × ByteArray)) (f0 : Int) : ∀ n : Nat, (∀ k : Nat, k < n → V (f0 + k) = W (f0 + k) ∨ V (f0 + k) = none) → (∀ k : Nat, k < n → V (f0 + k) = W (f0 + k)) ∨ ∃ j : Nat, j < n ∧ (∀ k : Nat, k < j → V (f0 + k) = W (f0 + k)) ∧ V (f0 + j) = none := by
  intro n
  induction n with
  | zero => intro _; exact .inl (fun k h => by omega)
  | succ n ih =>
    intro h
    rcases ih (fun k hk => h k (by omega)) with h1 | ⟨j, h1, h2, h3⟩
    · rcases h n (by omega) with h2 | h2
      · exact .inl (fun k hk => by
          by_cases e : k = n
          · subst e; exact h2
          · exact h1 k (by omega))
      · exact .inr ⟨n, by omega, h1, h2⟩
    · exact .inr ⟨j, by omega, h2, h3⟩
theorem scan_log (V : Int → Option (Int × ByteArray)) : ∀ (ts : List ByteArray) (at_ : Int) (m : Nat), 1 ≤ at_ → costs ts ≤ m → (∀ s, at_ ≤ s → s < at_ + costs ts → V s = lay at_ ts s ∨ V s = none) → (costs ts < m → V (at_ + costs ts) = none) →
    ∃ j, j ≤ ts.length ∧ scan V m at_ 0 ⟨#[]⟩ = (recs at_ (ts.take j), at_ + costs (ts.take j)) ∧ ∀ i, i ≤ ts.length → (∀ s, at_ ≤ s → s < at_ + costs (ts.take i) → V s = lay at_ ts s) → i ≤ j := by
  intro ts
  induction ts with
  | nil =>
    intro at_ m h1 _ _ h4
    refine ⟨0, Nat.le_refl _, ?_, fun i hi _ => hi⟩
    simp only [costs, List.take_nil, recs, Int.natCast_zero, Int.add_zero] at h4 ⊢
    cases m with
    | zero => simp [scan]
    | succ m => rw [scan_none (h4 (by omega))]; simp
  | cons t ts ih =>
    intro at_ m h1 h2 h3 h4
    have hc := cost_pos t.size
    obtain ⟨n, hn⟩ : ∃ n, n = costN t.size := ⟨_, rfl⟩
    simp only [costs] at h2 h3 h4
    rw [← hn] at h2 h3 h4 hc
    have hlay : ∀ k : Nat, k < n → lay at_ (t :: ts) (at_ + k) = some (markN k n, piece t k) := fun k hk => by
      simp only [lay]
      rw [← hn, if_pos (by omega), show (at_ + (k : Int) - at_).toNat = k by omega]
    rcases bad_or V (lay at_ (t :: ts)) at_ n (fun k hk => h3 (at_ + k) (by omega) (by omega)) with hg | ⟨j, hj, hg, hb⟩
    · have hrec := scan_rec V at_ t h1 n hn (fun k hk => (hg k hk).trans (hlay k hk)) n 0 (m - n) (by omega) (by omega)
      obtain ⟨j, hj, hs, hi⟩ := ih (at_ + n) (m - n) (by omega) (by omega) (fun s a b => by
        have := h3 s (by omega) (by omega)
        simp only [lay] at this
        rw [← hn, if_neg (by omega)] at this
        exact this) (fun hlt => by have := h4 (by omega); rw [show at_ + (n : Int) + (costs ts : Int) = at_ + ((n + costs ts : Nat) : Int) by omega]; exact this)
      refine ⟨j + 1, by simp only [List.length_cons]; omega, ?_, fun i hi1 hi2 => ?_⟩
      · rw [show n + (m - n) = m by omega, show at_ + ((0 : Nat) : Int) = at_ by omega, if_pos rfl, hs] at hrec
        have e0 : t.extract 0 (44 * 0) = ⟨#[]⟩ := by simp; rfl
        rw [e0] at hrec
        rw [hrec]
        simp only [List.take_succ_cons, recs, costs]
        rw [← hn, show at_ + (n : Int) + (costs (ts.take j) : Int) = at_ + ((n + costs (ts.take j) : Nat) : Int) by omega]
      · cases i with
        | zero => omega
        | succ i =>
          have := hi i (by simp only [List.length_cons] at hi1; omega) (fun s a b => by
            have := hi2 s (by omega) (by simp only [List.take_succ_cons, costs]; rw [← hn]; omega)
            simp only [lay] at this
            rw [← hn, if_neg (by omega)] at this
            exact this)
          omega
    · have hp := scan_part V at_ t h1 n j hj (fun k hk => (hg k hk).trans (hlay k (by omega))) hb j 0 (m - j - 1) ⟨#[]⟩ (by omega)
      rw [show j + 1 + (m - j - 1) = m by omega, if_pos rfl, show at_ + ((0 : Nat) : Int) = at_ by omega] at hp
      refine ⟨0, Nat.zero_le _, ?_, fun i hi1 hi2 => ?_⟩
      · rw [hp]; simp [recs, costs]
      · cases i with
        | zero => omega
        | succ i =>
          have h5 := hi2 (at_ + j) (by omega) (by simp only [List.take_succ_cons, costs]; rw [← hn]; omega)
          rw [hb, hlay j hj] at h5
          cases h5
end Go.Proofs.Ytfllpmmfjbjgoaa.PA

namespace Go.Proofs.Ytfllpmmfjbjgoaa.PA
set_option linter.unusedSimpArgs false
open Go.RowKit Go.Proofs.YtfllpmmfjbjgoaaW.PrintWords Go.Proofs.YtfllpmmfjbjgoaaW.PrintLast Go.Proofs.YtfllpmmfjbjgoaaW.PrintMore Go.Proofs.Ytfllpmmfjbjgoaa Go.Proofs.Ytfllpmmfjbjgoaa.PL
set_option maxHeartbeats 2000000 in
theorem law_begin.calls (fr ln next : Int) (w : World) (h : openE fr ln next 24 = 0) :
    Calls Try.prog 24 #[.agg #[.int .i64 fr, .int .i64 ln], .int .i64 next] w fun e w' => ∃ g b : Nat, e = .returned (.tuple #[.pointer (some ⟨g, 0, none⟩), .pointer (some ⟨b, 0, none⟩), .bool true]) ∧ LogSt w w' g b ⟨dvNew 24, fr, ln, next, next⟩ := by
  have hb : (w.alloc (.cells #[.int .i64 fr, .int .i64 ln] 28)).heap[w.heap.size]? = _ := World.alloc_heap_new w (.cells #[.int .i64 fr, .int .i64 ln] 28)
  have HX := Aside0.mk hb
  have HB := Aside0.mk (bal (Below.refl w.heap.size w) (.cells #[.int .i64 fr, .int .i64 ln] 28))
  have hn := device_New_good 24 w (w.alloc (.cells #[.int .i64 fr, .int .i64 ln] 28)) HB.out (by decide) (by decide)
  rw [show ((24 : Nat) : Int) = 24 from rfl, show (w.alloc (.cells #[.int .i64 fr, .int .i64 ln] 28)).heap.size = w.heap.size + 1 by simp] at hn
  have hs24 : (dvNew 24).sec.length = 24 := by simp [dvNew]
  generalize dvNew 24 = dn at hn hs24 ⊢
  have HN := Aside0.mk hn
  have HS24 := Aside0.mk hs24
  have H := Aside0.mk h
  clear hb h hn hs24
  go_enter Try.func24, Try.ntmps24
  go_wp2_with fail
  refine HN.out.mono ?_
  rintro e w1 ⟨rfl, hI, hB, hB2⟩
  have HI1 := Aside0.mk hI
  have HB1 := Aside0.mk hB
  have hx1 := (hB2.block w.heap.size (by omega)).trans HX.out
  have b0 := (kcl hx1 0).trans rfl
  have b1 := (kcl hx1 1).trans rfl
  clear hI hB hB2 hx1
  go_wp2_with fail
  refine (wal_Open_ok _ dn fr ln next w w1 HI1.out HB1.out (by rw [HS24.out]; decide) (by rw [HS24.out, show ((24 : Nat) : Int) = 24 from rfl]; exact H.out)).mono ?_
  rintro e w2 ⟨b, rfl, hL, hB⟩
  have HL := Aside0.mk hL
  clear hL hB
  go_wp2
  go_ret3
  exact ⟨_, _, rfl, HL.out⟩
set_option maxRecDepth 100000 in
theorem i64_and2k (k : Nat) (m : Int) (hm : (BitVec.ofInt 64 m).toNat = 2 ^ k - 1) (hk : k ≤ 16) (n : Int) : bits .and .i64 n m = n % ((2 ^ k : Nat) : Int) := by
  have key : (BitVec.ofInt 64 n &&& BitVec.ofInt 64 m).toNat = (n % ((2 ^ 64 : Nat) : Int)).toNat % 2 ^ k := by
    rw [BitVec.toNat_and, BitVec.toNat_ofInt, hm, Nat.and_two_pow_sub_one_eq_mod]
  show IntKind.i64.wrap ((BitVec.ofInt 64 n &&& BitVec.ofInt 64 m).toNat : Nat) = n % ((2 ^ k : Nat) : Int)
  rw [key, IntKind.wrap_i64]
  have h1 : (2 ^ k : Nat) ∣ 2 ^ 64 := Nat.pow_dvd_pow 2 (by omega)
  have h2 : (2 : Nat) ^ k ≤ 2 ^ 16 := Nat.pow_le_pow_right (by omega) hk
  have h3 : 0 < (2 : Nat) ^ k := Nat.two_pow_pos k
  have h4 : ((n % ((2 ^ 64 : Nat) : Int)).toNat % 2 ^ k : Nat) = n % ((2 ^ k : Nat) : Int) := by
    rw [Int.natCast_emod, Int.toNat_of_nonneg (Int.emod_nonneg _ (by decide))]
    exact Int.emod_emod_of_dvd n (Int.natCast_dvd_natCast.2 h1)
  have h5 : (n % ((2 ^ 64 : Nat) : Int)).toNat % 2 ^ k < 2 ^ k := Nat.mod_lt _ h3
  rw [← h4]
  clear h4 key h1
  revert h5
  generalize (n % ((2 ^ 64 : Nat) : Int)).toNat % 2 ^ k = X
  intro h5
  have h6 : X < 65536 := by omega
  clear h5 h2 h3
  omega
theorem i64_and15 (n : Int) : bits .and .i64 n 15 = n % 16 := i64_and2k 4 15 (by decide) (by decide) n
def Z100 : ByteArray := ⟨(List.replicate 100 (0 : UInt8)).toArray⟩
def zObj100 : Obj := .cells (madeCells #[.int .u8 0] 100) 5
theorem str_zeros100 : strOfNums (List.replicate 100 (0 : Int)) = Z100 := by decide +kernel
theorem zeros100_make (W : World) : (Instr.makeSlice 79 (.int .i64 100) (.int .i64 100)).run Try.prog W = .ok (.slice (some ⟨W.heap.size, 0, none⟩) 100 100) (W.alloc zObj100) :=
  print_make_int (P := Try.prog) 79 5 (.int .u8 0) 1 Try.underlying79 infoU8d rfl (by decide) 100 (by decide) (by decide) W
theorem zeros100_conv (W : World) : (convert 79 9 (.slice (some ⟨W.heap.size, 0, none⟩) 100 100)).run Try.prog (W.alloc zObj100) = .ok (.string Z100) (W.alloc zObj100) := by
  have h := own_made' W 0 5 .u8 100 (Nat.zero_le _) (by decide)
  have hr := own_reads' h
  have h2 := string_of_reads (P := Try.prog) (c := 100) Try.underlying79 Try.underlying5 Try.underlying9 hr
  rw [str_zeros100] at h2
  exact h2
theorem z100_size : Z100.size = 100 := by decide +kernel
theorem aw_open : openE 1 10 7 24 = 0 := by decide
theorem lgok_mk (d : Dv) (fr ln hd nx : Int) (h1 : 2 ≤ ln ∧ ln ≤ 1000) (h2 : 0 ≤ fr ∧ fr ≤ 1000) (h3 : 1 ≤ hd ∧ hd ≤ nx) (h4 : nx ≤ hd + ln ∧ nx ≤ 1000000) : LgOk ⟨d, fr, ln, hd, nx⟩ := ⟨h1, h2, h3, h4⟩
def aw0 : Lg := ⟨dvNew 24, 1, 10, 7, 7⟩
theorem aw_ok : LgOk aw0 := ⟨⟨by decide, by decide⟩, ⟨by decide, by decide⟩, ⟨by decide, by decide⟩, ⟨by decide, by decide⟩⟩
theorem aw_cost : costN Z100.size = 3 := by rw [z100_size]; rfl
theorem aw_app : ∃ d, lgApp aw0 Z100 = (⟨7, 9, Z100⟩, 0, ⟨d, 1, 10, 7, 10⟩) ∧ DI 24 3 d ∧ stR d 8 = (7, 1, piece Z100 0, true, 0) := by
  have hc := aw_cost
  obtain ⟨d, h1, h2, h3⟩ := lgApp_up aw0 Z100 24 0 aw_ok (upn_new 24) (DI.new 24) (by decide) (by decide) (by rw [hc]; decide)
  have hr := h2.read (by rw [hc]; decide) 0 (by rw [hc]; decide)
  rw [hc] at h1 h3 hr
  refine ⟨d, h1, h3, ?_⟩
  have hf := sec_fit 7 Z100 0 3 (by decide)
  have hd : dvRead d 8 = (tx (7 + ((0 : Nat) : Int)) (markN 0 3) (piece Z100 0), 0) := by
    unfold dvRead
    have hr8 : readB d 8 = tx (7 + ((0 : Nat) : Int)) (markN 0 3) (piece Z100 0) := hr
    rw [if_neg (by rw [h3.sec]; decide), h2.up.down, if_neg (by decide), hr8]
  unfold stR
  rw [hd, if_pos rfl, pS_tx _ _ _ hf (by decide)]
  rfl
set_option maxHeartbeats 4000000 in
set_option maxRecDepth 100000 in
theorem law_awake.calls (w : World) : Calls Try.prog 11 #[] w fun e w' => e = .returned (.bool true) ∧ Below w.heap.size w w' := by
  obtain ⟨d, ha, hd, hs⟩ := aw_app
  have HA := Aside0.mk ha
  have HD := Aside0.mk hd
  have HS := Aside0.mk hs
  have m1 := zeros100_make
  have m2 := zeros100_conv
  have hc := cost_f 45 (by decide)
  rw [show (costN 45 : Int) = 2 from rfl] at hc
  have HC := Aside0.mk hc
  clear ha hd hs hc
  go_enter Try.func11, Try.ntmps11
  go_wp2_with fail
  refine (law_begin.calls 1 10 7 w aw_open).mono ?_
  rintro e w1 ⟨g, b, rfl, hL⟩
  have HL1 := Aside0.mk (hL.step (bal (Below.refl _ _) zObj100))
  clear hL
  go_wp2_with fail
  have hap := wal_Append.calls g b 24 0 aw0 Z100 w _ HL1.out aw_ok (DI.new 24) (by decide) (by rw [z100_size]; decide)
  rw [HA.out] at hap
  refine hap.mono ?_
  rintro e w2 ⟨rfl, hL, hK⟩
  have hL2 := hL.step (bal (Below.refl _ _) (.cells #[.int .i64 7, .int .i64 9, .string Z100] 59))
  have hO2 := Own.new hL #[.int .i64 7, .int .i64 9, .string Z100] 59
  have HL2 := Aside0.mk hL2
  have HO2 := Aside0.mk hO2
  clear hap hL hK hL2 hO2 m1 m2
  go_wp2_with fail
  have hrd := stamp_Read.calls g d 8 w _ HL2.out.dev (HD.out.read 8)
  rw [HS.out] at hrd
  refine hrd.mono ?_
  rintro e w3 ⟨rfl, hB⟩
  have HL3 := Aside0.mk ((HL2.out.step hB).step (bal (Below.refl _ _) (.cells #[.int .i64 7, .int .u8 1, .string (piece Z100 0)] 41)))
  have hO3 := (HO2.out.below HL2.out hB).below (HL2.out.step hB) (bal (Below.refl _ _) (.cells #[.int .i64 7, .int .u8 1, .string (piece Z100 0)] 41))
  have HO3 := Aside0.mk hO3
  have r0 := (kcl hO3.blk 0).trans rfl
  have r1 := (kcl hO3.blk 1).trans rfl
  clear hB hrd hO3
  go_wp2_with fail
  refine (wal_Next.calls g b _ w _ HL3.out).mono ?_
  rintro e w4 ⟨rfl, rfl⟩
  go_wp2_with fail
  refine (wal_Free.calls g b _ w _ HL3.out (lgok_mk _ 1 10 7 10 (by decide) (by decide) (by decide) (by decide))).mono ?_
  rintro e w5 ⟨rfl, ⟨m5, rfl⟩⟩
  go_wp2_with fail
  refine (wal_Cost.calls _ _ _ HC.out).mono ?_
  rintro e w6 ⟨rfl, hB⟩
  have HB6 := Aside0.mk (bsp (bdn HL3.out.below m5) hB)
  clear hB
  go_wp2
  go_ret
  exact ⟨rfl, HB6.out⟩
end Go.Proofs.Ytfllpmmfjbjgoaa.PA

namespace Go.Proofs.Ytfllpmmfjbjgoaa.PA
set_option linter.unusedSimpArgs false
open Go.RowKit Go.Proofs.YtfllpmmfjbjgoaaW.PrintWords Go.Proofs.YtfllpmmfjbjgoaaW.PrintLast Go.Proofs.YtfllpmmfjbjgoaaW.PrintMore Go.Proofs.Ytfllpmmfjbjgoaa Go.Proofs.Ytfllpmmfjbjgoaa.PL
theorem log_Crash (g b : Nat) (l : Lg) (A1 : Option Addr) (k1 : Nat) (keep : List Int) (w0 w : World) (h : LogSt w0 w g b l) (hok : DvOk l.dev) (hf : ∀ W_, Kept w W_ (Foot w g) → Kd.C (Kd.int .i64) W_ A1 keep.length keep) :
    Calls Try.prog 33 #[.pointer (some ⟨g, 0, none⟩), .slice A1 keep.length k1] w fun e w' => e = .returned (.tuple #[]) ∧ LogSt w0 w' g b { l with dev := dvCrash l.dev keep } ∧ LogKeep w w' g b := by
  refine (device_Crash.calls g l.dev A1 k1 keep w0 w h.dev h.below hok hf).mono ?_
  rintro e w' ⟨rfl, hI, hB, hK⟩
  exact ⟨rfl, h.call hI hB hK, LogKeep.of_dev hK b⟩
theorem C_scalar_move {α : Type} {enc : α → Value} {h1 : ∀ x, (enc x).oneCell' = true} {w W : World} {A : Option Addr} {n : Nat} {xs : List α} (h : (Kd.scalar enc h1).C w A n xs) (hm : ∀ k, k < w.heap.size → W.heap[k]? = w.heap[k]?) : (Kd.scalar enc h1).C W A n xs := by
  refine ⟨h.1, h.2.1, fun hn => ?_⟩
  obtain ⟨ad, e, hc⟩ := h.2.2 hn
  refine ⟨ad, e, fun j p hj => ?_⟩
  obtain ⟨c, hs, hr, hcell⟩ := hc j p hj
  refine ⟨c, hs, hr, fun i u hu => ?_⟩
  have h2 := hcell i u hu
  have hlt := World.block_lt_of_cell? w _ h2
  rw [← h2]
  simp only [World.cell?, hm _ hlt]
theorem LogSt.keeps {w W : World} {g b : Nat} {l : Lg} (h : LogSt w W g b l) {A : Option Addr} {ks : List Int} (hk : Kd.C (Kd.int .i64) w A ks.length ks) : ∀ W_, Kept W W_ (Foot W g) → Kd.C (Kd.int .i64) W_ A ks.length ks := fun W_ hK => by
  obtain ⟨vs, vc, hD⟩ := h.dev
  refine C_scalar_move hk fun k hlt => ?_
  exact (hK.2 k (by have := h.below.size; omega) (fun hf => by have := (hD.foot_lt hf).2; omega)).trans (h.below.block k hlt)
theorem C_take_scalar {α : Type} {enc : α → Value} {h1 : ∀ x, (enc x).oneCell' = true} {w : World} {A : Option Addr} {l : List α} (h : (Kd.scalar enc h1).C w A l.length l) (m : Nat) : (Kd.scalar enc h1).C w A (l.take m).length (l.take m) := by
  refine ⟨rfl, Nat.le_trans (List.length_take_le' m l) h.2.1, fun hn => ?_⟩
  obtain ⟨ad, e, hc⟩ := h.2.2 (Nat.lt_of_lt_of_le hn (List.length_take_le' m l))
  exact ⟨ad, e, fun j p hj => hc j p (by rw [List.getElem?_take] at hj; split at hj; exact hj; cases hj)⟩
end Go.Proofs.Ytfllpmmfjbjgoaa.PA

namespace Go.Proofs.Ytfllpmmfjbjgoaa.PA
set_option linter.unusedSimpArgs false
open Go.RowKit Go.Proofs.YtfllpmmfjbjgoaaW.PrintWords Go.Proofs.YtfllpmmfjbjgoaaW.PrintLast Go.Proofs.YtfllpmmfjbjgoaaW.PrintMore Go.Proofs.Ytfllpmmfjbjgoaa Go.Proofs.Ytfllpmmfjbjgoaa.PL
def FP (fr ln lo hi : Int) (K : Int → Option (Int × ByteArray)) (a : Int) (c : ByteArray) : Prop := ∀ s, lo ≤ s → s < hi → a = fr + s % ln → gd c s = K s
def PP (fr ln m0 hi : Int) (ts : List ByteArray) (a : Int) (c : ByteArray) : Prop := ∀ s, m0 ≤ s → s < hi → a = fr + s % ln → gd c s = none ∨ (s < m0 + costs ts ∧ gd c s = lay m0 ts s)
theorem lay_last (m0 : Int) (ts : List ByteArray) (t : ByteArray) (j : Nat) (hj : j < costN t.size) : lay m0 (ts ++ [t]) (m0 + costs ts + j) = some (markN j (costN t.size), piece t j) := by
  rw [lay_append _ _ _ _ (by omega), if_neg (by omega)]
  simp only [lay]
  rw [if_pos (by omega), show (m0 + (costs ts : Int) + (j : Int) - (m0 + (costs ts : Int))).toNat = j by omega]
theorem costs_snoc (ts : List ByteArray) (t : ByteArray) : costs (ts ++ [t]) = costs ts + costN t.size := by rw [costs_append]; simp [costs]
theorem lay_snoc (m0 : Int) (ts : List ByteArray) (t : ByteArray) (s : Int) (h0 : m0 ≤ s) (h1 : s < m0 + costs ts) : lay m0 (ts ++ [t]) s = lay m0 ts s := by rw [lay_append _ _ _ _ h0, if_pos h1]
theorem PP.snoc {fr ln m0 hi : Int} {ts : List ByteArray} {a : Int} {c : ByteArray} (h : PP fr ln m0 hi ts a c) (t : ByteArray) : PP fr ln m0 hi (ts ++ [t]) a c := fun s h0 h1 h2 => by
  rcases h s h0 h1 h2 with h3 | ⟨h3, h4⟩
  · exact .inl h3
  · exact .inr ⟨by rw [costs_snoc]; omega, by rw [lay_snoc _ _ _ _ h0 h3]; exact h4⟩
theorem app_PP {d d' : Dv} {fr ln m0 hi nx : Int} {ts : List ByteArray} {t : ByteArray} (h : AppUp d d' fr ln nx t) (hp : Poss (PP fr ln m0 hi ts) d) (hn : nx = m0 + costs ts) (hm : 1 ≤ m0) (hz : nx + costN t.size ≤ 1000000) : Poss (PP fr ln m0 hi (ts ++ [t])) d' := by
  refine h.poss (hp.imp (fun a c hc => hc.snoc t)) (fun j hj s h0 h1 h2 => ?_)
  have hf := sec_fit nx t j (costN t.size) (by omega)
  rw [gd_tx _ _ _ hf (by omega) (mark_le _ _).2]
  by_cases e : nx + (j : Int) = s
  · rw [if_pos e]
    subst e
    exact .inr ⟨by rw [costs_snoc]; omega, by rw [hn]; exact (lay_last m0 ts t j hj).symm⟩
  · rw [if_neg e]; exact .inl rfl
theorem app_FP {d d' : Dv} {fr ln lo hi nx : Int} {K : Int → Option (Int × ByteArray)} {t : ByteArray} (h : AppUp d d' fr ln nx t) (hp : Poss (FP fr ln lo hi K) d) (hn : hi ≤ nx) (hz : nx + costN t.size ≤ lo + ln) : Poss (FP fr ln lo hi K) d' := by
  refine h.poss hp (fun j hj s h0 h1 h2 => ?_)
  have := emod_inj (a := nx + j) (b := s) (ln := ln) (by omega) (by omega) (by omega)
  omega
def RR (fr ln m0 : Int) (ts : List ByteArray) (d : Dv) : Prop := ∀ s, m0 ≤ s → s < m0 + costs ts → gd (readB d (fr + s % ln)) s = lay m0 ts s
theorem RR.nil (fr ln m0 : Int) (d : Dv) : RR fr ln m0 [] d := fun s h0 h1 => by simp [costs] at h1; omega
theorem flush_FP {d : Dv} {fr ln lo hi : Int} {K : Int → Option (Int × ByteArray)} (hk : DvOk d) (hu : UpN d) (hr : ∀ s, lo ≤ s → s < hi → gd (readB d (fr + s % ln)) s = K s) : Poss (FP fr ln lo hi K) (dvFlush d).2 := by
  obtain ⟨f1, f2, f3, f4⟩ := hu.flush
  refine ⟨fun i x hx s h0 h1 h2 => ?_, fun x hx => by rw [f3] at hx; cases hx⟩
  rw [f4] at hx
  have hi2 : i < d.sec.length := by
    have := (List.getElem?_eq_some_iff.1 hx).1
    rwa [lastB_length] at this
  have hg := lastB_get d.cache d.sec i hk hi2
  rw [List.getD_eq_getElem?_getD, hx] at hg
  have hrb : x = readB d (fr + s % ln) := by
    rw [← h2]
    unfold readB
    rw [Int.toNat_natCast]
    exact hg
  rw [hrb]; exact hr s h0 h1
theorem poss_secAt {P : Int → ByteArray → Prop} {d : Dv} {fr ln s : Int} (h : Poss P d) (hd : d.down = false) (hl : 1 ≤ ln) (hf : 0 ≤ fr) (hs : fr + ln ≤ d.sec.length) : ∃ c, secAt d fr ln s = gd c s ∧ P (fr + s % ln) c := by
  have h1 := Int.emod_nonneg s (show ln ≠ 0 by omega)
  have h2 := Int.emod_lt_of_pos s (show (0 : Int) < ln by omega)
  exact ⟨_, secAt_gd hd (by omega) (by omega), h.read (by omega) (by omega)⟩
theorem PP.new (fr ln m0 hi : Int) (n : Nat) : Poss (PP fr ln m0 hi []) (dvNew n) := poss_new n (fun _ s _ _ _ => .inl (gd_z64 s))
theorem pre_scan {d : Dv} {fr ln m0 : Int} {ts : List ByteArray} (hp : Poss (PP fr ln m0 (m0 + ln) ts) d) (hd : d.down = false) (hl : 1 ≤ ln) (hf : 0 ≤ fr) (hs : fr + ln ≤ d.sec.length) (hm : 1 ≤ m0) (hc : (costs ts : Int) ≤ ln) :
    ∃ j, j ≤ ts.length ∧ scan (secAt d fr ln) ln.toNat m0 0 ⟨#[]⟩ = (recs m0 (ts.take j), m0 + costs (ts.take j)) ∧ ∀ i, i ≤ ts.length → Poss (FP fr ln m0 (m0 + costs (ts.take i)) (lay m0 ts)) d → i ≤ j := by
  obtain ⟨j, h1, h2, h3⟩ := scan_log (secAt d fr ln) ts m0 ln.toNat hm (by omega) (fun s a b => by
    obtain ⟨c, e, h⟩ := poss_secAt (s := s) hp hd hl hf hs
    rw [e]
    rcases h s a (by omega) rfl with h | ⟨_, h⟩
    · exact .inr h
    · exact .inl h) (fun hlt => by
    obtain ⟨c, e, h⟩ := poss_secAt (s := m0 + costs ts) hp hd hl hf hs
    rw [e]
    rcases h _ (by omega) (by omega) rfl with h | ⟨h, _⟩
    · exact h
    · omega)
  refine ⟨j, h1, h2, fun i hi hq => h3 i hi (fun s a b => ?_)⟩
  obtain ⟨c, e, h⟩ := poss_secAt (s := s) hq hd hl hf hs
  rw [e]; exact h s a b rfl
theorem row_push {α : Type} {k : Kd α} {e : Nat} {w0 W W1 : World} {g b : Nat} {l : Lg} {v v1 : Value} {xs ys : List α} (hL : LogSt w0 W g b l) (hR : k.R e W w0.heap.size (fun x => ¬ Foot W g x ∧ x ≠ b) v xs) (hg : W.grownBy W1 v.ownBlock) (hr : k.R e W1 w0.heap.size (fun x => ¬ Foot W g x ∧ x ≠ b) v1 ys) (hb : Below w0.heap.size w0 W1) :
    LogSt w0 W1 g b l ∧ k.R e W1 w0.heap.size (fun x => ¬ Foot W1 g x ∧ x ≠ b) v1 ys := by
  obtain ⟨vs, vc, hD⟩ := hL.dev
  have ho : ∀ x, v.ownBlock = some x → ¬ Foot W g x ∧ x ≠ b := hR.1
  have hm : ∀ x, Foot W g x → W1.heap[x]? = W.heap[x]? := fun x hx => hg.block x (hD.foot_lt hx).1 (fun e => (ho x e.symm).1 hx)
  have hf : ∀ x, Foot W1 g x ↔ Foot W g x := foot_same (hm g (.inl rfl))
  exact ⟨⟨⟨vs, vc, hD.move hm⟩, hb, hL.ge, fun h => hL.apart ((hf b).1 h), (hg.block b hL.lt (fun e => (ho b e.symm).2 rfl)).trans hL.blk⟩, Kd.R_mono hr (fun x hx => ⟨fun h => hx.1 ((hf x).1 h), hx.2⟩)⟩
end Go.Proofs.Ytfllpmmfjbjgoaa.PA

