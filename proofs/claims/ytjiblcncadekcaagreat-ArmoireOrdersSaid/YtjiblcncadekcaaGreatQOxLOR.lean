import Derived.ChangeSlices
import Derived.ProofKit
import Derived.DataReads
import Derived.Test.YtjiblcncadekcaaGreatQOxWWords
import Derived.Test.YtjiblcncadekcaaGreatQOxLOr
namespace Go.Proofs.YtjiblcncadekcaaGreat
open Go.RowKit Go.Proofs.YtjiblcncadekcaaGreatW.PrintWords
def Reads {H : Type} (enc : TypeId × Value → H) (P : Program) (W : World) (base : Nat) (spare : Nat → Bool) (held : Bool) {α : Type} (d : Kd α) (t : TypeId) (ok : α → Prop) : Prop :=
  P.cellsOf t = d.sz ∧ ∀ fuel cs x, DataW.trod enc P W base spare held fuel t cs = some x → ∃ y, d.K W y cs ∧ ok y
section
variable {H : Type} {enc : TypeId × Value → H} {P : Program} {W : World} {base : Nat} {spare : Nat → Bool} {held : Bool}
theorem Reads.int {k : IntKind} {t : TypeId} (hu : P.underlying t = some (.int k)) (hc : P.cellsOf t = 1) : Reads enc P W base spare held (Kd.int k) t (fun n => (Lit.int k n).wf = true) :=
  ⟨hc, fun _ _ _ h => by obtain ⟨n, rfl, _, hw⟩ := DataW.trod_int hu h; exact ⟨n, rfl, hw⟩⟩
theorem Reads.bool {t : TypeId} (hu : P.underlying t = some .bool) (hc : P.cellsOf t = 1) : Reads enc P W base spare held Kd.bool t (fun _ => True) :=
  ⟨hc, fun _ _ _ h => by obtain ⟨n, rfl, _⟩ := DataW.trod_bool hu h; exact ⟨n, rfl, trivial⟩⟩
theorem Reads.string {t : TypeId} (hu : P.underlying t = some .string) (hc : P.cellsOf t = 1) : Reads enc P W base spare held Kd.string t (fun s => s.size ≤ maxLen) :=
  ⟨hc, fun _ _ _ h => by obtain ⟨n, rfl, _, hw⟩ := DataW.trod_string hu h; exact ⟨n, rfl, hw⟩⟩
theorem list_of {α β : Type} (l : List β) (R : α → β → Prop) (h : ∀ b ∈ l, ∃ a, R a b) : ∃ xs : List α, xs.length = l.length ∧ ∀ (j : Nat) (a : α), xs[j]? = some a → ∃ b, l[j]? = some b ∧ R a b := by
  induction l with
  | nil => exact ⟨[], rfl, fun j a h => by simp at h⟩
  | cons b l ih =>
    obtain ⟨a, ha⟩ := h b List.mem_cons_self
    obtain ⟨xs, hl, hx⟩ := ih (fun b hb => h b (List.mem_cons_of_mem _ hb))
    refine ⟨a :: xs, by simp [hl], fun j a' hj => ?_⟩
    cases j with
    | zero => simp only [List.getElem?_cons_zero, Option.some.injEq] at hj; subst hj; exact ⟨b, rfl, ha⟩
    | succ j => exact hx j a' (by simpa using hj)
theorem Reads.row {α : Type} {d : Kd α} {ok : α → Prop} {t e : TypeId} (hu : P.underlying t = some (.slice e)) (he : Reads enc P W base spare held d e ok) {fuel : Nat} {cs : List Value} {x : DataW H × List MemPlace}
    (h : DataW.trod enc P W base spare held fuel t cs = some x) : ∃ A c, ∃ xs : List α, cs = [.slice A xs.length c] ∧ xs.length ≤ c ∧ Kd.C d W A xs.length xs ∧ xs.length ≤ maxLen ∧ ∀ y ∈ xs, ok y := by
  rcases DataW.trod_slice hu h with ⟨rfl, _⟩ | ⟨a, len, cap, elems, rest, n, _, rfl, _, _, hl, hm, hlen, hel, _, _⟩
  · exact ⟨none, 0, [], rfl, Nat.le_refl _, ⟨rfl, by simp, fun h => by simp at h⟩, by simp, fun y hy => by simp at hy⟩
  · have each : ∀ i ∈ List.range len, ∃ y : α, (∃ c, d.K W y c ∧ c.length = d.sz ∧ ∀ j u, c[j]? = some u → W.cell? (a.add (i * d.sz + j)) = some u) ∧ ok y := by
      intro i hi
      have hi' : i < len := by simpa using hi
      have h1 := hel i hi'
      rw [he.1] at h1
      have h2 : ∃ c, W.cells? base (a.add (i * d.sz)) d.sz = some c ∧ (DataW.trod enc P W base spare held n e c) = elems[i]? := by
        cases hc : W.cells? base (a.add (i * d.sz)) d.sz with
        | none =>
          rw [hc] at h1
          have : i < elems.length := by omega
          simp [this] at h1
        | some c =>
          rw [hc] at h1
          exact ⟨c, rfl, h1⟩
      obtain ⟨c, hc, hx⟩ := h2
      have hi2 : i < elems.length := by omega
      rw [List.getElem?_eq_getElem hi2] at hx
      obtain ⟨y, hy, hok⟩ := he.2 _ _ _ hx
      obtain ⟨_, hcl, hcc⟩ := World.cells?_some hc
      refine ⟨y, ⟨c, hy, hcl, fun j u hj => ?_⟩, hok⟩
      have hj' : j < c.length := (List.getElem?_eq_some_iff.1 hj).1
      have h3 := hcc j (by omega)
      rw [hj] at h3
      have e1 : (a.add (i * d.sz)).add j = a.add (i * d.sz + j) := by
        by_cases hi0 : i * d.sz = 0 <;> by_cases hj0 : j = 0 <;> simp [Addr.add, hi0, hj0] <;> omega
      rwa [e1] at h3
    obtain ⟨xs, hxl, hxs⟩ := list_of (List.range len) _ each
    have hxl' : xs.length = len := by simpa using hxl
    have hm' : len ≤ maxLen := Nat.le_trans hl hm
    refine ⟨some a, cap, xs, by rw [hxl'], by omega, ⟨rfl, by unfold maxLen at hm'; omega, fun _ => ⟨a, rfl, fun j p hp => ?_⟩⟩, by omega, fun y hy => ?_⟩
    · obtain ⟨i, hi, ⟨c, hk, hcl, hcc⟩, _⟩ := hxs j p hp
      have hj : j < len := by have := (List.getElem?_eq_some_iff.1 hp).1; omega
      obtain rfl : j = i := by simpa [List.getElem?_range hj] using hi
      exact ⟨c, hcl, hk, hcc⟩
    · obtain ⟨j, hj⟩ := List.mem_iff_getElem?.1 hy
      obtain ⟨i, _, _, hok⟩ := hxs j y hj
      exact hok
theorem Reads.slice {α : Type} {d : Kd α} {ok : α → Prop} {t e : TypeId} (hu : P.underlying t = some (.slice e)) (hc : P.cellsOf t = 1) (he : Reads enc P W base spare held d e ok) :
    Reads enc P W base spare held (Kd.slice e d) t (fun xs => xs.length ≤ maxLen ∧ ∀ y ∈ xs, ok y) :=
  ⟨hc, fun _ _ _ h => by
    obtain ⟨A, c, xs, rfl, h1, h2, h3, h4⟩ := Reads.row hu he h
    exact ⟨xs, ⟨A, c, rfl, h1, h2⟩, h3, h4⟩⟩
def Fields {H : Type} (enc : TypeId × Value → H) (P : Program) (W : World) (base : Nat) (spare : Nat → Bool) (held : Bool) {α : Type} (fs : List Field) (off : Nat) (d : Kd α) (ok : α → Prop) : Prop :=
  ∀ (n : Nat) (cs : List Value) (xs : List (DataW H × List MemPlace)), (∀ (i : Nat) (f : Field), fs[i]? = some f → DataW.trod enc P W base spare held n f.type ((cs.drop f.offset).take (P.cellsOf f.type)) = xs[i]?) → xs.length = fs.length → cs.length = off + d.sz →
    ∃ y, d.K W y (cs.drop off) ∧ ok y
theorem Fields.one {α : Type} {d : Kd α} {ok : α → Prop} {f : Field} {off : Nat} (ho : f.offset = off) (h : Reads enc P W base spare held d f.type ok) : Fields enc P W base spare held [f] off d ok := by
  intro n cs xs hx hl hc
  have h1 := hx 0 f rfl
  have hl' : 0 < xs.length := by rw [hl]; exact Nat.one_pos
  rw [List.getElem?_eq_getElem hl', ho, h.1, List.take_of_length_le (by rw [List.length_drop]; omega)] at h1
  exact h.2 _ _ _ h1
theorem Fields.cons {α β : Type} {d : Kd α} {d' : Kd β} {ok : α → Prop} {ok' : β → Prop} {f : Field} {fs : List Field} {off : Nat} (ho : f.offset = off) (h : Reads enc P W base spare held d f.type ok)
    (h' : Fields enc P W base spare held fs (off + d.sz) d' ok') : Fields enc P W base spare held (f :: fs) off (Kd.pair d d') (fun p => ok p.1 ∧ ok' p.2) := by
  intro n cs xs hx hl hc
  have hc2 : cs.length = off + d.sz + d'.sz := by rw [hc]; exact (Nat.add_assoc _ _ _).symm
  have h1 := hx 0 f rfl
  have hl' : 0 < xs.length := by rw [hl]; exact Nat.succ_pos _
  rw [List.getElem?_eq_getElem hl', ho, h.1] at h1
  obtain ⟨y, hy, hok⟩ := h.2 _ _ _ h1
  obtain ⟨z, hz, hok'⟩ := h' n cs (xs.drop 1) (fun i g hg => by
    have h2 := hx (i + 1) g (by simpa using hg)
    rw [h2, List.getElem?_drop, Nat.add_comm 1 i]) (by rw [List.length_drop, hl]; rfl) hc2
  refine ⟨(y, z), ⟨(cs.drop off).take d.sz, cs.drop (off + d.sz), ?_, hy, hz⟩, hok, hok'⟩
  rw [← List.drop_drop, List.take_append_drop]
theorem Reads.struct {α β : Type} {d : Kd α} {ok : α → Prop} {g : β → α} (mk : α → β) (hg : ∀ a, g (mk a) = a) {t : TypeId} {fs : Array Field} (hu : P.underlying t = some (.struct fs)) (hc : P.cellsOf t = d.sz)
    (h : Fields enc P W base spare held fs.toList 0 d ok) : Reads enc P W base spare held (Kd.iso d g) t (fun b => ok (g b)) := by
  refine ⟨hc, fun fuel cs x hx => ?_⟩
  obtain ⟨xs, n, _, _, hl, hxl, hf⟩ := DataW.trod_struct hu hx
  obtain ⟨y, hy, hok⟩ := h n cs xs (fun i f hi => hf i f (by simpa using hi)) (by simpa using hxl) (by rw [hl, hc]; exact (Nat.zero_add _).symm)
  refine ⟨mk y, ?_, by show ok (g (mk y)); rw [hg]; exact hok⟩
  show d.K W (g (mk y)) cs
  rw [hg]
  simpa using hy
end
end Go.Proofs.YtjiblcncadekcaaGreat

namespace Go.Proofs.YtjiblcncadekcaaGreat.PA
open Go.RowKit Go.Proofs.YtjiblcncadekcaaGreatW.PrintWords Go.Proofs.YtjiblcncadekcaaGreatW.PrintLast Go.Proofs.YtjiblcncadekcaaGreatW.PrintMore Go.Proofs.YtjiblcncadekcaaGreat Go.Proofs.YtjiblcncadekcaaGreat.PL
structure Sta where
  kind : Int
  n : Int
  rows : List S73
def kSta : Kd Sta := Kd.iso (Kd.pair (Kd.int .i64) (Kd.pair (Kd.int .i64) (Kd.slice 73 k73))) (fun x => (x.kind, x.n, x.rows))
theorem kSta_open {w : World} {x : Sta} {cs : List Value} (h : kSta.K w x cs) : ∃ A c, cs = [.int .i64 x.kind, .int .i64 x.n, .slice A x.rows.length c] ∧ x.rows.length ≤ c ∧ Kd.C k73 w A x.rows.length x.rows := by
  obtain ⟨c1, c2, rfl, h1, c3, c4, rfl, h2, A, c, rfl, h4, h5⟩ := h
  obtain rfl := h1
  obtain rfl := h2
  exact ⟨A, c, rfl, h4, h5⟩
section
variable {H : Type} {enc : TypeId × Value → H} {W : World} {base : Nat} {spare : Nat → Bool} {held : Bool}
theorem Reads.conv {P : Program} {α β : Type} {d : Kd α} {d' : Kd β} {t : TypeId} {ok : α → Prop} {ok' : β → Prop} (h : Reads enc P W base spare held d t ok) (hs : d.sz = d'.sz) (f : ∀ y cs, d.K W y cs → ∃ y', d'.K W y' cs ∧ ok' y') : Reads enc P W base spare held d' t ok' :=
  ⟨h.1.trans hs, fun fuel cs x hx => by obtain ⟨y, hy, _⟩ := h.2 fuel cs x hx; exact f y cs hy⟩
theorem reads_lact : Reads enc Tryz.prog W base spare held kLAct 42 (fun _ => True) :=
  Reads.conv (Reads.struct (g := fun x : Int × Int × Int × (Int × ByteArray × ByteArray × Int) × (Int × ByteArray × Int) => x) (fun p => p) (fun _ => rfl) Tryz.underlying42 (by kernel_rfl)
    (Fields.cons rfl (Reads.int Tryz.underlying3 (by kernel_rfl)) (Fields.cons rfl (Reads.int Tryz.underlying3 (by kernel_rfl)) (Fields.cons rfl (Reads.int Tryz.underlying3 (by kernel_rfl))
      (Fields.cons rfl (Reads.struct (g := fun x : Int × ByteArray × ByteArray × Int => x) (fun p => p) (fun _ => rfl) Tryz.underlying38 (by kernel_rfl)
        (Fields.cons rfl (Reads.int Tryz.underlying36 (by kernel_rfl)) (Fields.cons rfl (Reads.string Tryz.underlying9 (by kernel_rfl)) (Fields.cons rfl (Reads.string Tryz.underlying9 (by kernel_rfl)) (Fields.one rfl (Reads.int Tryz.underlying2 (by kernel_rfl)))))))
      (Fields.one rfl (Reads.struct (g := fun x : Int × ByteArray × Int => x) (fun p => p) (fun _ => rfl) Tryz.underlying40 (by kernel_rfl)
        (Fields.cons rfl (Reads.int Tryz.underlying3 (by kernel_rfl)) (Fields.cons rfl (Reads.string Tryz.underlying9 (by kernel_rfl)) (Fields.one rfl (Reads.int Tryz.underlying2 (by kernel_rfl))))))))))))
    rfl (fun y cs h => by
      obtain ⟨k, t, o, ⟨op, a, b, n⟩, ⟨code, text, rn⟩⟩ := y
      refine ⟨⟨k, t, o, op, a, b, n, code, text, rn⟩, ?_, trivial⟩
      obtain ⟨_, _, rfl, rfl, _, _, rfl, rfl, _, _, rfl, rfl, _, _, rfl, ⟨_, _, rfl, rfl, _, _, rfl, rfl, _, _, rfl, rfl, rfl⟩, ⟨_, _, rfl, rfl, _, _, rfl, rfl, rfl⟩⟩ := h
      exact kLAct_mk W _)
end
theorem ArmoireOrders.row {P1 : Prop} (w : World) (kind n : Int) (A1 : Option Addr) (c1 : Nat) (rs : List S73) (hr1 : Kd.C k73 w A1 rs.length rs) (hc1 : rs.length ≤ c1) (hw1 : (Lit.int .i64 kind).wf = true ∧ (Lit.int .i64 n).wf = true ∧ P1) (A2 : Option Addr) (c2 : Nat) (cs : List LAct) (hr2 : Kd.C kLAct w A2 cs.length cs) (_ : cs.length ≤ c2) {P2 : LAct → Prop} (_ : ∀ x ∈ cs, P2 x) (A3 : Option Addr) (c3 : Nat) (os : List Int) (hr3 : Kd.C (Kd.int .i64) w A3 os.length os) (_ : os.length ≤ c3) :
    Calls Tryz.prog 3 #[.agg #[.int .i64 kind, .int .i64 n, .slice A1 rs.length c1], .slice A2 cs.length c2, .slice A3 os.length c3] w fun e w' => e = .returned (.bool true) ∧ Below w.heap.size w w' := by
  have h := hw1.2.1
  simp [Lit.wf, IntKind.min, IntKind.max, IntKind.signed, IntKind.bits] at h
  exact ArmoireOrders.walk w kind n A1 c1 rs hr1 hc1 (by omega) (by omega) A2 c2 cs hr2 A3 c3 os hr3
end Go.Proofs.YtjiblcncadekcaaGreat.PA

