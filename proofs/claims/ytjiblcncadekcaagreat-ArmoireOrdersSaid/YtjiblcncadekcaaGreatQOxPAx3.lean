import Derived.Test.YtjiblcncadekcaaGreatQOxPAx0
namespace Go.Proofs.YtjiblcncadekcaaGreat.PA
open Go.Proofs.YtjiblcncadekcaaGreat.PL
open Go.RowKit Go.Proofs.YtjiblcncadekcaaGreatW.PrintWords Go.Proofs.YtjiblcncadekcaaGreatW.PrintLast Go.Proofs.YtjiblcncadekcaaGreatW.PrintMore
attribute [local go_sem] max2_int min2_int bl_leq max_two min_two max_three min_three max_four min_four
set_option linter.unusedVariables false
set_option linter.unusedSimpArgs false
attribute [local go_sem] sgn_u8_ sgn_u16_ sgn_u32_ sgn_u64_ max_u8_ max_u16_ max_u32_ max_u64_
def crc_step.l0 : Nat → Int → Int → Option (Int)
  | 0, _, _ => none
  | k + 1, x0, x10 => if x10 < 8 then (crc_step.l0 k (Go.bits .xor .u32 (x0 / 2) (Go.bits .and .u32 3988292384 ((-(Go.bits .and .u32 x0 1)) % 4294967296))) (wrap64 (x10 + 1))) else (some x0)
def crc_step.f (k : Nat) (a0 : Int) (a1 : Int) : Option (Int) := crc_step.l0 k (Go.bits .xor .u32 a0 ((a1) % 4294967296)) 0
set_option maxHeartbeats 8000000 in
set_option maxRecDepth 100000 in
theorem crc_step.calls (k : Nat) (a0 : Int) (a1 : Int) (r : Int) (w : World) (h : crc_step.f k a0 a1 = some r) :
    Calls Tryz.prog 65 #[.int .u32 a0, .int .u8 a1] w fun e w' => e = .returned (.int .u32 r) ∧ Drawn0 w w' := by
  have H : (crc_step.l0 k (Go.bits .xor .u32 a0 ((a1) % 4294967296)) 0) = some r := h
  clear h
  have H' := Z0.mk H
  clear H
  go_enter Tryz.func65, Tryz.ntmps65
  go_wp2
  go_loopg [0, 10] k (fun kq v0 v10 w' => ∃ (x0_1 : Int) (x10_1 : Int), v0 = .int .u32 x0_1 ∧ v10 = .int .i64 x10_1 ∧ Z0 (crc_step.l0 kq x0_1 x10_1 = some r) ∧ Z0 (kq ≤ k) ∧ Drawn0 w w')
  case atStart => exact ⟨(Go.bits .xor .u32 a0 ((a1) % 4294967296)), (0), eqv_, eqv_, H', ⟨Nat.le_refl _⟩, by repeat (first | exact Drawn0.refl _ | apply Drawn0.step)⟩
  clear H'
  try clear p2
  obtain ⟨x0_1, x10_1, rfl, rfl, HA, HK1, ⟨m1, rfl⟩⟩ := hrel
  cases gk with
  | zero => exact absurd HA.out (by simp [crc_step.l0])
  | succ k1 =>
    have H := HA.out
    clear HA
    simp only [crc_step.l0] at H
    by_cases c3 : x10_1 < 8
    rotate_left
    · rw [if_neg c3] at H
      have c3b0 : decide (x10_1 < 8) = false := decide_eq_false c3
      clear c3
      obtain rfl := Option.some.inj H
      go_wp2
      go_ret
      exact ⟨by first | rfl | (simp; done) | (simp [*]; done), by repeat (first | exact Drawn0.refl _ | apply Drawn0.step)⟩
    rw [if_pos c3] at H
    have c3b0 : decide (x10_1 < 8) = true := decide_eq_true c3
    clear c3
    have H' := Z0.mk H
    clear H
    go_wp2
    go_roundg k1
    case measure => have := HK1.out; omega
    case rel => exact ⟨(Go.bits .xor .u32 (x0_1 / 2) (Go.bits .and .u32 3988292384 ((-(Go.bits .and .u32 x0_1 1)) % 4294967296))), (wrap64 (x10_1 + 1)), eqv_, eqv_, H', ⟨by have := HK1.out; omega⟩, by repeat (first | exact Drawn0.refl _ | apply Drawn0.step)⟩
def IsS107 (w0 W : World) (g : Nat) (f0 : Int) : Prop := W.heap[g]? = some (.cells #[.int .u32 f0] 107 (0, 0)) ∧ w0.heap.size ≤ g
theorem IsS107.grown {w0 W : World} {g : Nat} {f0 : Int} {W1 : World} {row : Option Nat} (h : IsS107 w0 W g f0) (hw : W.grownBy W1 row) (hne : some g ≠ row) : IsS107 w0 W1 g f0 := by
  obtain ⟨hb, hg⟩ := h
  exact ⟨kgr_ hb hw hne, hg⟩
theorem IsS107.kept {w0 W : World} {g : Nat} {f0 : Int} {W1 : World} {S : Nat → Prop} (h : IsS107 w0 W g f0) (hk : Kept W W1 S) (hne : ¬ S g) : IsS107 w0 W1 g f0 := by
  obtain ⟨hb, hg⟩ := h
  exact ⟨blk_kept hb hk hne, hg⟩
theorem IsS107.below {w0 W : World} {g : Nat} {f0 : Int} {W1 : World} (h : IsS107 w0 W g f0) (hw : Below W.heap.size W W1) : IsS107 w0 W1 g f0 := h.grown (grown_of_below hw none) (by simp)
theorem IsS107.alloc {w0 W : World} {g : Nat} {f0 : Int} (h : IsS107 w0 W g f0) (o : Obj) : IsS107 w0 (W.alloc o) g f0 := h.below (bal (Below.refl _ _) o)
theorem IsS107.drewN {w0 W : World} {g : Nat} {f0 : Int} (h : IsS107 w0 W g f0) (m : Nat) : IsS107 w0 (W.drewN m) g f0 := h
theorem IsS107.drew {w0 W : World} {g : Nat} {f0 : Int} (h : IsS107 w0 W g f0) : IsS107 w0 W.drew g f0 := h
theorem IsS107.at_ {w0 W : World} {g : Nat} {f0 : Int} {w' : World} {m : Nat} (hq : W.drewN m = w') (h : IsS107 w0 W g f0) : IsS107 w0 w' g f0 := by subst hq; exact IsS107.drewN h m
theorem IsS107.apart {w0 W : World} {g : Nat} {f0 : Int} {α : Type} {d : Kd α} {e : Nat} {base : Nat} {ok : Nat → Prop} {v : Value} {xs : List α} (h : IsS107 w0 W g f0) (ho : d.R e W base ok v xs) (ht : ∀ q, q ∈ e :: d.E → q ≠ 107) : d.R e W base (fun k => ok k ∧ k ≠ g) v xs := by
  obtain ⟨hb, hg⟩ := h
  exact Kd.R_types ho hb ht
theorem IsS107.lt {w0 W : World} {g : Nat} {f0 : Int} (h : IsS107 w0 W g f0) : g < W.heap.size := by
  obtain ⟨hb, hg⟩ := h
  exact klt_ hb
theorem IsS107.ge {w0 W : World} {g : Nat} {f0 : Int} (h : IsS107 w0 W g f0) : w0.heap.size ≤ g := by
  obtain ⟨hb, hg⟩ := h
  exact hg
theorem IsS107.ne_blk {w0 W : World} {g : Nat} {f0 : Int} {a : Nat} {cs : Array Value} {t : TypeId} {fr : Nat × Nat} (h : IsS107 w0 W g f0) (hb2 : W.heap[a]? = some (.cells cs t fr)) (ht : t ≠ 107) : g ≠ a := by
  obtain ⟨hb, hg⟩ := h
  rintro rfl
  rw [hb] at hb2
  injection hb2 with hb2
  injection hb2 with _ ht2
  exact ht ht2.symm
theorem IsS107.far {w0 W : World} {g : Nat} {f0 : Int} {p : Addr} (h : IsS107 w0 W g f0) (hne : g ≠ p.block) (u : Value) : IsS107 w0 (W.setCell p u) g f0 := by
  obtain ⟨hb, hg⟩ := h
  exact ⟨blk_far hb hne u, hg⟩
theorem cellS107_0 {W : World} {g : Nat} {f0 : Int} (h : W.heap[g]? = some (.cells #[.int .u32 f0] 107 (0, 0))) : W.cell? ⟨g, 0, none⟩ = some (.int .u32 f0) := (kcl h 0).trans rfl
theorem IsS107.set_0 {w0 W : World} {g : Nat} {f0 : Int} (h : IsS107 w0 W g f0) (x : Int) : IsS107 w0 (W.setCell ⟨g, 0, none⟩ (.int .u32 x)) g x := by
  obtain ⟨hb, hg⟩ := h
  exact ⟨by simpa using blk_set hb 0 (.int .u32 x), hg⟩
theorem IsS107.new (w0 W : World) (f0 : Int) (hB : Below w0.heap.size w0 W) : IsS107 w0 (W.alloc (.cells #[.int .u32 f0] 107)) W.heap.size f0 := ⟨by simpa using heap_alloc_new W _, hB.size⟩
def crc_Sum_Add.l0 : Nat → ByteArray → Int → Int → Int → Option (Int)
  | 0, _, _, _, _ => none
  | k + 1, x1, x4, x12, x13 => if x13 < x12 then (if 0 ≤ x13 then (if x13 < (x1.size : Int) then ((crc_step.f k x4 (bt x1 x13)).bind fun t101 => (crc_Sum_Add.l0 k x1 t101 x12 (wrap64 (x13 + 1)))) else (none)) else (none)) else (some (Go.bits .xor .u32 4294967295 x4))
def crc_Sum_Add.f (k : Nat) (s0_0 : Int) (a1 : ByteArray) : Option (Int) := crc_Sum_Add.l0 k a1 (Go.bits .xor .u32 4294967295 s0_0) (a1.size : Int) 0
set_option maxHeartbeats 8000000 in
set_option maxRecDepth 100000 in
theorem crc_Sum_Add.calls (k : Nat) (g : Nat) (s0_0 : Int) (a1 : ByteArray) (r : Int) (w0 w : World) (hI : IsS107 w0 w g s0_0) (hB : Below w0.heap.size w0 w) (h : crc_Sum_Add.f k s0_0 a1 = some r) :
    Calls Tryz.prog 40 #[.pointer (some ⟨g, 0, none⟩), .string a1] w fun e w' => e = .returned (.tuple #[]) ∧ IsS107 w0 w' g r ∧ Below w0.heap.size w0 w' ∧ KeepBut w w' g none := by
  have HI0 := Z0.mk hI
  have HK := Z0.mk (KeepBut.refl w g none)
  have HL := Z0.mk hB.size
  clear hI
  have HW0 := Z0.mk hB.size
  have HB := Z0.mk hB
  clear hB
  have H : (crc_Sum_Add.l0 k a1 (Go.bits .xor .u32 4294967295 s0_0) (a1.size : Int) 0) = some r := h
  clear h
  have H' := Z0.mk H
  clear H
  obtain ⟨HGz3, hgz3⟩ := HI0.out
  have hcz3_0 := cellS107_0 HGz3
  have hfz3_0 := kfr HGz3 0
  clear HGz3 hgz3
  go_enter Tryz.func40, Tryz.ntmps40
  go_wp2
  go_loopg [4, 13] k (fun kq v4 v13 w' => ∃ (x4_1 : Int) (x13_1 : Int), v4 = .int .u32 x4_1 ∧ v13 = .int .i64 x13_1 ∧ Z0 (crc_Sum_Add.l0 kq a1 x4_1 (a1.size : Int) x13_1 = some r) ∧ Z0 (kq ≤ k) ∧ Z0 (IsS107 w0 w' g s0_0) ∧ Z0 (KeepBut w w' g none) ∧ Z0 (Below w0.heap.size w0 w'))
  case atStart => exact ⟨(Go.bits .xor .u32 4294967295 s0_0), (0), eqv_, eqv_, H', ⟨Nat.le_refl _⟩, ⟨by repeat (first | (with_reducible first | exact HI0.out | apply IsS107.alloc | apply IsS107.drewN | apply IsS107.drew | apply IsS107.set_0) | exact HI0.out)⟩, ⟨by repeat (first | (with_reducible first | exact HK.out | apply KeepBut.set_ | apply edn | apply edw | apply eal) | exact HK.out)⟩, ⟨by repeat (first | (with_reducible first | exact HB.out | apply bal | apply bdn | apply bd1 | refine bst ?_ (IsS107.ge HI0.out)) | exact HB.out)⟩⟩
  clear H'
  try clear p2
  try clear hcz3_0
  try clear hfz3_0
  obtain ⟨x4_1, x13_1, rfl, rfl, HA, HK1, HI0, HK, HB⟩ := hrel
  cases gk with
  | zero => exact absurd HA.out (by simp [crc_Sum_Add.l0])
  | succ k1 =>
    have H := HA.out
    clear HA
    simp only [crc_Sum_Add.l0] at H
    by_cases c4 : x13_1 < (a1.size : Int)
    rotate_left
    · rw [if_neg c4] at H
      have c4b0 : decide (x13_1 < (a1.size : Int)) = false := decide_eq_false c4
      clear c4
      obtain rfl := Option.some.inj H
      obtain ⟨HGz9, hgz9⟩ := HI0.out
      have hcz9_0 := cellS107_0 HGz9
      have hfz9_0 := kfr HGz9 0
      clear HGz9 hgz9
      go_wp2
      first | go_end0 | ((try simp only [Exit.inBlock, Exit.then]); refine bodyPost_ret (results_none rfl _ _ _) rfl ?_)
      exact ⟨er_, by repeat (first | (with_reducible first | exact HI0.out | apply IsS107.alloc | apply IsS107.drewN | apply IsS107.drew | apply IsS107.set_0) | exact HI0.out), by repeat (first | (with_reducible first | exact HB.out | apply bal | apply bdn | apply bd1 | refine bst ?_ (IsS107.ge HI0.out)) | exact HB.out), by repeat (first | (with_reducible first | exact HK.out | apply KeepBut.set_ | apply edn | apply edw | apply eal) | exact HK.out)⟩
    rw [if_pos c4] at H
    have c4b0 : decide (x13_1 < (a1.size : Int)) = true := decide_eq_true c4
    clear c4
    by_cases c5 : 0 ≤ x13_1
    rotate_left
    · rw [if_neg c5] at H
      exact absurd H (by simp)
    rw [if_pos c5] at H
    have c5b0 : decide (0 ≤ x13_1) = true := decide_eq_true c5
    clear c5
    by_cases c6 : x13_1 < (a1.size : Int)
    rotate_left
    · rw [if_neg c6] at H
      exact absurd H (by simp)
    rw [if_pos c6] at H
    have c6b0 : decide (x13_1 < (a1.size : Int)) = true := decide_eq_true c6
    clear c6
    replace H := Option.bind_eq_some_iff.mp H
    obtain ⟨t101, A80, H⟩ := H
    replace H : (crc_Sum_Add.l0 k1 a1 t101 (a1.size : Int) (wrap64 (x13_1 + 1))) = some r := H
    have A8 := Z0.mk A80
    clear A80
    have H' := Z0.mk H
    clear H
    have p7 : 0 ≤ (x13_1 : Int) := of_decide_eq_true (by first | (with_reducible assumption) | assumption)
    have q7 : x13_1 < (a1.size : Int) := of_decide_eq_true (by first | (with_reducible assumption) | assumption)
    have hx7 := bt_at a1 x13_1
    replace p7 := eq_true p7
    replace q7 := eq_true q7
    go_wp2_with (first | ((with_reducible refine gcl (f := 65) rfl ?_); refine gl_ (some 20) rfl rfl Tryz.func65 (by kernel_rfl) rfl #[.int .u32 x4_1, .int .u8 (bt a1 x13_1)] rfl ar_ ?_; (with_reducible refine (crc_step.calls k1 x4_1 (bt a1 x13_1) t101 _ A8.out).mono ?_); rintro e w' ⟨rfl, ⟨nd, rfl⟩⟩; refine ⟨_, rfl, ?_⟩))
    go_roundg k1
    case measure => have := HK1.out; omega
    case rel => exact ⟨(t101), (wrap64 (x13_1 + 1)), eqv_, eqv_, H', ⟨by have := HK1.out; omega⟩, ⟨by repeat (first | (with_reducible first | exact HI0.out | apply IsS107.alloc | apply IsS107.drewN | apply IsS107.drew | apply IsS107.set_0) | exact HI0.out)⟩, ⟨by repeat (first | (with_reducible first | exact HK.out | apply KeepBut.set_ | apply edn | apply edw | apply eal) | exact HK.out)⟩, ⟨by repeat (first | (with_reducible first | exact HB.out | apply bal | apply bdn | apply bd1 | refine bst ?_ (IsS107.ge HI0.out)) | exact HB.out)⟩⟩
def crc_Sum_Value.f (s0_0 : Int) : Option (Int × Int) := some (s0_0, s0_0)
set_option maxHeartbeats 8000000 in
set_option maxRecDepth 100000 in
theorem crc_Sum_Value.calls (g : Nat) (s0_0 : Int) (r1 : Int) (r2 : Int) (w0 w : World) (hI : IsS107 w0 w g s0_0) (hB : Below w0.heap.size w0 w) (h : crc_Sum_Value.f s0_0 = some (r1, r2)) :
    Calls Tryz.prog 41 #[.pointer (some ⟨g, 0, none⟩)] w fun e w' => e = .returned (.int .u32 r1) ∧ IsS107 w0 w' g r2 ∧ Below w0.heap.size w0 w' ∧ KeepBut w w' g none := by
  have HI0 := Z0.mk hI
  have HK := Z0.mk (KeepBut.refl w g none)
  have HL := Z0.mk hB.size
  clear hI
  have HW0 := Z0.mk hB.size
  have HB := Z0.mk hB
  clear hB
  have H : (some (s0_0, s0_0)) = some (r1, r2) := h
  clear h
  simp only [Option.some.injEq, Prod.mk.injEq] at H
  obtain ⟨rfl, rfl⟩ := H
  obtain ⟨HGz2, hgz2⟩ := HI0.out
  have hcz2_0 := cellS107_0 HGz2
  have hfz2_0 := kfr HGz2 0
  clear HGz2 hgz2
  go_enter Tryz.func41, Tryz.ntmps41
  go_wp2
  go_ret
  exact ⟨er_, by repeat (first | (with_reducible first | exact HI0.out | apply IsS107.alloc | apply IsS107.drewN | apply IsS107.drew | apply IsS107.set_0) | exact HI0.out), by repeat (first | (with_reducible first | exact HB.out | apply bal | apply bdn | apply bd1 | refine bst ?_ (IsS107.ge HI0.out)) | exact HB.out), by repeat (first | (with_reducible first | exact HK.out | apply KeepBut.set_ | apply edn | apply edw | apply eal) | exact HK.out)⟩
def crc_Of.l0 : Nat → List ByteArray → Int → Int → Int → Option (Int)
  | 0, _, _, _, _ => none
  | k + 1, x8, x9, x10, x103000 => if x10 < x9 then (if 0 ≤ x10 then (if x10 < (x8.length : Int) then ((crc_Sum_Add.f k x103000 (rdOf ByteArray.empty x8 x10)).bind fun t104 => (crc_Of.l0 k x8 x9 (wrap64 (x10 + 1)) t104)) else (none)) else (none)) else ((crc_Sum_Value.f x103000).bind fun bt105 => (some bt105.1))
def crc_Of.f (k : Nat) (l0 : List ByteArray) : Option (Int) := crc_Of.l0 k l0 (l0.length : Int) 0 0
set_option maxHeartbeats 8000000 in
set_option maxRecDepth 100000 in
theorem crc_Of.calls (k : Nat) (A0 : Option Addr) (c0 : Nat) (l0 : List ByteArray) (r : Int) (w : World) (hr0 : Kd.C Kd.string w A0 l0.length l0) (hc0 : l0.length ≤ c0) (h : crc_Of.f k l0 = some r) :
    Calls Tryz.prog 18 #[.slice A0 l0.length c0] w fun e w' => e = .returned (.int .u32 r) ∧ Below w.heap.size w w' := by
  have hu107 := Tryz.underlying107
  have HR0 := Z0.mk hr0
  have HC0 := Z0.mk hc0
  clear hr0 hc0
  have HB := Z0.mk (Below.refl w.heap.size w)
  have H : (crc_Of.l0 k l0 (l0.length : Int) 0 0) = some r := h
  clear h
  have H' := Z0.mk H
  clear H
  go_enter Tryz.func18, Tryz.ntmps18
  go_wp2_with (first | ((with_reducible refine gds (N := 3) rfl ?_); refine bx_ (N := 3) (cs := #[.int .u32 0]) (t := 107) ?_; intro gb102 hg w2 hbox hb; have n0_ := Z0.mk (bsp bl_ hb); have n1_ := Z0.mk (hbox); have n2_ := Z0.mk ((by rw [hg]; exact bsz bl_ : w.heap.size ≤ gb102)); have n3_ := Z0.mk ((by rw [hg]; exact bsz bl_ : w.heap.size ≤ gb102)); have n4_ := Z0.mk ((⟨hbox, (by rw [hg]; exact bsz bl_ : w.heap.size ≤ gb102)⟩ : IsS107 w w2 gb102 0)); clear HB; have HB := n0_; have BK102 := n1_; have GW102 := n2_; have GE102 := n3_; have HI102 := n4_; clear n0_ n1_ n2_ n3_ n4_; clear hb hbox hg))
  go_loopg [10] k (fun kq v10 w' => ∃ (x10_1 : Int) (x103000_1 : Int), v10 = .int .i64 x10_1 ∧ Z0 (crc_Of.l0 kq l0 (l0.length : Int) x10_1 x103000_1 = some r) ∧ Z0 (kq ≤ k) ∧ Z0 (IsS107 w w' gb102 x103000_1) ∧ Z0 (Below w.heap.size w w'))
  case atStart => exact ⟨(0), (0), eqv_, H', ⟨Nat.le_refl _⟩, ⟨by repeat (first | (with_reducible first | exact HI102.out | apply IsS107.alloc | apply IsS107.drewN | apply IsS107.drew | apply IsS107.set_0) | exact HI102.out)⟩, ⟨by repeat (first | (with_reducible first | exact HB.out | apply bal | apply bdn | apply bd1 | refine bst ?_ (IsS107.ge HI102.out)) | exact HB.out)⟩⟩
  clear H'
  try clear c1
  try clear p2
  obtain ⟨x10_1, x103000_1, rfl, HA, HK1, HI102, HB⟩ := hrel
  cases gk with
  | zero => exact absurd HA.out (by simp [crc_Of.l0])
  | succ k1 =>
    have H := HA.out
    clear HA
    simp only [crc_Of.l0] at H
    by_cases c3 : x10_1 < (l0.length : Int)
    rotate_left
    · rw [if_neg c3] at H
      have c3b0 : decide (x10_1 < (l0.length : Int)) = false := decide_eq_false c3
      clear c3
      replace H := Option.bind_eq_some_iff.mp H
      obtain ⟨⟨t105, t106⟩, A80, H⟩ := H
      replace H : (some t105) = some r := H
      have A8 := Z0.mk A80
      clear A80
      obtain rfl := Option.some.inj H
      go_wp2_with (first | ((with_reducible refine gcl (f := 41) rfl ?_); refine gl_ (some 18) rfl rfl Tryz.func41 (by kernel_rfl) rfl #[.pointer (some ⟨gb102, 0, none⟩)] rfl ar_ ?_; (with_reducible refine (crc_Sum_Value.calls gb102 x103000_1 t105 t106 w _ ?side1 ?side2 A8.out).mono ?_); (case side1 => repeat (first | (with_reducible first | exact HI102.out | apply IsS107.alloc | apply IsS107.drewN | apply IsS107.drew | apply IsS107.set_0) | exact HI102.out)); (case side2 => repeat (first | (with_reducible first | exact HB.out | apply bal | apply bdn | apply bd1 | refine bst ?_ (IsS107.ge HI102.out)) | exact HB.out)); rintro e w9 ⟨rfl, hi, hb, hk⟩; refine ⟨_, rfl, ?_⟩; have n0_ := Z0.mk (hb); have n1_ := Z0.mk (hi); clear HB; clear HI102; have HB := n0_; have HI102 := n1_; clear n0_ n1_; (try clear hb); (try clear hb2); (try clear hk); (try clear hi)))
      go_ret
      exact ⟨er_, by repeat (first | (with_reducible first | exact HB.out | apply bal | apply bdn | apply bd1 | refine bst ?_ (IsS107.ge HI102.out)) | exact HB.out)⟩
    rw [if_pos c3] at H
    have c3b0 : decide (x10_1 < (l0.length : Int)) = true := decide_eq_true c3
    clear c3
    by_cases c4 : 0 ≤ x10_1
    rotate_left
    · rw [if_neg c4] at H
      exact absurd H (by simp)
    rw [if_pos c4] at H
    have c4b0 : decide (0 ≤ x10_1) = true := decide_eq_true c4
    clear c4
    by_cases c5 : x10_1 < (l0.length : Int)
    rotate_left
    · rw [if_neg c5] at H
      exact absurd H (by simp)
    rw [if_pos c5] at H
    have c5b0 : decide (x10_1 < (l0.length : Int)) = true := decide_eq_true c5
    clear c5
    replace H := Option.bind_eq_some_iff.mp H
    obtain ⟨t104, A60, H⟩ := H
    replace H : (crc_Of.l0 k1 l0 (l0.length : Int) (wrap64 (x10_1 + 1)) t104) = some r := H
    have A6 := Z0.mk A60
    clear A60
    have H' := Z0.mk H
    clear H
    have p103 : 0 ≤ (x10_1 : Int) := of_decide_eq_true (by first | (with_reducible assumption) | assumption)
    have q103 : x10_1 < (l0.length : Int) := of_decide_eq_true (by first | (with_reducible assumption) | assumption)
    obtain ⟨ad103, e103, hx103_0⟩ := Kd.at_string HR0.out x10_1 p103 q103
    cases e103
    replace hx103_0 := (HB.out.cell (World.block_lt_of_cell? w _ hx103_0)).trans hx103_0
    replace p103 := eq_true p103
    replace q103 := eq_true q103
    go_wp2_with (first | (go_at_call 40; (with_reducible refine (crc_Sum_Add.calls k1 gb102 x103000_1 (rdOf ByteArray.empty l0 x10_1) t104 w _ ?side1 ?side2 A6.out).mono ?_); (case side1 => repeat (first | (with_reducible first | exact HI102.out | apply IsS107.alloc | apply IsS107.drewN | apply IsS107.drew | apply IsS107.set_0) | exact HI102.out)); (case side2 => repeat (first | (with_reducible first | exact HB.out | apply bal | apply bdn | apply bd1 | refine bst ?_ (IsS107.ge HI102.out)) | exact HB.out)); rintro e w7 ⟨rfl, hi, hb, hk⟩; have n0_ := Z0.mk (hb); have n1_ := Z0.mk (hi); clear HB; clear HI102; have HB := n0_; have HI102 := n1_; clear n0_ n1_; (try clear hb); (try clear hb2); (try clear hk); (try clear hi)))
    go_roundg k1
    case measure => have := HK1.out; omega
    case rel => exact ⟨(wrap64 (x10_1 + 1)), (t104), eqv_, H', ⟨by have := HK1.out; omega⟩, ⟨by repeat (first | (with_reducible first | exact HI102.out | apply IsS107.alloc | apply IsS107.drewN | apply IsS107.drew | apply IsS107.set_0) | exact HI102.out)⟩, ⟨by repeat (first | (with_reducible first | exact HB.out | apply bal | apply bdn | apply bd1 | refine bst ?_ (IsS107.ge HI102.out)) | exact HB.out)⟩⟩
def crc_Bytes.f (a0 : Int) : Option (ByteArray) := some (strOfNums (([(a0) % 256, (a0 / 256) % 256, (a0 / 65536) % 256, (a0 / 16777216) % 256] : List Int)))
set_option maxHeartbeats 8000000 in
set_option maxRecDepth 100000 in
theorem crc_Bytes.calls (a0 : Int) (r : ByteArray) (w : World) (h : crc_Bytes.f a0 = some r) :
    Calls Tryz.prog 45 #[.int .u32 a0] w fun e w' => e = .returned (.string r) ∧ Below w.heap.size w w' := by
  have HB := Z0.mk (Below.refl w.heap.size w)
  have H : (some (strOfNums (([(a0) % 256, (a0 / 256) % 256, (a0 / 65536) % 256, (a0 / 16777216) % 256] : List Int)))) = some r := h
  clear h
  obtain ⟨y107, hy107⟩ : ∃ y_ : List Int, y_ = (([(a0) % 256, (a0 / 256) % 256, (a0 / 65536) % 256, (a0 / 16777216) % 256] : List Int)) := ⟨_, rfl⟩
  replace H : (some (strOfNums y107)) = some r := by first | (rw [hy107]; with_reducible exact H) | (have H2_ := (Option.bind_some _ _).symm.trans H; rw [hy107]; with_reducible exact H2_) | (have H2_ := (Option.bind_some _ _).symm.trans H; with_reducible exact H2_) | with_reducible exact H | (rw [hy107]; exact H) | exact H
  have Ny107 := Z0.mk hy107
  clear hy107
  obtain rfl := Option.some.inj H
  go_enter Tryz.func45, Tryz.ntmps45
  go_wp2_with (first | ((with_reducible refine gds (N := 14) rfl ?_); refine Kd.R_lit (Kd.int .u8) _ 5 ?hg (N := 14) ?hd (xs := ([(a0) % 256, (a0 / 256) % 256, (a0 / 65536) % 256, (a0 / 16777216) % 256] : List Int)) (inner := [.int .u8 ((a0) % 256), .int .u8 ((a0 / 256) % 256), .int .u8 ((a0 / 65536) % 256), .int .u8 ((a0 / 16777216) % 256)]) (ok := fun _ => True) (okp := fun _ => True) ?hr ?hp (fun _ hk => hk) trivial (Below.refl _ _) (Nat.le_refl _) (by simp) ?_; (case hd => rfl); (case hg => rfl); (case hr => first | (go_simp; done) | (go_simp; rfl)); (case hp => exact (Reps.one (show Kd.M (Kd.int .u8) _ _ _ ((a0) % 256) [.int .u8 ((a0) % 256)] from rfl) (Reps.one (show Kd.M (Kd.int .u8) _ _ _ ((a0 / 256) % 256) [.int .u8 ((a0 / 256) % 256)] from rfl) (Reps.one (show Kd.M (Kd.int .u8) _ _ _ ((a0 / 65536) % 256) [.int .u8 ((a0 / 65536) % 256)] from rfl) (Reps.one (show Kd.M (Kd.int .u8) _ _ _ ((a0 / 16777216) % 256) [.int .u8 ((a0 / 16777216) % 256)] from rfl) (Reps.none _ _)))))); intro v108 w2 ho3 hb hg_ hnew_; clear hg_ hnew_; (first | rw [← Ny107.out] at ho3 | (simp only [Int.reduceToNat] at ho3; rw [← Ny107.out] at ho3)); have n0_ := Z0.mk (Kd.R_lower ho3 (bsz bl_)); have n1_ := Z0.mk (bsp bl_ hb); clear HB; have HO109 := n0_; have HB := n1_; clear n0_ n1_; clear hb ho3; have hcv4 := own_string (P := Tryz.prog) Tryz.underlying110 Tryz.underlying5 Tryz.underlying9 (Kd.own_of_R HO109.out)))
  go_ret
  exact ⟨er_, bl_⟩
def stamp_Sector_Text.f (k : Nat) (a0_0 : Int) (a0_1 : Int) (a0_2 : ByteArray) : Option (ByteArray) := (codec_Out_N.f (⟨#[]⟩ : ByteArray) (([a0_0, wrap64 (a0_1)] : List Int))).bind fun t115 => ((codec_Out_S.f t115 (([a0_2] : List ByteArray))).bind fun t119 => ((codec_Out_Text.f t119).bind fun bt120 => (if 0 ≤ (wrap64 (60 - (bt120.1.size : Int))) then (if (wrap64 (60 - (bt120.1.size : Int)) : Int).toNat ≤ 281474976710656 then ((some (List.replicate (wrap64 (60 - (bt120.1.size : Int)) : Int).toNat 0 : List Int)).bind fun y122 => (if bt120.1.size + (strOfNums y122).size ≤ 9223372036854775807 then ((crc_Of.f k (([bt120.1 ++ (strOfNums y122)] : List ByteArray))).bind fun t128 => ((crc_Bytes.f t128).bind fun t129 => (if t129.size + (bt120.1 ++ (strOfNums y122)).size ≤ 9223372036854775807 then (some (t129 ++ (bt120.1 ++ (strOfNums y122)))) else (none)))) else (none))) else (none)) else (none))))
def stamp_Sector_Text.T2 : Bool × List (List Nat × List Nat) := (true, [([], []), ([0], [0]), ([], []), ([2], [2]), ([3], [3]), ([1, 4], [1, 4]), ([5], [5]), ([], []), ([7], [7]), ([8], [8]), ([6, 9, 6], [6, 9])])
def stamp_Sector_Text.B2 : List Nat := [0, 1, 0, 4, 12, 31, 63, 0, 128, 384, 1023]
theorem stamp_Sector_Text.tab2 : rtab .any (opsOf Tryz.f19 2) = stamp_Sector_Text.T2 := by kernel_rfl
theorem stamp_Sector_Text.bits2 : waitsOk stamp_Sector_Text.T2.2 stamp_Sector_Text.B2 = true := by kernel_rfl
set_option maxHeartbeats 8000000 in
set_option maxRecDepth 100000 in
theorem stamp_Sector_Text.calls (k : Nat) (a0_0 : Int) (a0_1 : Int) (a0_2 : ByteArray) (r : ByteArray) (w : World) (h : stamp_Sector_Text.f k a0_0 a0_1 a0_2 = some r) :
    Calls Tryz.prog 19 #[.agg #[.int .i64 a0_0, .int .u8 a0_1, .string a0_2]] w fun e w' => e = .returned (.string r) ∧ Below w.heap.size w w' := by
  have hu66 := Tryz.underlying66
  have hu112 := Tryz.underlying112
  have HB := Z0.mk (Below.refl w.heap.size w)
  have H : ((codec_Out_N.f (⟨#[]⟩ : ByteArray) (([a0_0, wrap64 (a0_1)] : List Int))).bind fun t115 => ((codec_Out_S.f t115 (([a0_2] : List ByteArray))).bind fun t119 => ((codec_Out_Text.f t119).bind fun bt120 => (if 0 ≤ (wrap64 (60 - (bt120.1.size : Int))) then (if (wrap64 (60 - (bt120.1.size : Int)) : Int).toNat ≤ 281474976710656 then ((some (List.replicate (wrap64 (60 - (bt120.1.size : Int)) : Int).toNat 0 : List Int)).bind fun y122 => (if bt120.1.size + (strOfNums y122).size ≤ 9223372036854775807 then ((crc_Of.f k (([bt120.1 ++ (strOfNums y122)] : List ByteArray))).bind fun t128 => ((crc_Bytes.f t128).bind fun t129 => (if t129.size + (bt120.1 ++ (strOfNums y122)).size ≤ 9223372036854775807 then (some (t129 ++ (bt120.1 ++ (strOfNums y122)))) else (none)))) else (none))) else (none)) else (none))))) = some r := h
  clear h
  obtain ⟨y112, hy112⟩ : ∃ y_ : List Int, y_ = (([a0_0, wrap64 (a0_1)] : List Int)) := ⟨_, rfl⟩
  replace H : ((codec_Out_N.f (⟨#[]⟩ : ByteArray) y112).bind fun t115 => ((codec_Out_S.f t115 (([a0_2] : List ByteArray))).bind fun t119 => ((codec_Out_Text.f t119).bind fun bt120 => (if 0 ≤ (wrap64 (60 - (bt120.1.size : Int))) then (if (wrap64 (60 - (bt120.1.size : Int)) : Int).toNat ≤ 281474976710656 then ((some (List.replicate (wrap64 (60 - (bt120.1.size : Int)) : Int).toNat 0 : List Int)).bind fun y122 => (if bt120.1.size + (strOfNums y122).size ≤ 9223372036854775807 then ((crc_Of.f k (([bt120.1 ++ (strOfNums y122)] : List ByteArray))).bind fun t128 => ((crc_Bytes.f t128).bind fun t129 => (if t129.size + (bt120.1 ++ (strOfNums y122)).size ≤ 9223372036854775807 then (some (t129 ++ (bt120.1 ++ (strOfNums y122)))) else (none)))) else (none))) else (none)) else (none))))) = some r := by first | (rw [hy112]; with_reducible exact H) | (have H2_ := (Option.bind_some _ _).symm.trans H; rw [hy112]; with_reducible exact H2_) | (have H2_ := (Option.bind_some _ _).symm.trans H; with_reducible exact H2_) | with_reducible exact H | (rw [hy112]; exact H) | exact H
  have Ny112 := Z0.mk hy112
  clear hy112
  replace H := Option.bind_eq_some_iff.mp H
  obtain ⟨t115, A20, H⟩ := H
  replace H : ((codec_Out_S.f t115 (([a0_2] : List ByteArray))).bind fun t119 => ((codec_Out_Text.f t119).bind fun bt120 => (if 0 ≤ (wrap64 (60 - (bt120.1.size : Int))) then (if (wrap64 (60 - (bt120.1.size : Int)) : Int).toNat ≤ 281474976710656 then ((some (List.replicate (wrap64 (60 - (bt120.1.size : Int)) : Int).toNat 0 : List Int)).bind fun y122 => (if bt120.1.size + (strOfNums y122).size ≤ 9223372036854775807 then ((crc_Of.f k (([bt120.1 ++ (strOfNums y122)] : List ByteArray))).bind fun t128 => ((crc_Bytes.f t128).bind fun t129 => (if t129.size + (bt120.1 ++ (strOfNums y122)).size ≤ 9223372036854775807 then (some (t129 ++ (bt120.1 ++ (strOfNums y122)))) else (none)))) else (none))) else (none)) else (none)))) = some r := H
  have A2 := Z0.mk A20
  clear A20
  obtain ⟨y116, hy116⟩ : ∃ y_ : List ByteArray, y_ = (([a0_2] : List ByteArray)) := ⟨_, rfl⟩
  replace H : ((codec_Out_S.f t115 y116).bind fun t119 => ((codec_Out_Text.f t119).bind fun bt120 => (if 0 ≤ (wrap64 (60 - (bt120.1.size : Int))) then (if (wrap64 (60 - (bt120.1.size : Int)) : Int).toNat ≤ 281474976710656 then ((some (List.replicate (wrap64 (60 - (bt120.1.size : Int)) : Int).toNat 0 : List Int)).bind fun y122 => (if bt120.1.size + (strOfNums y122).size ≤ 9223372036854775807 then ((crc_Of.f k (([bt120.1 ++ (strOfNums y122)] : List ByteArray))).bind fun t128 => ((crc_Bytes.f t128).bind fun t129 => (if t129.size + (bt120.1 ++ (strOfNums y122)).size ≤ 9223372036854775807 then (some (t129 ++ (bt120.1 ++ (strOfNums y122)))) else (none)))) else (none))) else (none)) else (none)))) = some r := by first | (rw [hy116]; with_reducible exact H) | (have H2_ := (Option.bind_some _ _).symm.trans H; rw [hy116]; with_reducible exact H2_) | (have H2_ := (Option.bind_some _ _).symm.trans H; with_reducible exact H2_) | with_reducible exact H | (rw [hy116]; exact H) | exact H
  have Ny116 := Z0.mk hy116
  clear hy116
  replace H := Option.bind_eq_some_iff.mp H
  obtain ⟨t119, A30, H⟩ := H
  replace H : ((codec_Out_Text.f t119).bind fun bt120 => (if 0 ≤ (wrap64 (60 - (bt120.1.size : Int))) then (if (wrap64 (60 - (bt120.1.size : Int)) : Int).toNat ≤ 281474976710656 then ((some (List.replicate (wrap64 (60 - (bt120.1.size : Int)) : Int).toNat 0 : List Int)).bind fun y122 => (if bt120.1.size + (strOfNums y122).size ≤ 9223372036854775807 then ((crc_Of.f k (([bt120.1 ++ (strOfNums y122)] : List ByteArray))).bind fun t128 => ((crc_Bytes.f t128).bind fun t129 => (if t129.size + (bt120.1 ++ (strOfNums y122)).size ≤ 9223372036854775807 then (some (t129 ++ (bt120.1 ++ (strOfNums y122)))) else (none)))) else (none))) else (none)) else (none))) = some r := H
  have A3 := Z0.mk A30
  clear A30
  replace H := Option.bind_eq_some_iff.mp H
  obtain ⟨⟨t120, t121⟩, A40, H⟩ := H
  replace H : (if 0 ≤ (wrap64 (60 - (t120.size : Int))) then (if (wrap64 (60 - (t120.size : Int)) : Int).toNat ≤ 281474976710656 then ((some (List.replicate (wrap64 (60 - (t120.size : Int)) : Int).toNat 0 : List Int)).bind fun y122 => (if t120.size + (strOfNums y122).size ≤ 9223372036854775807 then ((crc_Of.f k (([t120 ++ (strOfNums y122)] : List ByteArray))).bind fun t128 => ((crc_Bytes.f t128).bind fun t129 => (if t129.size + (t120 ++ (strOfNums y122)).size ≤ 9223372036854775807 then (some (t129 ++ (t120 ++ (strOfNums y122)))) else (none)))) else (none))) else (none)) else (none)) = some r := H
  have A4 := Z0.mk A40
  clear A40
  obtain ⟨ji5, hji5⟩ : ∃ j_ : Int, (wrap64 (60 - (t120.size : Int))) = j_ := ⟨_, rfl⟩
  replace H : (if 0 ≤ (ji5) then (if (ji5 : Int).toNat ≤ 281474976710656 then ((some (List.replicate (ji5 : Int).toNat 0 : List Int)).bind fun y122 => (if t120.size + (strOfNums y122).size ≤ 9223372036854775807 then ((crc_Of.f k (([t120 ++ (strOfNums y122)] : List ByteArray))).bind fun t128 => ((crc_Bytes.f t128).bind fun t129 => (if t129.size + (t120 ++ (strOfNums y122)).size ≤ 9223372036854775807 then (some (t129 ++ (t120 ++ (strOfNums y122)))) else (none)))) else (none))) else (none)) else (none)) = some r := by first | (rw [hji5] at H; exact H) | (simp only [hji5] at H ⊢; exact H)
  (try rw [hji5] at A2)
  (try rw [hji5] at A3)
  (try rw [hji5] at A4)
  have hji5w : (IntKind.i64.wrap (60 - (t120.size : Int))) = ji5 := (i64_w _).trans hji5
  by_cases c6 : 0 ≤ (ji5)
  rotate_left
  · rw [if_neg c6] at H
    exact absurd H (by simp)
  rw [if_pos c6] at H
  have c6b0 := eq_true c6
  have c6b1 : decide (0 ≤ (ji5)) = true := decide_eq_true c6
  clear c6
  by_cases c7 : (ji5 : Int).toNat ≤ 281474976710656
  rotate_left
  · rw [if_neg c7] at H
    exact absurd H (by simp)
  rw [if_pos c7] at H
  have c7b0 := eq_true c7
  have c7b1 : decide ((ji5 : Int).toNat ≤ 281474976710656) = true := decide_eq_true c7
  clear c7
  obtain ⟨y122, hy122⟩ : ∃ y_ : List Int, y_ = (List.replicate (ji5 : Int).toNat 0) := ⟨_, rfl⟩
  replace H : (if t120.size + (strOfNums y122).size ≤ 9223372036854775807 then ((crc_Of.f k (([t120 ++ (strOfNums y122)] : List ByteArray))).bind fun t128 => ((crc_Bytes.f t128).bind fun t129 => (if t129.size + (t120 ++ (strOfNums y122)).size ≤ 9223372036854775807 then (some (t129 ++ (t120 ++ (strOfNums y122)))) else (none)))) else (none)) = some r := by first | (rw [hy122]; with_reducible exact H) | (have H2_ := (Option.bind_some _ _).symm.trans H; rw [hy122]; with_reducible exact H2_) | (have H2_ := (Option.bind_some _ _).symm.trans H; with_reducible exact H2_) | with_reducible exact H | (rw [hy122]; exact H) | exact H
  have Ny122 := Z0.mk hy122
  clear hy122
  by_cases c8 : t120.size + (strOfNums y122).size ≤ 9223372036854775807
  rotate_left
  · rw [if_neg c8] at H
    exact absurd H (by simp)
  rw [if_pos c8] at H
  have c8b0 := eq_true c8
  have c8b1 : decide (t120.size + (strOfNums y122).size ≤ 9223372036854775807) = true := decide_eq_true c8
  try have c8b2 : (9223372036854775807 < t120.size + (strOfNums y122).size) = False := eq_false (Nat.not_lt.2 c8)
  obtain ⟨y125, hy125⟩ : ∃ y_ : List ByteArray, y_ = (([t120 ++ (strOfNums y122)] : List ByteArray)) := ⟨_, rfl⟩
  replace H : ((crc_Of.f k y125).bind fun t128 => ((crc_Bytes.f t128).bind fun t129 => (if t129.size + (t120 ++ (strOfNums y122)).size ≤ 9223372036854775807 then (some (t129 ++ (t120 ++ (strOfNums y122)))) else (none)))) = some r := by first | (rw [hy125]; with_reducible exact H) | (have H2_ := (Option.bind_some _ _).symm.trans H; rw [hy125]; with_reducible exact H2_) | (have H2_ := (Option.bind_some _ _).symm.trans H; with_reducible exact H2_) | with_reducible exact H | (rw [hy125]; exact H) | exact H
  have Ny125 := Z0.mk hy125
  clear hy125
  replace H := Option.bind_eq_some_iff.mp H
  obtain ⟨t128, A90, H⟩ := H
  replace H : ((crc_Bytes.f t128).bind fun t129 => (if t129.size + (t120 ++ (strOfNums y122)).size ≤ 9223372036854775807 then (some (t129 ++ (t120 ++ (strOfNums y122)))) else (none))) = some r := H
  have A9 := Z0.mk A90
  clear A90
  replace H := Option.bind_eq_some_iff.mp H
  obtain ⟨t129, A100, H⟩ := H
  replace H : (if t129.size + (t120 ++ (strOfNums y122)).size ≤ 9223372036854775807 then (some (t129 ++ (t120 ++ (strOfNums y122)))) else (none)) = some r := H
  have A10 := Z0.mk A100
  clear A100
  by_cases c11 : t129.size + (t120 ++ (strOfNums y122)).size ≤ 9223372036854775807
  rotate_left
  · rw [if_neg c11] at H
    exact absurd H (by simp)
  rw [if_pos c11] at H
  have c11b0 := eq_true c11
  have c11b1 : decide (t129.size + (t120 ++ (strOfNums y122)).size ≤ 9223372036854775807) = true := decide_eq_true c11
  try have c11b2 : (9223372036854775807 < t129.size + (t120 ++ (strOfNums y122)).size) = False := eq_false (Nat.not_lt.2 c11)
  try (have c11b3 := c11b2; simp only [ByteArray.size_append] at c11b3)
  try (have c11b4 := c11; simp only [ByteArray.size_append] at c11b4; have c11b5 := eq_true c11b4)
  obtain rfl := Option.some.inj H
  go_enter Tryz.func19, Tryz.ntmps19
  try go_wp2_with (first | ((with_reducible refine gds (N := 1) rfl ?_); refine bx_ (N := 1) (cs := #[.int .i64 a0_0, .int .u8 a0_1, .string a0_2]) (t := 66) ?_; intro gb110 hg w12 hbox hb; have n0_ := Z0.mk (bsp bl_ hb); have n1_ := Z0.mk (hbox); have n2_ := Z0.mk ((by rw [hg]; exact bsz bl_ : w.heap.size ≤ gb110)); have n3_ := Z0.mk ((by rw [hg]; exact bsz bl_ : w.heap.size ≤ gb110)); clear HB; have HB := n0_; have BK110 := n1_; have GW110 := n2_; have GE110 := n3_; clear n0_ n1_ n2_ n3_; clear hb hbox hg) | ((with_reducible refine gds (N := 3) rfl ?_); refine bx_ (N := 3) (cs := #[.slice none 0 0]) (t := 112) ?_; intro gb111 hg w13 hbox hb; have n0_ := Z0.mk (kbl (g := gb110) bk_ hb); have n1_ := Z0.mk (bsp bl_ hb); have n2_ := Z0.mk (hbox); have n3_ := Z0.mk ((by rw [hg]; exact bsz bl_ : w.heap.size ≤ gb111)); have n4_ := Z0.mk ((by rw [hg]; exact bsz bl_ : w.heap.size ≤ gb111)); have n5_ := Z0.mk ((by rw [hg]; exact Nat.ne_of_lt (klt_ (g := gb110) bk_) : gb110 ≠ gb111)); have n6_ := Z0.mk ((by rw [hg]; exact Nat.ne_of_gt (klt_ (g := gb110) bk_) : gb111 ≠ gb110)); have n7_ := Z0.mk ((IsS112.box hbox (by rw [hg]; exact bsz bl_ : w.heap.size ≤ gb111) : IsS112 w w13 gb111 (⟨#[]⟩ : ByteArray))); clear BK110; clear HB; have BK110 := n0_; have HB := n1_; have BK111 := n2_; have GW111 := n3_; have GE111 := n4_; have NB110_111 := n5_; have NB111_110 := n6_; have HI111 := n7_; clear n0_ n1_ n2_ n3_ n4_ n5_ n6_ n7_; clear hb hbox hg))
  have n0_ := Z0.mk (kdw BK110.out)
  have n1_ := Z0.mk (IsS112.drew HI111.out)
  have n2_ := Z0.mk (bd1 HB.out)
  clear BK110
  clear HI111
  clear HB
  have BK110 := n0_
  have HI111 := n1_
  have HB := n2_
  clear n0_ n1_ n2_
  refine start_ (n := 11) (S := fun w' => True) (ds := []) #[false,false,false,false,false,false,false,false,false,false,false] (by kernel_rfl) rfl rfl trivial (fun hHeld => ?_); refine with_tabW stamp_Sector_Text.tab2 stamp_Sector_Text.bits2 (fun HT_ HW_ => ?_)
  generalize w13.drew = w14 at BK110 HI111 HB hHeld ⊢
  refine pw_ HT_.out 0 (some 5) (bA 11 1) ?_
  refine pw_ HT_.out 2 (some 7) (bA 11 5) ?_
  refine pw_ HT_.out 7 (some 12) (bA 11 133) ?_
  refine inv_at [1, 3, 4, 5, 6, 8, 9, 10] (fun a0_ b a w' => ∃ (v113 : Value) (v117 : Value), a = putSel a0_ b [(1, 6, .int .i64 a0_0), (3, 8, .int .u8 a0_1), (4, 9, .int .i64 (wrap64 (a0_1))), (5, 10, v113), (6, 11, .pointer (some ⟨gb111, 0, none⟩)), (8, 13, .string a0_2), (9, 14, v117), (10, 15, .pointer (some ⟨gb111, 0, none⟩))] ∧ (w'.heap[gb110]? = some (.cells #[.int .i64 a0_0, .int .u8 a0_1, .string a0_2] 66 (0, 0))) ∧ (b 6 = false → IsS112 w w' gb111 (⟨#[]⟩ : ByteArray)) ∧ (Below w.heap.size w w') ∧ (b 5 = true → Kd.R (Kd.int .i64) 3 w' w.heap.size (fun _ => True) v113 y112) ∧ (b 6 = true → b 10 = false → IsS112 w w' gb111 t115) ∧ (b 9 = true → Kd.R Kd.string 9 w' w.heap.size (fun _ => True) v117 y116) ∧ (b 10 = true → IsS112 w w' gb111 t119)) HT_.out HW_.out (by kernel_rfl) (by kernel_rfl) ?_ ?_ ?_
  · exact ⟨.bool false, .bool false, by simp only [putSel, Bool.false_eq_true, if_false], BK110.out, fun _ => HI111.out, HB.out, fun h_ => absurd h_ (by decide), fun h_ => absurd h_ (by decide), fun h_ => absurd h_ (by decide), fun h_ => absurd h_ (by decide)⟩
  · skip
    clear BK110 HB HI111
    refine steps_cons ?_ ?_
    · rintro b a w' ⟨v113, v117, ha, Q_BK110, Q_HI111, Q_HB, Q_HO114, Q_HI111_e6, Q_HO118, Q_HI111_e10⟩ hb_ hon hoff
      refine ⟨_, rfl, fun K hK => ?_⟩
      have e5 : a.tmps[5]? = some (.pointer (some ⟨gb110, 0, none⟩)) := by rw [ha]; exact (putSel_off rfl).trans rfl
      replace ha := Z0.mk ha
      have BK110 := Z0.mk Q_BK110
      have HI111 := Z0.mk (Q_HI111 (hoff 6 (by kernel_rfl)))
      have HB := Z0.mk Q_HB
      have hc0_ : w'.cell? ⟨gb110, 0, none⟩ = some (.int .i64 a0_0) := (kcl BK110.out 0).trans rfl
      have hc1_ : w'.cell? ⟨gb110, 1, none⟩ = some (.int .u8 a0_1) := (kcl BK110.out 1).trans rfl
      have hc2_ : w'.cell? ⟨gb110, 2, none⟩ = some (.string a0_2) := (kcl BK110.out 2).trans rfl
      refine value_ (w1 := w') (v := .int .i64 a0_0) (by rfl) rfl ?_ ?_
      · go_simp
        (try simp only [i64_w])
        try rfl
      refine hK.out _ _ ⟨v113, v117, (by rw [ha.out]; exact putSel_upk 0 hb_ rfl rfl rfl), Q_BK110, Q_HI111, Q_HB, fun h0_ => absurd ((hoff 5 (by kernel_rfl)).symm.trans h0_) (by decide), fun h0_ _ => absurd ((hoff 6 (by kernel_rfl)).symm.trans h0_) (by decide), Q_HO118, fun h0_ => absurd ((hoff 10 (by kernel_rfl)).symm.trans h0_) (by decide)⟩
    refine steps_cons ?_ ?_
    · rintro b a w' ⟨v113, v117, ha, Q_BK110, Q_HI111, Q_HB, Q_HO114, Q_HI111_e6, Q_HO118, Q_HI111_e10⟩ hb_ hon hoff
      refine ⟨_, rfl, fun K hK => ?_⟩
      have e7 : a.tmps[7]? = some (.pointer (some ⟨gb110, 1, none⟩)) := by rw [ha]; exact (putSel_off rfl).trans rfl
      replace ha := Z0.mk ha
      have BK110 := Z0.mk Q_BK110
      have HI111 := Z0.mk (Q_HI111 (hoff 6 (by kernel_rfl)))
      have HB := Z0.mk Q_HB
      have hc0_ : w'.cell? ⟨gb110, 0, none⟩ = some (.int .i64 a0_0) := (kcl BK110.out 0).trans rfl
      have hc1_ : w'.cell? ⟨gb110, 1, none⟩ = some (.int .u8 a0_1) := (kcl BK110.out 1).trans rfl
      have hc2_ : w'.cell? ⟨gb110, 2, none⟩ = some (.string a0_2) := (kcl BK110.out 2).trans rfl
      refine value_ (w1 := w') (v := .int .u8 a0_1) (by rfl) rfl ?_ ?_
      · go_simp
        (try simp only [i64_w])
        try rfl
      refine hK.out _ _ ⟨v113, v117, (by rw [ha.out]; exact putSel_upk 1 hb_ rfl rfl rfl), Q_BK110, Q_HI111, Q_HB, fun h0_ => absurd ((hoff 5 (by kernel_rfl)).symm.trans h0_) (by decide), fun h0_ _ => absurd ((hoff 6 (by kernel_rfl)).symm.trans h0_) (by decide), Q_HO118, fun h0_ => absurd ((hoff 10 (by kernel_rfl)).symm.trans h0_) (by decide)⟩
    refine steps_cons ?_ ?_
    · rintro b a w' ⟨v113, v117, ha, Q_BK110, Q_HI111, Q_HB, Q_HO114, Q_HI111_e6, Q_HO118, Q_HI111_e10⟩ hb_ hon hoff
      refine ⟨_, rfl, fun K hK => ?_⟩
      have e8 : a.tmps[8]? = some (.int .u8 a0_1) := by rw [ha]; exact putSel_on (e := (3, 8, .int .u8 a0_1)) 1 rfl rfl (hon 3 (by kernel_rfl)) rfl
      replace ha := Z0.mk ha
      have BK110 := Z0.mk Q_BK110
      have HI111 := Z0.mk (Q_HI111 (hoff 6 (by kernel_rfl)))
      have HB := Z0.mk Q_HB
      refine value_ (w1 := w') (v := .int .i64 (wrap64 (a0_1))) (by rfl) rfl ?_ ?_
      · go_simp
        (try simp only [i64_w])
        try rfl
      refine hK.out _ _ ⟨v113, v117, (by rw [ha.out]; exact putSel_upk 2 hb_ rfl rfl rfl), Q_BK110, Q_HI111, Q_HB, fun h0_ => absurd ((hoff 5 (by kernel_rfl)).symm.trans h0_) (by decide), fun h0_ _ => absurd ((hoff 6 (by kernel_rfl)).symm.trans h0_) (by decide), Q_HO118, fun h0_ => absurd ((hoff 10 (by kernel_rfl)).symm.trans h0_) (by decide)⟩
    refine steps_cons ?_ ?_
    · rintro b a w' ⟨v113, v117, ha, Q_BK110, Q_HI111, Q_HB, Q_HO114, Q_HI111_e6, Q_HO118, Q_HI111_e10⟩ hb_ hon hoff
      refine ⟨_, rfl, fun K hK => ?_⟩
      have e6 : a.tmps[6]? = some (.int .i64 a0_0) := by rw [ha]; exact putSel_on (e := (1, 6, .int .i64 a0_0)) 0 rfl rfl (hon 1 (by kernel_rfl)) rfl
      have e9 : a.tmps[9]? = some (.int .i64 (wrap64 (a0_1))) := by rw [ha]; exact putSel_on (e := (4, 9, .int .i64 (wrap64 (a0_1)))) 2 rfl rfl (hon 4 (by kernel_rfl)) rfl
      replace ha := Z0.mk ha
      have BK110 := Z0.mk Q_BK110
      have HI111 := Z0.mk (Q_HI111 (hoff 6 (by kernel_rfl)))
      have HB := Z0.mk Q_HB
      refine Kd.R_lit_step (Kd.int .i64) _ 3 ?hg (N := 10) ?hd (xs := ([a0_0, wrap64 (a0_1)] : List Int)) (inner := [.int .i64 a0_0, .int .i64 (wrap64 (a0_1))]) (ok := fun _ => True) (okp := fun _ => True) ?hr ?hp (fun _ hk => hk) trivial (Below.refl _ _) (Nat.le_refl _) (by simp) ?_; (case hd => rfl); (case hg => rfl); (case hr => first | (go_simp; done) | (go_simp; rfl)); (case hp => exact (Reps.one (show Kd.M (Kd.int .i64) _ _ _ a0_0 [.int .i64 a0_0] from rfl) (Reps.one (show Kd.M (Kd.int .i64) _ _ _ (wrap64 (a0_1)) [.int .i64 (wrap64 (a0_1))] from rfl) (Reps.none _ _))))
      intro v113 w15 ho16 hb hg_ hnew_
      clear hg_ hnew_
      (first | rw [← Ny112.out] at ho16 | (simp only [Int.reduceToNat] at ho16; rw [← Ny112.out] at ho16))
      have n0_ := Z0.mk (Kd.R_lower ho16 (bsz (by repeat (first | (with_reducible first | exact HB.out | apply bal | apply bdn | apply bd1 | refine bst ?_ (IsS112.ge HI111.out) | refine bst ?_ GE110.out) | exact HB.out))))
      have n1_ := Z0.mk (kbl (g := gb110) bk_ hb)
      have n2_ := Z0.mk (IsS112.below (by repeat (first | (with_reducible first | exact HI111.out | apply IsS112.alloc | apply IsS112.drewN | apply IsS112.drew | apply IsS112.set_0 | refine IsS112.farT (p := ⟨gb110, _, none⟩) (t2 := 66) ?_ ?_ (by decide) (by decide) _ | exact OutT.mk BK110.out | refine OutT.set ?_ _ _ _) | exact HI111.out)) hb)
      have n3_ := Z0.mk (bsp (by repeat (first | (with_reducible first | exact HB.out | apply bal | apply bdn | apply bd1 | refine bst ?_ (IsS112.ge HI111.out) | refine bst ?_ GE110.out) | exact HB.out)) hb)
      have z_HO118 := fun (h0_ : b 9 = true) => (show Kd.R Kd.string 9 w15 w.heap.size (fun _ => True) v117 y116 from by first | exact (Kd.R_below (by (with_reducible repeat (first | apply Kd.R_alloc | apply Kd.R_drewN | apply Kd.R_drew)); exact (Q_HO118 h0_)) hb) | exact Kd.R_mono (Kd.R_below (by (with_reducible repeat (first | apply Kd.R_alloc | apply Kd.R_drewN | apply Kd.R_drew)); exact (Q_HO118 h0_)) hb) (fun _ h_ => by first | trivial | exact h_ | exact h_.1))
      clear BK110
      clear HI111
      clear HB
      have HO114 := n0_
      have BK110 := n1_
      have HI111 := n2_
      have HB := n3_
      clear n0_ n1_ n2_ n3_
      clear hb ho16
      refine hK.out _ _ ⟨v113, v117, (by rw [ha.out]; exact putSel_upk 3 hb_ rfl rfl rfl), bk_, fun _ => (by repeat (first | (with_reducible first | exact HI111.out | apply IsS112.alloc | apply IsS112.drewN | apply IsS112.drew | apply IsS112.set_0 | refine IsS112.farT (p := ⟨gb110, _, none⟩) (t2 := 66) ?_ ?_ (by decide) (by decide) _ | exact OutT.mk BK110.out | refine OutT.set ?_ _ _ _) | exact HI111.out)), (by repeat (first | (with_reducible first | exact HB.out | apply bal | apply bdn | apply bd1 | refine bst ?_ (IsS112.ge HI111.out) | refine bst ?_ GE110.out) | exact HB.out)), fun _ => (by (with_reducible repeat (first | apply Kd.R_alloc | apply Kd.R_drewN | apply Kd.R_drew)); exact HO114.out), fun h0_ _ => absurd ((hoff 6 (by kernel_rfl)).symm.trans h0_) (by decide), z_HO118, fun h0_ => absurd ((hoff 10 (by kernel_rfl)).symm.trans h0_) (by decide)⟩
    refine steps_cons ?_ ?_
    · rintro b a w' ⟨v113, v117, ha, Q_BK110, Q_HI111, Q_HB, Q_HO114, Q_HI111_e6, Q_HO118, Q_HI111_e10⟩ hb_ hon hoff
      refine ⟨_, rfl, fun K hK => ?_⟩
      have e3 : a.tmps[3]? = some (.pointer (some ⟨gb111, 0, none⟩)) := by rw [ha]; exact (putSel_off rfl).trans rfl
      have e10 : a.tmps[10]? = some (v113) := by rw [ha]; exact putSel_on (e := (5, 10, v113)) 3 rfl rfl (hon 5 (by kernel_rfl)) rfl
      replace ha := Z0.mk ha
      have BK110 := Z0.mk Q_BK110
      have HI111 := Z0.mk (Q_HI111 hb_)
      have HB := Z0.mk Q_HB
      have HO114 := Z0.mk (Q_HO114 (hon 5 (by kernel_rfl)))
      obtain ⟨Ao18, co18, eo18⟩ := Kd.R_slice HO114.out
      (first | subst eo18 | (injection eo18 with f1_ f2_ f3_; have f4_ := f1_.symm; have f5_ := f3_.symm; clear f1_ f2_ f3_; subst f4_; subst f5_))
      refine goes_ Tryz.func42 (by kernel_rfl) rfl #[.pointer (some ⟨gb111, 0, none⟩), .slice Ao18 y112.length co18] (by rfl) rfl rfl (by (try simp only [List.map_toArray, List.map_cons, List.map_nil]); first | done | rfl | (simp only [List.length_drop, List.length_take]; rfl) | (simp only [Act.eval, Array.getD_eq_getD_getElem?, Option.getD_some, *]; done) | (simp only [Array.mk.injEq, List.cons.injEq, Value.int.injEq, true_and, and_true]; first | omega | (simp [IntKind.wrap, IntKind.bits, IntKind.signed]; omega))) ?_
      with_reducible refine (codec_Out_N.calls gb111 (⟨#[]⟩ : ByteArray) _ _ y112 t115 w _ ?side1 ?side2 ?side3 ?side4 ?side5 A2.out).mono ?_
      (case side1 => repeat (first | (with_reducible first | exact HI111.out | apply IsS112.alloc | apply IsS112.drewN | apply IsS112.drew | apply IsS112.set_0 | refine IsS112.farT (p := ⟨gb110, _, none⟩) (t2 := 66) ?_ ?_ (by decide) (by decide) _ | exact OutT.mk BK110.out | refine OutT.set ?_ _ _ _) | exact HI111.out))
      (case side2 => repeat (first | (with_reducible first | exact HB.out | apply bal | apply bdn | apply bd1 | refine bst ?_ (IsS112.ge HI111.out) | refine bst ?_ GE110.out) | exact HB.out))
      (case side3 => repeat (first | exact (Kd.R_reads' HO114.out).2.2 | (with_reducible refine Kd.C_alloc ?_ _) | (with_reducible refine Kd.C_drewN ?_ _) | (with_reducible refine Kd.C_drew ?_)))
      (case side4 => exact (Kd.R_reads' HO114.out).2.1)
      (case side5 => exact fun W_ hk_ => (Kd.R_reads' (KeepT.R (by (with_reducible repeat (first | apply Kd.R_alloc | apply Kd.R_drewN | apply Kd.R_drew)); exact HO114.out) hk_ (by decide))).2.2)
      rintro e w19 ⟨rfl, hi, hb, hk⟩
      refine ⟨_, rfl, ?_⟩
      have n0_ := Z0.mk (KeepT.oblk (g := gb110) bk_ hk (by intro _ _ _ h_; cases h_; decide))
      have n1_ := Z0.mk (KeepT.R (by (with_reducible repeat (first | apply Kd.R_alloc | apply Kd.R_drewN | apply Kd.R_drew)); exact HO114.out) hk (by decide))
      have n2_ := Z0.mk (hb)
      have n3_ := Z0.mk (hi)
      have z_HO118 := fun (h0_ : b 9 = true) => (show Kd.R Kd.string 9 w19 w.heap.size (fun _ => True) v117 y116 from by first | exact (KeepT.R (by (with_reducible repeat (first | apply Kd.R_alloc | apply Kd.R_drewN | apply Kd.R_drew)); exact (Q_HO118 h0_)) hk (by decide)) | exact Kd.R_mono (KeepT.R (by (with_reducible repeat (first | apply Kd.R_alloc | apply Kd.R_drewN | apply Kd.R_drew)); exact (Q_HO118 h0_)) hk (by decide)) (fun _ h_ => by first | trivial | exact h_ | exact h_.1))
      clear BK110
      clear HO114
      clear HB
      clear HI111
      have BK110 := n0_
      have HO114 := n1_
      have HB := n2_
      have HI111 := n3_
      clear n0_ n1_ n2_ n3_
      (try clear hb)
      (try clear hb2)
      (try clear hk)
      (try clear hi)
      refine hK.out _ _ ⟨.slice Ao18 y112.length co18, v117, (by rw [ha.out]; exact putSel_upk 4 hb_ rfl rfl rfl), bk_, fun h0_ => absurd ((up_self b 6).symm.trans h0_) (by decide), (by repeat (first | (with_reducible first | exact HB.out | apply bal | apply bdn | apply bd1 | refine bst ?_ (IsS112.ge HI111.out) | refine bst ?_ GE110.out) | exact HB.out)), fun _ => (by (with_reducible repeat (first | apply Kd.R_alloc | apply Kd.R_drewN | apply Kd.R_drew)); exact HO114.out), fun _ _ => (by repeat (first | (with_reducible first | exact HI111.out | apply IsS112.alloc | apply IsS112.drewN | apply IsS112.drew | apply IsS112.set_0 | refine IsS112.farT (p := ⟨gb110, _, none⟩) (t2 := 66) ?_ ?_ (by decide) (by decide) _ | exact OutT.mk BK110.out | refine OutT.set ?_ _ _ _) | exact HI111.out)), z_HO118, fun h0_ => absurd ((hoff 10 (by kernel_rfl)).symm.trans h0_) (by decide)⟩
    refine steps_cons ?_ ?_
    · rintro b a w' ⟨v113, v117, ha, Q_BK110, Q_HI111, Q_HB, Q_HO114, Q_HI111_e6, Q_HO118, Q_HI111_e10⟩ hb_ hon hoff
      refine ⟨_, rfl, fun K hK => ?_⟩
      have e12 : a.tmps[12]? = some (.pointer (some ⟨gb110, 2, none⟩)) := by rw [ha]; exact (putSel_off rfl).trans rfl
      replace ha := Z0.mk ha
      have BK110 := Z0.mk Q_BK110
      have HB := Z0.mk Q_HB
      have hc0_ : w'.cell? ⟨gb110, 0, none⟩ = some (.int .i64 a0_0) := (kcl BK110.out 0).trans rfl
      have hc1_ : w'.cell? ⟨gb110, 1, none⟩ = some (.int .u8 a0_1) := (kcl BK110.out 1).trans rfl
      have hc2_ : w'.cell? ⟨gb110, 2, none⟩ = some (.string a0_2) := (kcl BK110.out 2).trans rfl
      refine value_ (w1 := w') (v := .string a0_2) (by rfl) rfl ?_ ?_
      · go_simp
        (try simp only [i64_w])
        try rfl
      refine hK.out _ _ ⟨v113, v117, (by rw [ha.out]; exact putSel_upk 5 hb_ rfl rfl rfl), Q_BK110, Q_HI111, Q_HB, Q_HO114, Q_HI111_e6, fun h0_ => absurd ((hoff 9 (by kernel_rfl)).symm.trans h0_) (by decide), fun h0_ => absurd ((hoff 10 (by kernel_rfl)).symm.trans h0_) (by decide)⟩
    refine steps_cons ?_ ?_
    · rintro b a w' ⟨v113, v117, ha, Q_BK110, Q_HI111, Q_HB, Q_HO114, Q_HI111_e6, Q_HO118, Q_HI111_e10⟩ hb_ hon hoff
      refine ⟨_, rfl, fun K hK => ?_⟩
      have e13 : a.tmps[13]? = some (.string a0_2) := by rw [ha]; exact putSel_on (e := (8, 13, .string a0_2)) 5 rfl rfl (hon 8 (by kernel_rfl)) rfl
      replace ha := Z0.mk ha
      have BK110 := Z0.mk Q_BK110
      have HB := Z0.mk Q_HB
      refine Kd.R_lit_step Kd.string _ 9 ?hg (N := 14) ?hd (xs := ([a0_2] : List ByteArray)) (inner := [.string a0_2]) (ok := fun _ => True) (okp := fun _ => True) ?hr ?hp (fun _ hk => hk) trivial (Below.refl _ _) (Nat.le_refl _) (by simp) ?_; (case hd => rfl); (case hg => rfl); (case hr => first | (go_simp; done) | (go_simp; rfl)); (case hp => exact (Reps.one (show Kd.M Kd.string _ _ _ a0_2 [.string a0_2] from rfl) (Reps.none _ _)))
      intro v117 w15 ho16 hb hg_ hnew_
      clear hg_ hnew_
      (first | rw [← Ny116.out] at ho16 | (simp only [Int.reduceToNat] at ho16; rw [← Ny116.out] at ho16))
      have n0_ := Z0.mk (Kd.R_lower ho16 (bsz bl_))
      have n1_ := Z0.mk (kbl (g := gb110) bk_ hb)
      have n3_ := Z0.mk (bsp bl_ hb)
      have z_HI111 := fun (h0_ : b 6 = false) => (show IsS112 w w15 gb111 (⟨#[]⟩ : ByteArray) from by first | exact (IsS112.below (by repeat (first | (with_reducible first | exact (Q_HI111 h0_) | apply IsS112.alloc | apply IsS112.drewN | apply IsS112.drew | apply IsS112.set_0 | refine IsS112.farT (p := ⟨gb110, _, none⟩) (t2 := 66) ?_ ?_ (by decide) (by decide) _ | exact OutT.mk BK110.out | refine OutT.set ?_ _ _ _) | exact (Q_HI111 h0_))) hb))
      have z_HO114 := fun (h0_ : b 5 = true) => (show Kd.R (Kd.int .i64) 3 w15 w.heap.size (fun _ => True) v113 y112 from by first | exact (Kd.R_below (by (with_reducible repeat (first | apply Kd.R_alloc | apply Kd.R_drewN | apply Kd.R_drew)); exact (Q_HO114 h0_)) hb) | exact Kd.R_mono (Kd.R_below (by (with_reducible repeat (first | apply Kd.R_alloc | apply Kd.R_drewN | apply Kd.R_drew)); exact (Q_HO114 h0_)) hb) (fun _ h_ => by first | trivial | exact h_ | exact h_.1))
      have z_HI111_e6 := fun (h0_ : b 6 = true) (h1_ : b 10 = false) => (show IsS112 w w15 gb111 t115 from by first | exact (IsS112.below (by repeat (first | (with_reducible first | exact (Q_HI111_e6 h0_ h1_) | apply IsS112.alloc | apply IsS112.drewN | apply IsS112.drew | apply IsS112.set_0 | refine IsS112.farT (p := ⟨gb110, _, none⟩) (t2 := 66) ?_ ?_ (by decide) (by decide) _ | exact OutT.mk BK110.out | refine OutT.set ?_ _ _ _) | exact (Q_HI111_e6 h0_ h1_))) hb))
      clear BK110
      clear HB
      have HO118 := n0_
      have BK110 := n1_
      have HB := n3_
      clear n0_ n1_ n3_
      clear hb ho16
      refine hK.out _ _ ⟨v113, v117, (by rw [ha.out]; exact putSel_upk 6 hb_ rfl rfl rfl), bk_, z_HI111, bl_, z_HO114, z_HI111_e6, fun _ => (by (with_reducible repeat (first | apply Kd.R_alloc | apply Kd.R_drewN | apply Kd.R_drew)); exact HO118.out), fun h0_ => absurd ((hoff 10 (by kernel_rfl)).symm.trans h0_) (by decide)⟩
    refine steps_cons ?_ ?_
    · rintro b a w' ⟨v113, v117, ha, Q_BK110, Q_HI111, Q_HB, Q_HO114, Q_HI111_e6, Q_HO118, Q_HI111_e10⟩ hb_ hon hoff
      refine ⟨_, rfl, fun K hK => ?_⟩
      have e11 : a.tmps[11]? = some (.pointer (some ⟨gb111, 0, none⟩)) := by rw [ha]; exact putSel_on (e := (6, 11, .pointer (some ⟨gb111, 0, none⟩))) 4 rfl rfl (hon 6 (by kernel_rfl)) rfl
      have e14 : a.tmps[14]? = some (v117) := by rw [ha]; exact putSel_on (e := (9, 14, v117)) 6 rfl rfl (hon 9 (by kernel_rfl)) rfl
      replace ha := Z0.mk ha
      have BK110 := Z0.mk Q_BK110
      have HB := Z0.mk Q_HB
      have HO114 := Z0.mk (Q_HO114 (hon 5 (by kernel_rfl)))
      have HI111 := Z0.mk (Q_HI111_e6 (hon 6 (by kernel_rfl)) hb_)
      have HO118 := Z0.mk (Q_HO118 (hon 9 (by kernel_rfl)))
      obtain ⟨Ao22, co22, eo22⟩ := Kd.R_slice HO118.out
      (first | subst eo22 | (injection eo22 with f1_ f2_ f3_; have f4_ := f1_.symm; have f5_ := f3_.symm; clear f1_ f2_ f3_; subst f4_; subst f5_))
      refine goes_ Tryz.func43 (by kernel_rfl) rfl #[.pointer (some ⟨gb111, 0, none⟩), .slice Ao22 y116.length co22] (by rfl) rfl rfl (by (try simp only [List.map_toArray, List.map_cons, List.map_nil]); first | done | rfl | (simp only [List.length_drop, List.length_take]; rfl) | (simp only [Act.eval, Array.getD_eq_getD_getElem?, Option.getD_some, *]; done) | (simp only [Array.mk.injEq, List.cons.injEq, Value.int.injEq, true_and, and_true]; first | omega | (simp [IntKind.wrap, IntKind.bits, IntKind.signed]; omega))) ?_
      with_reducible refine (codec_Out_S.calls gb111 t115 _ _ y116 t119 w _ ?side1 ?side2 ?side3 ?side4 ?side5 A3.out).mono ?_
      (case side1 => repeat (first | (with_reducible first | exact HI111.out | apply IsS112.alloc | apply IsS112.drewN | apply IsS112.drew | apply IsS112.set_0 | refine IsS112.farT (p := ⟨gb110, _, none⟩) (t2 := 66) ?_ ?_ (by decide) (by decide) _ | exact OutT.mk BK110.out | refine OutT.set ?_ _ _ _) | exact HI111.out))
      (case side2 => repeat (first | (with_reducible first | exact HB.out | apply bal | apply bdn | apply bd1 | refine bst ?_ (IsS112.ge HI111.out) | refine bst ?_ GE110.out) | exact HB.out))
      (case side3 => repeat (first | exact (Kd.R_reads' HO118.out).2.2 | (with_reducible refine Kd.C_alloc ?_ _) | (with_reducible refine Kd.C_drewN ?_ _) | (with_reducible refine Kd.C_drew ?_)))
      (case side4 => exact (Kd.R_reads' HO118.out).2.1)
      (case side5 => exact fun W_ hk_ => (Kd.R_reads' (KeepT.R (by (with_reducible repeat (first | apply Kd.R_alloc | apply Kd.R_drewN | apply Kd.R_drew)); exact HO118.out) hk_ (by decide))).2.2)
      rintro e w23 ⟨rfl, hi, hb, hk⟩
      refine ⟨_, rfl, ?_⟩
      have n0_ := Z0.mk (KeepT.oblk (g := gb110) bk_ hk (by intro _ _ _ h_; cases h_; decide))
      have n1_ := Z0.mk (KeepT.R (by (with_reducible repeat (first | apply Kd.R_alloc | apply Kd.R_drewN | apply Kd.R_drew)); exact HO114.out) hk (by decide))
      have n2_ := Z0.mk (KeepT.R (by (with_reducible repeat (first | apply Kd.R_alloc | apply Kd.R_drewN | apply Kd.R_drew)); exact HO118.out) hk (by decide))
      have n3_ := Z0.mk (hb)
      have n4_ := Z0.mk (hi)
      clear BK110
      clear HO114
      clear HO118
      clear HB
      clear HI111
      have BK110 := n0_
      have HO114 := n1_
      have HO118 := n2_
      have HB := n3_
      have HI111 := n4_
      clear n0_ n1_ n2_ n3_ n4_
      (try clear hb)
      (try clear hb2)
      (try clear hk)
      (try clear hi)
      refine hK.out _ _ ⟨v113, .slice Ao22 y116.length co22, (by rw [ha.out]; exact putSel_upk 7 hb_ rfl rfl rfl), bk_, fun h0_ => absurd ((hon 6 (by kernel_rfl)).symm.trans h0_) (by decide), (by repeat (first | (with_reducible first | exact HB.out | apply bal | apply bdn | apply bd1 | refine bst ?_ (IsS112.ge HI111.out) | refine bst ?_ GE110.out) | exact HB.out)), fun _ => (by (with_reducible repeat (first | apply Kd.R_alloc | apply Kd.R_drewN | apply Kd.R_drew)); exact HO114.out), fun _ h1_ => absurd ((up_self b 10).symm.trans h1_) (by decide), fun _ => (by (with_reducible repeat (first | apply Kd.R_alloc | apply Kd.R_drewN | apply Kd.R_drew)); exact HO118.out), fun _ => (by repeat (first | (with_reducible first | exact HI111.out | apply IsS112.alloc | apply IsS112.drewN | apply IsS112.drew | apply IsS112.set_0 | refine IsS112.farT (p := ⟨gb110, _, none⟩) (t2 := 66) ?_ ?_ (by decide) (by decide) _ | exact OutT.mk BK110.out | refine OutT.set ?_ _ _ _) | exact HI111.out))⟩
    exact steps_nil
  rintro b a w23 hall ⟨v113, v117, ha, Q_BK110, Q_HI111, Q_HB, Q_HO114, Q_HI111_e6, Q_HO118, Q_HI111_e10⟩
  clear BK110 HB HI111
  have hb1_ := hall 1 (by kernel_rfl)
  have hb3_ := hall 3 (by kernel_rfl)
  have hb4_ := hall 4 (by kernel_rfl)
  have hb5_ := hall 5 (by kernel_rfl)
  have hb6_ := hall 6 (by kernel_rfl)
  have hb8_ := hall 8 (by kernel_rfl)
  have hb9_ := hall 9 (by kernel_rfl)
  have hb10_ := hall 10 (by kernel_rfl)
  subst ha
  simp only [putSel, hb1_, hb3_, hb4_, hb5_, hb6_, hb8_, hb9_, hb10_, if_true, Act.put, List.setIfInBounds_toArray, List.set_cons_zero, List.set_cons_succ]
  have BK110 := Z0.mk Q_BK110
  clear Q_BK110
  clear Q_HI111
  have HB := Z0.mk Q_HB
  clear Q_HB
  have HO114 := Z0.mk (Q_HO114 hb5_)
  clear Q_HO114
  clear Q_HI111_e6
  have HO118 := Z0.mk (Q_HO118 hb9_)
  clear Q_HO118
  have HI111 := Z0.mk (Q_HI111_e10 hb10_)
  clear Q_HI111_e10
  clear hall hb1_ hb3_ hb4_ hb5_ hb6_ hb8_ hb9_ hb10_
  try go_wp2_with (first | ((with_reducible refine gcl (f := 44) rfl ?_); refine gl_ (some 16) rfl rfl Tryz.func44 (by kernel_rfl) rfl #[.pointer (some ⟨gb111, 0, none⟩)] rfl ar_ ?_; (with_reducible refine (codec_Out_Text.calls gb111 t119 t120 t121 w _ ?side1 ?side2 A4.out).mono ?_); (case side1 => repeat (first | (with_reducible first | exact HI111.out | apply IsS112.alloc | apply IsS112.drewN | apply IsS112.drew | apply IsS112.set_0 | refine IsS112.farT (p := ⟨gb110, _, none⟩) (t2 := 66) ?_ ?_ (by decide) (by decide) _ | exact OutT.mk BK110.out | refine OutT.set ?_ _ _ _) | exact HI111.out)); (case side2 => repeat (first | (with_reducible first | exact HB.out | apply bal | apply bdn | apply bd1 | refine bst ?_ (IsS112.ge HI111.out) | refine bst ?_ GE110.out) | exact HB.out)); rintro e w24 ⟨rfl, hi, hb, hk⟩; refine ⟨_, rfl, ?_⟩; have n0_ := Z0.mk (KeepT.oblk (g := gb110) bk_ hk (by intro _ _ _ h_; cases h_; decide)); have n1_ := Z0.mk (KeepT.R (by (with_reducible repeat (first | apply Kd.R_alloc | apply Kd.R_drewN | apply Kd.R_drew)); exact HO114.out) hk (by decide)); have n2_ := Z0.mk (KeepT.R (by (with_reducible repeat (first | apply Kd.R_alloc | apply Kd.R_drewN | apply Kd.R_drew)); exact HO118.out) hk (by decide)); have n3_ := Z0.mk (hb); have n4_ := Z0.mk (hi); clear BK110; clear HO114; clear HO118; clear HB; clear HI111; have BK110 := n0_; have HO114 := n1_; have HO118 := n2_; have HB := n3_; have HI111 := n4_; clear n0_ n1_ n2_ n3_ n4_; (try clear hb); (try clear hb2); (try clear hk); (try clear hi)) | ((with_reducible refine gds (N := 21) rfl ?_); refine Kd.R_make (Kd.int .u8) _ 5 rfl (N := 21) rfl 110 _ _ rfl ji5 rfl rfl Tryz.underlying110 (.int .u8 0) 1 info5 rfl (by decide) (by omega) 0 (ok := fun _ => True) (okp := fun _ => True) rfl (fun _ hk => hk) trivial (of_decide_eq_true (by first | (with_reducible assumption) | assumption)) (Nat.le_trans (Nat.mul_le_mul_right _ (of_decide_eq_true (by first | (with_reducible assumption) | assumption) : ji5.toNat ≤ 281474976710656)) (by omega)) (Below.refl _ _) (Nat.le_refl _) ?_; intro v123 w25 ho26 hb hg_ hnew_; clear hg_ hnew_; (first | rw [← Ny122.out] at ho26 | (simp only [Int.reduceToNat] at ho26; rw [← Ny122.out] at ho26)); have n0_ := Z0.mk (Kd.R_below (by (with_reducible repeat (first | apply Kd.R_alloc | apply Kd.R_drewN | apply Kd.R_drew)); exact HO114.out) hb); have n1_ := Z0.mk (Kd.R_below (by (with_reducible repeat (first | apply Kd.R_alloc | apply Kd.R_drewN | apply Kd.R_drew)); exact HO118.out) hb); have n2_ := Z0.mk (Kd.R_lower ho26 (bsz (by repeat (first | (with_reducible first | exact HB.out | apply bal | apply bdn | apply bd1 | refine bst ?_ (IsS112.ge HI111.out) | refine bst ?_ GE110.out) | exact HB.out)))); have n3_ := Z0.mk (kbl (g := gb110) bk_ hb); have n4_ := Z0.mk (IsS112.below (by repeat (first | (with_reducible first | exact HI111.out | apply IsS112.alloc | apply IsS112.drewN | apply IsS112.drew | apply IsS112.set_0 | refine IsS112.farT (p := ⟨gb110, _, none⟩) (t2 := 66) ?_ ?_ (by decide) (by decide) _ | exact OutT.mk BK110.out | refine OutT.set ?_ _ _ _) | exact HI111.out)) hb); have n5_ := Z0.mk (bsp (by repeat (first | (with_reducible first | exact HB.out | apply bal | apply bdn | apply bd1 | refine bst ?_ (IsS112.ge HI111.out) | refine bst ?_ GE110.out) | exact HB.out)) hb); clear HO114; clear HO118; clear BK110; clear HI111; clear HB; have HO114 := n0_; have HO118 := n1_; have HO124 := n2_; have BK110 := n3_; have HI111 := n4_; have HB := n5_; clear n0_ n1_ n2_ n3_ n4_ n5_; clear hb ho26; have hcv27 := own_string (P := Tryz.prog) Tryz.underlying110 Tryz.underlying5 Tryz.underlying9 (Kd.own_of_R HO124.out)) | ((with_reducible refine gds (N := 25) rfl ?_); refine Kd.R_lit Kd.string _ 9 ?hg (N := 25) ?hd (xs := ([t120 ++ (strOfNums y122)] : List ByteArray)) (inner := [.string (t120 ++ (strOfNums y122))]) (ok := fun _ => True) (okp := fun _ => True) ?hr ?hp (fun _ hk => hk) trivial (Below.refl _ _) (Nat.le_refl _) (by simp) ?_; (case hd => rfl); (case hg => rfl); (case hr => first | (go_simp; done) | (go_simp; rfl)); (case hp => exact (Reps.one (show Kd.M Kd.string _ _ _ (t120 ++ (strOfNums y122)) [.string (t120 ++ (strOfNums y122))] from rfl) (Reps.none _ _))); intro v126 w28 ho29 hb hg_ hnew_; clear hg_ hnew_; (first | rw [← Ny125.out] at ho29 | (simp only [Int.reduceToNat] at ho29; rw [← Ny125.out] at ho29)); have n0_ := Z0.mk (Kd.R_below (by (with_reducible repeat (first | apply Kd.R_alloc | apply Kd.R_drewN | apply Kd.R_drew)); exact HO114.out) hb); have n1_ := Z0.mk (Kd.R_elder' (by (with_reducible repeat (first | apply Kd.R_alloc | apply Kd.R_drewN | apply Kd.R_drew)); exact HO118.out) (Kd.R_base ho29) hb); have n2_ := Z0.mk (Kd.R_below (by (with_reducible repeat (first | apply Kd.R_alloc | apply Kd.R_drewN | apply Kd.R_drew)); exact HO124.out) hb); have n3_ := Z0.mk (Kd.R_lower (Kd.R_new' ho29 (Kd.R_lt (by (with_reducible repeat (first | apply Kd.R_alloc | apply Kd.R_drewN | apply Kd.R_drew)); exact HO118.out))) (bsz (by repeat (first | (with_reducible first | exact HB.out | apply bal | apply bdn | apply bd1 | refine bst ?_ (IsS112.ge HI111.out) | refine bst ?_ GE110.out) | exact HB.out)))); have n4_ := Z0.mk (kbl (g := gb110) bk_ hb); have n5_ := Z0.mk (IsS112.below (by repeat (first | (with_reducible first | exact HI111.out | apply IsS112.alloc | apply IsS112.drewN | apply IsS112.drew | apply IsS112.set_0 | refine IsS112.farT (p := ⟨gb110, _, none⟩) (t2 := 66) ?_ ?_ (by decide) (by decide) _ | exact OutT.mk BK110.out | refine OutT.set ?_ _ _ _) | exact HI111.out)) hb); have n6_ := Z0.mk (bsp (by repeat (first | (with_reducible first | exact HB.out | apply bal | apply bdn | apply bd1 | refine bst ?_ (IsS112.ge HI111.out) | refine bst ?_ GE110.out) | exact HB.out)) hb); clear HO114; clear HO118; clear HO124; clear BK110; clear HI111; clear HB; have HO114 := n0_; have HO118 := n1_; have HO124 := n2_; have HO127 := n3_; have BK110 := n4_; have HI111 := n5_; have HB := n6_; clear n0_ n1_ n2_ n3_ n4_ n5_ n6_; clear hb ho29; obtain ⟨Ao30, co30, eo30⟩ := Kd.R_slice HO127.out; subst eo30) | ((with_reducible refine gcl (f := 18) rfl ?_); refine gl_ (some 26) rfl rfl Tryz.func18 (by kernel_rfl) rfl #[.slice Ao30 y125.length co30] rfl ar_ ?_; (with_reducible refine (crc_Of.calls k _ _ y125 t128 _ ?side1 ?side2 A9.out).mono ?_); (case side1 => repeat (first | exact (Kd.R_reads' HO127.out).2.2 | (with_reducible refine Kd.C_alloc ?_ _) | (with_reducible refine Kd.C_drewN ?_ _) | (with_reducible refine Kd.C_drew ?_))); (case side2 => exact (Kd.R_reads' HO127.out).2.1); rintro e w31 ⟨rfl, hb⟩; refine ⟨_, rfl, ?_⟩; have n0_ := Z0.mk (Kd.R_below (by (with_reducible repeat (first | apply Kd.R_alloc | apply Kd.R_drewN | apply Kd.R_drew)); exact HO114.out) hb); have n1_ := Z0.mk (Kd.R_below (by (with_reducible repeat (first | apply Kd.R_alloc | apply Kd.R_drewN | apply Kd.R_drew)); exact HO118.out) hb); have n2_ := Z0.mk (Kd.R_below (by (with_reducible repeat (first | apply Kd.R_alloc | apply Kd.R_drewN | apply Kd.R_drew)); exact HO124.out) hb); have n3_ := Z0.mk (Kd.R_below (by (with_reducible repeat (first | apply Kd.R_alloc | apply Kd.R_drewN | apply Kd.R_drew)); exact HO127.out) hb); have n4_ := Z0.mk (kbl (g := gb110) bk_ hb); have n5_ := Z0.mk (IsS112.below (by repeat (first | (with_reducible first | exact HI111.out | apply IsS112.alloc | apply IsS112.drewN | apply IsS112.drew | apply IsS112.set_0 | refine IsS112.farT (p := ⟨gb110, _, none⟩) (t2 := 66) ?_ ?_ (by decide) (by decide) _ | exact OutT.mk BK110.out | refine OutT.set ?_ _ _ _) | exact HI111.out)) hb); have n6_ := Z0.mk (bsp (by repeat (first | (with_reducible first | exact HB.out | apply bal | apply bdn | apply bd1 | refine bst ?_ (IsS112.ge HI111.out) | refine bst ?_ GE110.out) | exact HB.out)) hb); clear HO114; clear HO118; clear HO124; clear HO127; clear BK110; clear HI111; clear HB; have HO114 := n0_; have HO118 := n1_; have HO124 := n2_; have HO127 := n3_; have BK110 := n4_; have HI111 := n5_; have HB := n6_; clear n0_ n1_ n2_ n3_ n4_ n5_ n6_; (try clear hb); (try clear hb2); (try clear hk); (try clear hi)) | ((with_reducible refine gcl (f := 45) rfl ?_); refine gl_ (some 27) rfl rfl Tryz.func45 (by kernel_rfl) rfl #[.int .u32 t128] rfl ar_ ?_; (with_reducible refine (crc_Bytes.calls t128 t129 _ A10.out).mono ?_); rintro e w32 ⟨rfl, hb⟩; refine ⟨_, rfl, ?_⟩; have n0_ := Z0.mk (Kd.R_below (by (with_reducible repeat (first | apply Kd.R_alloc | apply Kd.R_drewN | apply Kd.R_drew)); exact HO114.out) hb); have n1_ := Z0.mk (Kd.R_below (by (with_reducible repeat (first | apply Kd.R_alloc | apply Kd.R_drewN | apply Kd.R_drew)); exact HO118.out) hb); have n2_ := Z0.mk (Kd.R_below (by (with_reducible repeat (first | apply Kd.R_alloc | apply Kd.R_drewN | apply Kd.R_drew)); exact HO124.out) hb); have n3_ := Z0.mk (Kd.R_below (by (with_reducible repeat (first | apply Kd.R_alloc | apply Kd.R_drewN | apply Kd.R_drew)); exact HO127.out) hb); have n4_ := Z0.mk (kbl (g := gb110) bk_ hb); have n5_ := Z0.mk (IsS112.below (by repeat (first | (with_reducible first | exact HI111.out | apply IsS112.alloc | apply IsS112.drewN | apply IsS112.drew | apply IsS112.set_0 | refine IsS112.farT (p := ⟨gb110, _, none⟩) (t2 := 66) ?_ ?_ (by decide) (by decide) _ | exact OutT.mk BK110.out | refine OutT.set ?_ _ _ _) | exact HI111.out)) hb); have n6_ := Z0.mk (bsp (by repeat (first | (with_reducible first | exact HB.out | apply bal | apply bdn | apply bd1 | refine bst ?_ (IsS112.ge HI111.out) | refine bst ?_ GE110.out) | exact HB.out)) hb); clear HO114; clear HO118; clear HO124; clear HO127; clear BK110; clear HI111; clear HB; have HO114 := n0_; have HO118 := n1_; have HO124 := n2_; have HO127 := n3_; have BK110 := n4_; have HI111 := n5_; have HB := n6_; clear n0_ n1_ n2_ n3_ n4_ n5_ n6_; (try clear hb); (try clear hb2); (try clear hk); (try clear hi)))
  go_ret
  exact ⟨by first | rfl | (simp [errW_none, errW_some] <;> rfl) | (simp only [← hji5]; first | rfl | (simp [errW_none, errW_some] <;> rfl)) | (simp [*, errW_none, errW_some] <;> rfl), by repeat (first | (with_reducible first | exact HB.out | apply bal | apply bdn | apply bd1 | refine bst ?_ (IsS112.ge HI111.out) | refine bst ?_ GE110.out) | exact HB.out)⟩
end Go.Proofs.YtjiblcncadekcaaGreat.PA

