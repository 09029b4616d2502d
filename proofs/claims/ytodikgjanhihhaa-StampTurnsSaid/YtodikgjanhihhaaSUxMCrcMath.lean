namespace Go.Proofs.Ytodikgjanhihhaa.CrcM
def poly : Nat := 3988292384
def bstep (n : Nat) : Nat := n / 2 ^^^ (if n % 2 = 1 then poly else 0)
def iter : Nat → Nat → Nat
  | 0, n => n
  | k + 1, n => iter k (bstep n)
def byteStep (n c : Nat) : Nat := iter 8 (n ^^^ c)
def run (n : Nat) (l : List UInt8) : Nat := l.foldl (fun n c => byteStep n c.toNat) n
def sum (l : List UInt8) : Nat := 4294967295 ^^^ run 4294967295 l
def num : List UInt8 → Nat
  | [] => 0
  | c :: l => c.toNat ^^^ (num l <<< 8)
theorem div2_xor (a b : Nat) : (a ^^^ b) / 2 = a / 2 ^^^ b / 2 := by
  have := Nat.shiftRight_xor_distrib (a := a) (b := b) (i := 1)
  simpa [Nat.shiftRight_eq_div_pow] using this
theorem mod2_xor (a b : Nat) : (a ^^^ b) % 2 = (a % 2 + b % 2) % 2 := by
  have := Nat.xor_mod_two_pow (a := a) (b := b) (n := 1)
  simp only [Nat.pow_one] at this
  rw [this]
  rcases Nat.mod_two_eq_zero_or_one a with ha | ha <;> rcases Nat.mod_two_eq_zero_or_one b with hb | hb <;> simp [ha, hb]
theorem xor_swap (a b c d : Nat) : (a ^^^ b) ^^^ (c ^^^ d) = (a ^^^ c) ^^^ (b ^^^ d) := by
  rw [Nat.xor_assoc, Nat.xor_assoc, ← Nat.xor_assoc b c d, Nat.xor_comm b c, Nat.xor_assoc c b d]
theorem bstep_xor (a b : Nat) : bstep (a ^^^ b) = bstep a ^^^ bstep b := by
  unfold bstep
  rw [div2_xor, mod2_xor, xor_swap]
  congr 1
  rcases Nat.mod_two_eq_zero_or_one a with ha | ha <;> rcases Nat.mod_two_eq_zero_or_one b with hb | hb <;> simp [ha, hb]
theorem iter_xor (k : Nat) : ∀ a b, iter k (a ^^^ b) = iter k a ^^^ iter k b := by
  induction k with
  | zero => intro a b; rfl
  | succ k ih => intro a b; simp only [iter, bstep_xor, ih]
theorem bstep_two (x : Nat) : bstep (2 * x) = x := by
  unfold bstep
  rw [if_neg (by omega), show 2 * x / 2 = x by omega, Nat.xor_zero]
theorem iter_pow (k : Nat) : ∀ x, iter k (2 ^ k * x) = x := by
  induction k with
  | zero => intro x; simp [iter]
  | succ k ih =>
    intro x
    rw [iter, show 2 ^ (k + 1) * x = 2 * (2 ^ k * x) by rw [Nat.pow_succ]; simp only [Nat.mul_comm, Nat.mul_left_comm], bstep_two, ih]
theorem iter_add (a : Nat) : ∀ b x, iter (a + b) x = iter b (iter a x) := by
  induction a with
  | zero => intro b x; simp [iter]
  | succ a ih => intro b x; rw [show a + 1 + b = (a + b) + 1 by omega, iter, iter, ih]
theorem poly_lt : poly < 2 ^ 32 := by decide
theorem bstep_lt (x : Nat) (h : x < 2 ^ 32) : bstep x < 2 ^ 32 := by
  unfold bstep
  refine Nat.xor_lt_two_pow (by omega) ?_
  split
  · exact poly_lt
  · decide
theorem iter_lt (k : Nat) : ∀ x, x < 2 ^ 32 → iter k x < 2 ^ 32 := by
  induction k with
  | zero => intro x h; exact h
  | succ k ih => intro x h; exact ih _ (bstep_lt x h)
theorem bstep_eq_zero (x : Nat) (h : x < 2 ^ 32) (hz : bstep x = 0) : x = 0 := by
  unfold bstep at hz
  rcases Nat.mod_two_eq_zero_or_one x with hx | hx
  · rw [if_neg (by omega), Nat.xor_zero] at hz
    omega
  · rw [if_pos hx] at hz
    have e : x / 2 = poly := by
      have : (x / 2 ^^^ poly) ^^^ poly = 0 ^^^ poly := by rw [hz]
      rwa [Nat.xor_assoc, Nat.xor_self, Nat.xor_zero, Nat.zero_xor] at this
    unfold poly at e
    omega
theorem iter_eq_zero (k : Nat) : ∀ x, x < 2 ^ 32 → iter k x = 0 → x = 0 := by
  induction k with
  | zero => intro x _ h; exact h
  | succ k ih => intro x h hz; exact bstep_eq_zero x h (ih _ (bstep_lt x h) hz)
theorem shl8 (x : Nat) : x <<< 8 = 2 ^ 8 * x := by rw [Nat.shiftLeft_eq, Nat.mul_comm]
theorem run_iter (l : List UInt8) : ∀ n, run n l = iter (8 * l.length) (n ^^^ num l) := by
  induction l with
  | nil => intro n; simp [run, num, iter]
  | cons c l ih =>
    intro n
    have h1 : run n (c :: l) = run (byteStep n c.toNat) l := rfl
    rw [h1, ih, show 8 * (c :: l).length = 8 + 8 * l.length by simp; omega, iter_add]
    congr 1
    unfold byteStep
    rw [num, ← Nat.xor_assoc, iter_xor 8 (n ^^^ c.toNat), shl8, iter_pow]
theorem run_lt (n : Nat) (l : List UInt8) (h : n < 2 ^ 32) : run n l < 2 ^ 32 := by
  induction l generalizing n with
  | nil => exact h
  | cons c l ih => exact ih _ (iter_lt 8 _ (Nat.xor_lt_two_pow h (Nat.lt_trans c.toNat_lt (by decide))))
theorem sum_lt (l : List UInt8) : sum l < 2 ^ 32 := Nat.xor_lt_two_pow (by decide) (run_lt _ l (by decide))
theorem run_append (n : Nat) (l m : List UInt8) : run n (l ++ m) = run (run n l) m := by simp [run, List.foldl_append]
theorem num_inj (l : List UInt8) : ∀ m, l.length = m.length → num l = num m → l = m := by
  induction l with
  | nil => intro m h _; cases m with | nil => rfl | cons => simp at h
  | cons c l ih =>
    intro m h he
    cases m with
    | nil => simp at h
    | cons d m =>
      simp only [num] at he
      have k1 : ∀ (x : UInt8) (y : Nat), (x.toNat ^^^ (y <<< 8)) % 2 ^ 8 = x.toNat := by
        intro x y
        rw [Nat.xor_mod_two_pow, shl8, Nat.mul_mod_right, Nat.xor_zero, Nat.mod_eq_of_lt x.toNat_lt]
      have k2 : ∀ (x : UInt8) (y : Nat), (x.toNat ^^^ (y <<< 8)) >>> 8 = y := by
        intro x y
        rw [Nat.shiftRight_xor_distrib, Nat.shiftLeft_shiftRight, Nat.shiftRight_eq_div_pow, Nat.div_eq_of_lt x.toNat_lt, Nat.zero_xor]
      have e1 : c.toNat = d.toNat := by rw [← k1 c (num l), ← k1 d (num m), he]
      have e2 : num l = num m := by rw [← k2 c (num l), ← k2 d (num m), he]
      rw [UInt8.toNat_inj.1 e1, ih m (by simpa using h) e2]
theorem num_set (l : List UInt8) : ∀ (i : Nat) (x : UInt8), i < l.length → num (l.set i (l.getD i 0 ^^^ x)) = num l ^^^ (x.toNat <<< (8 * i)) := by
  induction l with
  | nil => intro i x h; simp at h
  | cons c l ih =>
    intro i x h
    cases i with
    | zero =>
      simp only [List.set_cons_zero, List.getD_cons_zero, num, UInt8.toNat_xor, Nat.mul_zero, Nat.shiftLeft_zero]
      rw [Nat.xor_assoc, Nat.xor_comm x.toNat, ← Nat.xor_assoc]
    | succ i =>
      simp only [List.set_cons_succ, List.getD_cons_succ, num]
      rw [ih i x (by simpa using h), Nat.shiftLeft_xor_distrib, Nat.xor_assoc, ← Nat.shiftLeft_add, show 8 * i + 8 = 8 * (i + 1) by omega]
theorem xor_cancel {a b c : Nat} (h : a ^^^ b = a ^^^ c) : b = c := by
  have := congrArg (fun z => a ^^^ z) h
  simpa [← Nat.xor_assoc, Nat.xor_self] using this
theorem sum_burst (l m : List UInt8) (p e : Nat) (hl : l.length = m.length) (hp : p ≤ 8 * l.length) (he : e < 2 ^ 32) (hx : num m = num l ^^^ (e <<< p)) :
    sum m = sum l ↔ m = l := by
  refine ⟨fun h => ?_, fun h => by rw [h]⟩
  have h1 : run 4294967295 m = run 4294967295 l := xor_cancel h
  rw [run_iter, run_iter, ← hl, hx, ← Nat.xor_assoc, iter_xor _ (4294967295 ^^^ num l)] at h1
  have h2 : iter (8 * l.length) (e <<< p) = 0 := by
    have := congrArg (fun z => iter (8 * l.length) (4294967295 ^^^ num l) ^^^ z) h1
    simpa [← Nat.xor_assoc, Nat.xor_self] using this
  rw [show 8 * l.length = p + (8 * l.length - p) by omega, iter_add, Nat.shiftLeft_eq, Nat.mul_comm e, iter_pow] at h2
  have h3 := iter_eq_zero _ e he h2
  rw [h3] at hx
  simp at hx
  exact num_inj m l hl.symm hx
end Go.Proofs.Ytodikgjanhihhaa.CrcM

