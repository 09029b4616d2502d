namespace Go.Proofs.Ytodikgjanhihhaa.CrcM
def poly : Nat := 3988292384
def bstep (n : Nat) : Nat := n / 2 ^^^ (if n % 2 = 1 then poly else 0)
def iter : Nat → Nat → Nat
  | 0, n => n
  | k + 1, n => iter k (bstep n)
def byteStep (n c : Nat) : Nat := iter 8 (n ^^^ c)
def run (n : Nat) (l : List UInt8) : Nat := l.foldl (fun n c => byteStep n c.toNat) n
def sum (l : List UInt8) : Nat := 4294967295 ^^^ run 4294967295 l
theorem div2_xor (a b : Nat) : (a ^^^ b) / 2 = a / 2 ^^^ b / 2 := by
  have := Nat.shiftRight_xor_distrib (a := a) (b := b) (i := 1)
  simpa [Nat.shiftRight_eq_div_pow] using this
theorem mod2_xor (a b : Nat) : (a ^^^ b) % 2 = (a % 2 + b % 2) % 2 := by
  have := Nat.xor_mod_two_pow (a := a) (b := b) (n := 1)
  simp only [Nat.pow_one] at this
  rw [this]
  rcases Nat.mod_two_eq_zero_or_one a with ha | ha <;> rcases Nat.mod_two_eq_zero_or_one b with hb | hb <;> simp [ha, hb]
theorem poly_lt : poly < 2 ^ 32 := by decide
theorem poly_lt32 : poly < 4294967296 := by decide
theorem xor_lt32 {a b : Nat} (ha : a < 4294967296) (hb : b < 4294967296) : a ^^^ b < 4294967296 := by
  rw [show 4294967296 = 2 ^ 32 by decide] at *
  exact Nat.xor_lt_two_pow ha hb
theorem bstep_lt (x : Nat) (h : x < 2 ^ 32) : bstep x < 2 ^ 32 := by
  unfold bstep
  refine Nat.xor_lt_two_pow (by omega) ?_
  split
  · exact poly_lt
  · decide
theorem iter_lt (k : Nat) : ∀ x, x < 2 ^ 32 → iter k x < 2 ^ 32 := by
  induction k with
  | zero => intro x h; exact h
  | succ k ih => intro x h; exact ih _ (bstep_lt x h)
theorem run_lt (n : Nat) (l : List UInt8) (h : n < 2 ^ 32) : run n l < 2 ^ 32 := by
  induction l generalizing n with
  | nil => exact h
  | cons c l ih => exact ih _ (iter_lt 8 _ (Nat.xor_lt_two_pow h (Nat.lt_trans c.toNat_lt (by decide))))
theorem sum_lt (l : List UInt8) : sum l < 2 ^ 32 := Nat.xor_lt_two_pow (by decide) (run_lt _ l (by decide))
theorem run_append (n : Nat) (l m : List UInt8) : run n (l ++ m) = run (run n l) m := by simp [run, List.foldl_append]
end Go.Proofs.Ytodikgjanhihhaa.CrcM

