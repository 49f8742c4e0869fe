namespace Go.Proofs.Ytnompdckpenfgaa.Vw

/-- The number of n bits that f tells. -/
def ob (f : Nat → Bool) : Nat → Nat
  | 0 => 0
  | n + 1 => ob f n + (if f n then 2 ^ n else 0)

theorem ob_lt (f : Nat → Bool) (n : Nat) : ob f n < 2 ^ n := by
  induction n with
  | zero => simp [ob]
  | succ n ih => simp only [ob]; rw [Nat.pow_succ]; split <;> omega

theorem testBit_ob (f : Nat → Bool) (n i : Nat) : (ob f n).testBit i = (decide (i < n) && f i) := by
  induction n with
  | zero => simp [ob]
  | succ n ih =>
    simp only [ob]
    have hl := ob_lt f n
    cases hf : f n with
    | false =>
      simp only [Bool.false_eq_true, if_false, Nat.add_zero, ih]
      by_cases h : i = n
      · subst h; simp [hf]
      · have : (decide (i < n)) = decide (i < n + 1) := by
          apply decide_eq_decide.2; omega
        rw [this]
    | true =>
      simp only [if_true]
      rw [Nat.add_comm, ]
      by_cases h : i = n
      · subst h; rw [Nat.testBit_two_pow_add_eq, Nat.testBit_lt_two_pow hl]; simp [hf]
      · by_cases h2 : i < n
        · rw [Nat.testBit_two_pow_add_gt h2, ih]
          simp [h2, Nat.lt_succ_of_lt h2]
        · have h3 : 2 ^ n + ob f n < 2 ^ i := by
            have : 2 ^ (n + 1) ≤ 2 ^ i := Nat.pow_le_pow_right (by decide) (by omega)
            rw [Nat.pow_succ] at this; omega
          rw [Nat.testBit_lt_two_pow h3]
          have : ¬ i < n + 1 := by omega
          simp [this]

theorem eq_of_bits {x y n : Nat} (hx : x < 2 ^ n) (hy : y < 2 ^ n) (h : ∀ i, i < n → x.testBit i = y.testBit i) : x = y := by
  apply Nat.eq_of_testBit_eq
  intro i
  by_cases hi : i < n
  · exact h i hi
  · have : 2 ^ n ≤ 2 ^ i := Nat.pow_le_pow_right (by decide) (by omega)
    rw [Nat.testBit_lt_two_pow (by omega), Nat.testBit_lt_two_pow (by omega)]

theorem ob_testBit {x n : Nat} (h : x < 2 ^ n) : ob x.testBit n = x :=
  eq_of_bits (ob_lt _ _) h fun i hi => by rw [testBit_ob]; simp [hi]

/-- One bit as a number. -/
def bi (b : Bool) : Int := if b then 1 else 0
theorem bi_range (b : Bool) : 0 ≤ bi b ∧ bi b ≤ 1 := by cases b <;> simp [bi]
theorem bi_eq_one (b : Bool) : bi b = 1 ↔ b = true := by cases b <;> simp [bi]

/-- The list of n bits that f tells. -/
def bl (f : Nat → Bool) (n : Nat) : List Int := (List.range n).map fun i => bi (f i)
theorem bl_length (f : Nat → Bool) (n : Nat) : (bl f n).length = n := by simp [bl]
theorem bl_zero (f : Nat → Bool) : bl f 0 = [] := rfl
theorem bl_succ (f : Nat → Bool) (n : Nat) : bl f (n + 1) = bl f n ++ [bi (f n)] := by simp [bl, List.range_succ]
theorem bl_get (f : Nat → Bool) (n i : Nat) (h : i < n) : (bl f n).getD i 0 = bi (f i) := by
  simp [bl, List.getD, h]
theorem bl_set (f : Nat → Bool) (n i : Nat) (b : Bool) : (bl f n).set i (bi b) = bl (fun j => if j = i then b else f j) n := by
  apply List.ext_getElem
  · simp [bl]
  · intro j h1 h2
    simp only [List.getElem_set, bl, List.getElem_map, List.getElem_range]
    by_cases h : i = j
    · subst h; simp
    · have : ¬ j = i := fun e => h e.symm
      simp [h, this]
theorem bl_congr {f g : Nat → Bool} {n : Nat} (h : ∀ i, i < n → f i = g i) : bl f n = bl g n := by
  unfold bl
  apply List.map_congr_left
  intro i hi
  rw [h i (by simpa using hi)]
theorem ob_congr {f g : Nat → Bool} {n : Nat} (h : ∀ i, i < n → f i = g i) : ob f n = ob g n :=
  eq_of_bits (ob_lt _ _) (ob_lt _ _) fun i hi => by rw [testBit_ob, testBit_ob, h i hi]

/-- One bit of a number. -/
theorem bit_at (x i : Nat) : ((x / 2 ^ i % 2 : Nat) : Int) = bi (x.testBit i) := by
  rw [Nat.testBit_eq_decide_div_mod_eq]
  have := Nat.mod_two_eq_zero_or_one (x / 2 ^ i)
  rcases this with h | h <;> simp [h, bi]
theorem bit_at_int (x : Nat) (i : Nat) : (((x / 2 ^ i : Nat) : Int) % 2) = bi (x.testBit i) := by
  rw [← bit_at]; simp
theorem div_step (x i : Nat) : x / 2 ^ i = x / 2 ^ (i + 1) * 2 + x / 2 ^ i % 2 := by
  rw [Nat.pow_succ, ← Nat.div_div_eq_div_mul]; omega
theorem div_next (x i : Nat) : x / 2 ^ i / 2 = x / 2 ^ (i + 1) := by
  rw [Nat.pow_succ, ← Nat.div_div_eq_div_mul]
end Go.Proofs.Ytnompdckpenfgaa.Vw
