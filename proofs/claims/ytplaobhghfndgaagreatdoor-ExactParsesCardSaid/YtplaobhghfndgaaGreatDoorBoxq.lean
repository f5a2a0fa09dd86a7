/-! Boxes: plain facts over rational numbers. -/
namespace Go.Proofs.Vc
def minQ (p q : Rat) : Rat := if q < p then q else p
def maxQ (p q : Rat) : Rat := if p < q then q else p
theorem minQ_le_l (p q : Rat) : minQ p q ≤ p := by unfold minQ; split <;> grind
theorem minQ_le_r (p q : Rat) : minQ p q ≤ q := by unfold minQ; split <;> grind
theorem le_maxQ_l (p q : Rat) : p ≤ maxQ p q := by unfold maxQ; split <;> grind
theorem le_maxQ_r (p q : Rat) : q ≤ maxQ p q := by unfold maxQ; split <;> grind
theorem minQ_or (p q : Rat) : minQ p q = p ∨ minQ p q = q := by unfold minQ; split <;> simp
theorem maxQ_or (p q : Rat) : maxQ p q = p ∨ maxQ p q = q := by unfold maxQ; split <;> simp
/-- A product lies between those at the ends. -/
theorem mul_between {a b t y : Rat} (h1 : a ≤ t) (h2 : t ≤ b) : minQ (a * y) (b * y) ≤ t * y ∧ t * y ≤ maxQ (a * y) (b * y) := by
  have m1 := minQ_le_l (a * y) (b * y)
  have m2 := minQ_le_r (a * y) (b * y)
  have m3 := le_maxQ_l (a * y) (b * y)
  have m4 := le_maxQ_r (a * y) (b * y)
  rcases Rat.le_total (a := 0) (b := y) with hy | hy
  · have e1 := Rat.mul_nonneg (show (0 : Rat) ≤ t - a by grind) hy
    have e2 := Rat.mul_nonneg (show (0 : Rat) ≤ b - t by grind) hy
    grind
  · have e1 := Rat.mul_nonneg (show (0 : Rat) ≤ t - a by grind) (show (0 : Rat) ≤ -y by grind)
    have e2 := Rat.mul_nonneg (show (0 : Rat) ≤ b - t by grind) (show (0 : Rat) ≤ -y by grind)
    grind
/-- The least and the greatest of four. -/
def min4 (a b c d : Rat) : Rat := minQ (minQ (minQ a b) c) d
def max4 (a b c d : Rat) : Rat := maxQ (maxQ (maxQ a b) c) d
theorem min4_le (a b c d : Rat) : min4 a b c d ≤ a ∧ min4 a b c d ≤ b ∧ min4 a b c d ≤ c ∧ min4 a b c d ≤ d := by
  unfold min4
  have h1 := minQ_le_l (minQ (minQ a b) c) d
  have h2 := minQ_le_r (minQ (minQ a b) c) d
  have h3 := minQ_le_l (minQ a b) c
  have h4 := minQ_le_r (minQ a b) c
  have h5 := minQ_le_l a b
  have h6 := minQ_le_r a b
  grind
theorem le_max4 (a b c d : Rat) : a ≤ max4 a b c d ∧ b ≤ max4 a b c d ∧ c ≤ max4 a b c d ∧ d ≤ max4 a b c d := by
  unfold max4
  have h1 := le_maxQ_l (maxQ (maxQ a b) c) d
  have h2 := le_maxQ_r (maxQ (maxQ a b) c) d
  have h3 := le_maxQ_l (maxQ a b) c
  have h4 := le_maxQ_r (maxQ a b) c
  have h5 := le_maxQ_l a b
  have h6 := le_maxQ_r a b
  grind
theorem min4_or (a b c d : Rat) : min4 a b c d = a ∨ min4 a b c d = b ∨ min4 a b c d = c ∨ min4 a b c d = d := by
  unfold min4
  rcases minQ_or (minQ (minQ a b) c) d with h | h <;> rcases minQ_or (minQ a b) c with h1 | h1 <;> rcases minQ_or a b with h2 | h2 <;> simp_all
theorem max4_or (a b c d : Rat) : max4 a b c d = a ∨ max4 a b c d = b ∨ max4 a b c d = c ∨ max4 a b c d = d := by
  unfold max4
  rcases maxQ_or (maxQ (maxQ a b) c) d with h | h <;> rcases maxQ_or (maxQ a b) c with h1 | h1 <;> rcases maxQ_or a b with h2 | h2 <;> simp_all
/-- The box of products. -/
theorem mul_box {a b c d x y : Rat} (h1 : a ≤ x) (h2 : x ≤ b) (h3 : c ≤ y) (h4 : y ≤ d) :
    min4 (a * c) (a * d) (b * c) (b * d) ≤ x * y ∧ x * y ≤ max4 (a * c) (a * d) (b * c) (b * d) := by
  have e1 := mul_between (y := y) h1 h2
  have e2 := mul_between (y := a) h3 h4
  have e3 := mul_between (y := b) h3 h4
  have f1 := min4_le (a * c) (a * d) (b * c) (b * d)
  have f2 := le_max4 (a * c) (a * d) (b * c) (b * d)
  have g1 := minQ_or (a * y) (b * y)
  have g2 := maxQ_or (a * y) (b * y)
  have g3 := minQ_or (c * a) (d * a)
  have g4 := maxQ_or (c * a) (d * a)
  have g5 := minQ_or (c * b) (d * b)
  have g6 := maxQ_or (c * b) (d * b)
  have k1 : c * a = a * c := Rat.mul_comm _ _
  have k2 : d * a = a * d := Rat.mul_comm _ _
  have k3 : c * b = b * c := Rat.mul_comm _ _
  have k4 : d * b = b * d := Rat.mul_comm _ _
  have k5 : y * a = a * y := Rat.mul_comm _ _
  have k6 : y * b = b * y := Rat.mul_comm _ _
  rw [k1, k2, k5] at e2
  rw [k3, k4, k6] at e3
  rw [k1, k2] at g3 g4
  rw [k3, k4] at g5 g6
  generalize a * c = ac at *
  generalize a * d = ad at *
  generalize b * c = bc at *
  generalize b * d = bd at *
  generalize a * y = ay at *
  generalize b * y = b_y at *
  generalize x * y = xy at *
  generalize minQ ac ad = m1 at *
  generalize maxQ ac ad = m2 at *
  generalize minQ bc bd = m3 at *
  generalize maxQ bc bd = m4 at *
  generalize minQ ay b_y = m5 at *
  generalize maxQ ay b_y = m6 at *
  generalize min4 ac ad bc bd = lo at *
  generalize max4 ac ad bc bd = hi at *
  obtain ⟨f11, f12, f13, f14⟩ := f1
  obtain ⟨f21, f22, f23, f24⟩ := f2
  have j1 : lo ≤ m1 := by rcases g3 with h | h <;> rw [h] <;> assumption
  have j2 : lo ≤ m3 := by rcases g5 with h | h <;> rw [h] <;> assumption
  have j3 : m2 ≤ hi := by rcases g4 with h | h <;> rw [h] <;> assumption
  have j4 : m4 ≤ hi := by rcases g6 with h | h <;> rw [h] <;> assumption
  have j5 : lo ≤ m5 := by rcases g1 with h | h <;> rw [h] <;> grind
  have j6 : m6 ≤ hi := by rcases g2 with h | h <;> rw [h] <;> grind
  grind
theorem inv_between {c d y : Rat} (hcd : 0 < c ∨ d < 0) (h3 : c ≤ y) (h4 : y ≤ d) : 1 / d ≤ 1 / y ∧ 1 / y ≤ 1 / c := by
  have key : ∀ u v : Rat, (0 < u ∨ v < 0) → u ≤ v → 1 / v ≤ 1 / u := by
    intro u v h huv
    have hu : u ≠ 0 := by grind
    have hv : v ≠ 0 := by grind
    have hpos : 0 < u * v := by
      rcases h with h | h
      · exact Rat.mul_pos h (by grind)
      · have := Rat.mul_pos (show (0 : Rat) < -u by grind) (show (0 : Rat) < -v by grind); grind
    have h1 : 1 / u - 1 / v = (v - u) * (1 / (u * v)) := by grind
    have h2 : 0 ≤ 1 / (u * v) := by
      rw [Rat.div_def, Rat.one_mul]; exact Rat.le_of_lt (Rat.inv_pos.2 hpos)
    have h3 := Rat.mul_nonneg (show (0 : Rat) ≤ v - u by grind) h2
    grind
  exact ⟨key y d (by grind) h4, key c y (by grind) h3⟩
/-- The box of quotients. -/
theorem div_box {a b c d x y : Rat} (hcd : 0 < c ∨ d < 0) (h1 : a ≤ x) (h2 : x ≤ b) (h3 : c ≤ y) (h4 : y ≤ d) :
    min4 (a / c) (a / d) (b / c) (b / d) ≤ x / y ∧ x / y ≤ max4 (a / c) (a / d) (b / c) (b / d) := by
  obtain ⟨e1, e2⟩ := inv_between hcd h3 h4
  obtain ⟨e3, e4⟩ := mul_box h1 h2 e1 e2
  have k : ∀ u v : Rat, u * (1 / v) = u / v := fun u v => by rw [Rat.div_def, Rat.div_def, Rat.one_mul]
  rw [k, k, k, k, k] at e3 e4
  have f1 := min4_le (a / c) (a / d) (b / c) (b / d)
  have f2 := le_max4 (a / c) (a / d) (b / c) (b / d)
  have f3 := min4_or (a / d) (a / c) (b / d) (b / c)
  have f4 := max4_or (a / d) (a / c) (b / d) (b / c)
  generalize min4 (a / d) (a / c) (b / d) (b / c) = m at *
  generalize max4 (a / d) (a / c) (b / d) (b / c) = n at *
  obtain ⟨f11, f12, f13, f14⟩ := f1
  obtain ⟨f21, f22, f23, f24⟩ := f2
  refine ⟨Rat.le_trans ?_ e3, Rat.le_trans e4 ?_⟩
  · rcases f3 with h | h | h | h <;> rw [h] <;> assumption
  · rcases f4 with h | h | h | h <;> rw [h] <;> assumption
theorem pow_nonneg' {a : Rat} (h : 0 ≤ a) (n : Nat) : 0 ≤ a ^ n := by
  induction n with
  | zero => rw [Rat.pow_zero]; decide
  | succ n ih => rw [Rat.pow_succ]; exact Rat.mul_nonneg ih h
theorem pow_mono {a b : Rat} (h0 : 0 ≤ a) (h : a ≤ b) (n : Nat) : a ^ n ≤ b ^ n := by
  induction n with
  | zero => rw [Rat.pow_zero, Rat.pow_zero]; exact Rat.le_refl
  | succ n ih =>
    rw [Rat.pow_succ, Rat.pow_succ]
    have h1 := Rat.mul_nonneg (show (0 : Rat) ≤ b ^ n - a ^ n by grind) (show (0 : Rat) ≤ b by grind)
    have h2 := Rat.mul_nonneg (pow_nonneg' h0 n) (show (0 : Rat) ≤ b - a by grind)
    grind
theorem pow_neg (a : Rat) (n : Nat) : (-a) ^ (2 * n) = a ^ (2 * n) ∧ (-a) ^ (2 * n + 1) = -(a ^ (2 * n + 1)) := by
  induction n with
  | zero => simp [Rat.pow_succ, Rat.pow_zero]
  | succ n ih =>
    have e1 : (-a) ^ (2 * (n + 1)) = a ^ (2 * (n + 1)) := by
      rw [show 2 * (n + 1) = 2 * n + 1 + 1 from by omega, Rat.pow_succ, ih.2, Rat.pow_succ a (2 * n + 1)]; grind
    exact ⟨e1, by rw [Rat.pow_succ, e1, Rat.pow_succ]; grind⟩
theorem pow_mono_odd {a b : Rat} (h : a ≤ b) (k : Nat) : a ^ (2 * k + 1) ≤ b ^ (2 * k + 1) := by
  rcases Rat.le_total (a := 0) (b := a) with ha | ha
  · exact pow_mono ha h _
  · rcases Rat.le_total (a := 0) (b := b) with hb | hb
    · have h1 := pow_nonneg' hb (2 * k + 1)
      have h2 := pow_nonneg' (show (0 : Rat) ≤ -a by grind) (2 * k + 1)
      rw [(pow_neg a k).2] at h2
      grind
    · have h1 := pow_mono (show (0 : Rat) ≤ -b by grind) (show -b ≤ -a by grind) (2 * k + 1)
      rw [(pow_neg a k).2, (pow_neg b k).2] at h1
      grind
end Go.Proofs.Vc
