/-! Rational numbers as fractions with a sign: plain facts, no program in sight. -/
set_option linter.unusedVariables false
set_option linter.unusedSimpArgs false
namespace Go.Proofs.Vc
def sg (m : Bool) (a : Nat) : Int := if m then -(a : Int) else a
theorem sg_abs (m : Bool) (a : Nat) : (sg m a).natAbs = a := by cases m <;> simp [sg]
theorem sg_neg (m : Bool) (a : Nat) : decide (sg m a < 0) = (m && decide (0 < a)) := by
  cases m
  · simp only [sg, Bool.false_and, decide_eq_false_iff_not]; simp
  · rw [Bool.true_and]; simp only [sg, if_true]; congr 1; apply propext; omega
theorem sg_self (z : Int) : sg (decide (z < 0)) z.natAbs = z := by
  unfold sg
  rcases Int.lt_or_le z 0 with h | h
  · rw [if_pos (by simpa using h)]; omega
  · rw [if_neg (by simpa using h)]; omega
/-- A fraction of numbers that are not negative, with a sign. -/
def rat (m : Bool) (a b : Nat) : Rat := mkRat (sg m a) b
theorem rat_abs {m : Bool} {a b : Nat} (hb : b ≠ 0) : (rat m a b).num.natAbs = a / Nat.gcd a b := by
  unfold rat
  rw [Rat.num_mkRat, if_neg hb, sg_abs, Nat.gcd_comm]
  rw [Int.natAbs_ediv_of_dvd, sg_abs, Int.natAbs_natCast]
  cases m <;> simp only [sg]
  · exact Int.natCast_dvd_natCast.2 (Nat.gcd_dvd_left _ _)
  · exact Int.dvd_neg.2 (Int.natCast_dvd_natCast.2 (Nat.gcd_dvd_left _ _))
theorem rat_den {m : Bool} {a b : Nat} (hb : b ≠ 0) : (rat m a b).den = b / Nat.gcd a b := by
  unfold rat
  rw [Rat.den_mkRat, if_neg hb, sg_abs, Nat.gcd_comm]
theorem rat_minus {m : Bool} {a b : Nat} (hb : b ≠ 0) : decide ((rat m a b).num < 0) = (m && decide (0 < a / Nat.gcd a b)) := by
  rw [← rat_abs (m := m) hb]
  have h1 : (rat m a b).num = sg m a / (Nat.gcd a b : Nat) := by unfold rat; rw [Rat.num_mkRat, if_neg hb, sg_abs, Nat.gcd_comm]
  have hg : 0 < Nat.gcd a b := Nat.gcd_pos_of_pos_right _ (by omega)
  have hd := Nat.gcd_dvd_left a b
  obtain ⟨c, hc⟩ := hd
  have h2 : sg m a / (Nat.gcd a b : Nat) = sg m c := by
    cases m <;> simp only [sg]
    · rw [if_neg (by decide), if_neg (by decide)]
      conv => lhs; arg 1; rw [hc]
      rw [Int.natCast_mul]
      exact Int.mul_ediv_cancel_left _ (by omega)
    · simp only [if_true]
      conv => lhs; arg 1; rw [hc]
      rw [Int.natCast_mul, ← Int.mul_neg]
      exact Int.mul_ediv_cancel_left _ (by omega)
  rw [h1, h2, sg_abs, sg_neg]
theorem rat_self (q : Rat) : rat (decide (q.num < 0)) q.num.natAbs q.den = q := by
  unfold rat; rw [sg_self]; exact Rat.mkRat_self q
theorem rat_eq (m : Bool) (a b : Nat) : rat m a b = (if m then -(a : Rat) else a) / b := by
  unfold rat
  rw [Rat.mkRat_eq_div]
  cases m <;> simp [sg, Rat.intCast_neg, Rat.intCast_natCast]
theorem cast_ne {b : Nat} (hb : b ≠ 0) : (b : Rat) ≠ 0 := by simpa using hb
theorem rat_scale (m : Bool) (a : Nat) {b c : Nat} (hb : b ≠ 0) (hc : c ≠ 0) : rat m (a * c) (b * c) = rat m a b := by
  rw [rat_eq, rat_eq, Rat.natCast_mul, Rat.natCast_mul]
  have h1 := cast_ne hb
  have h2 := cast_ne hc
  cases m <;> simp only [if_true, Bool.false_eq_true, if_false] <;> grind
theorem rat_add (m : Bool) (a b : Nat) {d : Nat} (hd : d ≠ 0) : rat m a d + rat m b d = rat m (a + b) d := by
  rw [rat_eq, rat_eq, rat_eq, Rat.natCast_add]
  have h1 := cast_ne hd
  cases m <;> simp only [if_true, Bool.false_eq_true, if_false] <;> grind
theorem rat_sub (m : Bool) {a b d : Nat} (hba : b ≤ a) (hd : d ≠ 0) : rat m a d + rat (!m) b d = rat m (a - b) d := by
  obtain ⟨c, rfl⟩ : ∃ c, a = b + c := ⟨a - b, by omega⟩
  rw [rat_eq, rat_eq, rat_eq, Rat.natCast_add, Nat.add_sub_cancel_left]
  have h1 := cast_ne hd
  cases m <;> simp only [if_true, Bool.false_eq_true, if_false, Bool.not_true, Bool.not_false] <;> grind
theorem rat_mul (m n : Bool) (a b c d : Nat) (hb : b ≠ 0) (hd : d ≠ 0) : rat m a b * rat n c d = rat (m != n) (a * c) (b * d) := by
  rw [rat_eq, rat_eq, rat_eq, Rat.natCast_mul, Rat.natCast_mul]
  have h1 := cast_ne hb
  have h2 := cast_ne hd
  cases m <;> cases n <;> simp only [if_true, Bool.false_eq_true, if_false, bne, beq_self_eq_true, Bool.not_true, Bool.not_false, show (true == false) = false from rfl, show (false == true) = false from rfl] <;> grind
theorem rat_div (m n : Bool) (a b c d : Nat) (hb : b ≠ 0) (hc : c ≠ 0) (hd : d ≠ 0) : rat m a b / rat n c d = rat (m != n) (a * d) (b * c) := by
  rw [rat_eq, rat_eq, rat_eq, Rat.natCast_mul, Rat.natCast_mul]
  have h1 := cast_ne hb
  have h2 := cast_ne hd
  have h3 := cast_ne hc
  cases m <;> cases n <;> simp only [if_true, Bool.false_eq_true, if_false, bne, beq_self_eq_true, Bool.not_true, Bool.not_false, show (true == false) = false from rfl, show (false == true) = false from rfl] <;> grind
theorem rat_int_num (m : Bool) (a : Nat) : (rat m a 1).num = sg m a ∧ (rat m a 1).den = 1 := by
  unfold rat; rw [Rat.num_mkRat, Rat.den_mkRat]; simp
/-- -1, 0 or 1 -/
def cmpQ (p q : Rat) : Int := if p < q then -1 else if q < p then 1 else 0
theorem den_ne (q : Rat) : q.den ≠ 0 := q.den_nz
theorem den_pos' (q : Rat) : (0 : Int) < q.den := by have := den_ne q; omega
theorem cmpQ_cross (p q : Rat) : cmpQ p q = if p.num * q.den < q.num * p.den then -1 else if q.num * p.den < p.num * q.den then 1 else 0 := by
  unfold cmpQ; simp only [Rat.lt_iff]
theorem num_sg (q : Rat) : q.num = sg (decide (q.num < 0)) q.num.natAbs := (sg_self _).symm
/-! sizes -/
def Sm (k : Nat) (q : Rat) : Prop := q.num.natAbs ≤ 2 ^ k ∧ q.den ≤ 2 ^ k
theorem Sm.up {k l : Nat} {q : Rat} (h : Sm k q) (hkl : k ≤ l) : Sm l q :=
  ⟨Nat.le_trans h.1 (Nat.pow_le_pow_right (by decide) hkl), Nat.le_trans h.2 (Nat.pow_le_pow_right (by decide) hkl)⟩
theorem mk_abs_le (n : Int) {d : Nat} (hd : d ≠ 0) : (mkRat n d).num.natAbs ≤ n.natAbs := by
  have h := rat_abs (m := decide (n < 0)) (a := n.natAbs) hd
  unfold rat at h; rw [sg_self] at h; rw [h]; exact Nat.div_le_self _ _
theorem mk_den_le (n : Int) {d : Nat} (hd : d ≠ 0) : (mkRat n d).den ≤ d := by
  rw [Rat.den_mkRat, if_neg hd]; exact Nat.div_le_self _ _
theorem rat_sm {m : Bool} {a b k : Nat} (hb : b ≠ 0) (ha : a ≤ 2 ^ k) (hb' : b ≤ 2 ^ k) : Sm k (rat m a b) :=
  ⟨Nat.le_trans (mk_abs_le _ hb) (by rw [sg_abs]; exact ha), Nat.le_trans (mk_den_le _ hb) hb'⟩
theorem two_mul_le {a b k l : Nat} (ha : a ≤ 2 ^ k) (hb : b ≤ 2 ^ l) : a * b ≤ 2 ^ (k + l) := by
  rw [Nat.pow_add]; exact Nat.mul_le_mul ha hb
theorem pq_p (p q : Rat) : rat (decide (p.num < 0)) (p.num.natAbs * q.den) (p.den * q.den) = p := by
  rw [rat_scale _ _ (den_ne p) (den_ne q), rat_self]
theorem pq_q (p q : Rat) : rat (decide (q.num < 0)) (q.num.natAbs * p.den) (p.den * q.den) = q := by
  rw [Nat.mul_comm p.den, rat_scale _ _ (den_ne q) (den_ne p), rat_self]
theorem mul_ne {a b : Nat} (ha : a ≠ 0) (hb : b ≠ 0) : a * b ≠ 0 := Nat.mul_ne_zero ha hb
theorem num_add_same {p q : Rat} (h : decide (p.num < 0) = decide (q.num < 0)) : p + q = rat (decide (p.num < 0)) (p.num.natAbs * q.den + q.num.natAbs * p.den) (p.den * q.den) := by
  rw [← rat_add _ _ _ (mul_ne (den_ne p) (den_ne q)), pq_p, h, pq_q]
theorem not_of_ne {a b : Bool} (h : a ≠ b) : b = !a := by cases a <;> cases b <;> simp_all
theorem num_add_ge {p q : Rat} (h : decide (p.num < 0) ≠ decide (q.num < 0)) (hle : q.num.natAbs * p.den ≤ p.num.natAbs * q.den) : p + q = rat (decide (p.num < 0)) (p.num.natAbs * q.den - q.num.natAbs * p.den) (p.den * q.den) := by
  rw [← rat_sub _ hle (mul_ne (den_ne p) (den_ne q)), pq_p, ← not_of_ne h, pq_q]
theorem num_add_lt {p q : Rat} (h : decide (p.num < 0) ≠ decide (q.num < 0)) (hle : p.num.natAbs * q.den ≤ q.num.natAbs * p.den) : p + q = rat (decide (q.num < 0)) (q.num.natAbs * p.den - p.num.natAbs * q.den) (p.den * q.den) := by
  rw [← rat_sub _ hle (mul_ne (den_ne p) (den_ne q)), pq_q, ← not_of_ne h.symm, pq_p, Rat.add_comm]
theorem num_mul (p q : Rat) : p * q = rat (decide (p.num < 0) != decide (q.num < 0)) (p.num.natAbs * q.num.natAbs) (p.den * q.den) := by
  rw [← rat_mul _ _ _ _ _ _ (den_ne p) (den_ne q), rat_self, rat_self]
theorem num_div (p : Rat) {q : Rat} (hq : q.num.natAbs ≠ 0) : p / q = rat (decide (p.num < 0) != decide (q.num < 0)) (p.num.natAbs * q.den) (p.den * q.num.natAbs) := by
  rw [← rat_div _ _ _ _ _ _ (den_ne p) hq (den_ne q), rat_self, rat_self]
theorem Sm.add {k l : Nat} {p q : Rat} (hp : Sm k p) (hq : Sm l q) : Sm (k + l + 1) (p + q) := by
  have h1 := two_mul_le hp.1 hq.2
  have h2 := two_mul_le hq.1 hp.2
  have h3 := two_mul_le hp.2 hq.2
  rw [Nat.add_comm l k] at h2
  have h4 : 2 ^ (k + l + 1) = 2 ^ (k + l) * 2 := Nat.pow_succ _ _
  by_cases h : decide (p.num < 0) = decide (q.num < 0)
  · rw [num_add_same h]; exact rat_sm (mul_ne (den_ne p) (den_ne q)) (by omega) (by omega)
  · rcases Nat.le_total (q.num.natAbs * p.den) (p.num.natAbs * q.den) with h5 | h5
    · rw [num_add_ge h h5]; exact rat_sm (mul_ne (den_ne p) (den_ne q)) (by omega) (by omega)
    · rw [num_add_lt h h5]; exact rat_sm (mul_ne (den_ne p) (den_ne q)) (by omega) (by omega)
theorem Sm.mul {k l : Nat} {p q : Rat} (hp : Sm k p) (hq : Sm l q) : Sm (k + l) (p * q) := by
  rw [num_mul]; exact rat_sm (mul_ne (den_ne p) (den_ne q)) (two_mul_le hp.1 hq.1) (two_mul_le hp.2 hq.2)
theorem Sm.div {k l : Nat} {p q : Rat} (hp : Sm k p) (hq : Sm l q) (h0 : q.num.natAbs ≠ 0) : Sm (k + l) (p / q) := by
  rw [num_div p h0]; exact rat_sm (mul_ne (den_ne p) h0) (two_mul_le hp.1 hq.2) (two_mul_le hp.2 hq.1)
theorem Sm.neg {k : Nat} {q : Rat} (h : Sm k q) : Sm k (-q) := by
  refine ⟨?_, ?_⟩
  · rw [Rat.neg_num, Int.natAbs_neg]; exact h.1
  · rw [Rat.neg_den]; exact h.2
theorem neg_minus (q : Rat) : decide ((-q).num < 0) = (!decide (q.num < 0) && decide (0 < q.num.natAbs)) := by
  rw [Rat.neg_num, Bool.eq_iff_iff]
  simp only [Bool.and_eq_true, Bool.not_eq_true', decide_eq_true_eq, decide_eq_false_iff_not]
  omega
def absQ (q : Rat) : Rat := if q.num < 0 then -q else q
theorem absQ_num (q : Rat) : (absQ q).num = q.num.natAbs ∧ (absQ q).den = q.den := by
  unfold absQ; split
  · rw [Rat.neg_num, Rat.neg_den]; exact ⟨by omega, rfl⟩
  · exact ⟨by omega, rfl⟩
theorem Sm.abs {k : Nat} {q : Rat} (h : Sm k q) : Sm k (absQ q) := by
  obtain ⟨h1, h2⟩ := absQ_num q
  exact ⟨by rw [h1]; exact h.1, by rw [h2]; exact h.2⟩
theorem cmp_same {p q : Rat} (h : decide (p.num < 0) = decide (q.num < 0)) : cmpQ p q = (if p.num < 0 then -1 else 1) * (if p.num.natAbs * q.den < q.num.natAbs * p.den then (-1 : Int) else if q.num.natAbs * p.den < p.num.natAbs * q.den then 1 else 0) := by
  rw [cmpQ_cross]
  have e1 : ((p.num.natAbs * q.den : Nat) : Int) = (p.num.natAbs : Int) * q.den := Int.natCast_mul _ _
  have e2 : ((q.num.natAbs * p.den : Nat) : Int) = (q.num.natAbs : Int) * p.den := Int.natCast_mul _ _
  by_cases hp : p.num < 0
  · have hq : q.num < 0 := by simpa [hp] using h
    rw [if_pos hp]
    have f1 : p.num * q.den = -((p.num.natAbs * q.den : Nat) : Int) := by rw [e1, ← Int.neg_mul]; congr 1; omega
    have f2 : q.num * p.den = -((q.num.natAbs * p.den : Nat) : Int) := by rw [e2, ← Int.neg_mul]; congr 1; omega
    rw [f1, f2]
    generalize p.num.natAbs * q.den = a
    generalize q.num.natAbs * p.den = b
    rcases Nat.lt_trichotomy a b with h1 | h1 | h1
    · rw [if_neg (by omega), if_pos (by omega), if_pos h1]; rfl
    · rw [if_neg (by omega), if_neg (by omega), if_neg (by omega), if_neg (by omega)]; rfl
    · rw [if_pos (by omega), if_neg (by omega), if_pos h1]; rfl
  · have hq : ¬ q.num < 0 := by simpa [hp] using h
    rw [if_neg hp]
    have f1 : p.num * q.den = ((p.num.natAbs * q.den : Nat) : Int) := by rw [e1]; congr 1; omega
    have f2 : q.num * p.den = ((q.num.natAbs * p.den : Nat) : Int) := by rw [e2]; congr 1; omega
    rw [f1, f2]
    generalize p.num.natAbs * q.den = a
    generalize q.num.natAbs * p.den = b
    rw [Int.one_mul]
    rcases Nat.lt_trichotomy a b with h1 | h1 | h1
    · rw [if_pos (by omega), if_pos h1]
    · rw [if_neg (by omega), if_neg (by omega), if_neg (by omega), if_neg (by omega)]
    · rw [if_neg (by omega), if_pos (by omega), if_neg (by omega), if_pos h1]
theorem cmp_less {p q : Rat} (hp : p.num < 0) (hq : ¬ q.num < 0) : cmpQ p q = -1 := by
  rw [cmpQ_cross, if_pos]
  have h1 : p.num * q.den < 0 := Int.mul_neg_of_neg_of_pos hp (den_pos' q)
  have h2 : 0 ≤ q.num * p.den := Int.mul_nonneg (by omega) (Int.le_of_lt (den_pos' p))
  omega
theorem cmpQ_swap (p q : Rat) : cmpQ q p = -cmpQ p q := by
  rw [cmpQ_cross, cmpQ_cross]
  rcases Int.lt_trichotomy (p.num * q.den) (q.num * p.den) with h | h | h
  · rw [if_neg (by omega), if_pos h, if_pos h]; rfl
  · rw [if_neg (by omega), if_neg (by omega), if_neg (by omega), if_neg (by omega)]; rfl
  · rw [if_pos h, if_neg (by omega), if_pos h]
theorem cmp_more {p q : Rat} (hp : ¬ p.num < 0) (hq : q.num < 0) : cmpQ p q = 1 := by
  rw [cmpQ_swap, cmp_less hq hp]; rfl
/-- The integer below, as a number. -/
def flo (q : Rat) : Rat := (q.floor : Int)
theorem flo_whole {q : Rat} (h : q.den = 1) : flo q = q := by
  unfold flo
  have : q = (q.num : Rat) := by
    apply Rat.ext
    · rw [Rat.num_intCast]
    · rw [Rat.den_intCast, h]
  conv => rhs; rw [this]
  rw [Rat.floor_def, h, Int.natCast_one, Int.ediv_one]
theorem rat_one (m : Bool) (a : Nat) : rat m a 1 = (sg m a : Int) := by
  obtain ⟨h1, h2⟩ := rat_int_num m a
  apply Rat.ext
  · rw [Rat.num_intCast, h1]
  · rw [Rat.den_intCast, h2]
theorem flo_plus {q : Rat} (h : ¬ q.num < 0) : flo q = rat false (q.num.natAbs / q.den) 1 := by
  unfold flo; rw [rat_one]; congr 1
  rw [Rat.floor_def]; simp only [sg, Bool.false_eq_true, if_false]
  rw [Int.natCast_ediv]; congr 1; omega
theorem flo_minus {q : Rat} (h : q.num < 0) (hd : q.den ≠ 1) : flo q = rat true (q.num.natAbs / q.den + 1) 1 := by
  unfold flo; rw [rat_one]; congr 1
  rw [Rat.floor_def]; simp only [sg, if_true]
  have hp := den_pos' q
  have h2 : q.num.natAbs % q.den ≠ 0 := by
    intro h0
    have h3 : q.den ∣ q.num.natAbs := Nat.dvd_of_mod_eq_zero h0
    have h4 : Nat.gcd q.num.natAbs q.den = 1 := q.reduced
    have h5 : q.den ∣ Nat.gcd q.num.natAbs q.den := Nat.dvd_gcd h3 (Nat.dvd_refl _)
    rw [h4] at h5
    exact hd (Nat.dvd_one.1 h5)
  have h3 := Nat.div_add_mod q.num.natAbs q.den
  have h4 : q.num.natAbs % q.den < q.den := Nat.mod_lt _ (Nat.pos_of_ne_zero (den_ne q))
  have h5 : q.num = -((q.den * (q.num.natAbs / q.den) + q.num.natAbs % q.den : Nat) : Int) := by rw [h3]; omega
  generalize q.num.natAbs / q.den = x at *
  generalize q.num.natAbs % q.den = y at *
  rw [h5]
  rw [Int.natCast_add, Int.natCast_mul, Int.natCast_add]
  have h6 : -((q.den : Int) * x + y) = (q.den - y : Int) + q.den * (-(x + 1)) := by grind
  rw [h6, Int.add_mul_ediv_left _ _ (by omega), Int.ediv_eq_zero_of_lt (by omega) (by omega)]
  omega
theorem Sm.flo {k : Nat} {q : Rat} (h : Sm k q) : Sm (k + 1) (flo q) := by
  have h1 := Nat.pow_succ (n := 2) (m := k)
  have h2 : 0 < 2 ^ k := Nat.two_pow_pos k
  have h3 := h.1
  have h4 : q.num.natAbs / q.den ≤ q.num.natAbs := Nat.div_le_self _ _
  by_cases hd : q.den = 1
  · rw [flo_whole hd]; exact h.up (by omega)
  · by_cases hm : q.num < 0
    · rw [flo_minus hm hd]; exact rat_sm (by decide) (by omega) (by omega)
    · rw [flo_plus hm]; exact rat_sm (by decide) (by omega) (by omega)
end Go.Proofs.Vc
