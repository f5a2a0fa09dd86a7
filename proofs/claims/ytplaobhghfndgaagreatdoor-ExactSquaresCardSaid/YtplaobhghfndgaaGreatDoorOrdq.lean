import Derived.Test.YtplaobhghfndgaaGreatDoorRatq
/-! Order: plain facts. -/
namespace Go.Proofs.Vc
theorem cmpQ_or (p q : Rat) : (p < q ∧ cmpQ p q = -1) ∨ (p = q ∧ cmpQ p q = 0) ∨ (q < p ∧ cmpQ p q = 1) := by
  unfold cmpQ
  by_cases h1 : p < q
  · exact .inl ⟨h1, if_pos h1⟩
  · rw [if_neg h1]
    by_cases h2 : q < p
    · exact .inr (.inr ⟨h2, if_pos h2⟩)
    · exact .inr (.inl ⟨by grind, if_neg h2⟩)
theorem cmpQ_eq_of {p q r s : Rat} (h1 : p < q ↔ r < s) (h2 : q < p ↔ s < r) : cmpQ p q = cmpQ r s := by
  unfold cmpQ; simp only [h1, h2]
theorem cmpQ_sub (x y : Rat) : cmpQ (x - y) 0 = cmpQ x y := cmpQ_eq_of (by grind) (by grind)
theorem cmpQ_add (x y z : Rat) : cmpQ (x + z) (y + z) = cmpQ x y := cmpQ_eq_of (by grind) (by grind)
theorem mul_lt {x y z : Rat} (hz : 0 < z) (h : x < y) : x * z < y * z := by
  have := Rat.mul_pos (show (0 : Rat) < y - x by grind) hz; grind
theorem cmpQ_mul (x y z : Rat) : cmpQ (x * z) (y * z) = cmpQ x y * cmpQ z 0 := by
  rcases cmpQ_or z 0 with ⟨h1, h2⟩ | ⟨h1, h2⟩ | ⟨h1, h2⟩
  · rw [h2]
    rcases cmpQ_or x y with ⟨h3, h4⟩ | ⟨h3, h4⟩ | ⟨h3, h4⟩
    · have h5 := Rat.mul_pos (show (0 : Rat) < y - x by grind) (show (0 : Rat) < -z by grind)
      rw [h4]; rcases cmpQ_or (x * z) (y * z) with ⟨h6, h7⟩ | ⟨h6, h7⟩ | ⟨h6, h7⟩
      · grind
      · grind
      · rw [h7]; rfl
    · rw [h4, h3]; rcases cmpQ_or (y * z) (y * z) with ⟨h6, h7⟩ | ⟨h6, h7⟩ | ⟨h6, h7⟩
      · grind
      · rw [h7]; rfl
      · grind
    · have h5 := Rat.mul_pos (show (0 : Rat) < x - y by grind) (show (0 : Rat) < -z by grind)
      rw [h4]; rcases cmpQ_or (x * z) (y * z) with ⟨h6, h7⟩ | ⟨h6, h7⟩ | ⟨h6, h7⟩
      · rw [h7]; rfl
      · grind
      · grind
  · subst h1
    rw [h2, Rat.mul_zero, Rat.mul_zero, h2, Int.mul_zero]
  · rw [h2, Int.mul_one]
    rcases cmpQ_or x y with ⟨h3, h4⟩ | ⟨h3, h4⟩ | ⟨h3, h4⟩
    · have h5 := mul_lt h1 h3
      rw [h4]; rcases cmpQ_or (x * z) (y * z) with ⟨h6, h7⟩ | ⟨h6, h7⟩ | ⟨h6, h7⟩
      · exact h7
      · grind
      · grind
    · rw [h4, h3]; rcases cmpQ_or (y * z) (y * z) with ⟨h6, h7⟩ | ⟨h6, h7⟩ | ⟨h6, h7⟩
      · grind
      · exact h7
      · grind
    · have h5 := mul_lt h1 h3
      rw [h4]; rcases cmpQ_or (x * z) (y * z) with ⟨h6, h7⟩ | ⟨h6, h7⟩ | ⟨h6, h7⟩
      · grind
      · grind
      · exact h7
theorem flo_le (x : Rat) : flo x ≤ x := Rat.floor_le x
theorem lt_flo (x : Rat) : x < flo x + 1 := by have := Rat.lt_floor (x := x); unfold flo; grind
theorem flo_int (z : Int) : flo (z : Rat) = (z : Rat) := by unfold flo; rw [Rat.floor_intCast]
theorem flo_flo (x : Rat) : flo (flo x) = flo x := by
  have : flo x = ((x.floor : Int) : Rat) := rfl
  rw [this, flo_int]
theorem num_den (x : Rat) : ((x.num : Int) : Rat) / (((x.den : Nat) : Int) : Rat) = x := by
  have h := Rat.mkRat_self x
  rw [Rat.mkRat_eq_div] at h
  rw [Rat.intCast_natCast]; exact h
theorem round_far {x z f : Rat} (hz : 0 < z) (h1 : f ≤ x / z + 1 / 2) (h2 : x / z + 1 / 2 < f + 1) : (f * z - x) + (f * z - x) ≤ z ∧ 0 < (f * z - x) + (f * z - x) + z := by
  have hx : x = x / z * z := (Rat.div_mul_cancel (Rat.ne_of_gt hz)).symm
  generalize x / z = t at *
  subst hx
  have e1 := Rat.mul_nonneg (show (0 : Rat) ≤ t + 1 / 2 - f by grind) (Rat.le_of_lt hz)
  have e2 := Rat.mul_pos (show (0 : Rat) < f + 1 - (t + 1 / 2) by grind) hz
  grind
theorem div_cancel_r {f z : Rat} (hz : 0 < z) : f * z / z = f := by have := Rat.ne_of_gt hz; grind
end Go.Proofs.Vc
