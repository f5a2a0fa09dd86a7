import Derived.Test.YtplaobhghfndgaaGreatDoorOrdq
/-! Grids, roots, places: plain facts. -/
namespace Go.Proofs.Vc
def ceiQ (x : Rat) : Rat := -(flo (-x))
theorem out_in {a b g : Rat} (hg : 0 < g) (hab : a ≤ b) : flo (a / g) * g ≤ a ∧ a < flo (a / g) * g + g ∧ b ≤ ceiQ (b / g) * g ∧ ceiQ (b / g) * g - g < b := by
  have ha : a = a / g * g := (Rat.div_mul_cancel (Rat.ne_of_gt hg)).symm
  have hb : b = b / g * g := (Rat.div_mul_cancel (Rat.ne_of_gt hg)).symm
  have f1 := flo_le (a / g)
  have f2 := lt_flo (a / g)
  have f3 := flo_le (-(b / g))
  have f4 := lt_flo (-(b / g))
  unfold ceiQ
  generalize a / g = s at *
  generalize b / g = t at *
  generalize flo s = u at *
  generalize flo (-t) = v at *
  subst ha hb
  have e1 := Rat.mul_nonneg (show (0 : Rat) ≤ s - u by grind) (Rat.le_of_lt hg)
  have e2 := Rat.mul_pos (show (0 : Rat) < u + 1 - s by grind) hg
  have e3 := Rat.mul_nonneg (show (0 : Rat) ≤ -t - v by grind) (Rat.le_of_lt hg)
  have e4 := Rat.mul_pos (show (0 : Rat) < v + 1 + t by grind) hg
  refine ⟨by grind, by grind, by grind, by grind⟩
theorem natc_le {m n : Nat} : (m : Rat) ≤ (n : Rat) ↔ m ≤ n := Rat.natCast_le_natCast
theorem natc_nonneg (m : Nat) : (0 : Rat) ≤ (m : Rat) := Rat.natCast_nonneg
theorem natc_succ (m : Nat) : ((m + 1 : Nat) : Rat) = (m : Rat) + 1 := by rw [Rat.natCast_add]; rfl
/-- The root below grows. -/
theorem root_mono {m n : Nat} {s t : Rat} (hst : s ≤ t) (h1 : (m : Rat) * m ≤ s) (h2 : t < ((n : Rat) + 1) * ((n : Rat) + 1)) : m ≤ n := by
  rcases Nat.lt_or_ge n m with h | h
  · exfalso
    have e1 : ((n + 1 : Nat) : Rat) ≤ (m : Rat) := natc_le.2 h
    rw [natc_succ] at e1
    have e2 := natc_nonneg n
    have e3 := Rat.mul_nonneg (show (0 : Rat) ≤ (m : Rat) - (n + 1) by grind) (show (0 : Rat) ≤ (m : Rat) by grind)
    have e4 := Rat.mul_nonneg (show (0 : Rat) ≤ (m : Rat) - (n + 1) by grind) (show (0 : Rat) ≤ (n : Rat) + 1 by grind)
    grind
  · exact h
theorem sq_le {m : Rat} {a g : Rat} (hg : 0 < g) (h : m * m ≤ a / (g * g)) : m * g * (m * g) ≤ a := by
  have hg2 := Rat.mul_pos hg hg
  have ha : a = a / (g * g) * (g * g) := (Rat.div_mul_cancel (Rat.ne_of_gt hg2)).symm
  generalize a / (g * g) = t at *
  subst ha
  have := Rat.mul_nonneg (show (0 : Rat) ≤ t - m * m by grind) (Rat.le_of_lt hg2)
  grind
theorem lt_sq {m : Rat} {a g : Rat} (hg : 0 < g) (h : a / (g * g) < m * m) : a < m * g * (m * g) := by
  have hg2 := Rat.mul_pos hg hg
  have ha : a = a / (g * g) * (g * g) := (Rat.div_mul_cancel (Rat.ne_of_gt hg2)).symm
  generalize a / (g * g) = t at *
  subst ha
  have := Rat.mul_pos (show (0 : Rat) < m * m - t by grind) hg2
  grind
theorem div_mono {a b g : Rat} (hg : 0 < g) (h : a ≤ b) : a / g ≤ b / g := by
  have h1 : b / g - a / g = (b - a) * (1 / g) := by grind
  have h2 : 0 ≤ 1 / g := by rw [Rat.div_def, Rat.one_mul]; exact Rat.le_of_lt (Rat.inv_pos.2 hg)
  have h3 := Rat.mul_nonneg (show (0 : Rat) ≤ b - a by grind) h2
  grind
/-- What the enclosure of roots promises. -/
structure Enc (a b g : Rat) (m n : Nat) : Prop where
  lo : (m : Rat) * g * ((m : Rat) * g) ≤ a
  up : a < ((m : Rat) * g + g) * ((m : Rat) * g + g)
  hi : b ≤ (n : Rat) * g * ((n : Rat) * g)
  down : 0 ≤ (n : Rat) * g - g → ((n : Rat) * g - g) * ((n : Rat) * g - g) < b
theorem enc_of {a b g : Rat} {m n n0 : Nat} (hg : 0 < g) (hm1 : (m : Rat) * m ≤ a / (g * g)) (hm2 : a / (g * g) < ((m : Rat) + 1) * ((m : Rat) + 1)) (hn1 : (n0 : Rat) * n0 ≤ b / (g * g)) (hn2 : b / (g * g) < ((n0 : Rat) + 1) * ((n0 : Rat) + 1))
    (hn : n = if (n0 : Rat) * n0 * (g * g) < b then n0 + 1 else n0) : Enc a b g m n := by
  have h1 := sq_le hg hn1
  have h2 := lt_sq hg hn2
  have h3 := lt_sq hg hm2
  have h0 := natc_nonneg n0
  refine ⟨sq_le hg hm1, by grind, ?_, ?_⟩
  · rw [hn]; split
    · rw [natc_succ]; grind
    · grind
  · intro hd
    rw [hn] at hd ⊢
    split at hd <;> rename_i hc
    · rw [if_pos hc, natc_succ]; grind
    · rw [if_neg hc]
      have e1 : (n0 : Rat) * g * ((n0 : Rat) * g) = b := by grind
      have e2 := Rat.mul_pos hg (show (0 : Rat) < (n0 : Rat) * g by grind)
      have e3 := Rat.mul_nonneg (Rat.le_of_lt hg) hd
      grind
theorem one_in {a b x g : Rat} {m n n0 m' n' n0' : Nat} (hg : 0 < g) (hax : a ≤ x) (hxb : x ≤ b)
    (hm1 : (m : Rat) * m ≤ a / (g * g)) (hm2 : a / (g * g) < ((m : Rat) + 1) * ((m : Rat) + 1)) (hn1 : (n0 : Rat) * n0 ≤ b / (g * g)) (hn2 : b / (g * g) < ((n0 : Rat) + 1) * ((n0 : Rat) + 1)) (hn : n = if (n0 : Rat) * n0 * (g * g) < b then n0 + 1 else n0)
    (km1 : (m' : Rat) * m' ≤ x / (g * g)) (km2 : x / (g * g) < ((m' : Rat) + 1) * ((m' : Rat) + 1)) (kn1 : (n0' : Rat) * n0' ≤ x / (g * g)) (kn2 : x / (g * g) < ((n0' : Rat) + 1) * ((n0' : Rat) + 1)) (kn : n' = if (n0' : Rat) * n0' * (g * g) < x then n0' + 1 else n0') :
    m ≤ m' ∧ m' ≤ n ∧ m ≤ n' ∧ n' ≤ n ∧ n' ≤ m' + 1 := by
  have hg2 := Rat.mul_pos hg hg
  have d1 := div_mono hg2 hax
  have d2 := div_mono hg2 hxb
  have e1 : m ≤ m' := root_mono d1 hm1 km2
  have e2 : n0' ≤ n0 := root_mono d2 kn1 hn2
  have e3 : m' ≤ n0' := root_mono (Rat.le_refl) km1 kn2
  have e4 : n0' ≤ m' := root_mono (Rat.le_refl) kn1 km2
  have e5 : n0 ≤ n := by rw [hn]; split <;> omega
  have e6 : n0' ≤ n' ∧ n' ≤ n0' + 1 := by rw [kn]; split <;> omega
  refine ⟨e1, by omega, by omega, ?_, by omega⟩
  rcases Nat.lt_or_ge n0' n0 with h | h
  · omega
  · have e7 : n0' = n0 := by omega
    rw [kn, hn, e7]
    split
    · rename_i hc
      rw [if_pos (by grind)]; exact Nat.le_refl _
    · split <;> omega
theorem grid_le {m n : Nat} {g : Rat} (hg : 0 < g) (h : m ≤ n) : (m : Rat) * g ≤ (n : Rat) * g := by
  have := Rat.mul_nonneg (show (0 : Rat) ≤ (n : Rat) - m by have := natc_le.2 h; grind) (Rat.le_of_lt hg)
  grind
/-- A place between two ends. -/
theorem at_in {a b : Rat} (hab : a ≤ b) {p : Nat} (hp : p ≤ 255) : a ≤ a + (b - a) * (((p : Nat) : Int) / ((255 : Int) : Rat)) ∧ a + (b - a) * (((p : Nat) : Int) / ((255 : Int) : Rat)) ≤ b := by
  have h1 := natc_nonneg p
  have h2 : (p : Rat) ≤ ((255 : Nat) : Rat) := natc_le.2 hp
  have h3 : ((255 : Nat) : Rat) = 255 := rfl
  have h4 : ((255 : Int) : Rat) = 255 := rfl
  have h5 : (((p : Nat) : Int) : Rat) = (p : Rat) := Rat.intCast_natCast p
  rw [h3] at h2
  rw [h4, h5]
  have e1 : (0 : Rat) ≤ (p : Rat) / 255 := by
    have : (p : Rat) / 255 = (p : Rat) * (1 / 255) := by grind
    rw [this]; exact Rat.mul_nonneg h1 (by decide +kernel)
  have e2 : (p : Rat) / 255 ≤ 1 := by grind
  generalize (p : Rat) / 255 = t at *
  have e3 := Rat.mul_nonneg (show (0 : Rat) ≤ b - a by grind) e1
  have e4 := Rat.mul_nonneg (show (0 : Rat) ≤ b - a by grind) (show (0 : Rat) ≤ 1 - t by grind)
  grind
end Go.Proofs.Vc
