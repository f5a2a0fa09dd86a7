import Derived.Test.YtplaobhghfndgaaGreatDoorParse
/-! The text of a number. -/
set_option linter.unusedVariables false
set_option linter.unusedSimpArgs false
set_option maxRecDepth 100000
namespace Go.Proofs.YtplaobhghfndgaaGreatDoor
open Go Go.Proofs.Vc
attribute [local irreducible] CallsO EffO PureO LoadO StoreO EndO LoopV RoundO
theorem decT_len {n m : Nat} (h : n ≤ 2 ^ m) : (decT n).length ≤ m + 1 := by
  unfold decT
  split
  · simp
  · unfold dtx
    rw [List.length_map, List.length_reverse]
    apply dig_length_le (by decide)
    have h1 : (2 : Nat) ^ m < 2 ^ (m + 1) := Nat.pow_lt_pow_right (by decide) (Nat.lt_succ_self m)
    have h2 : (2 : Nat) ^ (m + 1) ≤ 10 ^ (m + 1) := Nat.pow_le_pow_left (by decide) _
    omega
theorem strip_le {d n k : Nat} (hd : 2 ≤ d) (hn : 0 < n) (h : n ≤ 2 ^ k) : (stripN d n).2 ≤ k ∧ (stripN d n).1 ≤ n := by
  obtain ⟨e1, e2, e3⟩ := stripN_eq hd n hn
  have h1 : 2 ^ (stripN d n).2 ≤ d ^ (stripN d n).2 := Nat.pow_le_pow_left hd _
  have h2 := Nat.le_mul_of_pos_left (d ^ (stripN d n).2) e3
  have h3 := Nat.le_mul_of_pos_right (stripN d n).1 (Nat.pow_pos (n := (stripN d n).2) (show 0 < d by omega))
  refine ⟨(Nat.pow_le_pow_iff_right (a := 2) (by decide)).1 (by omega), by omega⟩
section
variable {h : Heap}
set_option maxHeartbeats 4000000 in
theorem string_c {x : Value} {k : Nat} {p : Rat} (hx : NumV h x k p) (hk : k < 134217728) : CallGo Tryz.prog 70 #[x] h NoX fun v h' => v = .string (bs (textQ p)) := by
  have hx' := hx
  obtain ⟨mp, A, ca, B, cb, hmp, rfl, hA, hB, s1, s2, s3⟩ := hx.open2
  obtain ⟨hka, hkb⟩ := hx'.1
  obtain ⟨sgn, hsgn⟩ : ∃ s, (if p.num < 0 then [45] else []) = (s : List UInt8) := ⟨_, rfl⟩
  have htx : textQ p = sgn ++ textA p.num.natAbs p.den := by unfold textQ; rw [hsgn]
  have hsl : sgn.length ≤ 1 := by rw [← hsgn]; split <;> simp
  have hla := decT_len hka
  have hlb := decT_len hkb
  refine v_fn tb k70 [.agg #[.bool mp, .slice A (sz p.num.natAbs) ca, .slice B (sz (bot p)) cb]] rfl ?_
  conv => whnf
  cases mp
  · conv => whnf
    have hs0 : sgn = [] := by rw [← hsgn, if_neg (by simpa using hmp)]
    subst hs0
    have hsg : List.length ([] : List UInt8) ≤ 1 := by decide
    by_cases hd : p.den = 1
    · refine CallsO.go (whole_c hx' (by omega) true (decide_eq_true hd)) ?_
      rintro v1 h1 hle1 ⟨rfl, rfl⟩
      conv => whnf
      refine CallsO.go (text_c hA (by omega)) ?_
      rintro v2 h2 hle2 rfl
      conv => whnf
      refine pO_catB (a := ([] : List UInt8)) (([] : List UInt8) ++ decT p.num.natAbs) rfl rfl (by omega) rfl ?_
      conv => whnf
      refine EndO.go ?_
      rw [htx]; unfold textA; rw [if_pos hd]; rfl
    · refine CallsO.go (whole_c hx' (by omega) false (decide_eq_false hd)) ?_
      rintro v1 h1 hle1 ⟨rfl, rfl⟩
      conv => whnf
      have hb : bot p = p.den := by unfold bot; rw [if_neg hd]
      rw [hb] at hB s3 ⊢
      have hp0 := Nat.pos_of_ne_zero (den_ne p)
      obtain ⟨f1, f2, f3⟩ := stripN_eq (d := 2) (by decide) p.den hp0
      obtain ⟨g1, g2⟩ := strip_le (d := 2) (by decide) hp0 hkb
      obtain ⟨g3, g4⟩ := strip_le (d := 5) (by decide) f3 (Nat.le_trans g2 hkb)
      have hs2 := sz_mono g2
      refine CallsO.go (strip_c (d := 2) hB hp0 (by decide) (by decide) (by omega)) ?_
      rintro v2 h2 hle2 ⟨y2, rfl, hy2⟩
      conv => whnf
      refine CallsO.go (strip_c (d := 5) hy2 f3 (by decide) (by decide) (by omega)) ?_
      rintro v3 h3 hle3 ⟨y5, rfl, hy5⟩
      conv => whnf
      have hs5 := sz_mono g4
      by_cases h1 : (stripN 5 (stripN 2 p.den).1).1 = 1
      · refine CallsO.go (isOne_b hy5 (by omega) true (beq_iff_eq.2 h1)) ?_
        rintro v4 h4 hle4 ⟨rfl, rfl⟩
        conv => whnf
        have hta : textA p.num.natAbs p.den = decPt (decT (p.num.natAbs * 2 ^ (max (stripN 2 p.den).2 (stripN 5 (stripN 2 p.den).1).2 - (stripN 2 p.den).2) * 5 ^ (max (stripN 2 p.den).2 (stripN 5 (stripN 2 p.den).1).2 - (stripN 5 (stripN 2 p.den).1).2))) (max (stripN 2 p.den).2 (stripN 5 (stripN 2 p.den).1).2) := by
          unfold textA; rw [if_neg hd]; dsimp only; rw [if_pos h1]
        obtain ⟨t2, ht2⟩ : ∃ t, (stripN 2 p.den).2 = t := ⟨_, rfl⟩
        obtain ⟨t5, ht5⟩ : ∃ t, (stripN 5 (stripN 2 p.den).1).2 = t := ⟨_, rfl⟩
        obtain ⟨pl, hpl⟩ : ∃ m, max t2 t5 = m := ⟨_, rfl⟩
        rw [ht2, ht5, hpl] at hta
        rw [ht2] at g1 ⊢
        rw [ht5] at g3 ⊢
        refine pO_max rfl rfl ((pl : Int)) (by split <;> omega) ?_
        conv => whnf
        refine pO_sub rfl rfl (((pl - t2 : Nat) : Int)) (wr64 (by omega) (by omega) (by omega)) ?_
        conv => whnf
        refine pO_sub rfl rfl (((pl - t5 : Nat) : Int)) (wr64 (by omega) (by omega) (by omega)) ?_
        conv => whnf
        refine CallsO.go (power_c (a := 2) (n := pl - t2) (by decide) (by decide) (by omega)) ?_
        rintro u1 h5 hle5 hu1
        conv => whnf
        have z1 : 2 ^ (pl - t2) ≤ 2 ^ k := Nat.pow_le_pow_right (by decide) (by omega)
        have z2 : 5 ^ (pl - t5) ≤ 2 ^ (3 * k) := Nat.le_trans (Nat.pow_le_pow_left (show 5 ≤ 8 by decide) _) (by rw [show 8 = 2 ^ 3 from rfl, ← Nat.pow_mul]; exact Nat.pow_le_pow_right (by decide) (by omega))
        have z3 := two_mul_le hka z1
        have z4 := two_mul_le z3 z2
        have w1 := sz_two z1
        have w2 := sz_two z2
        have w3 := sz_two z3
        have w4 := sz_two z4
        refine CallsO.go (mul_c (hA.mono (hle2.trans (hle3.trans (hle4.trans hle5)))) hu1 (by omega)) ?_
        rintro u2 h6 hle6 hu2
        conv => whnf
        refine CallsO.go (power_c (a := 5) (n := pl - t5) (by decide) (by decide) (by omega)) ?_
        rintro u3 h7 hle7 hu3
        conv => whnf
        refine CallsO.go (mul_c (hu2.mono hle7) hu3 (by omega)) ?_
        rintro u4 h8 hle8 hu4
        conv => whnf
        refine CallsO.go (text_c hu4 (by omega)) ?_
        rintro u5 h9 hle9 rfl
        conv => whnf
        have hll := decT_len z4
        obtain ⟨d, hdd⟩ : ∃ d, decT (p.num.natAbs * 2 ^ (pl - t2) * 5 ^ (pl - t5)) = d := ⟨_, rfl⟩
        rw [hdd] at hta hll ⊢
        refine pO_add rfl rfl (((pl + 1 : Nat) : Int)) (wr64 (by omega) (by omega) (by omega)) ?_
        conv => whnf
        rw [bs_size]
        refine pO_sub rfl rfl (((pl : Int) + 1 - d.length)) (wr64 (by omega) (by omega) (by omega)) ?_
        conv => whnf
        refine pO_max rfl rfl (((pl + 1 - d.length : Nat) : Int)) (by split <;> omega) ?_
        conv => whnf
        refine CallsO.go (repeat_c (pl + 1 - d.length) (by omega)) ?_
        rintro u6 h10 hle10 ⟨rfl, rfl⟩
        conv => whnf
        obtain ⟨d', hd'⟩ : ∃ d', List.replicate (pl + 1 - d.length) 48 ++ d = d' := ⟨_, rfl⟩
        have hdl : d'.length = max (pl + 1) d.length := by rw [← hd']; simp; omega
        refine pO_catB d' rfl rfl (by simp; omega) hd' ?_
        conv => whnf
        rw [bs_size]
        refine pO_sub rfl rfl (((d'.length - pl : Nat) : Int)) (wr64 (by omega) (by omega) (by omega)) ?_
        conv => whnf
        refine pO_sliceB 0 (d'.length - pl) (d'.take (d'.length - pl)) u9 rfl rfl ⟨_, rfl⟩ (Nat.zero_le _) (by omega) rfl ?_
        conv => whnf
        have hl1 : (d'.take (d'.length - pl)).length = d'.length - pl := by rw [List.length_take]; omega
        refine pO_catB (a := ([] : List UInt8)) (([] : List UInt8) ++ d'.take (d'.length - pl)) rfl rfl (by omega) rfl ?_
        conv => whnf
        have hl2 : (([] : List UInt8) ++ d'.take (d'.length - pl)).length = List.length ([] : List UInt8) + (d'.length - pl) := by rw [List.length_append, hl1]
        refine pO_catB (b := [46]) (([] : List UInt8) ++ d'.take (d'.length - pl) ++ [46]) rfl rfl (by rw [hl2]; simp only [List.length_cons, List.length_nil]; omega) rfl ?_
        conv => whnf
        rw [bs_size]
        refine pO_sub rfl rfl (((d'.length - pl : Nat) : Int)) (wr64 (by omega) (by omega) (by omega)) ?_
        conv => whnf
        refine pO_sliceB (d'.length - pl) d'.length (d'.drop (d'.length - pl)) u9 rfl ⟨_, rfl⟩ rfl (by omega) (Nat.le_refl _) (by rw [List.take_of_length_le (Nat.le_refl _)]) ?_
        conv => whnf
        have hl3 : (([] : List UInt8) ++ d'.take (d'.length - pl) ++ [46]).length = List.length ([] : List UInt8) + (d'.length - pl) + 1 := by rw [List.length_append, hl2]; rfl
        refine pO_catB (a := ([] : List UInt8) ++ d'.take (d'.length - pl) ++ [46]) (([] : List UInt8) ++ d'.take (d'.length - pl) ++ [46] ++ d'.drop (d'.length - pl)) rfl rfl (by rw [hl3, List.length_drop]; omega) rfl ?_
        conv => whnf
        refine EndO.go ?_
        rw [htx, hta]; unfold decPt; dsimp only; rw [hd']
        simp only [List.append_assoc]; rfl
      · refine CallsO.go (isOne_b hy5 (by omega) false (beq_eq_false_iff_ne.2 h1)) ?_
        rintro v4 h4 hle4 ⟨rfl, rfl⟩
        conv => whnf
        have hle04 := hle2.trans (hle3.trans hle4)
        refine CallsO.go (text_c (hA.mono hle04) (by omega)) ?_
        rintro v5 h5 hle5 rfl
        conv => whnf
        refine pO_catB (a := ([] : List UInt8)) (([] : List UInt8) ++ decT p.num.natAbs) rfl rfl (by omega) rfl ?_
        conv => whnf
        have hl2 : (([] : List UInt8) ++ decT p.num.natAbs).length = List.length ([] : List UInt8) + (decT p.num.natAbs).length := List.length_append
        refine pO_catB (b := [47]) (([] : List UInt8) ++ decT p.num.natAbs ++ [47]) rfl rfl (by rw [hl2]; simp only [List.length_cons, List.length_nil]; omega) rfl ?_
        conv => whnf
        have hl3 : (([] : List UInt8) ++ decT p.num.natAbs ++ [47]).length = List.length ([] : List UInt8) + (decT p.num.natAbs).length + 1 := by rw [List.length_append, hl2]; rfl
        refine CallsO.go (text_c (hB.mono (hle04.trans hle5)) (by omega)) ?_
        rintro v6 h6 hle6 rfl
        conv => whnf
        refine pO_catB (a := ([] : List UInt8) ++ decT p.num.natAbs ++ [47]) (([] : List UInt8) ++ decT p.num.natAbs ++ [47] ++ decT p.den) rfl rfl (by rw [hl3]; omega) rfl ?_
        conv => whnf
        refine EndO.go ?_
        rw [htx]; unfold textA; rw [if_neg hd]; dsimp only; rw [if_neg h1]
        simp only [List.append_assoc]; rfl
  · conv => whnf
    have hs0 : sgn = [45] := by rw [← hsgn, if_pos (by simpa using hmp)]
    subst hs0
    have hsg : List.length ([45] : List UInt8) ≤ 1 := by decide
    by_cases hd : p.den = 1
    · refine CallsO.go (whole_c hx' (by omega) true (decide_eq_true hd)) ?_
      rintro v1 h1 hle1 ⟨rfl, rfl⟩
      conv => whnf
      refine CallsO.go (text_c hA (by omega)) ?_
      rintro v2 h2 hle2 rfl
      conv => whnf
      refine pO_catB (a := ([45] : List UInt8)) (([45] : List UInt8) ++ decT p.num.natAbs) rfl rfl (by omega) rfl ?_
      conv => whnf
      refine EndO.go ?_
      rw [htx]; unfold textA; rw [if_pos hd]; rfl
    · refine CallsO.go (whole_c hx' (by omega) false (decide_eq_false hd)) ?_
      rintro v1 h1 hle1 ⟨rfl, rfl⟩
      conv => whnf
      have hb : bot p = p.den := by unfold bot; rw [if_neg hd]
      rw [hb] at hB s3 ⊢
      have hp0 := Nat.pos_of_ne_zero (den_ne p)
      obtain ⟨f1, f2, f3⟩ := stripN_eq (d := 2) (by decide) p.den hp0
      obtain ⟨g1, g2⟩ := strip_le (d := 2) (by decide) hp0 hkb
      obtain ⟨g3, g4⟩ := strip_le (d := 5) (by decide) f3 (Nat.le_trans g2 hkb)
      have hs2 := sz_mono g2
      refine CallsO.go (strip_c (d := 2) hB hp0 (by decide) (by decide) (by omega)) ?_
      rintro v2 h2 hle2 ⟨y2, rfl, hy2⟩
      conv => whnf
      refine CallsO.go (strip_c (d := 5) hy2 f3 (by decide) (by decide) (by omega)) ?_
      rintro v3 h3 hle3 ⟨y5, rfl, hy5⟩
      conv => whnf
      have hs5 := sz_mono g4
      by_cases h1 : (stripN 5 (stripN 2 p.den).1).1 = 1
      · refine CallsO.go (isOne_b hy5 (by omega) true (beq_iff_eq.2 h1)) ?_
        rintro v4 h4 hle4 ⟨rfl, rfl⟩
        conv => whnf
        have hta : textA p.num.natAbs p.den = decPt (decT (p.num.natAbs * 2 ^ (max (stripN 2 p.den).2 (stripN 5 (stripN 2 p.den).1).2 - (stripN 2 p.den).2) * 5 ^ (max (stripN 2 p.den).2 (stripN 5 (stripN 2 p.den).1).2 - (stripN 5 (stripN 2 p.den).1).2))) (max (stripN 2 p.den).2 (stripN 5 (stripN 2 p.den).1).2) := by
          unfold textA; rw [if_neg hd]; dsimp only; rw [if_pos h1]
        obtain ⟨t2, ht2⟩ : ∃ t, (stripN 2 p.den).2 = t := ⟨_, rfl⟩
        obtain ⟨t5, ht5⟩ : ∃ t, (stripN 5 (stripN 2 p.den).1).2 = t := ⟨_, rfl⟩
        obtain ⟨pl, hpl⟩ : ∃ m, max t2 t5 = m := ⟨_, rfl⟩
        rw [ht2, ht5, hpl] at hta
        rw [ht2] at g1 ⊢
        rw [ht5] at g3 ⊢
        refine pO_max rfl rfl ((pl : Int)) (by split <;> omega) ?_
        conv => whnf
        refine pO_sub rfl rfl (((pl - t2 : Nat) : Int)) (wr64 (by omega) (by omega) (by omega)) ?_
        conv => whnf
        refine pO_sub rfl rfl (((pl - t5 : Nat) : Int)) (wr64 (by omega) (by omega) (by omega)) ?_
        conv => whnf
        refine CallsO.go (power_c (a := 2) (n := pl - t2) (by decide) (by decide) (by omega)) ?_
        rintro u1 h5 hle5 hu1
        conv => whnf
        have z1 : 2 ^ (pl - t2) ≤ 2 ^ k := Nat.pow_le_pow_right (by decide) (by omega)
        have z2 : 5 ^ (pl - t5) ≤ 2 ^ (3 * k) := Nat.le_trans (Nat.pow_le_pow_left (show 5 ≤ 8 by decide) _) (by rw [show 8 = 2 ^ 3 from rfl, ← Nat.pow_mul]; exact Nat.pow_le_pow_right (by decide) (by omega))
        have z3 := two_mul_le hka z1
        have z4 := two_mul_le z3 z2
        have w1 := sz_two z1
        have w2 := sz_two z2
        have w3 := sz_two z3
        have w4 := sz_two z4
        refine CallsO.go (mul_c (hA.mono (hle2.trans (hle3.trans (hle4.trans hle5)))) hu1 (by omega)) ?_
        rintro u2 h6 hle6 hu2
        conv => whnf
        refine CallsO.go (power_c (a := 5) (n := pl - t5) (by decide) (by decide) (by omega)) ?_
        rintro u3 h7 hle7 hu3
        conv => whnf
        refine CallsO.go (mul_c (hu2.mono hle7) hu3 (by omega)) ?_
        rintro u4 h8 hle8 hu4
        conv => whnf
        refine CallsO.go (text_c hu4 (by omega)) ?_
        rintro u5 h9 hle9 rfl
        conv => whnf
        have hll := decT_len z4
        obtain ⟨d, hdd⟩ : ∃ d, decT (p.num.natAbs * 2 ^ (pl - t2) * 5 ^ (pl - t5)) = d := ⟨_, rfl⟩
        rw [hdd] at hta hll ⊢
        refine pO_add rfl rfl (((pl + 1 : Nat) : Int)) (wr64 (by omega) (by omega) (by omega)) ?_
        conv => whnf
        rw [bs_size]
        refine pO_sub rfl rfl (((pl : Int) + 1 - d.length)) (wr64 (by omega) (by omega) (by omega)) ?_
        conv => whnf
        refine pO_max rfl rfl (((pl + 1 - d.length : Nat) : Int)) (by split <;> omega) ?_
        conv => whnf
        refine CallsO.go (repeat_c (pl + 1 - d.length) (by omega)) ?_
        rintro u6 h10 hle10 ⟨rfl, rfl⟩
        conv => whnf
        obtain ⟨d', hd'⟩ : ∃ d', List.replicate (pl + 1 - d.length) 48 ++ d = d' := ⟨_, rfl⟩
        have hdl : d'.length = max (pl + 1) d.length := by rw [← hd']; simp; omega
        refine pO_catB d' rfl rfl (by simp; omega) hd' ?_
        conv => whnf
        rw [bs_size]
        refine pO_sub rfl rfl (((d'.length - pl : Nat) : Int)) (wr64 (by omega) (by omega) (by omega)) ?_
        conv => whnf
        refine pO_sliceB 0 (d'.length - pl) (d'.take (d'.length - pl)) u9 rfl rfl ⟨_, rfl⟩ (Nat.zero_le _) (by omega) rfl ?_
        conv => whnf
        have hl1 : (d'.take (d'.length - pl)).length = d'.length - pl := by rw [List.length_take]; omega
        refine pO_catB (a := ([45] : List UInt8)) (([45] : List UInt8) ++ d'.take (d'.length - pl)) rfl rfl (by omega) rfl ?_
        conv => whnf
        have hl2 : (([45] : List UInt8) ++ d'.take (d'.length - pl)).length = List.length ([45] : List UInt8) + (d'.length - pl) := by rw [List.length_append, hl1]
        refine pO_catB (b := [46]) (([45] : List UInt8) ++ d'.take (d'.length - pl) ++ [46]) rfl rfl (by rw [hl2]; simp only [List.length_cons, List.length_nil]; omega) rfl ?_
        conv => whnf
        rw [bs_size]
        refine pO_sub rfl rfl (((d'.length - pl : Nat) : Int)) (wr64 (by omega) (by omega) (by omega)) ?_
        conv => whnf
        refine pO_sliceB (d'.length - pl) d'.length (d'.drop (d'.length - pl)) u9 rfl ⟨_, rfl⟩ rfl (by omega) (Nat.le_refl _) (by rw [List.take_of_length_le (Nat.le_refl _)]) ?_
        conv => whnf
        have hl3 : (([45] : List UInt8) ++ d'.take (d'.length - pl) ++ [46]).length = List.length ([45] : List UInt8) + (d'.length - pl) + 1 := by rw [List.length_append, hl2]; rfl
        refine pO_catB (a := ([45] : List UInt8) ++ d'.take (d'.length - pl) ++ [46]) (([45] : List UInt8) ++ d'.take (d'.length - pl) ++ [46] ++ d'.drop (d'.length - pl)) rfl rfl (by rw [hl3, List.length_drop]; omega) rfl ?_
        conv => whnf
        refine EndO.go ?_
        rw [htx, hta]; unfold decPt; dsimp only; rw [hd']
        simp only [List.append_assoc]; rfl
      · refine CallsO.go (isOne_b hy5 (by omega) false (beq_eq_false_iff_ne.2 h1)) ?_
        rintro v4 h4 hle4 ⟨rfl, rfl⟩
        conv => whnf
        have hle04 := hle2.trans (hle3.trans hle4)
        refine CallsO.go (text_c (hA.mono hle04) (by omega)) ?_
        rintro v5 h5 hle5 rfl
        conv => whnf
        refine pO_catB (a := ([45] : List UInt8)) (([45] : List UInt8) ++ decT p.num.natAbs) rfl rfl (by omega) rfl ?_
        conv => whnf
        have hl2 : (([45] : List UInt8) ++ decT p.num.natAbs).length = List.length ([45] : List UInt8) + (decT p.num.natAbs).length := List.length_append
        refine pO_catB (b := [47]) (([45] : List UInt8) ++ decT p.num.natAbs ++ [47]) rfl rfl (by rw [hl2]; simp only [List.length_cons, List.length_nil]; omega) rfl ?_
        conv => whnf
        have hl3 : (([45] : List UInt8) ++ decT p.num.natAbs ++ [47]).length = List.length ([45] : List UInt8) + (decT p.num.natAbs).length + 1 := by rw [List.length_append, hl2]; rfl
        refine CallsO.go (text_c (hB.mono (hle04.trans hle5)) (by omega)) ?_
        rintro v6 h6 hle6 rfl
        conv => whnf
        refine pO_catB (a := ([45] : List UInt8) ++ decT p.num.natAbs ++ [47]) (([45] : List UInt8) ++ decT p.num.natAbs ++ [47] ++ decT p.den) rfl rfl (by rw [hl3]; omega) rfl ?_
        conv => whnf
        refine EndO.go ?_
        rw [htx]; unfold textA; rw [if_neg hd]; dsimp only; rw [if_neg h1]
        simp only [List.append_assoc]; rfl
end
end Go.Proofs.YtplaobhghfndgaaGreatDoor
