import Derived.Test.YtplaobhghfndgaaGreatDoorRefq
/-! The text of a number has it as its value: plain facts. -/
namespace Go.Proofs.Vc
theorem numT_rev {l : List Nat} (h : Low 10 l) : numT (l.reverse.map ch) = val 10 l := by
  induction l with
  | nil => rfl
  | cons x l ih =>
    obtain ⟨hx, hl⟩ := low_cons.1 h
    rw [List.reverse_cons, List.map_append, List.map_cons, List.map_nil, numT_snoc, ih hl, ch_toNat hx]
    simp only [val]; omega
theorem numT_dtx (n : Nat) : numT (dtx n) = n := by rw [dtx, numT_rev (low_dig (by decide) n), val_dig (by decide)]
theorem numT_decT (n : Nat) : numT (decT n) = n := by
  unfold decT; split
  · subst n; rfl
  · exact numT_dtx n
theorem isDig_ch {d : Nat} (h : d < 10) : isDig (ch d) = true := by simp only [isDig, ch_toNat h]; simp; omega
theorem dtx_all (n : Nat) : (dtx n).all isDig = true := by
  unfold dtx
  rw [List.all_eq_true]
  intro x hx
  rw [List.mem_map] at hx
  obtain ⟨d, hd, rfl⟩ := hx
  exact isDig_ch (low_dig (by decide) n d (by simpa using hd))
theorem decT_all (n : Nat) : (decT n).all isDig = true := by
  unfold decT; split
  · rfl
  · exact dtx_all n
theorem dtx_ne {n : Nat} (h : n ≠ 0) : dtx n ≠ [] := by
  unfold dtx
  intro h1
  have h2 : dig 10 n = [] := by simpa using h1
  exact h ((dig_eq_nil (by decide)).1 h2)
theorem decT_ne (n : Nat) : decT n ≠ [] := by
  unfold decT; split
  · simp
  · rename_i h; exact dtx_ne h
theorem dtx_head {n : Nat} (h : n ≠ 0) : ∃ c r, dtx n = c :: r ∧ c ≠ 48 := by
  have h1 : dig 10 n ≠ [] := fun e => h ((dig_eq_nil (by decide)).1 e)
  obtain ⟨x, hx⟩ : ∃ x, (dig 10 n).getLast? = some x := by
    cases hh : (dig 10 n).getLast? with
    | none => exact absurd (List.getLast?_eq_none_iff.1 hh) h1
    | some x => exact ⟨x, rfl⟩
  have hne := dig_last (by decide) n x hx
  obtain ⟨ys, hys⟩ := List.getLast?_eq_some_iff.1 hx
  have hlow := low_dig (b := 10) (by decide) n x (by rw [hys]; simp)
  refine ⟨ch x, ys.reverse.map ch, by unfold dtx; rw [hys]; simp, fun e => hne ?_⟩
  have := ch_zero hlow
  rw [e] at this
  simpa using this.symm
theorem allDig_decT (n : Nat) : allDig (decT n) = true := by
  have := decT_ne n
  simp only [allDig, decT_all, Bool.true_and]
  cases h : decT n with
  | nil => exact absurd h this
  | cons x l => rfl
theorem okFront_decT (n : Nat) : okFront (decT n) = true := by
  unfold okFront
  rw [allDig_decT, Bool.true_and]
  unfold decT
  split
  · rfl
  · rename_i h
    obtain ⟨c, r, h1, h2⟩ := dtx_head h
    rw [h1]
    simp [h2]
theorem head_decT {n : Nat} (h : n ≠ 0) : ((decT n).head? == some 48) = false := by
  unfold decT; rw [if_neg h]
  obtain ⟨c, r, h1, h2⟩ := dtx_head h
  rw [h1]; simp [h2]
theorem not_mem_dig {l : List UInt8} {c : UInt8} (h : l.all isDig = true) (hc : isDig c = false) : c ∉ l := fun hm => by
  rw [List.all_eq_true] at h; rw [h c hm] at hc; cases hc
theorem numT_zeros (k : Nat) (l : List UInt8) : numT (List.replicate k 48 ++ l) = numT l := by
  induction k with
  | zero => rfl
  | succ k ih =>
    rw [List.replicate_succ, List.cons_append]
    have : numT (48 :: (List.replicate k 48 ++ l)) = numF (10 * 0 + 0) (List.replicate k 48 ++ l) := rfl
    rw [this]; exact ih
theorem all_rep (k : Nat) {l : List UInt8} (h : l.all isDig = true) : (List.replicate k 48 ++ l).all isDig = true := by
  rw [List.all_append, h, Bool.and_true, List.all_eq_true]
  intro x hx
  rw [List.eq_of_mem_replicate hx]; rfl
/-- What is read out of a text that was written. -/
theorem parseF_textA (m : Bool) {a b : Nat} (hb : b ≠ 0) (ha : b ≠ 1 → a ≠ 0) : parseF m (textA a b) = (rat m a b, 0) := by
  unfold textA
  by_cases h1 : b = 1
  · subst h1
    rw [if_pos rfl]
    unfold parseF
    rw [cutC_no (not_mem_dig (decT_all a) (by decide))]
    dsimp only
    rw [cutC_no (not_mem_dig (decT_all a) (by decide))]
    dsimp only
    rw [okFront_decT, numT_decT]; rfl
  · rw [if_neg h1]
    dsimp only
    obtain ⟨e1, e2, e3⟩ := stripN_eq (d := 2) (by decide) b (by omega)
    obtain ⟨e4, e5, e6⟩ := stripN_eq (d := 5) (by decide) (stripN 2 b).1 e3
    generalize hT : (stripN 2 b).2 = t at *
    generalize hF : (stripN 5 (stripN 2 b).1).2 = f at *
    by_cases h5 : (stripN 5 (stripN 2 b).1).1 = 1
    · rw [if_pos h5]
      rw [h5, Nat.one_mul] at e4
      have hb2 : b = 2 ^ t * 5 ^ f := by rw [Nat.mul_comm, ← e4]; exact e1
      have hN := textA_k (a := a) hb2
      have hk : 0 < max t f := by
        rcases Nat.eq_zero_or_pos (max t f) with h0 | h0
        · have ht : t = 0 := by omega
          have hf : f = 0 := by omega
          rw [ht, hf] at hb2; exact absurd hb2 h1
        · exact h0
      have hdvd : a * 2 ^ (max t f - t) * 5 ^ (max t f - f) * b = a * 10 ^ max t f := by
        have h10 : 10 ^ max t f = 2 ^ max t f * 5 ^ max t f := by rw [← Nat.mul_pow]
        have g1 : 2 ^ max t f = 2 ^ (max t f - t) * 2 ^ t := by rw [← Nat.pow_add]; congr 1; omega
        have g2 : 5 ^ max t f = 5 ^ (max t f - f) * 5 ^ f := by rw [← Nat.pow_add]; congr 1; omega
        rw [h10, g1, g2]
        conv => lhs; rw [hb2]
        grind
      have hN0 : a * 2 ^ (max t f - t) * 5 ^ (max t f - f) ≠ 0 := by
        refine Nat.mul_ne_zero (Nat.mul_ne_zero (ha h1) ?_) ?_
        · exact Nat.ne_of_gt (Nat.pow_pos (by decide))
        · exact Nat.ne_of_gt (Nat.pow_pos (by decide))
      generalize a * 2 ^ (max t f - t) * 5 ^ (max t f - f) = N at *
      generalize max t f = k at *
      unfold decPt
      dsimp only
      have hall := all_rep (k + 1 - (decT N).length) (decT_all N)
      have hlen : (List.replicate (k + 1 - (decT N).length) 48 ++ decT N).length = max (k + 1) (decT N).length := by simp; omega
      have hnum : numT (List.replicate (k + 1 - (decT N).length) 48 ++ decT N) = N := by rw [numT_zeros, numT_decT]
      have hfr : okFront ((List.replicate (k + 1 - (decT N).length) 48 ++ decT N).take ((List.replicate (k + 1 - (decT N).length) 48 ++ decT N).length - k)) = true := by
        rw [hlen]
        rcases Nat.lt_or_ge (k + 1) (decT N).length with hc | hc
        · rw [show k + 1 - (decT N).length = 0 from by omega, List.replicate_zero, List.nil_append]
          have hd : decT N = dtx N := by unfold decT; rw [if_neg hN0]
          obtain ⟨c, r, h2, h3⟩ := dtx_head hN0
          have hmx : max (k + 1) (decT N).length - k = (decT N).length - k := by omega
          rw [hmx]
          obtain ⟨j, hj⟩ : ∃ j, (decT N).length - k = j + 1 := ⟨(decT N).length - k - 1, by omega⟩
          rw [hj]
          have hal := decT_all N
          rw [hd, h2] at hal ⊢
          rw [List.take_succ_cons]
          unfold okFront
          simp only [List.head?_cons, allDig]
          simp only [List.all_cons, Bool.and_eq_true] at hal
          have : (r.take j).all isDig = true := by
            rw [List.all_eq_true]; intro x hx
            exact List.all_eq_true.1 hal.2 x (List.mem_of_mem_take hx)
          simp [hal.1, this, h3]
        · have hmx : max (k + 1) (decT N).length - k = 1 := by omega
          rw [hmx]
          have hne := decT_ne N
          unfold okFront allDig
          cases hl : List.replicate (k + 1 - (decT N).length) (48 : UInt8) ++ decT N with
          | nil => simp at hl; exact absurd hl.2 hne
          | cons x l =>
            rw [hl] at hall
            simp only [List.all_cons, Bool.and_eq_true] at hall
            simp [hall.1]
      generalize List.replicate (k + 1 - (decT N).length) (48 : UInt8) ++ decT N = d at *
      have hdrop : (d.drop (d.length - k)).all isDig = true := by
        rw [List.all_eq_true]; intro x hx
        exact List.all_eq_true.1 hall x (List.mem_of_mem_drop hx)
      have htake : (d.take (d.length - k)).all isDig = true := by
        rw [List.all_eq_true]; intro x hx
        exact List.all_eq_true.1 hall x (List.mem_of_mem_take hx)
      have hdl : (d.drop (d.length - k)).length = k := by rw [List.length_drop, hlen]; omega
      have hal2 : allDig (d.drop (d.length - k)) = true := by
        simp only [allDig, hdrop, Bool.true_and]
        cases hc : d.drop (d.length - k) with
        | nil => rw [hc] at hdl; simp at hdl; omega
        | cons x l => rfl
      unfold parseF
      rw [cutC_no (by
        simp only [List.mem_append, not_or]
        exact ⟨⟨not_mem_dig htake (by decide), by decide⟩, not_mem_dig hdrop (by decide)⟩)]
      dsimp only
      rw [List.append_assoc, List.cons_append, List.nil_append, cutC_of (not_mem_dig htake (by decide))]
      dsimp only
      rw [hfr, hal2, List.take_append_drop, hnum, hdl]
      simp only [Bool.and_self, if_true]
      congr 1
      rw [← rat_scale m N (b := 10 ^ k) (c := b) (Nat.ne_of_gt (Nat.pow_pos (by decide))) hb, ← rat_scale m a (b := b) (c := 10 ^ k) hb (Nat.ne_of_gt (Nat.pow_pos (by decide))), hdvd, Nat.mul_comm (10 ^ k)]
    · rw [if_neg h5]
      unfold parseF
      rw [List.append_assoc, List.cons_append, List.nil_append, cutC_of (not_mem_dig (decT_all a) (by decide))]
      dsimp only
      rw [okFront_decT, allDig_decT, head_decT hb, numT_decT, numT_decT]; rfl
theorem parse_text (q : Rat) (h : (textQ q).length ≤ 2000) : parseQ (textQ q) = (q, 0) := by
  unfold parseQ
  rw [if_neg (by omega)]
  have h0 : q.den ≠ 1 → q.num.natAbs ≠ 0 := fun h1 h2 => by
    have := q.reduced
    rw [h2] at this
    exact h1 (by simpa using this)
  have key : ∀ m, parseF m (textA q.num.natAbs q.den) = (rat m q.num.natAbs q.den, 0) := fun m => parseF_textA m (den_ne q) h0
  have hs := rat_self q
  unfold textQ
  by_cases hm : q.num < 0
  · rw [if_pos hm]
    show parseF true (textA q.num.natAbs q.den) = (q, 0)
    rw [key]
    simp only [hm, decide_true] at hs
    rw [hs]
  · rw [if_neg hm, List.nil_append]
    simp only [hm, decide_false] at hs
    split
    · rename_i l hl
      exfalso
      have h45 : (45 : UInt8) ∈ textA q.num.natAbs q.den := by rw [hl]; simp
      have hh : ∀ (n : Nat) r, decT n ++ r ≠ 45 :: l := fun n r e => by
        cases hd : decT n with
        | nil => exact decT_ne n hd
        | cons x y =>
          rw [hd] at e
          simp at e
          have h3 := decT_all n
          rw [hd, e.1] at h3
          simp at h3
          exact absurd h3.1 (by decide)
      have hp : ∀ (n k : Nat), decPt (decT n) k ≠ 45 :: l := fun n k e => by
        unfold decPt at e
        dsimp only at e
        have h3 := all_rep (k + 1 - (decT n).length) (decT_all n)
        have hlen : (List.replicate (k + 1 - (decT n).length) 48 ++ decT n).length = max (k + 1) (decT n).length := by simp; omega
        generalize List.replicate (k + 1 - (decT n).length) (48 : UInt8) ++ decT n = d at *
        cases hd : d with
        | nil => rw [hd] at hlen; simp at hlen; omega
        | cons x y =>
          rw [hd] at e h3 hlen
          obtain ⟨j, hj⟩ : ∃ j, (x :: y).length - k = j + 1 := ⟨(x :: y).length - k - 1, by omega⟩
          rw [hj, List.take_succ_cons] at e
          simp at e
          rw [e.1] at h3
          simp at h3
          exact absurd h3.1 (by decide)
      unfold textA at hl
      split at hl
      · exact hh _ [] (by simpa using hl)
      · dsimp only at hl
        split at hl
        · exact hp _ _ hl
        · rw [List.append_assoc] at hl; exact hh _ _ hl
    · rw [key, hs]
end Go.Proofs.Vc
