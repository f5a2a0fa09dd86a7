import Derived.Test.YtplaobhghfndgaaGreatDoorTxt
/-! The way of the document to read and write numerals: plain facts. -/
namespace Go.Proofs.Vc
theorem textA_k {a b t f : Nat} (hb : b = 2 ^ t * 5 ^ f) : a * 10 ^ max t f / b = a * 2 ^ (max t f - t) * 5 ^ (max t f - f) := by
  subst hb
  have h1 : 2 ^ max t f = 2 ^ (max t f - t) * 2 ^ t := by rw [← Nat.pow_add]; congr 1; omega
  have h2 : 5 ^ max t f = 5 ^ (max t f - f) * 5 ^ f := by rw [← Nat.pow_add]; congr 1; omega
  have h3 : 10 ^ max t f = 2 ^ max t f * 5 ^ max t f := by rw [← Nat.mul_pow]
  refine Nat.div_eq_of_eq_mul_left (Nat.mul_pos (Nat.pow_pos (by decide)) (Nat.pow_pos (by decide))) ?_
  rw [h3, h1, h2]
  generalize 2 ^ (max t f - t) = x
  generalize 5 ^ (max t f - f) = y
  generalize 2 ^ t = z
  generalize 5 ^ f = w
  grind
def stopC (c : UInt8) : Bool := c != 46 && c != 47
/-- The document's way to read a numeral behind its sign. -/
def parseR (m : Bool) (l : List UInt8) : Rat × Nat :=
  if okFront (l.takeWhile stopC) then
    match l.dropWhile stopC with
    | [] => (rat m (numT (l.takeWhile stopC)) 1, 0)
    | c :: d => if allDig d && !(c == 47 && d.head? == some 48) then
        if c == 47 then (rat m (numT (l.takeWhile stopC)) (numT d), 0) else (rat m (numT (l.takeWhile stopC) * 10 ^ d.length + numT d) (10 ^ d.length), 0)
      else (0, 4)
  else (0, 4)
theorem allDig_mem {l : List UInt8} {c : UInt8} (h : c ∈ l) (hc : isDig c = false) : allDig l = false := by
  have : l.all isDig = false := by
    rw [Bool.eq_false_iff]; intro h1
    rw [List.all_eq_true] at h1
    rw [h1 c h] at hc; cases hc
  simp [allDig, this]
theorem okFront_mem {l : List UInt8} {c : UInt8} (h : c ∈ l) (hc : isDig c = false) : okFront l = false := by
  simp [okFront, allDig_mem h hc]
theorem cutC_some {c : UInt8} {l f b : List UInt8} (h : cutC c l = (f, some b)) : l = f ++ c :: b := by
  induction l generalizing f with
  | nil => simp [cutC] at h
  | cons x l ih =>
    unfold cutC at h
    by_cases hx : x = c
    · rw [if_pos hx] at h
      simp only [Prod.mk.injEq, Option.some.injEq] at h
      obtain ⟨rfl, rfl⟩ := h
      rw [hx]; rfl
    · rw [if_neg hx] at h
      simp only [Prod.mk.injEq] at h
      obtain ⟨rfl, h2⟩ := h
      have := ih (f := (cutC c l).1) (by rw [← h2])
      conv => lhs; rw [this]
      rfl
theorem cutC_none {c : UInt8} {l f : List UInt8} (h : cutC c l = (f, none)) : f = l ∧ c ∉ l := by
  induction l generalizing f with
  | nil => simp [cutC] at h; simp [h]
  | cons x l ih =>
    unfold cutC at h
    by_cases hx : x = c
    · rw [if_pos hx] at h; simp at h
    · rw [if_neg hx] at h
      simp only [Prod.mk.injEq] at h
      obtain ⟨rfl, h2⟩ := h
      obtain ⟨h3, h4⟩ := ih (f := (cutC c l).1) (by rw [← h2])
      refine ⟨by rw [h3], ?_⟩
      rw [List.mem_cons, not_or]; exact ⟨fun e => hx e.symm, h4⟩
theorem cutC_of {c : UInt8} {f b : List UInt8} (h : c ∉ f) : cutC c (f ++ c :: b) = (f, some b) := by
  induction f with
  | nil => simp [cutC]
  | cons x f ih =>
    rw [List.mem_cons, not_or] at h
    rw [List.cons_append, cutC, if_neg (fun e => h.1 e.symm), ih h.2]
theorem cutC_no {c : UInt8} {l : List UInt8} (h : c ∉ l) : cutC c l = (l, none) := by
  induction l with
  | nil => simp [cutC]
  | cons x f ih =>
    rw [List.mem_cons, not_or] at h
    rw [cutC, if_neg (fun e => h.1 e.symm), ih h.2]
theorem mem_takeWhile_p {p : UInt8 → Bool} {l : List UInt8} {x : UInt8} (h : x ∈ l.takeWhile p) : p x = true := by
  induction l with
  | nil => cases h
  | cons y l ih =>
    rw [List.takeWhile_cons] at h
    split at h
    · rcases List.mem_cons.1 h with rfl | h
      · assumption
      · exact ih h
    · cases h
theorem parseR_eq (m : Bool) (l : List UInt8) : parseR m l = parseF m l := by
  have hl : l.takeWhile stopC ++ l.dropWhile stopC = l := List.takeWhile_append_dropWhile
  have hf : ∀ x ∈ l.takeWhile stopC, stopC x = true := fun x hx => mem_takeWhile_p hx
  have n46 : (46 : UInt8) ∉ l.takeWhile stopC := fun h => by have := hf _ h; revert this; decide
  have n47 : (47 : UInt8) ∉ l.takeWhile stopC := fun h => by have := hf _ h; revert this; decide
  unfold parseR
  generalize hF : l.takeWhile stopC = f at *
  cases hD : l.dropWhile stopC with
  | nil =>
    rw [hD, List.append_nil] at hl
    subst hl
    unfold parseF
    rw [cutC_no n47]
    dsimp only
    rw [cutC_no n46]
  | cons c d =>
    rw [hD] at hl
    have hc : stopC c = false := by
      have := List.head?_dropWhile_not stopC l
      rw [hD] at this
      simpa using this
    have hc2 : c = 46 ∨ c = 47 := by
      simp only [stopC, bne, Bool.and_eq_false_iff, Bool.not_eq_false', beq_iff_eq] at hc
      exact hc
    subst hl
    dsimp only
    rcases hc2 with rfl | rfl
    · by_cases h47 : (47 : UInt8) ∈ d
      · have e1 : allDig d = false := allDig_mem h47 (by decide)
        rw [e1]
        have e2 : (if okFront f = true then if (false && !((46 : UInt8) == 47 && d.head? == some 48)) = true then if ((46 : UInt8) == 47) = true then (rat m (numT f) (numT d), 0) else (rat m (numT f * 10 ^ d.length + numT d) (10 ^ d.length), 0) else ((0 : Rat), 4) else (0, 4)) = (0, 4) := by
          split
          · rfl
          · rfl
        rw [e2]
        unfold parseF
        cases hcut : cutC 47 (f ++ 46 :: d) with
        | mk x y =>
          cases y with
          | none => exact absurd (by simp [h47]) (cutC_none hcut).2
          | some y =>
            have e3 := cutC_some hcut
            have e4 : (46 : UInt8) ∈ x := by
              rcases List.append_eq_append_iff.1 e3 with ⟨a, h1, h2⟩ | ⟨a, h1, h2⟩
              · cases a with
                | nil => simp at h2
                | cons z a => simp at h2; rw [h1]; simp [h2.1]
              · cases a with
                | nil => simp at h2
                | cons z a =>
                  simp at h2
                  exact absurd (by rw [h1]; simp [h2.1]) n47
            dsimp only
            rw [okFront_mem e4 (by decide)]
            rfl
      · unfold parseF
        rw [cutC_no (by simp [n47, h47])]
        dsimp only
        rw [cutC_of n46]
        dsimp only
        rw [numT_append]
        cases okFront f <;> cases allDig d <;> rfl
    · unfold parseF
      rw [cutC_of n47]
      dsimp only
      cases okFront f <;> cases allDig d <;> rfl
end Go.Proofs.Vc
