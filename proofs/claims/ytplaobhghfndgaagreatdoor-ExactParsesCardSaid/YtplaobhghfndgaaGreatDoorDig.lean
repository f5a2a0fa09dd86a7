/-! Digits in a base: plain facts. -/
set_option linter.unusedVariables false
set_option linter.unusedSimpArgs false
namespace Go.Proofs.Vc
/-- The number of digits, the last one first. -/
def val (b : Nat) : List Nat → Nat
  | [] => 0
  | x :: xs => x + b * val b xs
/-- All digits are below the base. -/
def Low (b : Nat) (l : List Nat) : Prop := ∀ x ∈ l, x < b
/-- The digits of a number without zeros at the end. -/
def dig (b n : Nat) : List Nat :=
  if h : n = 0 ∨ b < 2 then [] else (n % b) :: dig b (n / b)
termination_by n
decreasing_by exact Nat.div_lt_self (by omega) (by omega)

theorem dig_zero (b : Nat) : dig b 0 = [] := by unfold dig; simp
theorem dig_pos {b n : Nat} (hb : 2 ≤ b) (hn : 0 < n) : dig b n = (n % b) :: dig b (n / b) := by
  rw [dig]; rw [dif_neg (by omega)]
theorem val_dig {b : Nat} (hb : 2 ≤ b) (n : Nat) : val b (dig b n) = n := by
  induction n using Nat.strongRecOn with
  | _ n ih =>
    rcases Nat.eq_zero_or_pos n with rfl | hn
    · rw [dig_zero]; rfl
    · rw [dig_pos hb hn]
      simp only [val]
      rw [ih _ (Nat.div_lt_self hn (by omega))]
      exact Nat.mod_add_div n b
theorem low_dig {b : Nat} (hb : 2 ≤ b) (n : Nat) : Low b (dig b n) := by
  induction n using Nat.strongRecOn with
  | _ n ih =>
    rcases Nat.eq_zero_or_pos n with rfl | hn
    · rw [dig_zero]; intro x hx; cases hx
    · rw [dig_pos hb hn]
      intro x hx
      rcases List.mem_cons.1 hx with rfl | hx
      · exact Nat.mod_lt _ (by omega)
      · exact ih _ (Nat.div_lt_self hn (by omega)) x hx
theorem val_append (b : Nat) (l m : List Nat) : val b (l ++ m) = val b l + b ^ l.length * val b m := by
  induction l with
  | nil => simp [val]
  | cons x l ih => simp only [List.cons_append, val, ih, List.length_cons, Nat.pow_succ]; grind
theorem low_nil (b : Nat) : Low b [] := fun _ h => by cases h
theorem low_cons {b x : Nat} {l : List Nat} : Low b (x :: l) ↔ x < b ∧ Low b l := by simp [Low]
theorem low_append {b : Nat} {l m : List Nat} : Low b (l ++ m) ↔ Low b l ∧ Low b m := by
  simp only [Low, List.mem_append]
  exact ⟨fun h => ⟨fun x hx => h x (.inl hx), fun x hx => h x (.inr hx)⟩, fun h x hx => hx.elim (h.1 x) (h.2 x)⟩
theorem val_lt {b : Nat} {l : List Nat} (h : Low b l) : val b l < b ^ l.length := by
  induction l with
  | nil => simp [val]
  | cons x l ih =>
    obtain ⟨hx, hl⟩ := low_cons.1 h
    have := ih hl
    simp only [val, List.length_cons, Nat.pow_succ]
    have h1 : b * (val b l + 1) ≤ b * b ^ l.length := Nat.mul_le_mul_left b this
    rw [Nat.mul_add] at h1
    rw [Nat.mul_comm (b ^ l.length) b]
    omega
theorem val_zeros (b k : Nat) : val b (List.replicate k 0) = 0 := by
  induction k with
  | zero => rfl
  | succ k ih => simp [List.replicate_succ, val, ih]
theorem low_zeros {b : Nat} (hb : 0 < b) (k : Nat) : Low b (List.replicate k 0) := fun x hx => by
  rw [List.eq_of_mem_replicate hx]; exact hb
/-- A list whose digits are low and whose last one is not 0 is the digits of its number. -/
theorem dig_val {b : Nat} (hb : 2 ≤ b) {l : List Nat} (h : Low b l) (hl : ∀ x, l.getLast? = some x → x ≠ 0) : dig b (val b l) = l := by
  induction l with
  | nil => simp [val, dig_zero]
  | cons x l ih =>
    obtain ⟨hx, hlow⟩ := low_cons.1 h
    have ih' := ih hlow (fun y hy => hl y (by
      cases l with
      | nil => cases hy
      | cons z l => rw [List.getLast?_cons_cons]; exact hy))
    have hpos : 0 < x + b * val b l := by
      cases l with
      | nil => have := hl x (by simp); simp [val]; omega
      | cons z l =>
        rcases Nat.eq_zero_or_pos (val b (z :: l)) with h0 | h0
        · rw [h0, dig_zero] at ih'; cases ih'
        · have := Nat.mul_pos (show 0 < b by omega) h0; omega
    simp only [val]
    rw [dig_pos hb hpos]
    have e1 : (x + b * val b l) % b = x := by rw [Nat.add_mul_mod_self_left]; exact Nat.mod_eq_of_lt hx
    have e2 : (x + b * val b l) / b = val b l := by
      rw [Nat.add_mul_div_left _ _ (by omega), Nat.div_eq_of_lt hx]; omega
    rw [e1, e2, ih']
theorem dig_last {b : Nat} (hb : 2 ≤ b) (n : Nat) : ∀ x, (dig b n).getLast? = some x → x ≠ 0 := by
  induction n using Nat.strongRecOn with
  | _ n ih =>
    rcases Nat.eq_zero_or_pos n with rfl | hn
    · rw [dig_zero]; intro x hx; cases hx
    · rw [dig_pos hb hn]
      intro x hx
      have hd := Nat.div_lt_self hn (show 1 < b by omega)
      rcases Nat.eq_zero_or_pos (n / b) with h0 | h0
      · rw [h0, dig_zero] at hx
        simp at hx
        subst hx
        have := Nat.div_add_mod n b
        rw [h0] at this
        intro h
        rw [h] at this
        simp at this
        omega
      · rw [dig_pos hb h0, List.getLast?_cons_cons, ← dig_pos hb h0] at hx
        exact ih _ hd x hx
theorem dig_length_le {b : Nat} (hb : 2 ≤ b) {n k : Nat} (h : n < b ^ k) : (dig b n).length ≤ k := by
  induction k generalizing n with
  | zero => simp at h; subst h; simp [dig_zero]
  | succ k ih =>
    rcases Nat.eq_zero_or_pos n with rfl | hn
    · simp [dig_zero]
    · rw [dig_pos hb hn, List.length_cons]
      have := ih (n := n / b) (by rw [Nat.div_lt_iff_lt_mul (by omega)]; rw [Nat.pow_succ] at h; exact h)
      omega
theorem lt_of_dig_length {b : Nat} (hb : 2 ≤ b) (n : Nat) : n < b ^ (dig b n).length := by
  have := val_lt (low_dig hb n); rwa [val_dig hb] at this
theorem pow_le_of_dig {b : Nat} (hb : 2 ≤ b) {n : Nat} (hn : 0 < n) : b ^ ((dig b n).length - 1) ≤ n := by
  rcases Nat.lt_or_ge n (b ^ ((dig b n).length - 1)) with h | h
  · have := dig_length_le hb h
    have h2 : 0 < (dig b n).length := by rw [dig_pos hb hn]; simp
    omega
  · exact h
theorem dig_length_mono {b : Nat} (hb : 2 ≤ b) {n m : Nat} (h : n ≤ m) : (dig b n).length ≤ (dig b m).length :=
  dig_length_le hb (Nat.lt_of_le_of_lt h (lt_of_dig_length hb m))
theorem dig_eq_nil {b : Nat} (hb : 2 ≤ b) {n : Nat} : dig b n = [] ↔ n = 0 := by
  constructor
  · intro h; have := val_dig hb n; rw [h] at this; simpa [val] using this.symm
  · rintro rfl; exact dig_zero b
/-- Without the zeros at the end. -/
def cutz : List Nat → List Nat
  | [] => []
  | x :: xs => match cutz xs with
    | [] => if x = 0 then [] else [x]
    | y :: ys => x :: y :: ys
theorem cutz_append_zero (l : List Nat) : cutz (l ++ [0]) = cutz l := by
  induction l with
  | nil => rfl
  | cons x l ih => simp only [List.cons_append, cutz, ih]
theorem cutz_last (l : List Nat) (x : Nat) (h : x ≠ 0) : cutz (l ++ [x]) = l ++ [x] := by
  induction l with
  | nil => simp [cutz, h]
  | cons y l ih =>
    simp only [List.cons_append, cutz, ih]
    cases l <;> rfl
theorem cutz_eq {b : Nat} (hb : 2 ≤ b) {l : List Nat} (h : Low b l) : cutz l = dig b (val b l) := by
  induction l with
  | nil => simp [cutz, val, dig_zero]
  | cons x l ih =>
    obtain ⟨hx, hl⟩ := low_cons.1 h
    have ih' := ih hl
    simp only [cutz, val]
    rcases Nat.eq_zero_or_pos (val b l) with h0 | h0
    · rw [h0, dig_zero] at ih'
      rw [ih', h0]
      rcases Nat.eq_zero_or_pos x with rfl | hx0
      · simp [dig_zero]
      · simp only [Nat.mul_zero, Nat.add_zero]
        rw [if_neg (by omega), dig_pos hb hx0, Nat.mod_eq_of_lt hx, Nat.div_eq_of_lt hx, dig_zero]
    · have e1 : (x + b * val b l) % b = x := by rw [Nat.add_mul_mod_self_left]; exact Nat.mod_eq_of_lt hx
      have e2 : (x + b * val b l) / b = val b l := by
        rw [Nat.add_mul_div_left _ _ (by omega), Nat.div_eq_of_lt hx]; omega
      have hp : 0 < x + b * val b l := by have := Nat.mul_pos (show 0 < b by omega) h0; omega
      rw [dig_pos hb hp, e1, e2, ih', dig_pos hb h0]
theorem val_take_succ (b : Nat) (l : List Nat) (i : Nat) : val b (l.take (i + 1)) = val b (l.take i) + b ^ i * l.getD i 0 := by
  rcases Nat.lt_or_ge i l.length with h | h
  · rw [List.take_succ_eq_append_getElem h, val_append, List.length_take, Nat.min_eq_left (by omega)]
    simp [val, List.getD_eq_getElem?_getD, h]
  · rw [List.take_of_length_le (by omega), List.take_of_length_le h]
    simp [List.getD_eq_getElem?_getD, h]
theorem val_set (b : Nat) (l : List Nat) (i d : Nat) (h : i < l.length) : val b (l.set i d) + b ^ i * l.getD i 0 = val b l + b ^ i * d := by
  induction l generalizing i with
  | nil => simp at h
  | cons x l ih =>
    cases i with
    | zero => simp [val]; omega
    | succ i =>
      have := ih i (by simpa using h)
      simp only [List.set_cons_succ, val, List.getD_cons_succ, Nat.pow_succ]
      have e : ∀ k, b ^ i * b * k = b * (b ^ i * k) := fun k => by rw [Nat.mul_comm (b ^ i) b, Nat.mul_assoc]
      rw [e, e]
      have : b * val b (l.set i d) + b * (b ^ i * l.getD i 0) = b * val b l + b * (b ^ i * d) := by rw [← Nat.mul_add, ← Nat.mul_add, this]
      omega
theorem val_take_drop (b : Nat) (l : List Nat) (i : Nat) (h : i ≤ l.length) : val b l = val b (l.take i) + b ^ i * val b (l.drop i) := by
  have := val_append b (l.take i) (l.drop i)
  rw [List.take_append_drop, List.length_take, Nat.min_eq_left h] at this
  exact this
theorem low_set {b : Nat} {l : List Nat} (h : Low b l) (i : Nat) {d : Nat} (hd : d < b) : Low b (l.set i d) := fun x hx => by
  rcases List.mem_or_eq_of_mem_set hx with h1 | rfl
  · exact h x h1
  · exact hd
theorem low_getD {b : Nat} (hb : 0 < b) {l : List Nat} (h : Low b l) (i : Nat) : l.getD i 0 < b := by
  rw [List.getD_eq_getElem?_getD]
  rcases Nat.lt_or_ge i l.length with h1 | h1
  · rw [List.getElem?_eq_getElem h1]; exact h _ (List.getElem_mem h1)
  · rw [List.getElem?_eq_none h1]; exact hb
theorem low_take {b : Nat} {l : List Nat} (h : Low b l) (i : Nat) : Low b (l.take i) := fun x hx => h x (List.mem_of_mem_take hx)
theorem low_drop {b : Nat} {l : List Nat} (h : Low b l) (i : Nat) : Low b (l.drop i) := fun x hx => h x (List.mem_of_mem_drop hx)
theorem val_drop_succ (b : Nat) (l : List Nat) (i : Nat) (h : i < l.length) : val b (l.drop i) = l.getD i 0 + b * val b (l.drop (i + 1)) := by
  rw [List.drop_eq_getElem_cons h]
  simp [val, List.getD_eq_getElem?_getD, h]
theorem val_lt_of_getD {b : Nat} {xs ys : List Nat} (hx : Low b xs) (hl : xs.length = ys.length) (i : Nat) (hi : i < xs.length)
    (he : xs.drop (i + 1) = ys.drop (i + 1)) (hlt : xs.getD i 0 < ys.getD i 0) : val b xs < val b ys := by
  rw [val_take_drop b xs i (by omega), val_take_drop b ys i (by omega), val_drop_succ b xs i hi, val_drop_succ b ys i (by omega), he]
  have h1 := val_lt (low_take hx i)
  rw [List.length_take, Nat.min_eq_left (by omega)] at h1
  have h2 : b ^ i * (xs.getD i 0 + 1) ≤ b ^ i * ys.getD i 0 := Nat.mul_le_mul_left _ hlt
  rw [Nat.mul_add] at h2
  rw [Nat.mul_add, Nat.mul_add]
  omega
theorem drop_eq_of_getD {xs ys : List Nat} (hl : xs.length = ys.length) (i : Nat) (hi : i < xs.length)
    (he : xs.drop (i + 1) = ys.drop (i + 1)) (hlt : xs.getD i 0 = ys.getD i 0) : xs.drop i = ys.drop i := by
  rw [List.drop_eq_getElem_cons hi, List.drop_eq_getElem_cons (show i < ys.length by omega), he]
  simp [List.getD_eq_getElem?_getD, hi, show i < ys.length by omega] at hlt
  rw [hlt]
theorem val_lt_of_length {b : Nat} (hb : 2 ≤ b) {n m : Nat} (h : (dig b n).length < (dig b m).length) : n < m := by
  rcases Nat.lt_or_ge n m with h1 | h1
  · exact h1
  · have := dig_length_mono hb h1; omega
theorem guess_ge {W v vt C top q : Nat} (hv : vt * C ≤ v) (hW : W < (top + 1) * C) (hq : q * v ≤ W) : q * vt ≤ top := by
  have h1 : q * (vt * C) ≤ q * v := Nat.mul_le_mul_left q hv
  have h2 : q * vt * C < (top + 1) * C := by rw [Nat.mul_assoc]; omega
  have h3 := Nat.lt_of_mul_lt_mul_right h2
  omega
theorem guess_div {W v vt C top q : Nat} (hvt : 0 < vt) (hv : vt * C ≤ v) (hW : W < (top + 1) * C) (hq : q * v ≤ W) : q ≤ top / vt :=
  (Nat.le_div_iff_mul_le hvt).2 (guess_ge hv hW hq)
/-- If the second word says so, the guess is too great. -/
theorem guess_down {W v vt vs B C top u2 q g rest : Nat} (hv : (vt * B + vs) * C ≤ v) (hW : W < ((top * B + u2) + 1) * C) (hq : q * v ≤ W)
    (hg : q ≤ g) (hr : g * vt + rest = top) (hgt : rest * B + u2 < g * vs) : q < g := by
  rcases Nat.lt_or_ge q g with h | h
  · exact h
  · exfalso
    have e : q = g := Nat.le_antisymm hg h
    subst e
    have h1 := guess_ge (vt := vt * B + vs) (top := top * B + u2) hv hW hq
    have h2 : q * (vt * B + vs) = q * vt * B + q * vs := by rw [Nat.mul_add, Nat.mul_assoc]
    have h3 : top * B = q * vt * B + rest * B := by rw [← hr, Nat.add_mul]
    omega
theorem val_drop_bounds {b : Nat} (hb : 0 < b) {l : List Nat} (h : Low b l) (i : Nat) (hi : i ≤ l.length) : val b (l.drop i) * b ^ i ≤ val b l ∧ val b l < (val b (l.drop i) + 1) * b ^ i := by
  have h1 := val_take_drop b l i hi
  have h2 := val_lt (low_take h i)
  rw [List.length_take, Nat.min_eq_left hi] at h2
  rw [Nat.mul_comm (val b (l.drop i)), Nat.succ_mul, Nat.mul_comm (val b (l.drop i))]
  omega
theorem val_drop_last (b : Nat) {l : List Nat} {n : Nat} (hl : l.length = n + 1) : val b (l.drop n) = l.getD n 0 := by
  rw [val_drop_succ b l n (by omega), List.drop_of_length_le (by omega)]
  simp [val]
theorem val_drop_last2 (b : Nat) {l : List Nat} {n : Nat} (hl : l.length = n + 2) : val b (l.drop n) = l.getD n 0 + b * l.getD (n + 1) 0 := by
  rw [val_drop_succ b l n (by omega), val_drop_last b (by omega)]
theorem val_drop_last3 (b : Nat) {l : List Nat} {n : Nat} (hl : l.length = n + 3) : val b (l.drop n) = l.getD n 0 + b * (l.getD (n + 1) 0 + b * l.getD (n + 2) 0) := by
  rw [val_drop_succ b l n (by omega), val_drop_last2 b (by omega)]
theorem getD_drop (l : List Nat) (i j : Nat) : (l.drop i).getD j 0 = l.getD (i + j) 0 := by
  rw [List.getD_eq_getElem?_getD, List.getElem?_drop, ← List.getD_eq_getElem?_getD]
end Go.Proofs.Vc
