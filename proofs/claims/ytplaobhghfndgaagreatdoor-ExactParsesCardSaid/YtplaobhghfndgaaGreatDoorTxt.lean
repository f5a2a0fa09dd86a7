import Derived.Test.YtplaobhghfndgaaGreatDoorDig
import Derived.Test.YtplaobhghfndgaaGreatDoorRatq
/-! Texts of numbers: plain facts, no program in sight. -/
namespace Go.Proofs.Vc
/-- The bytes of a text. -/
def bs (l : List UInt8) : ByteArray := ⟨l.toArray⟩
theorem bs_data (s : ByteArray) : bs s.data.toList = s := rfl
theorem bs_size (l : List UInt8) : (bs l).size = l.length := by simp [bs, ByteArray.size]
theorem bs_append (l m : List UInt8) : bs l ++ bs m = bs (l ++ m) := by
  apply ByteArray.ext; simp [bs, ByteArray.data_append]
theorem bs_extract (l : List UInt8) (i j : Nat) : (bs l).extract i j = bs ((l.take j).drop i) := by
  apply ByteArray.ext; simp [bs, ByteArray.data_extract, List.extract_toArray, List.extract_eq_take_drop, List.drop_take]
theorem bs_get (l : List UInt8) (i : Nat) (hi : i < l.length) : (bs l)[i]? = some (l.getD i 0) := by
  have h : i < (bs l).size := by rw [bs_size]; exact hi
  rw [getElem?_pos (bs l) i h]
  simp [bs, List.getD_eq_getElem?_getD, hi, ByteArray.getElem_eq_getElem_data]
theorem bs_inj {l m : List UInt8} (h : bs l = bs m) : l = m := by
  have := congrArg (fun b : ByteArray => b.data.toList) h; simpa [bs] using this
def ch (d : Nat) : UInt8 := UInt8.ofNat (48 + d)
theorem ch_toNat {d : Nat} (h : d < 10) : (ch d).toNat = 48 + d := by
  unfold ch; rw [UInt8.toNat_ofNat_of_lt' (by simp only [UInt8.size]; omega)]
/-- The digits of a number, the first one first; none of 0. -/
def dtx (n : Nat) : List UInt8 := (dig 10 n).reverse.map ch
/-- The decimal text of a number. -/
def decT (n : Nat) : List UInt8 := if n = 0 then [48] else dtx n
/-- The number of digits. -/
def numF (a : Nat) (l : List UInt8) : Nat := l.foldl (fun a c => 10 * a + (c.toNat - 48)) a
def numT (l : List UInt8) : Nat := numF 0 l
def isDig (c : UInt8) : Bool := decide (48 ≤ c.toNat) && decide (c.toNat ≤ 57)
def allDig (l : List UInt8) : Bool := l.all isDig && !l.isEmpty
theorem numF_add (l : List UInt8) : ∀ a, numF a l = a * 10 ^ l.length + numT l := by
  induction l with
  | nil => intro a; simp [numF, numT]
  | cons c l ih =>
    intro a
    have h1 : numF a (c :: l) = numF (10 * a + (c.toNat - 48)) l := rfl
    have h2 : numT (c :: l) = numF (10 * 0 + (c.toNat - 48)) l := rfl
    rw [h1, h2, ih, ih]
    simp only [List.length_cons, Nat.pow_succ]
    generalize 10 ^ l.length = p
    generalize c.toNat - 48 = d
    grind
theorem numT_append (l m : List UInt8) : numT (l ++ m) = numT l * 10 ^ m.length + numT m := by
  unfold numT; rw [numF, List.foldl_append]; exact numF_add m _
theorem numT_snoc (l : List UInt8) (c : UInt8) : numT (l ++ [c]) = 10 * numT l + (c.toNat - 48) := by
  rw [numT_append]; simp only [numT, numF, List.foldl, List.length_cons, List.length_nil]; omega
theorem numT_lt {l : List UInt8} (h : l.all isDig = true) : numT l < 10 ^ l.length := by
  rw [← List.reverse_reverse l] at h ⊢
  generalize l.reverse = m at *
  induction m with
  | nil => simp [numT, numF]
  | cons c m ih =>
    rw [List.reverse_cons] at h ⊢
    rw [List.all_append, Bool.and_eq_true] at h
    have h1 := ih h.1
    have h2 : isDig c = true := by simpa using h.2
    simp only [isDig, Bool.and_eq_true, decide_eq_true_eq] at h2
    rw [numT_snoc, List.length_append, List.length_singleton, Nat.pow_succ]
    omega
/-- Digits with zeros ahead. -/
theorem cutz_rev (l : List Nat) : (cutz l).reverse = l.reverse.dropWhile (· == 0) := by
  induction l with
  | nil => rfl
  | cons x l ih =>
    simp only [cutz, List.reverse_cons]
    rw [List.dropWhile_append, ← ih]
    cases hc : cutz l with
    | nil =>
      by_cases hx : x = 0
      · subst hx; simp
      · simp [hx]
    | cons y ys => simp
theorem ch_zero {d : Nat} (h : d < 10) : (ch d == 48) = (d == 0) := by
  rw [Bool.eq_iff_iff, beq_iff_eq, beq_iff_eq]
  constructor
  · intro h1
    have h2 := ch_toNat h
    rw [h1] at h2
    have : (48 : UInt8).toNat = 48 := rfl
    omega
  · rintro rfl; rfl
theorem dropWhile_map_ch (l : List Nat) (h : Low 10 l) : (l.map ch).dropWhile (· == 48) = (l.dropWhile (· == 0)).map ch := by
  induction l with
  | nil => rfl
  | cons x l ih =>
    obtain ⟨hx, hl⟩ := low_cons.1 h
    rw [List.map_cons, List.dropWhile_cons, List.dropWhile_cons, ch_zero hx]
    cases hc : (x == 0) with
    | true => simpa using ih hl
    | false => simp
/-- Digits without the zeros ahead are those of their number. -/
theorem trim_dtx {ds : List Nat} (h : Low 10 ds) : (ds.reverse.map ch).dropWhile (· == 48) = dtx (val 10 ds) := by
  rw [dropWhile_map_ch _ (fun x hx => h x (by simpa using hx)), ← cutz_rev, cutz_eq (by decide) h]; rfl
/-- A number without its factors d, and how many there are. -/
def stripN (d n : Nat) : Nat × Nat :=
  if h : 2 ≤ d ∧ 0 < n ∧ n % d = 0 then ((stripN d (n / d)).1, (stripN d (n / d)).2 + 1) else (n, 0)
termination_by n
decreasing_by all_goals exact Nat.div_lt_self h.2.1 (by omega)
theorem stripN_stop {d n : Nat} (h : n % d ≠ 0) : stripN d n = (n, 0) := by rw [stripN]; rw [dif_neg (fun hh => h hh.2.2)]
theorem stripN_go {d n : Nat} (hd : 2 ≤ d) (hn : 0 < n) (h : n % d = 0) : stripN d n = ((stripN d (n / d)).1, (stripN d (n / d)).2 + 1) := by
  conv => lhs; rw [stripN]
  rw [dif_pos ⟨hd, hn, h⟩]
theorem stripN_eq {d : Nat} (hd : 2 ≤ d) (n : Nat) (hn : 0 < n) : n = (stripN d n).1 * d ^ (stripN d n).2 ∧ (stripN d n).1 % d ≠ 0 ∧ 0 < (stripN d n).1 := by
  induction n using Nat.strongRecOn with
  | _ n ih =>
    by_cases h : n % d = 0
    · rw [stripN_go hd hn h]
      have h1 : 0 < n / d := Nat.div_pos (Nat.le_of_dvd hn (Nat.dvd_of_mod_eq_zero h)) (by omega)
      obtain ⟨h2, h3, h4⟩ := ih (n / d) (Nat.div_lt_self hn (by omega)) h1
      refine ⟨?_, h3, h4⟩
      dsimp only
      rw [Nat.pow_succ, ← Nat.mul_assoc, ← h2]
      exact (Nat.div_mul_cancel (Nat.dvd_of_mod_eq_zero h)).symm
    · rw [stripN_stop h]; exact ⟨by simp, h, hn⟩
/-- Digits of a decimal with some places. -/
def decPt (d : List UInt8) (places : Nat) : List UInt8 :=
  let d' := List.replicate (places + 1 - d.length) 48 ++ d
  d'.take (d'.length - places) ++ [46] ++ d'.drop (d'.length - places)
/-- The text of a fraction in lowest terms. -/
def textA (a b : Nat) : List UInt8 :=
  if b = 1 then decT a else
  let two := stripN 2 b
  let five := stripN 5 two.1
  if five.1 = 1 then decPt (decT (a * 2 ^ (max two.2 five.2 - two.2) * 5 ^ (max two.2 five.2 - five.2))) (max two.2 five.2)
  else decT a ++ [47] ++ decT b
/-- The text of a number. -/
def textQ (q : Rat) : List UInt8 := (if q.num < 0 then [45] else []) ++ textA q.num.natAbs q.den
/-- What is ahead of the first c, and what is behind it. -/
def cutC (c : UInt8) (l : List UInt8) : List UInt8 × Option (List UInt8) :=
  match l with
  | [] => ([], none)
  | x :: l => if x = c then ([], some l) else (x :: (cutC c l).1, (cutC c l).2)
def okFront (l : List UInt8) : Bool := allDig l && !(l.head? == some 48 && decide (1 < l.length))
def parseF (m : Bool) (l : List UInt8) : Rat × Nat :=
  match cutC 47 l with
  | (f, some b) => if okFront f && (allDig b && !(b.head? == some 48)) then (rat m (numT f) (numT b), 0) else (0, 4)
  | (_, none) => match cutC 46 l with
    | (f, some d) => if okFront f && allDig d then (rat m (numT (f ++ d)) (10 ^ d.length), 0) else (0, 4)
    | (f, none) => if okFront f then (rat m (numT f) 1, 0) else (0, 4)
/-- The value of a numeral, and the error. -/
def parseQ (l : List UInt8) : Rat × Nat :=
  if 2000 < l.length then (0, 5) else
  match l with
  | 45 :: l => parseF true l
  | l => parseF false l
end Go.Proofs.Vc
