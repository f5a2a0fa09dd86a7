import Derived.Test.YtplaobhghfndgaaGreatDoorStr
import Derived.Test.YtplaobhghfndgaaGreatDoorBoxq
/-! Boxes: how they lie in memory; the least and the greatest of some numbers. -/
set_option linter.unusedVariables false
set_option linter.unusedSimpArgs false
set_option maxRecDepth 100000
namespace Go.Proofs.YtplaobhghfndgaaGreatDoor
open Go Go.Proofs.Vc
attribute [local irreducible] CallsO EffO PureO LoadO StoreO EndO LoopV RoundO
abbrev bval (a b : RN) : Value := .agg #[.bool a.m, .slice a.A a.n a.c, .slice a.B a.n' a.c', .bool b.m, .slice b.A b.n b.c, .slice b.B b.n' b.c']
theorem cmpQ_pos (p q : Rat) : 0 < cmpQ p q ↔ q < p := by
  unfold cmpQ
  split
  · rename_i h; exact ⟨fun e => absurd e (by decide), fun e => by grind⟩
  · split
    · rename_i h; exact ⟨fun _ => h, fun _ => by decide⟩
    · rename_i h; exact ⟨fun e => absurd e (by decide), fun e => absurd e h⟩
theorem cmpQ_neg (p q : Rat) : cmpQ p q < 0 ↔ p < q := by
  unfold cmpQ
  split
  · rename_i h; exact ⟨fun _ => h, fun _ => by decide⟩
  · rename_i h
    split
    · exact ⟨fun e => absurd e (by decide), fun e => absurd e h⟩
    · exact ⟨fun e => absurd e (by decide), fun e => absurd e h⟩
theorem cmpQ_zero (p q : Rat) : cmpQ p q = 0 ↔ p = q := by
  have h1 := cmpQ_pos p q
  have h2 := cmpQ_neg p q
  constructor
  · intro h
    have : ¬ q < p := fun e => by have := h1.2 e; omega
    have : ¬ p < q := fun e => by have := h2.2 e; omega
    grind
  · rintro rfl
    have : ¬ p < p := by grind
    unfold cmpQ; rw [if_neg this, if_neg this]
/-- A box in memory. -/
def BoxV (h : Heap) (v : Value) (k : Nat) (lo hi : Rat) : Prop := ∃ a b : RN, v = bval a b ∧ NumV h a.val k lo ∧ NumV h b.val k hi
theorem BoxV.mono {h h' : Heap} (hle : Le h h') {v : Value} {k : Nat} {lo hi : Rat} (H : BoxV h v k lo hi) : BoxV h' v k lo hi := by
  obtain ⟨a, b, h1, h2, h3⟩ := H
  exact ⟨a, b, h1, h2.mono hle, h3.mono hle⟩
theorem BoxV.up {h : Heap} {v : Value} {k l : Nat} {lo hi : Rat} (H : BoxV h v k lo hi) (hkl : k ≤ l) : BoxV h v l lo hi := by
  obtain ⟨a, b, h1, h2, h3⟩ := H
  exact ⟨a, b, h1, h2.up hkl, h3.up hkl⟩
theorem bld63 (a b : RN) (w : World) : (Instr.build 63 #[(0, a.val), (1, b.val)]).run Tryz.prog w = .ok (bval a b) w := by kernel_rfl
theorem bld63n (w : World) : (Instr.build 63 #[]).run Tryz.prog w = .ok (bval ⟨false, none, 0, 0, none, 0, 0⟩ ⟨false, none, 0, 0, none, 0, 0⟩) w := by kernel_rfl
theorem BoxV.zero (h : Heap) (k : Nat) : BoxV h (bval ⟨false, none, 0, 0, none, 0, 0⟩ ⟨false, none, 0, 0, none, 0, 0⟩) k 0 0 := ⟨_, _, rfl, NumV.zero _ _, NumV.zero _ _⟩
section
variable {P : Program} {ρ : Operand → Value} {dst : Option Nat} {ty t : Nat} {pos : String} {af : Array Edge} {gu : Option (Nat × Bool)} {K : Value → Prop} {ps : Array (Nat × Operand)}
theorem pO_bldt (l : List (Nat × Value)) {y : Value} (hp : (ps.toList.map fun p => (p.1, ρ p.2)) = l) (H : ∀ w, (Instr.build t l.toArray).run P w = .ok y w) (hK : K y) : PureO P (execOp ρ ⟨dst, .build t ps, ty, pos, af, gu⟩) K := by
  subst hp
  exact pO_build y (fun w => by rw [← H w]; congr 2; simp [← List.map_toArray]) hK
theorem pO_b63 (a b : RN) (hp : (ps.toList.map fun p => (p.1, ρ p.2)) = [(0, a.val), (1, b.val)]) (hK : K (bval a b)) : PureO Tryz.prog (execOp ρ ⟨dst, .build 63 ps, ty, pos, af, gu⟩) K :=
  pO_bldt _ hp (bld63 _ _) hK
theorem pO_b63n (hp : (ps.toList.map fun p => (p.1, ρ p.2)) = []) (hK : K (bval ⟨false, none, 0, 0, none, 0, 0⟩ ⟨false, none, 0, 0, none, 0, 0⟩)) : PureO Tryz.prog (execOp ρ ⟨dst, .build 63 ps, ty, pos, af, gu⟩) K :=
  pO_bldt _ hp bld63n hK
end
section
variable {h : Heap}
theorem lo_b {x : Value} {k : Nat} {lo hi : Rat} (hx : BoxV h x k lo hi) : CallGo Tryz.prog 72 #[x] h NoX fun v h' => NumV h' v k lo := by
  obtain ⟨a, b, rfl, h1, h2⟩ := hx
  refine v_fn tb k72 [bval a b] rfl ?_
  conv => whnf
  exact EndO.go h1
theorem hi_b {x : Value} {k : Nat} {lo hi : Rat} (hx : BoxV h x k lo hi) : CallGo Tryz.prog 73 #[x] h NoX fun v h' => NumV h' v k hi := by
  obtain ⟨a, b, rfl, h1, h2⟩ := hx
  refine v_fn tb k73 [bval a b] rfl ?_
  conv => whnf
  exact EndO.go h2
theorem span_b {x y : Value} {k : Nat} {p q : Rat} (hx : NumV h x k p) (hy : NumV h y k q) (hk : k < 134217728) : CallGo Tryz.prog 51 #[x, y] h NoX fun v h' => ∃ z, v = .tuple #[z, .int .i64 (if q < p then 12 else 0)] ∧ BoxV h' z k (if q < p then 0 else p) (if q < p then 0 else q) := by
  have hx' := hx
  have hy' := hy
  obtain ⟨a, rfl⟩ := hx.raw
  obtain ⟨b, rfl⟩ := hy.raw
  refine v_fn tb k51 [a.val, b.val] rfl ?_
  conv => whnf
  refine CallsO.go (cmp_n hx' hy' (by omega)) ?_
  rintro v1 h1 hle1 rfl
  conv => whnf
  by_cases hqp : q < p
  · rw [if_pos hqp, if_pos hqp, if_pos hqp]
    refine pO_gtr rfl rfl (true) (decide_eq_true ((cmpQ_pos _ _).2 hqp)) ?_
    conv => whnf
    refine pO_b63n rfl ?_
    conv => whnf
    exact EndO.go ⟨_, rfl, BoxV.zero _ _⟩
  · rw [if_neg hqp, if_neg hqp, if_neg hqp]
    refine pO_gtr rfl rfl (false) (decide_eq_false (fun e => hqp ((cmpQ_pos _ _).1 e))) ?_
    conv => whnf
    refine pO_b63 a b rfl ?_
    conv => whnf
    exact EndO.go ⟨_, rfl, a, b, rfl, hx'.mono hle1, hy'.mono hle1⟩
/-! ### The least and the greatest -/
/-- The cells of some numbers. -/
def ncs (l : List RN) : List Value := l.flatMap RN.cs
theorem ncs_length (l : List RN) : (ncs l).length = l.length * 3 := by
  induction l with
  | nil => rfl
  | cons r l ih => simp only [ncs, List.flatMap_cons, List.length_append] at ih ⊢; simp only [List.length_cons, List.length_nil, ih]; omega
theorem ncs_get : ∀ (l : List RN) (j : Nat) (hj : j < l.length), ((ncs l).drop (j * 3)).take 3 = (l[j]).cs
  | [], j, hj => by simp at hj
  | r :: l, 0, _ => rfl
  | r :: l, j + 1, hj => by
    have h1 : ncs (r :: l) = r.cs ++ ncs l := rfl
    rw [h1, Nat.succ_mul, Nat.add_comm, ← List.drop_drop]
    have h2 : (r.cs ++ ncs l).drop 3 = ncs l := rfl
    rw [h2]
    exact ncs_get l j (by simpa using hj)
theorem s26 : ∀ w, (sizeOf 26).run Tryz.prog w = .ok 3 w := fun w => by kernel_rfl
theorem u95 : Tryz.prog.underlying 95 = some (.slice 26) := by kernel_rfl
theorem e26 : Elem Tryz.prog 26 (.agg #[.bool false, .slice none 0 0, .slice none 0 0]) 3 := Elem.of (bytes := 56) (by kernel_rfl) (by kernel_rfl) (by kernel_rfl) (by decide)
theorem z26 : ∀ w, (zeroValue 26).run Tryz.prog w = .ok (.agg #[.bool false, .slice none 0 0, .slice none 0 0]) w := fun w => by kernel_rfl
/-- A number of a list is read. -/
theorem at_num {ρ : Operand → Value} {dst : Option Nat} {ty : Nat} {pos : String} {af : Array Edge} {gu : Option (Nat × Bool)} {K : Value → Prop} {x i : Operand} {A : Option Addr} {n c : Nat} {k : IntKind} {j : Nat} {l : List RN} {r : RN}
    (hx : ρ x = .slice A n c) (hi : ρ i = .int k (j : Int)) (hr : Row h A (ncs l)) (hn : l.length = n) (hj : l[j]? = some r) (hK : ∀ p, At h p r.cs → K p) :
    PureO Tryz.prog (execOp ρ ⟨dst, .indexAddr 95 x i, ty, pos, af, gu⟩) K := by
  obtain ⟨hj1, hj2⟩ := List.getElem?_eq_some_iff.1 hj
  refine pO_at u95 s26 hx hi hr (by rw [ncs_length, hn]) (by omega) (by omega) (by decide) fun p hp => hK p ?_
  rw [Int.toNat_natCast, ncs_get l j hj1, hj2] at hp
  exact hp
/-- The numbers of a list. -/
def NumL (h : Heap) (k : Nat) (l : List (RN × Rat)) : Prop := ∀ x ∈ l, NumV h x.1.val k x.2
theorem NumL.mono {h h' : Heap} (hle : Le h h') {k : Nat} {l : List (RN × Rat)} (H : NumL h k l) : NumL h' k l := fun x hx => (H x hx).mono hle
def minL (q : Rat) (l : List Rat) : Rat := l.foldl minQ q
def maxL (q : Rat) (l : List Rat) : Rat := l.foldl maxQ q
theorem min_f {A : Option Addr} {n c k : Nat} {r0 : RN} {q0 : Rat} {l : List (RN × Rat)} (hr : Row h A (ncs (r0 :: l.map (·.1)))) (hn : l.length + 1 = n) (h0 : NumV h r0.val k q0) (hl : NumL h k l) (hk : k < 134217728) (hb : n < 1099511627776) :
    CallGo Tryz.prog 181 #[.slice A n c, .func (.func 34) #[] #[]] h NoX fun v h' => NumV h' v k (minL q0 (l.map (·.2))) := by
  subst hn
  refine v_fn tb k181 [.slice A (l.length + 1) c, .func (.func 34) #[] #[]] rfl ?_
  conv => whnf
  refine pO_lss rfl rfl (false) (decide_eq_false (by omega)) ?_
  conv => whnf
  refine at_num (j := 0) rfl rfl hr (by simp) rfl fun p0 hp0 => ?_
  conv => whnf
  refine lO_agg hp0 rfl ?_
  conv => whnf
  refine LoopV.by (α := Nat × RN) (fun y => [(0, .v (.slice A (l.length + 1) c)), (1, .v (.func (.func 34) #[] #[])), (4, .p 4 0), (5, .p 5 0), (6, .v (.int .i64 (y.1 : Nat)))]) (fun y => [(4, [.bool false, .slice none 0 0, .slice none 0 0]), (5, y.2.cs)])
    (fun y h' => Le h h' ∧ 1 ≤ y.1 ∧ y.1 ≤ l.length + 1 ∧ NumV h' y.2.val k (minL q0 ((l.take (y.1 - 1)).map (·.2)))) (fun y => l.length + 1 - y.1) (1, r0)
    ⟨rfl, rfl, rfl, rfl, rfl, rfl, rfl, rfl, rfl, rfl, trivial⟩ ⟨rfl, rfl, trivial⟩ ⟨Le.refl _, Nat.le_refl _, by dsimp only; omega, h0⟩ ?_
  rintro ⟨i, r⟩ h1 ⟨hle1, hi1, hi, hcur⟩
  dsimp only at hi1 hi hcur
  dsimp only
  conv => whnf
  rcases Nat.lt_or_ge i (l.length + 1) with hin | hin
  · refine pO_lss rfl rfl (true) (decide_eq_true (by omega)) ?_
    conv => whnf
    obtain ⟨j, rfl⟩ : ∃ j, i = j + 1 := ⟨i - 1, by omega⟩
    rw [Nat.add_sub_cancel] at hcur
    have hjl : j < l.length := by omega
    obtain ⟨⟨ri, qi⟩, hli⟩ : ∃ x, l[j]? = some x := ⟨_, List.getElem?_eq_getElem hjl⟩
    have hmem : (ri, qi) ∈ l := List.mem_of_getElem? hli
    have hqi := (hl _ hmem).mono hle1
    dsimp only at hqi
    have hri : (r0 :: l.map (·.1))[j + 1]? = some ri := by simp [hli]
    have hts : (l.take (j + 1)).map (·.2) = (l.take j).map (·.2) ++ [qi] := by
      rw [List.take_add_one, hli]; simp
    have hms : minL q0 ((l.take (j + 1)).map (·.2)) = minQ (minL q0 ((l.take j).map (·.2))) qi := by
      rw [hts]; unfold minL; rw [List.foldl_append]; rfl
    refine at_num (j := j + 1) rfl rfl (hr.mono hle1) (by simp) hri fun p1 hp1 => ?_
    conv => whnf
    refine lO_agg hp1 rfl ?_
    conv => whnf
    refine CallsO.go (cmp_n hqi hcur (by omega)) ?_
    rintro v1 h2 hle2 rfl
    conv => whnf
    generalize hM : minL q0 ((l.take j).map (·.2)) = M at *
    by_cases hc : cmpQ qi M < 0
    · refine pO_lss rfl rfl (true) (decide_eq_true hc) ?_
      conv => whnf
      refine at_num (j := j + 1) rfl rfl (hr.mono (hle1.trans hle2)) (by simp) hri fun p2 hp2 => ?_
      conv => whnf
      refine lO_agg hp2 rfl ?_
      conv => whnf
      refine pO_add rfl rfl (((j + 1 + 1 : Nat) : Int)) (wr64 (by omega) (by omega) (by omega)) ?_
      conv => whnf
      refine RoundO.go ⟨(j + 1 + 1, ri), ⟨rfl, rfl, rfl, rfl, rfl, rfl, rfl, rfl, rfl, rfl, trivial⟩, ⟨rfl, rfl, trivial⟩, ⟨hle1.trans hle2, by dsimp only; omega, by dsimp only; omega, ?_⟩, by dsimp only; omega⟩
      dsimp only
      rw [Nat.add_sub_cancel, hms]
      have e : minQ M qi = qi := if_pos (by first | exact (cmpQ_neg _ _).1 hc | exact (cmpQ_pos _ _).1 hc)
      rw [e]; exact hqi.mono hle2
    · refine pO_lss rfl rfl (false) (decide_eq_false hc) ?_
      conv => whnf
      refine pO_add rfl rfl (((j + 1 + 1 : Nat) : Int)) (wr64 (by omega) (by omega) (by omega)) ?_
      conv => whnf
      refine RoundO.go ⟨(j + 1 + 1, r), ⟨rfl, rfl, rfl, rfl, rfl, rfl, rfl, rfl, rfl, rfl, trivial⟩, ⟨rfl, rfl, trivial⟩, ⟨hle1.trans hle2, by dsimp only; omega, by dsimp only; omega, ?_⟩, by dsimp only; omega⟩
      dsimp only
      rw [Nat.add_sub_cancel, hms]
      have e : minQ M qi = M := if_neg (fun e => hc (by first | exact (cmpQ_neg _ _).2 e | exact (cmpQ_pos _ _).2 e))
      rw [e]; exact hcur.mono hle2
  · refine pO_lss rfl rfl (false) (decide_eq_false (by omega)) ?_
    conv => whnf
    have hi2 : i = l.length + 1 := by omega
    subst hi2
    rw [Nat.add_sub_cancel, List.take_of_length_le (Nat.le_refl _)] at hcur
    exact EndO.go hcur
theorem max_f {A : Option Addr} {n c k : Nat} {r0 : RN} {q0 : Rat} {l : List (RN × Rat)} (hr : Row h A (ncs (r0 :: l.map (·.1)))) (hn : l.length + 1 = n) (h0 : NumV h r0.val k q0) (hl : NumL h k l) (hk : k < 134217728) (hb : n < 1099511627776) :
    CallGo Tryz.prog 182 #[.slice A n c, .func (.func 34) #[] #[]] h NoX fun v h' => NumV h' v k (maxL q0 (l.map (·.2))) := by
  subst hn
  refine v_fn tb k182 [.slice A (l.length + 1) c, .func (.func 34) #[] #[]] rfl ?_
  conv => whnf
  refine pO_lss rfl rfl (false) (decide_eq_false (by omega)) ?_
  conv => whnf
  refine at_num (j := 0) rfl rfl hr (by simp) rfl fun p0 hp0 => ?_
  conv => whnf
  refine lO_agg hp0 rfl ?_
  conv => whnf
  refine LoopV.by (α := Nat × RN) (fun y => [(0, .v (.slice A (l.length + 1) c)), (1, .v (.func (.func 34) #[] #[])), (4, .p 4 0), (5, .p 5 0), (6, .v (.int .i64 (y.1 : Nat)))]) (fun y => [(4, [.bool false, .slice none 0 0, .slice none 0 0]), (5, y.2.cs)])
    (fun y h' => Le h h' ∧ 1 ≤ y.1 ∧ y.1 ≤ l.length + 1 ∧ NumV h' y.2.val k (maxL q0 ((l.take (y.1 - 1)).map (·.2)))) (fun y => l.length + 1 - y.1) (1, r0)
    ⟨rfl, rfl, rfl, rfl, rfl, rfl, rfl, rfl, rfl, rfl, trivial⟩ ⟨rfl, rfl, trivial⟩ ⟨Le.refl _, Nat.le_refl _, by dsimp only; omega, h0⟩ ?_
  rintro ⟨i, r⟩ h1 ⟨hle1, hi1, hi, hcur⟩
  dsimp only at hi1 hi hcur
  dsimp only
  conv => whnf
  rcases Nat.lt_or_ge i (l.length + 1) with hin | hin
  · refine pO_lss rfl rfl (true) (decide_eq_true (by omega)) ?_
    conv => whnf
    obtain ⟨j, rfl⟩ : ∃ j, i = j + 1 := ⟨i - 1, by omega⟩
    rw [Nat.add_sub_cancel] at hcur
    have hjl : j < l.length := by omega
    obtain ⟨⟨ri, qi⟩, hli⟩ : ∃ x, l[j]? = some x := ⟨_, List.getElem?_eq_getElem hjl⟩
    have hmem : (ri, qi) ∈ l := List.mem_of_getElem? hli
    have hqi := (hl _ hmem).mono hle1
    dsimp only at hqi
    have hri : (r0 :: l.map (·.1))[j + 1]? = some ri := by simp [hli]
    have hts : (l.take (j + 1)).map (·.2) = (l.take j).map (·.2) ++ [qi] := by
      rw [List.take_add_one, hli]; simp
    have hms : maxL q0 ((l.take (j + 1)).map (·.2)) = maxQ (maxL q0 ((l.take j).map (·.2))) qi := by
      rw [hts]; unfold maxL; rw [List.foldl_append]; rfl
    refine at_num (j := j + 1) rfl rfl (hr.mono hle1) (by simp) hri fun p1 hp1 => ?_
    conv => whnf
    refine lO_agg hp1 rfl ?_
    conv => whnf
    refine CallsO.go (cmp_n hqi hcur (by omega)) ?_
    rintro v1 h2 hle2 rfl
    conv => whnf
    generalize hM : maxL q0 ((l.take j).map (·.2)) = M at *
    by_cases hc : 0 < cmpQ qi M
    · refine pO_gtr rfl rfl (true) (decide_eq_true hc) ?_
      conv => whnf
      refine at_num (j := j + 1) rfl rfl (hr.mono (hle1.trans hle2)) (by simp) hri fun p2 hp2 => ?_
      conv => whnf
      refine lO_agg hp2 rfl ?_
      conv => whnf
      refine pO_add rfl rfl (((j + 1 + 1 : Nat) : Int)) (wr64 (by omega) (by omega) (by omega)) ?_
      conv => whnf
      refine RoundO.go ⟨(j + 1 + 1, ri), ⟨rfl, rfl, rfl, rfl, rfl, rfl, rfl, rfl, rfl, rfl, trivial⟩, ⟨rfl, rfl, trivial⟩, ⟨hle1.trans hle2, by dsimp only; omega, by dsimp only; omega, ?_⟩, by dsimp only; omega⟩
      dsimp only
      rw [Nat.add_sub_cancel, hms]
      have e : maxQ M qi = qi := if_pos (by first | exact (cmpQ_neg _ _).1 hc | exact (cmpQ_pos _ _).1 hc)
      rw [e]; exact hqi.mono hle2
    · refine pO_gtr rfl rfl (false) (decide_eq_false hc) ?_
      conv => whnf
      refine pO_add rfl rfl (((j + 1 + 1 : Nat) : Int)) (wr64 (by omega) (by omega) (by omega)) ?_
      conv => whnf
      refine RoundO.go ⟨(j + 1 + 1, r), ⟨rfl, rfl, rfl, rfl, rfl, rfl, rfl, rfl, rfl, rfl, trivial⟩, ⟨rfl, rfl, trivial⟩, ⟨hle1.trans hle2, by dsimp only; omega, by dsimp only; omega, ?_⟩, by dsimp only; omega⟩
      dsimp only
      rw [Nat.add_sub_cancel, hms]
      have e : maxQ M qi = M := if_neg (fun e => hc (by first | exact (cmpQ_neg _ _).2 e | exact (cmpQ_pos _ _).2 e))
      rw [e]; exact hcur.mono hle2
  · refine pO_lss rfl rfl (false) (decide_eq_false (by omega)) ?_
    conv => whnf
    have hi2 : i = l.length + 1 := by omega
    subst hi2
    rw [Nat.add_sub_cancel, List.take_of_length_le (Nat.le_refl _)] at hcur
    exact EndO.go hcur
theorem minL_mem (q : Rat) (l : List Rat) : minL q l = q ∨ minL q l ∈ l := by
  unfold minL
  induction l generalizing q with
  | nil => exact .inl rfl
  | cons x l ih =>
    rw [List.foldl_cons]
    rcases ih (minQ q x) with h1 | h1
    · rw [h1]
      rcases minQ_or q x with h2 | h2
      · exact .inl h2
      · rw [h2]; exact .inr (by simp)
    · exact .inr (List.mem_cons_of_mem _ h1)
/-- The least box that has some numbers. -/
theorem span_c {x : Value} {A : Option Addr} {n c k : Nat} {q0 : Rat} {l : List (RN × Rat)} (hx : NumV h x k q0) (hr : Row h A (ncs (l.map (·.1)))) (hn : l.length = n) (hne : 0 < n) (hl : NumL h k l) (hk : k < 134217728) (hb : n < 1073741824) :
    CallGo Tryz.prog 144 #[x, .slice A n c] h NoX fun v h' => BoxV h' v k (minL q0 (l.map (·.2))) (maxL q0 (l.map (·.2))) := by
  subst hn
  have hx' := hx
  obtain ⟨r0, rfl⟩ := hx.raw
  refine v_fn tb k144 [r0.val, .slice A l.length c] rfl ?_
  conv => whnf
  refine eO_lits (sz := 3) [r0.val] u95 s26 z26 (by decide) rfl rfl (fun v hv => by rw [List.mem_singleton.1 hv]; rfl) fun g hg => ?_
  conv => whnf
  refine eO_append (hA := h) (news := ncs (l.map (·.1))) (n := 1) (xs := r0.cs) rfl (Le.refl _) (Le.upd hg) u95 e26 rfl (by decide) rfl (Own.lit (cs := (List.flatMap (fun v => v.cells.toList) [r0.val]).toArray) hg (by decide) rfl) rfl hne (by rw [ncs_length, List.length_map]) (hr.mono (Le.upd hg)) ?_ (by omega) fun v' h5 hown5 hle5 => ?_
  · intro u hu
    simp only [ncs, List.mem_flatMap, List.mem_map] at hu
    obtain ⟨r, ⟨x, _, rfl⟩, hu⟩ := hu
    simp only [List.mem_cons, List.not_mem_nil, or_false] at hu
    rcases hu with rfl | rfl | rfl <;> rfl
  obtain ⟨B, cb, rfl, hcb, hrow⟩ := hown5.row
  conv => whnf
  have hrow' : Row h5 B (ncs (r0 :: l.map (·.1))) := hrow
  rw [Nat.add_comm]
  refine CallsO.go (min_f hrow' rfl (hx'.mono hle5) (hl.mono hle5) hk (by omega)) ?_
  rintro v1 h6 hle6 hmin
  conv => whnf
  obtain ⟨r1, rfl⟩ := hmin.raw
  conv => whnf
  refine CallsO.go (max_f (hrow'.mono hle6) rfl (hx'.mono (hle5.trans hle6)) (hl.mono (hle5.trans hle6)) hk (by omega)) ?_
  rintro v2 h7 hle7 hmax
  conv => whnf
  obtain ⟨r2, rfl⟩ := hmax.raw
  conv => whnf
  refine pO_b63 r1 r2 rfl ?_
  conv => whnf
  exact EndO.go ⟨r1, r2, rfl, hmin.mono hle7, hmax⟩
theorem corners_c {x y : Value} {k kr f : Nat} {op : Rat → Rat → Rat} {a b c d : Rat} (hf : ∀ {h : Heap} {x y : Value} {p q : Rat}, NumV h x k p → NumV h y k q → CallGo Tryz.prog f #[x, y] h NoX fun v h' => NumV h' v kr (op p q))
    (hx : BoxV h x k a b) (hy : BoxV h y k c d) (hk : kr < 134217728) : CallGo Tryz.prog 143 #[x, y, .func (.func f) #[] #[]] h NoX fun v h' => BoxV h' v kr (min4 (op a c) (op a d) (op b c) (op b d)) (max4 (op a c) (op a d) (op b c) (op b d)) := by
  obtain ⟨ra, rb, rfl, ha, hb⟩ := hx
  obtain ⟨rc, rd, rfl, hc, hd⟩ := hy
  refine v_fn tb k143 [bval ra rb, bval rc rd, .func (.func f) #[] #[]] rfl ?_
  conv => whnf
  refine CallsO.go (hf ha hc) ?_
  rintro _ h1 hle1 h1v
  obtain ⟨r_h1v, rfl⟩ := h1v.raw
  conv => whnf
  refine CallsO.go (hf (ha.mono hle1) (hd.mono hle1)) ?_
  rintro _ h2 hle2 h2v
  obtain ⟨r_h2v, rfl⟩ := h2v.raw
  conv => whnf
  refine CallsO.go (hf (hb.mono (hle1.trans hle2)) (hc.mono (hle1.trans hle2))) ?_
  rintro _ h3 hle3 h3v
  obtain ⟨r_h3v, rfl⟩ := h3v.raw
  conv => whnf
  refine CallsO.go (hf (hb.mono (hle1.trans (hle2.trans hle3))) (hd.mono (hle1.trans (hle2.trans hle3)))) ?_
  rintro _ h4 hle4 h4v
  obtain ⟨r_h4v, rfl⟩ := h4v.raw
  conv => whnf
  refine eO_lits (sz := 3) [r_h2v.val, r_h3v.val, r_h4v.val] u95 s26 z26 (by decide) rfl rfl (fun v hv => by simp at hv; rcases hv with rfl | rfl | rfl <;> rfl) fun g hg => ?_
  conv => whnf
  have hNL : NumL (h4.upd g (.cells (List.flatMap (fun v => v.cells.toList) [r_h2v.val, r_h3v.val, r_h4v.val]).toArray 26 (0, 0))) kr [(r_h2v, op a d), (r_h3v, op b c), (r_h4v, op b d)] := by
    intro x hx
    simp at hx
    rcases hx with rfl | rfl | rfl
    · exact h2v.mono ((hle3.trans hle4).trans (Le.upd hg))
    · exact h3v.mono (hle4.trans (Le.upd hg))
    · exact h4v.mono (Le.upd hg)
  refine CallsO.go (span_c (l := [(r_h2v, op a d), (r_h3v, op b c), (r_h4v, op b d)]) (h1v.mono ((hle2.trans (hle3.trans hle4)).trans (Le.upd hg))) (row_v (n := 9) (Heap.upd_same _ _ _) rfl (Nat.le_refl 9)) rfl (by decide) hNL hk (by decide)) ?_
  rintro v5 h5 hle5 ⟨r1, r2, rfl, hb1, hb2⟩
  conv => whnf
  exact EndO.go ⟨r1, r2, rfl, hb1, hb2⟩
theorem mul_x {x y : Value} {k : Nat} {a b c d : Rat} (hx : BoxV h x k a b) (hy : BoxV h y k c d) (hk : k < 33554432) : CallGo Tryz.prog 79 #[x, y] h NoX fun v h' => BoxV h' v (k + k) (min4 (a * c) (a * d) (b * c) (b * d)) (max4 (a * c) (a * d) (b * c) (b * d)) := by
  have hx' := hx
  have hy' := hy
  obtain ⟨ra, rb, rfl, ha, hb⟩ := hx
  obtain ⟨rc, rd, rfl, hc, hd⟩ := hy
  refine v_fn tb k79 [bval ra rb, bval rc rd] rfl ?_
  conv => whnf
  refine CallsO.go (corners_c (kr := k + k) (op := fun p q => p * q) (fun hp hq => mul_n hp hq (by omega)) hx' hy' (by omega)) ?_
  rintro v5 h5 hle5 ⟨r1, r2, rfl, hb1, hb2⟩
  conv => whnf
  exact EndO.go ⟨r1, r2, rfl, hb1, hb2⟩
end
end Go.Proofs.YtplaobhghfndgaaGreatDoor
