import Derived.Test.YtplaobhghfndgaaGreatDoorGcd
import Derived.Test.YtplaobhghfndgaaGreatDoorScE0
import Derived.Test.YtplaobhghfndgaaGreatDoorScE1
/-! Numbers: how they lie in memory, and the operations. -/
set_option linter.unusedVariables false
set_option linter.unusedSimpArgs false
set_option maxRecDepth 100000
namespace Go.Proofs.YtplaobhghfndgaaGreatDoor
open Go Go.Proofs.Vc
attribute [local irreducible] CallsO EffO PureO LoadO StoreO EndO LoopV RoundO
/-- The denominator as it lies: 0 stands for 1. -/
def bot (q : Rat) : Nat := if q.den = 1 then 0 else q.den
/-- A number in memory, and how great it is. -/
def NumV (h : Heap) (v : Value) (k : Nat) (q : Rat) : Prop :=
  Sm k q ∧ ∃ t u, v = .agg #[.bool (decide (q.num < 0)), t, u] ∧ Lim h t q.num.natAbs ∧ Lim h u (bot q)
theorem NumV.mono {h h' : Heap} (hle : Le h h') {v : Value} {k : Nat} {q : Rat} (H : NumV h v k q) : NumV h' v k q := by
  obtain ⟨h1, t, u, h2, h3, h4⟩ := H
  exact ⟨h1, t, u, h2, h3.mono hle, h4.mono hle⟩
theorem NumV.up {h : Heap} {v : Value} {k l : Nat} {q : Rat} (H : NumV h v k q) (hkl : k ≤ l) : NumV h v l q := ⟨H.1.up hkl, H.2⟩
theorem NumV.open {h : Heap} {v : Value} {k : Nat} {q : Rat} (H : NumV h v k q) : ∃ A ca B cb, v = .agg #[.bool (decide (q.num < 0)), .slice A (sz q.num.natAbs) ca, .slice B (sz (bot q)) cb] ∧
    Lim h (.slice A (sz q.num.natAbs) ca) q.num.natAbs ∧ Lim h (.slice B (sz (bot q)) cb) (bot q) ∧ sz q.num.natAbs ≤ k + 1 ∧ sz q.den ≤ k + 1 ∧ sz (bot q) ≤ k + 1 := by
  obtain ⟨h1, t, u, rfl, h3, h4⟩ := H
  obtain ⟨A, ca, rfl, _⟩ := h3.open
  obtain ⟨B, cb, rfl, _⟩ := h4.open
  refine ⟨A, ca, B, cb, rfl, h3, h4, sz_two h1.1, sz_two h1.2, ?_⟩
  unfold bot; split
  · rw [sz_eq_zero.2 rfl]; exact Nat.zero_le _
  · exact sz_two h1.2
theorem bot_zero {q : Rat} : sz (bot q) = 0 ↔ q.den = 1 := by
  rw [sz_eq_zero]; unfold bot
  split
  · rename_i h; simp [h]
  · rename_i h; exact ⟨fun h1 => absurd h1 (den_ne q), fun h1 => absurd h1 h⟩
theorem num_of {h : Heap} {v t u : Value} {k : Nat} {q : Rat} {m : Bool} (hk : Sm k q) (hv : v = .agg #[.bool m, t, u]) (hm : decide (q.num < 0) = m) (ht : Lim h t q.num.natAbs) (hu : Lim h u (bot q)) : NumV h v k q := by
  subst hm; exact ⟨hk, t, u, hv, ht, hu⟩
theorem NumV.zero (h : Heap) (k : Nat) : NumV h (.agg #[.bool false, .slice none 0 0, .slice none 0 0]) k 0 :=
  ⟨⟨Nat.zero_le _, Nat.one_le_two_pow⟩, _, _, rfl, Lim.nil _ _ _, Lim.nil _ _ _⟩
theorem bld012 (m : Bool) (A : Option Addr) (n c : Nat) (B : Option Addr) (n' c' : Nat) (w : World) : (Instr.build 26 #[(0, .bool m), (1, .slice A n c), (2, .slice B n' c')]).run Tryz.prog w = .ok (.agg #[.bool m, .slice A n c, .slice B n' c']) w := by kernel_rfl
theorem bld01 (m : Bool) (A : Option Addr) (n c : Nat) (w : World) : (Instr.build 26 #[(0, .bool m), (1, .slice A n c)]).run Tryz.prog w = .ok (.agg #[.bool m, .slice A n c, .slice none 0 0]) w := by kernel_rfl
theorem bld1 (A : Option Addr) (n c : Nat) (w : World) : (Instr.build 26 #[(1, .slice A n c)]).run Tryz.prog w = .ok (.agg #[.bool false, .slice A n c, .slice none 0 0]) w := by kernel_rfl
theorem bld12 (A : Option Addr) (n c : Nat) (B : Option Addr) (n' c' : Nat) (w : World) : (Instr.build 26 #[(1, .slice A n c), (2, .slice B n' c')]).run Tryz.prog w = .ok (.agg #[.bool false, .slice A n c, .slice B n' c']) w := by kernel_rfl
theorem bld (w : World) : (Instr.build 26 #[]).run Tryz.prog w = .ok (.agg #[.bool false, .slice none 0 0, .slice none 0 0]) w := by kernel_rfl
section
variable {ρ : Operand → Value} {dst : Option Nat} {ty : Nat} {pos : String} {af : Array Edge} {gu : Option (Nat × Bool)} {K : Value → Prop} {m : Bool} {A B : Option Addr} {n c n' c' : Nat} {ps : Array (Nat × Operand)}
theorem pO_bld (l : List (Nat × Value)) {y : Value} (hp : (ps.toList.map fun p => (p.1, ρ p.2)) = l) (H : ∀ w, (Instr.build 26 l.toArray).run Tryz.prog w = .ok y w) (hK : K y) : PureO Tryz.prog (execOp ρ ⟨dst, .build 26 ps, ty, pos, af, gu⟩) K := by
  subst hp
  exact pO_build y (fun w => by rw [← H w]; congr 2; simp [← List.map_toArray]) hK
theorem pO_b012 (hp : (ps.toList.map fun p => (p.1, ρ p.2)) = [(0, .bool m), (1, .slice A n c), (2, .slice B n' c')]) (hK : K (.agg #[.bool m, .slice A n c, .slice B n' c'])) : PureO Tryz.prog (execOp ρ ⟨dst, .build 26 ps, ty, pos, af, gu⟩) K :=
  pO_bld _ hp (bld012 _ _ _ _ _ _ _) hK
theorem pO_b01 (hp : (ps.toList.map fun p => (p.1, ρ p.2)) = [(0, .bool m), (1, .slice A n c)]) (hK : K (.agg #[.bool m, .slice A n c, .slice none 0 0])) : PureO Tryz.prog (execOp ρ ⟨dst, .build 26 ps, ty, pos, af, gu⟩) K :=
  pO_bld _ hp (bld01 _ _ _ _) hK
theorem pO_b1 (hp : (ps.toList.map fun p => (p.1, ρ p.2)) = [(1, .slice A n c)]) (hK : K (.agg #[.bool false, .slice A n c, .slice none 0 0])) : PureO Tryz.prog (execOp ρ ⟨dst, .build 26 ps, ty, pos, af, gu⟩) K :=
  pO_bld _ hp (bld1 _ _ _) hK
theorem pO_b12 (hp : (ps.toList.map fun p => (p.1, ρ p.2)) = [(1, .slice A n c), (2, .slice B n' c')]) (hK : K (.agg #[.bool false, .slice A n c, .slice B n' c'])) : PureO Tryz.prog (execOp ρ ⟨dst, .build 26 ps, ty, pos, af, gu⟩) K :=
  pO_bld _ hp (bld12 _ _ _ _ _ _) hK
theorem pO_b0 (hp : (ps.toList.map fun p => (p.1, ρ p.2)) = []) (hK : K (.agg #[.bool false, .slice none 0 0, .slice none 0 0])) : PureO Tryz.prog (execOp ρ ⟨dst, .build 26 ps, ty, pos, af, gu⟩) K :=
  pO_bld _ hp bld hK
end
section
variable {h : Heap}
theorem isOne_b {x : Value} {a : Nat} (hx : Lim h x a) (hb : sz a < 1099511627776) (c : Bool) (hc : (a == 1) = c) : CallGo Tryz.prog 141 #[x] h NoX fun v h' => h' = h ∧ v = .bool c := by
  subst hc; exact isOne_c hx hb
theorem whole_c {v : Value} {k : Nat} {q : Rat} (hx : NumV h v k q) (hk : k < 1073741824) (c : Bool) (hc : decide (q.den = 1) = c) : CallGo Tryz.prog 121 #[v] h NoX fun r h' => h' = h ∧ r = .bool c := by
  obtain ⟨A, ca, B, cb, rfl, hA, hB, s1, s2, s3⟩ := hx.open
  refine v_fn tb k121 [.agg #[.bool (decide (q.num < 0)), .slice A (sz q.num.natAbs) ca, .slice B (sz (bot q)) cb]] rfl ?_
  conv => whnf
  have hb := bot_zero (q := q)
  refine pO_eql rfl rfl (c) (by rw [← hc, Bool.eq_iff_iff, beq_iff_eq, decide_eq_true_iff]; omega) ?_
  conv => whnf
  exact EndO.go ⟨rfl, rfl⟩
theorem under_c {v : Value} {k : Nat} {q : Rat} (hx : NumV h v k q) (hk : k < 1073741824) : CallGo Tryz.prog 122 #[v] h NoX fun r h' => Lim h' r q.den := by
  have hx' := hx
  obtain ⟨A, ca, B, cb, rfl, hA, hB, s1, s2, s3⟩ := hx.open
  refine v_fn tb k122 [.agg #[.bool (decide (q.num < 0)), .slice A (sz q.num.natAbs) ca, .slice B (sz (bot q)) cb]] rfl ?_
  conv => whnf
  by_cases hd : q.den = 1
  · refine CallsO.go (whole_c hx' hk true (decide_eq_true hd)) ?_
    rintro v1 h1 hle1 ⟨rfl, rfl⟩
    conv => whnf
    refine CallsO.go (ones_c) ?_
    rintro v2 h2 hle2 hv
    conv => whnf
    exact EndO.go (by rw [hd]; exact hv)
  · refine CallsO.go (whole_c hx' hk false (decide_eq_false hd)) ?_
    rintro v1 h1 hle1 ⟨rfl, rfl⟩
    conv => whnf
    refine EndO.go ?_
    have : bot q = q.den := by unfold bot; rw [if_neg hd]
    rw [this] at hB
    rw [this]; exact hB
theorem reduced_c {m : Bool} {x y : Value} {a b k : Nat} (hx : Lim h x a) (hy : Lim h y b) (hb : b ≠ 0) (hs : sz a + sz b < 549755813880) (hk : Sm k (rat m a b)) : CallGo Tryz.prog 112 #[.bool m, x, y] h NoX fun v h' => NumV h' v k (rat m a b) := by
  have hx' := hx
  have hy' := hy
  obtain ⟨A, ca, rfl, hca, hra⟩ := hx.open
  obtain ⟨B, cb, rfl, hcb, hrb⟩ := hy.open
  have e1 := rat_abs (m := m) (a := a) hb
  have e2 := rat_den (m := m) (a := a) hb
  have e3 := rat_minus (m := m) (a := a) hb
  have hg0 : 0 < Nat.gcd a b := Nat.gcd_pos_of_pos_right _ (Nat.pos_of_ne_zero hb)
  have hsg : sz (Nat.gcd a b) ≤ sz b := sz_mono (Nat.gcd_le_right _ (Nat.pos_of_ne_zero hb))
  refine v_fn tb k112 [.bool m, .slice A (sz a) ca, .slice B (sz b) cb] rfl ?_
  conv => whnf
  refine CallsO.go (gcd_c hx' hy' (by omega)) ?_
  rintro g h1 hle1 hg
  conv => whnf
  by_cases hg1 : Nat.gcd a b = 1
  · rw [hg1, Nat.div_one] at e1 e2 e3
    refine CallsO.go (isOne_b hg (by omega) true (beq_iff_eq.2 hg1)) ?_
    rintro v2 h2 hle2 ⟨rfl, rfl⟩
    conv => whnf
    by_cases hb1 : b = 1
    · refine CallsO.go (isOne_b (hy'.mono hle1) (by omega) true (beq_iff_eq.2 hb1)) ?_
      rintro v5 h5 hle5 ⟨rfl, rfl⟩
      conv => whnf
      cases m
      · conv => whnf
        refine pO_b012 rfl ?_
        conv => whnf
        refine EndO.go (num_of hk rfl (e3) ?_ ?_)
        · rw [e1]; exact (hx'.mono hle1)
        · have e4 : bot (rat _ a b) = _ := (congrArg (fun d : Nat => if d = 1 then 0 else d) e2).trans (if_pos hb1)
          rw [e4]; exact (Lim.nil _ _ _)
      · conv => whnf
        rcases Nat.eq_zero_or_pos a with h0 | h0
        · refine pO_gtr rfl rfl (false) (decide_eq_false (by rw [h0, sz_eq_zero.2 rfl]; decide)) ?_
          conv => whnf
          refine pO_b012 rfl ?_
          conv => whnf
          refine EndO.go (num_of hk rfl (e3.trans (by rw [h0]; rfl : _ = false)) ?_ ?_)
          · rw [e1]; exact (hx'.mono hle1)
          · have e4 : bot (rat _ a b) = _ := (congrArg (fun d : Nat => if d = 1 then 0 else d) e2).trans (if_pos hb1)
            rw [e4]; exact (Lim.nil _ _ _)
        · have h9 : sz a ≠ 0 := fun h => by have := sz_eq_zero.1 h; omega
          refine pO_gtr rfl rfl (true) (decide_eq_true (by omega)) ?_
          conv => whnf
          refine pO_b012 rfl ?_
          conv => whnf
          refine EndO.go (num_of hk rfl (e3.trans (by rw [Bool.true_and]; exact decide_eq_true h0 : _ = true)) ?_ ?_)
          · rw [e1]; exact (hx'.mono hle1)
          · have e4 : bot (rat _ a b) = _ := (congrArg (fun d : Nat => if d = 1 then 0 else d) e2).trans (if_pos hb1)
            rw [e4]; exact (Lim.nil _ _ _)
    · refine CallsO.go (isOne_b (hy'.mono hle1) (by omega) false (beq_eq_false_iff_ne.2 hb1)) ?_
      rintro v5 h5 hle5 ⟨rfl, rfl⟩
      conv => whnf
      cases m
      · conv => whnf
        refine pO_b012 rfl ?_
        conv => whnf
        refine EndO.go (num_of hk rfl (e3) ?_ ?_)
        · rw [e1]; exact (hx'.mono hle1)
        · have e4 : bot (rat _ a b) = _ := (congrArg (fun d : Nat => if d = 1 then 0 else d) e2).trans (if_neg hb1)
          rw [e4]; exact (hy'.mono hle1)
      · conv => whnf
        rcases Nat.eq_zero_or_pos a with h0 | h0
        · refine pO_gtr rfl rfl (false) (decide_eq_false (by rw [h0, sz_eq_zero.2 rfl]; decide)) ?_
          conv => whnf
          refine pO_b012 rfl ?_
          conv => whnf
          refine EndO.go (num_of hk rfl (e3.trans (by rw [h0]; rfl : _ = false)) ?_ ?_)
          · rw [e1]; exact (hx'.mono hle1)
          · have e4 : bot (rat _ a b) = _ := (congrArg (fun d : Nat => if d = 1 then 0 else d) e2).trans (if_neg hb1)
            rw [e4]; exact (hy'.mono hle1)
        · have h9 : sz a ≠ 0 := fun h => by have := sz_eq_zero.1 h; omega
          refine pO_gtr rfl rfl (true) (decide_eq_true (by omega)) ?_
          conv => whnf
          refine pO_b012 rfl ?_
          conv => whnf
          refine EndO.go (num_of hk rfl (e3.trans (by rw [Bool.true_and]; exact decide_eq_true h0 : _ = true)) ?_ ?_)
          · rw [e1]; exact (hx'.mono hle1)
          · have e4 : bot (rat _ a b) = _ := (congrArg (fun d : Nat => if d = 1 then 0 else d) e2).trans (if_neg hb1)
            rw [e4]; exact (hy'.mono hle1)
  · refine CallsO.go (isOne_b hg (by omega) false (beq_eq_false_iff_ne.2 hg1)) ?_
    rintro v2 h2 hle2 ⟨rfl, rfl⟩
    conv => whnf
    refine CallsO.go (div_c (hx'.mono hle1) hg hg0 (by omega)) ?_
    rintro v3 h3 hle3 ⟨q1, r1, rfl, hq1, hr1⟩
    conv => whnf
    refine CallsO.go (div_c (hy'.mono (hle1.trans hle3)) (hg.mono hle3) hg0 (by omega)) ?_
    rintro v4 h4 hle4 ⟨q2, r2, rfl, hq2, hr2⟩
    conv => whnf
    have hs1 : sz (a / Nat.gcd a b) ≤ sz a := sz_mono (Nat.div_le_self _ _)
    have hs2 : sz (b / Nat.gcd a b) ≤ sz b := sz_mono (Nat.div_le_self _ _)
    obtain ⟨A, ca, rfl, hca, hra⟩ := hq1.open
    obtain ⟨B, cb, rfl, hcb, hrb⟩ := hq2.open
    by_cases hb1 : (b / Nat.gcd a b) = 1
    · refine CallsO.go (isOne_b (hq2) (by omega) true (beq_iff_eq.2 hb1)) ?_
      rintro v5 h5 hle5 ⟨rfl, rfl⟩
      conv => whnf
      cases m
      · conv => whnf
        refine pO_b012 rfl ?_
        conv => whnf
        refine EndO.go (num_of hk rfl (e3) ?_ ?_)
        · rw [e1]; exact (hq1.mono hle4)
        · have e4 : bot (rat _ a b) = _ := (congrArg (fun d : Nat => if d = 1 then 0 else d) e2).trans (if_pos hb1)
          rw [e4]; exact (Lim.nil _ _ _)
      · conv => whnf
        rcases Nat.eq_zero_or_pos (a / Nat.gcd a b) with h0 | h0
        · refine pO_gtr rfl rfl (false) (decide_eq_false (by rw [h0, sz_eq_zero.2 rfl]; decide)) ?_
          conv => whnf
          refine pO_b012 rfl ?_
          conv => whnf
          refine EndO.go (num_of hk rfl (e3.trans (by rw [h0]; rfl : _ = false)) ?_ ?_)
          · rw [e1]; exact (hq1.mono hle4)
          · have e4 : bot (rat _ a b) = _ := (congrArg (fun d : Nat => if d = 1 then 0 else d) e2).trans (if_pos hb1)
            rw [e4]; exact (Lim.nil _ _ _)
        · have h9 : sz (a / Nat.gcd a b) ≠ 0 := fun h => by have := sz_eq_zero.1 h; omega
          refine pO_gtr rfl rfl (true) (decide_eq_true (by omega)) ?_
          conv => whnf
          refine pO_b012 rfl ?_
          conv => whnf
          refine EndO.go (num_of hk rfl (e3.trans (by rw [Bool.true_and]; exact decide_eq_true h0 : _ = true)) ?_ ?_)
          · rw [e1]; exact (hq1.mono hle4)
          · have e4 : bot (rat _ a b) = _ := (congrArg (fun d : Nat => if d = 1 then 0 else d) e2).trans (if_pos hb1)
            rw [e4]; exact (Lim.nil _ _ _)
    · refine CallsO.go (isOne_b (hq2) (by omega) false (beq_eq_false_iff_ne.2 hb1)) ?_
      rintro v5 h5 hle5 ⟨rfl, rfl⟩
      conv => whnf
      cases m
      · conv => whnf
        refine pO_b012 rfl ?_
        conv => whnf
        refine EndO.go (num_of hk rfl (e3) ?_ ?_)
        · rw [e1]; exact (hq1.mono hle4)
        · have e4 : bot (rat _ a b) = _ := (congrArg (fun d : Nat => if d = 1 then 0 else d) e2).trans (if_neg hb1)
          rw [e4]; exact (hq2)
      · conv => whnf
        rcases Nat.eq_zero_or_pos (a / Nat.gcd a b) with h0 | h0
        · refine pO_gtr rfl rfl (false) (decide_eq_false (by rw [h0, sz_eq_zero.2 rfl]; decide)) ?_
          conv => whnf
          refine pO_b012 rfl ?_
          conv => whnf
          refine EndO.go (num_of hk rfl (e3.trans (by rw [h0]; rfl : _ = false)) ?_ ?_)
          · rw [e1]; exact (hq1.mono hle4)
          · have e4 : bot (rat _ a b) = _ := (congrArg (fun d : Nat => if d = 1 then 0 else d) e2).trans (if_neg hb1)
            rw [e4]; exact (hq2)
        · have h9 : sz (a / Nat.gcd a b) ≠ 0 := fun h => by have := sz_eq_zero.1 h; omega
          refine pO_gtr rfl rfl (true) (decide_eq_true (by omega)) ?_
          conv => whnf
          refine pO_b012 rfl ?_
          conv => whnf
          refine EndO.go (num_of hk rfl (e3.trans (by rw [Bool.true_and]; exact decide_eq_true h0 : _ = true)) ?_ ?_)
          · rw [e1]; exact (hq1.mono hle4)
          · have e4 : bot (rat _ a b) = _ := (congrArg (fun d : Nat => if d = 1 then 0 else d) e2).trans (if_neg hb1)
            rw [e4]; exact (hq2)
end
theorem NumV.open2 {h : Heap} {v : Value} {k : Nat} {q : Rat} (H : NumV h v k q) : ∃ m A ca B cb, decide (q.num < 0) = m ∧ v = .agg #[.bool m, .slice A (sz q.num.natAbs) ca, .slice B (sz (bot q)) cb] ∧
    Lim h (.slice A (sz q.num.natAbs) ca) q.num.natAbs ∧ Lim h (.slice B (sz (bot q)) cb) (bot q) ∧ sz q.num.natAbs ≤ k + 1 ∧ sz q.den ≤ k + 1 ∧ sz (bot q) ≤ k + 1 := by
  obtain ⟨A, ca, B, cb, h1, h2⟩ := H.open
  exact ⟨_, A, ca, B, cb, rfl, h1, h2⟩
/-- A number's cells. -/
structure RN where
  m : Bool
  A : Option Addr
  n : Nat
  c : Nat
  B : Option Addr
  n' : Nat
  c' : Nat
abbrev RN.cs (r : RN) : List Value := [.bool r.m, .slice r.A r.n r.c, .slice r.B r.n' r.c']
abbrev RN.val (r : RN) : Value := .agg #[.bool r.m, .slice r.A r.n r.c, .slice r.B r.n' r.c']
theorem NumV.raw {h : Heap} {v : Value} {k : Nat} {q : Rat} (H : NumV h v k q) : ∃ r : RN, v = r.val := by
  obtain ⟨A, ca, B, cb, h1, _⟩ := H.open
  exact ⟨⟨_, A, _, ca, B, _, cb⟩, h1⟩
theorem num_int {h : Heap} {t : Value} {k s : Nat} {q : Rat} {m mm : Bool} (hq : q = rat m s 1) (hk : Sm k q) (hm : (m && decide (0 < s)) = mm) (ht : Lim h t s) : NumV h (.agg #[.bool mm, t, .slice none 0 0]) k q := by
  obtain ⟨e1, e2⟩ := rat_int_num m s
  refine num_of hk rfl ?_ ?_ ?_
  · rw [hq, e1, sg_neg]; exact hm
  · rw [hq, e1, sg_abs]; exact ht
  · unfold bot; rw [hq, e2, if_pos rfl]; exact Lim.nil _ _ _
section
variable {h : Heap}
theorem u4 : Tryz.prog.underlying 4 = some .bool := by kernel_rfl
theorem mul_n {x y : Value} {k l : Nat} {p q : Rat} (hx : NumV h x k p) (hy : NumV h y l q) (hkl : k + l < 1073741824) : CallGo Tryz.prog 25 #[x, y] h NoX fun v h' => NumV h' v (k + l) (p * q) := by
  have hx' := hx
  have hy' := hy
  obtain ⟨mp, A, ca, B, cb, hmp, rfl, hA, hB, s1, s2, s3⟩ := hx.open2
  obtain ⟨mq, C, cc, D, cd, hmq, rfl, hC, hD, s4, s5, s6⟩ := hy.open2
  obtain ⟨m, hm⟩ : ∃ m, (!(mp == mq)) = m := ⟨_, rfl⟩
  have hsm := hx'.1.mul hy'.1
  have hpq := num_mul p q
  have hm2 : (decide (p.num < 0) != decide (q.num < 0)) = m := by rw [hmp, hmq]; exact hm
  rw [hm2] at hpq
  have hst := sz_mul p.num.natAbs q.num.natAbs
  have hsd := sz_mul p.den q.den
  refine v_fn tb k25 [.agg #[.bool mp, .slice A (sz p.num.natAbs) ca, .slice B (sz (bot p)) cb], .agg #[.bool mq, .slice C (sz q.num.natAbs) cc, .slice D (sz (bot q)) cd]] rfl ?_
  conv => whnf
  refine CallsO.go (mul_c hA hC (by omega)) ?_
  rintro t h1 hle1 ht
  conv => whnf
  obtain ⟨E, ce, rfl, hce, hre⟩ := ht.open
  by_cases hd1 : p.den = 1
  · refine CallsO.go (whole_c (hx'.mono hle1) (by omega) true (decide_eq_true hd1)) ?_
    rintro v2 h2 hle2 ⟨rfl, rfl⟩
    conv => whnf
    by_cases hd2 : q.den = 1
    · refine CallsO.go (whole_c (hy'.mono hle1) (by omega) true (decide_eq_true hd2)) ?_
      rintro v2 h2 hle2 ⟨rfl, rfl⟩
      conv => whnf
      refine pO_bneq u4 rfl rfl m hm ?_
      conv => whnf
      rw [show p.den * q.den = 1 from by rw [hd1, hd2]] at hpq
      cases m
      · conv => whnf
        refine pO_b01 rfl ?_
        conv => whnf
        exact EndO.go (num_int (hpq) hsm rfl (ht))
      · conv => whnf
        rcases Nat.eq_zero_or_pos (p.num.natAbs * q.num.natAbs) with h0 | h0
        · refine pO_gtr rfl rfl (false) (decide_eq_false (by rw [h0, sz_eq_zero.2 rfl]; decide)) ?_
          conv => whnf
          refine pO_b01 rfl ?_
          conv => whnf
          exact EndO.go (num_int (hpq) hsm (by rw [h0]; rfl) (ht))
        · have h9 : sz (p.num.natAbs * q.num.natAbs) ≠ 0 := fun h => by have := sz_eq_zero.1 h; omega
          refine pO_gtr rfl rfl (true) (decide_eq_true (by omega)) ?_
          conv => whnf
          refine pO_b01 rfl ?_
          conv => whnf
          exact EndO.go (num_int (hpq) hsm (by rw [Bool.true_and]; exact decide_eq_true h0) (ht))
    · refine CallsO.go (whole_c (hy'.mono hle1) (by omega) false (decide_eq_false hd2)) ?_
      rintro v2 h2 hle2 ⟨rfl, rfl⟩
      conv => whnf
      refine pO_bneq u4 rfl rfl m hm ?_
      conv => whnf
      refine CallsO.go (under_c (hx'.mono hle1) (by omega)) ?_
      rintro u2 h2 hle2 hu2
      conv => whnf
      refine CallsO.go (under_c (hy'.mono (hle1.trans hle2)) (by omega)) ?_
      rintro u3 h3 hle3 hu3
      conv => whnf
      refine CallsO.go (mul_c (hu2.mono hle3) hu3 (by omega)) ?_
      rintro u4 h4 hle4 hu4
      conv => whnf
      refine CallsO.go (reduced_c (m := m) (k := k + l) (ht.mono ((hle2.trans hle3).trans hle4)) hu4 (mul_ne (den_ne p) (den_ne q)) (by omega) (by rw [← hpq]; exact hsm)) ?_
      rintro _ h5 hle5 hu5
      obtain ⟨r_hu5, rfl⟩ := hu5.raw
      conv => whnf
      refine EndO.go ?_
      rw [hpq]; exact hu5
  · refine CallsO.go (whole_c (hx'.mono hle1) (by omega) false (decide_eq_false hd1)) ?_
    rintro v2 h2 hle2 ⟨rfl, rfl⟩
    conv => whnf
    refine pO_bneq u4 rfl rfl m hm ?_
    conv => whnf
    refine CallsO.go (under_c (hx'.mono hle1) (by omega)) ?_
    rintro u2 h2 hle2 hu2
    conv => whnf
    refine CallsO.go (under_c (hy'.mono (hle1.trans hle2)) (by omega)) ?_
    rintro u3 h3 hle3 hu3
    conv => whnf
    refine CallsO.go (mul_c (hu2.mono hle3) hu3 (by omega)) ?_
    rintro u4 h4 hle4 hu4
    conv => whnf
    refine CallsO.go (reduced_c (m := m) (k := k + l) (ht.mono ((hle2.trans hle3).trans hle4)) hu4 (mul_ne (den_ne p) (den_ne q)) (by omega) (by rw [← hpq]; exact hsm)) ?_
    rintro _ h5 hle5 hu5
    obtain ⟨r_hu5, rfl⟩ := hu5.raw
    conv => whnf
    refine EndO.go ?_
    rw [hpq]; exact hu5
theorem add_n {x y : Value} {k l : Nat} {p q : Rat} (hx : NumV h x k p) (hy : NumV h y l q) (hkl : k + l < 1073741824) : CallGo Tryz.prog 29 #[x, y] h NoX fun v h' => NumV h' v (k + l + 1) (p + q) := by
  have hx' := hx
  have hy' := hy
  obtain ⟨mp, A, ca, B, cb, hmp, rfl, hA, hB, s1, s2, s3⟩ := hx.open2
  obtain ⟨mq, C, cc, D, cd, hmq, rfl, hC, hD, s4, s5, s6⟩ := hy.open2
  have hsm := hx'.1.add hy'.1
  have hsa := sz_mul p.num.natAbs q.den
  have hsb := sz_mul q.num.natAbs p.den
  have hsd := sz_mul p.den q.den
  refine v_fn tb k29 [.agg #[.bool mp, .slice A (sz p.num.natAbs) ca, .slice B (sz (bot p)) cb], .agg #[.bool mq, .slice C (sz q.num.natAbs) cc, .slice D (sz (bot q)) cd]] rfl ?_
  conv => whnf
  by_cases hd1 : p.den = 1
  · refine CallsO.go (whole_c hx' (by omega) true (decide_eq_true hd1)) ?_
    rintro v2 h2 hle2 ⟨rfl, rfl⟩
    conv => whnf
    by_cases hd2 : q.den = 1
    · refine CallsO.go (whole_c hy' (by omega) true (decide_eq_true hd2)) ?_
      rintro v2 h2 hle2 ⟨rfl, rfl⟩
      conv => whnf
      have hle0 := Le.refl h2
      have hva : Lim h2 (.slice A (sz p.num.natAbs) ca) (p.num.natAbs * q.den) := by rw [hd2, Nat.mul_one]; exact hA
      have hvb : Lim h2 (.slice C (sz q.num.natAbs) cc) (q.num.natAbs * p.den) := by rw [hd1, Nat.mul_one]; exact hC
      obtain ⟨c, hc⟩ : ∃ c, (mp == mq) = c := ⟨_, rfl⟩
      refine pO_beql u4 rfl rfl c hc ?_
      conv => whnf
      cases c
      · conv => whnf
        have hne : decide (p.num < 0) ≠ decide (q.num < 0) := by rw [hmp, hmq]; exact fun e => by rw [e] at hc; simp at hc
        refine CallsO.go (cmp_c hva hvb (by omega)) ?_
        rintro v5 h5 hle5 ⟨rfl, rfl⟩
        conv => whnf
        rcases Nat.lt_or_ge (p.num.natAbs * q.den) (q.num.natAbs * p.den) with hlt | hge
        · rw [cmpN_lt hlt]
          refine pO_geq rfl rfl (false) (rfl) ?_
          conv => whnf
          refine CallsO.go (sub_c hvb hva (Nat.le_of_lt hlt) (by omega)) ?_
          rintro sv h6 hle6 hs
          conv => whnf
          have hleN := hle0.trans hle6
          have hpq := num_add_lt hne (Nat.le_of_lt hlt)
          have hss : sz (q.num.natAbs * p.den - p.num.natAbs * q.den) ≤ k + l + 2 := Nat.le_trans (sz_mono (Nat.sub_le _ _)) (by omega)
          rw [hmq] at hpq
          -- both are whole
          refine CallsO.go (whole_c (hx'.mono hleN) (by omega) true (decide_eq_true hd1)) ?_
          rintro v8 h8 hle8 ⟨rfl, rfl⟩
          conv => whnf
          refine CallsO.go (whole_c (hy'.mono hleN) (by omega) true (decide_eq_true hd2)) ?_
          rintro v8 h8 hle8 ⟨rfl, rfl⟩
          conv => whnf
          rw [show p.den * q.den = 1 from by rw [hd1, hd2]] at hpq
          obtain ⟨E, ce, rfl, hce, hre⟩ := hs.open
          cases mq
          · conv => whnf
            refine pO_b01 rfl ?_
            conv => whnf
            exact EndO.go (num_int (hpq) hsm rfl (hs))
          · conv => whnf
            rcases Nat.eq_zero_or_pos (q.num.natAbs * p.den - p.num.natAbs * q.den) with h0 | h0
            · refine pO_gtr rfl rfl (false) (decide_eq_false (by rw [h0, sz_eq_zero.2 rfl]; decide)) ?_
              conv => whnf
              refine pO_b01 rfl ?_
              conv => whnf
              exact EndO.go (num_int (hpq) hsm (by rw [h0]; rfl) (hs))
            · have h9 : sz (q.num.natAbs * p.den - p.num.natAbs * q.den) ≠ 0 := fun h => by have := sz_eq_zero.1 h; omega
              refine pO_gtr rfl rfl (true) (decide_eq_true (by omega)) ?_
              conv => whnf
              refine pO_b01 rfl ?_
              conv => whnf
              exact EndO.go (num_int (hpq) hsm (by rw [Bool.true_and]; exact decide_eq_true h0) (hs))
        · have hcg : (0 : Int) ≤ cmpN (p.num.natAbs * q.den) (q.num.natAbs * p.den) := by unfold cmpN; rw [if_neg (by omega)]; split <;> decide
          refine pO_geq rfl rfl (true) (decide_eq_true hcg) ?_
          conv => whnf
          refine CallsO.go (sub_c hva hvb hge (by omega)) ?_
          rintro sv h6 hle6 hs
          conv => whnf
          have hleN := hle0.trans hle6
          have hpq := num_add_ge hne hge
          have hss : sz (p.num.natAbs * q.den - q.num.natAbs * p.den) ≤ k + l + 2 := Nat.le_trans (sz_mono (Nat.sub_le _ _)) (by omega)
          rw [hmp] at hpq
          -- both are whole
          refine CallsO.go (whole_c (hx'.mono hleN) (by omega) true (decide_eq_true hd1)) ?_
          rintro v8 h8 hle8 ⟨rfl, rfl⟩
          conv => whnf
          refine CallsO.go (whole_c (hy'.mono hleN) (by omega) true (decide_eq_true hd2)) ?_
          rintro v8 h8 hle8 ⟨rfl, rfl⟩
          conv => whnf
          rw [show p.den * q.den = 1 from by rw [hd1, hd2]] at hpq
          obtain ⟨E, ce, rfl, hce, hre⟩ := hs.open
          cases mp
          · conv => whnf
            refine pO_b01 rfl ?_
            conv => whnf
            exact EndO.go (num_int (hpq) hsm rfl (hs))
          · conv => whnf
            rcases Nat.eq_zero_or_pos (p.num.natAbs * q.den - q.num.natAbs * p.den) with h0 | h0
            · refine pO_gtr rfl rfl (false) (decide_eq_false (by rw [h0, sz_eq_zero.2 rfl]; decide)) ?_
              conv => whnf
              refine pO_b01 rfl ?_
              conv => whnf
              exact EndO.go (num_int (hpq) hsm (by rw [h0]; rfl) (hs))
            · have h9 : sz (p.num.natAbs * q.den - q.num.natAbs * p.den) ≠ 0 := fun h => by have := sz_eq_zero.1 h; omega
              refine pO_gtr rfl rfl (true) (decide_eq_true (by omega)) ?_
              conv => whnf
              refine pO_b01 rfl ?_
              conv => whnf
              exact EndO.go (num_int (hpq) hsm (by rw [Bool.true_and]; exact decide_eq_true h0) (hs))
      · conv => whnf
        have heq : decide (p.num < 0) = decide (q.num < 0) := by rw [hmp, hmq]; simpa using hc
        refine CallsO.go (add_c hva hvb (by omega)) ?_
        rintro sv h6 hle6 hs
        conv => whnf
        have hleN := hle0.trans hle6
        have hpq := num_add_same heq
        have hss : sz (p.num.natAbs * q.den + q.num.natAbs * p.den) ≤ k + l + 2 := sz_two (k := k + l + 1) (by
          have h7 := two_mul_le hx'.1.1 hy'.1.2
          have h8 := two_mul_le hy'.1.1 hx'.1.2
          rw [Nat.add_comm l k] at h8
          have h9 : 2 ^ (k + l + 1) = 2 ^ (k + l) * 2 := Nat.pow_succ _ _
          omega)
        rw [hmp] at hpq
        -- both are whole
        refine CallsO.go (whole_c (hx'.mono hleN) (by omega) true (decide_eq_true hd1)) ?_
        rintro v8 h8 hle8 ⟨rfl, rfl⟩
        conv => whnf
        refine CallsO.go (whole_c (hy'.mono hleN) (by omega) true (decide_eq_true hd2)) ?_
        rintro v8 h8 hle8 ⟨rfl, rfl⟩
        conv => whnf
        rw [show p.den * q.den = 1 from by rw [hd1, hd2]] at hpq
        obtain ⟨E, ce, rfl, hce, hre⟩ := hs.open
        cases mp
        · conv => whnf
          refine pO_b01 rfl ?_
          conv => whnf
          exact EndO.go (num_int (hpq) hsm rfl (hs))
        · conv => whnf
          rcases Nat.eq_zero_or_pos (p.num.natAbs * q.den + q.num.natAbs * p.den) with h0 | h0
          · refine pO_gtr rfl rfl (false) (decide_eq_false (by rw [h0, sz_eq_zero.2 rfl]; decide)) ?_
            conv => whnf
            refine pO_b01 rfl ?_
            conv => whnf
            exact EndO.go (num_int (hpq) hsm (by rw [h0]; rfl) (hs))
          · have h9 : sz (p.num.natAbs * q.den + q.num.natAbs * p.den) ≠ 0 := fun h => by have := sz_eq_zero.1 h; omega
            refine pO_gtr rfl rfl (true) (decide_eq_true (by omega)) ?_
            conv => whnf
            refine pO_b01 rfl ?_
            conv => whnf
            exact EndO.go (num_int (hpq) hsm (by rw [Bool.true_and]; exact decide_eq_true h0) (hs))
    · refine CallsO.go (whole_c hy' (by omega) false (decide_eq_false hd2)) ?_
      rintro v2 h2 hle2 ⟨rfl, rfl⟩
      conv => whnf
      refine CallsO.go (under_c hy' (by omega)) ?_
      rintro u1 h1 hle1 hu1
      conv => whnf
      refine CallsO.go (mul_c (hA.mono hle1) hu1 (by omega)) ?_
      rintro va h2 hle2 hva
      conv => whnf
      refine CallsO.go (under_c (hx'.mono (hle1.trans hle2)) (by omega)) ?_
      rintro u3 h3 hle3 hu3
      conv => whnf
      refine CallsO.go (mul_c (hC.mono ((hle1.trans hle2).trans hle3)) hu3 (by omega)) ?_
      rintro vb h4 hle4 hvb
      conv => whnf
      have hle0 := ((hle1.trans hle2).trans hle3).trans hle4
      replace hva := hva.mono (hle3.trans hle4)
      obtain ⟨c, hc⟩ : ∃ c, (mp == mq) = c := ⟨_, rfl⟩
      refine pO_beql u4 rfl rfl c hc ?_
      conv => whnf
      cases c
      · conv => whnf
        have hne : decide (p.num < 0) ≠ decide (q.num < 0) := by rw [hmp, hmq]; exact fun e => by rw [e] at hc; simp at hc
        refine CallsO.go (cmp_c hva hvb (by omega)) ?_
        rintro v5 h5 hle5 ⟨rfl, rfl⟩
        conv => whnf
        rcases Nat.lt_or_ge (p.num.natAbs * q.den) (q.num.natAbs * p.den) with hlt | hge
        · rw [cmpN_lt hlt]
          refine pO_geq rfl rfl (false) (rfl) ?_
          conv => whnf
          refine CallsO.go (sub_c hvb hva (Nat.le_of_lt hlt) (by omega)) ?_
          rintro sv h6 hle6 hs
          conv => whnf
          have hleN := hle0.trans hle6
          have hpq := num_add_lt hne (Nat.le_of_lt hlt)
          have hss : sz (q.num.natAbs * p.den - p.num.natAbs * q.den) ≤ k + l + 2 := Nat.le_trans (sz_mono (Nat.sub_le _ _)) (by omega)
          rw [hmq] at hpq
          refine CallsO.go (whole_c (hx'.mono hleN) (by omega) true (decide_eq_true hd1)) ?_
          rintro v8 h8 hle8 ⟨rfl, rfl⟩
          conv => whnf
          refine CallsO.go (whole_c (hy'.mono hleN) (by omega) false (decide_eq_false hd2)) ?_
          rintro v8 h8 hle8 ⟨rfl, rfl⟩
          conv => whnf
          refine CallsO.go (under_c (hx'.mono hleN) (by omega)) ?_
          rintro u1 h1 hle1 hu1
          conv => whnf
          refine CallsO.go (under_c (hy'.mono (hleN.trans hle1)) (by omega)) ?_
          rintro u2 h2 hle2 hu2
          conv => whnf
          refine CallsO.go (mul_c (hu1.mono hle2) hu2 (by omega)) ?_
          rintro u3 h3 hle3 hu3
          conv => whnf
          refine CallsO.go (reduced_c (m := mq) (k := k + l + 1) (hs.mono ((hle1.trans hle2).trans hle3)) hu3 (mul_ne (den_ne p) (den_ne q)) (by omega) (by rw [← hpq]; exact hsm)) ?_
          rintro _ h5 hle5 hu5
          obtain ⟨r_hu5, rfl⟩ := hu5.raw
          conv => whnf
          refine EndO.go ?_
          rw [hpq]; exact hu5
        · have hcg : (0 : Int) ≤ cmpN (p.num.natAbs * q.den) (q.num.natAbs * p.den) := by unfold cmpN; rw [if_neg (by omega)]; split <;> decide
          refine pO_geq rfl rfl (true) (decide_eq_true hcg) ?_
          conv => whnf
          refine CallsO.go (sub_c hva hvb hge (by omega)) ?_
          rintro sv h6 hle6 hs
          conv => whnf
          have hleN := hle0.trans hle6
          have hpq := num_add_ge hne hge
          have hss : sz (p.num.natAbs * q.den - q.num.natAbs * p.den) ≤ k + l + 2 := Nat.le_trans (sz_mono (Nat.sub_le _ _)) (by omega)
          rw [hmp] at hpq
          refine CallsO.go (whole_c (hx'.mono hleN) (by omega) true (decide_eq_true hd1)) ?_
          rintro v8 h8 hle8 ⟨rfl, rfl⟩
          conv => whnf
          refine CallsO.go (whole_c (hy'.mono hleN) (by omega) false (decide_eq_false hd2)) ?_
          rintro v8 h8 hle8 ⟨rfl, rfl⟩
          conv => whnf
          refine CallsO.go (under_c (hx'.mono hleN) (by omega)) ?_
          rintro u1 h1 hle1 hu1
          conv => whnf
          refine CallsO.go (under_c (hy'.mono (hleN.trans hle1)) (by omega)) ?_
          rintro u2 h2 hle2 hu2
          conv => whnf
          refine CallsO.go (mul_c (hu1.mono hle2) hu2 (by omega)) ?_
          rintro u3 h3 hle3 hu3
          conv => whnf
          refine CallsO.go (reduced_c (m := mp) (k := k + l + 1) (hs.mono ((hle1.trans hle2).trans hle3)) hu3 (mul_ne (den_ne p) (den_ne q)) (by omega) (by rw [← hpq]; exact hsm)) ?_
          rintro _ h5 hle5 hu5
          obtain ⟨r_hu5, rfl⟩ := hu5.raw
          conv => whnf
          refine EndO.go ?_
          rw [hpq]; exact hu5
      · conv => whnf
        have heq : decide (p.num < 0) = decide (q.num < 0) := by rw [hmp, hmq]; simpa using hc
        refine CallsO.go (add_c hva hvb (by omega)) ?_
        rintro sv h6 hle6 hs
        conv => whnf
        have hleN := hle0.trans hle6
        have hpq := num_add_same heq
        have hss : sz (p.num.natAbs * q.den + q.num.natAbs * p.den) ≤ k + l + 2 := sz_two (k := k + l + 1) (by
          have h7 := two_mul_le hx'.1.1 hy'.1.2
          have h8 := two_mul_le hy'.1.1 hx'.1.2
          rw [Nat.add_comm l k] at h8
          have h9 : 2 ^ (k + l + 1) = 2 ^ (k + l) * 2 := Nat.pow_succ _ _
          omega)
        rw [hmp] at hpq
        refine CallsO.go (whole_c (hx'.mono hleN) (by omega) true (decide_eq_true hd1)) ?_
        rintro v8 h8 hle8 ⟨rfl, rfl⟩
        conv => whnf
        refine CallsO.go (whole_c (hy'.mono hleN) (by omega) false (decide_eq_false hd2)) ?_
        rintro v8 h8 hle8 ⟨rfl, rfl⟩
        conv => whnf
        refine CallsO.go (under_c (hx'.mono hleN) (by omega)) ?_
        rintro u1 h1 hle1 hu1
        conv => whnf
        refine CallsO.go (under_c (hy'.mono (hleN.trans hle1)) (by omega)) ?_
        rintro u2 h2 hle2 hu2
        conv => whnf
        refine CallsO.go (mul_c (hu1.mono hle2) hu2 (by omega)) ?_
        rintro u3 h3 hle3 hu3
        conv => whnf
        refine CallsO.go (reduced_c (m := mp) (k := k + l + 1) (hs.mono ((hle1.trans hle2).trans hle3)) hu3 (mul_ne (den_ne p) (den_ne q)) (by omega) (by rw [← hpq]; exact hsm)) ?_
        rintro _ h5 hle5 hu5
        obtain ⟨r_hu5, rfl⟩ := hu5.raw
        conv => whnf
        refine EndO.go ?_
        rw [hpq]; exact hu5
  · refine CallsO.go (whole_c hx' (by omega) false (decide_eq_false hd1)) ?_
    rintro v2 h2 hle2 ⟨rfl, rfl⟩
    conv => whnf
    refine CallsO.go (under_c hy' (by omega)) ?_
    rintro u1 h1 hle1 hu1
    conv => whnf
    refine CallsO.go (mul_c (hA.mono hle1) hu1 (by omega)) ?_
    rintro va h2 hle2 hva
    conv => whnf
    refine CallsO.go (under_c (hx'.mono (hle1.trans hle2)) (by omega)) ?_
    rintro u3 h3 hle3 hu3
    conv => whnf
    refine CallsO.go (mul_c (hC.mono ((hle1.trans hle2).trans hle3)) hu3 (by omega)) ?_
    rintro vb h4 hle4 hvb
    conv => whnf
    have hle0 := ((hle1.trans hle2).trans hle3).trans hle4
    replace hva := hva.mono (hle3.trans hle4)
    obtain ⟨c, hc⟩ : ∃ c, (mp == mq) = c := ⟨_, rfl⟩
    refine pO_beql u4 rfl rfl c hc ?_
    conv => whnf
    cases c
    · conv => whnf
      have hne : decide (p.num < 0) ≠ decide (q.num < 0) := by rw [hmp, hmq]; exact fun e => by rw [e] at hc; simp at hc
      refine CallsO.go (cmp_c hva hvb (by omega)) ?_
      rintro v5 h5 hle5 ⟨rfl, rfl⟩
      conv => whnf
      rcases Nat.lt_or_ge (p.num.natAbs * q.den) (q.num.natAbs * p.den) with hlt | hge
      · rw [cmpN_lt hlt]
        refine pO_geq rfl rfl (false) (rfl) ?_
        conv => whnf
        refine CallsO.go (sub_c hvb hva (Nat.le_of_lt hlt) (by omega)) ?_
        rintro sv h6 hle6 hs
        conv => whnf
        have hleN := hle0.trans hle6
        have hpq := num_add_lt hne (Nat.le_of_lt hlt)
        have hss : sz (q.num.natAbs * p.den - p.num.natAbs * q.den) ≤ k + l + 2 := Nat.le_trans (sz_mono (Nat.sub_le _ _)) (by omega)
        rw [hmq] at hpq
        refine CallsO.go (whole_c (hx'.mono hleN) (by omega) false (decide_eq_false hd1)) ?_
        rintro v8 h8 hle8 ⟨rfl, rfl⟩
        conv => whnf
        refine CallsO.go (under_c (hx'.mono hleN) (by omega)) ?_
        rintro u1 h1 hle1 hu1
        conv => whnf
        refine CallsO.go (under_c (hy'.mono (hleN.trans hle1)) (by omega)) ?_
        rintro u2 h2 hle2 hu2
        conv => whnf
        refine CallsO.go (mul_c (hu1.mono hle2) hu2 (by omega)) ?_
        rintro u3 h3 hle3 hu3
        conv => whnf
        refine CallsO.go (reduced_c (m := mq) (k := k + l + 1) (hs.mono ((hle1.trans hle2).trans hle3)) hu3 (mul_ne (den_ne p) (den_ne q)) (by omega) (by rw [← hpq]; exact hsm)) ?_
        rintro _ h5 hle5 hu5
        obtain ⟨r_hu5, rfl⟩ := hu5.raw
        conv => whnf
        refine EndO.go ?_
        rw [hpq]; exact hu5
      · have hcg : (0 : Int) ≤ cmpN (p.num.natAbs * q.den) (q.num.natAbs * p.den) := by unfold cmpN; rw [if_neg (by omega)]; split <;> decide
        refine pO_geq rfl rfl (true) (decide_eq_true hcg) ?_
        conv => whnf
        refine CallsO.go (sub_c hva hvb hge (by omega)) ?_
        rintro sv h6 hle6 hs
        conv => whnf
        have hleN := hle0.trans hle6
        have hpq := num_add_ge hne hge
        have hss : sz (p.num.natAbs * q.den - q.num.natAbs * p.den) ≤ k + l + 2 := Nat.le_trans (sz_mono (Nat.sub_le _ _)) (by omega)
        rw [hmp] at hpq
        refine CallsO.go (whole_c (hx'.mono hleN) (by omega) false (decide_eq_false hd1)) ?_
        rintro v8 h8 hle8 ⟨rfl, rfl⟩
        conv => whnf
        refine CallsO.go (under_c (hx'.mono hleN) (by omega)) ?_
        rintro u1 h1 hle1 hu1
        conv => whnf
        refine CallsO.go (under_c (hy'.mono (hleN.trans hle1)) (by omega)) ?_
        rintro u2 h2 hle2 hu2
        conv => whnf
        refine CallsO.go (mul_c (hu1.mono hle2) hu2 (by omega)) ?_
        rintro u3 h3 hle3 hu3
        conv => whnf
        refine CallsO.go (reduced_c (m := mp) (k := k + l + 1) (hs.mono ((hle1.trans hle2).trans hle3)) hu3 (mul_ne (den_ne p) (den_ne q)) (by omega) (by rw [← hpq]; exact hsm)) ?_
        rintro _ h5 hle5 hu5
        obtain ⟨r_hu5, rfl⟩ := hu5.raw
        conv => whnf
        refine EndO.go ?_
        rw [hpq]; exact hu5
    · conv => whnf
      have heq : decide (p.num < 0) = decide (q.num < 0) := by rw [hmp, hmq]; simpa using hc
      refine CallsO.go (add_c hva hvb (by omega)) ?_
      rintro sv h6 hle6 hs
      conv => whnf
      have hleN := hle0.trans hle6
      have hpq := num_add_same heq
      have hss : sz (p.num.natAbs * q.den + q.num.natAbs * p.den) ≤ k + l + 2 := sz_two (k := k + l + 1) (by
        have h7 := two_mul_le hx'.1.1 hy'.1.2
        have h8 := two_mul_le hy'.1.1 hx'.1.2
        rw [Nat.add_comm l k] at h8
        have h9 : 2 ^ (k + l + 1) = 2 ^ (k + l) * 2 := Nat.pow_succ _ _
        omega)
      rw [hmp] at hpq
      refine CallsO.go (whole_c (hx'.mono hleN) (by omega) false (decide_eq_false hd1)) ?_
      rintro v8 h8 hle8 ⟨rfl, rfl⟩
      conv => whnf
      refine CallsO.go (under_c (hx'.mono hleN) (by omega)) ?_
      rintro u1 h1 hle1 hu1
      conv => whnf
      refine CallsO.go (under_c (hy'.mono (hleN.trans hle1)) (by omega)) ?_
      rintro u2 h2 hle2 hu2
      conv => whnf
      refine CallsO.go (mul_c (hu1.mono hle2) hu2 (by omega)) ?_
      rintro u3 h3 hle3 hu3
      conv => whnf
      refine CallsO.go (reduced_c (m := mp) (k := k + l + 1) (hs.mono ((hle1.trans hle2).trans hle3)) hu3 (mul_ne (den_ne p) (den_ne q)) (by omega) (by rw [← hpq]; exact hsm)) ?_
      rintro _ h5 hle5 hu5
      obtain ⟨r_hu5, rfl⟩ := hu5.raw
      conv => whnf
      refine EndO.go ?_
      rw [hpq]; exact hu5
end
end Go.Proofs.YtplaobhghfndgaaGreatDoor
