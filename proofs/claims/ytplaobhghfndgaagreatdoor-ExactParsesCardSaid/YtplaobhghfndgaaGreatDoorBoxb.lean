import Derived.Test.YtplaobhghfndgaaGreatDoorBox
/-! Boxes: the operations. -/
set_option linter.unusedVariables false
set_option linter.unusedSimpArgs false
set_option maxRecDepth 100000
namespace Go.Proofs.YtplaobhghfndgaaGreatDoor
open Go Go.Proofs.Vc
attribute [local irreducible] CallsO EffO PureO LoadO StoreO EndO LoopV RoundO
theorem cmpQ_le0 (p q : Rat) : cmpQ p q ≤ 0 ↔ p ≤ q := by
  have h1 := cmpQ_pos p q
  constructor
  · intro h
    have : ¬ q < p := fun e => by have := h1.2 e; omega
    grind
  · intro h
    have : ¬ 0 < cmpQ p q := fun e => by have := h1.1 e; grind
    omega
/-- Whether a number lies in a box. -/
def hasQ (lo hi x : Rat) : Bool := decide (lo ≤ x) && decide (x ≤ hi)
def absLo (lo hi : Rat) : Rat := if hasQ lo hi 0 then 0 else minQ (absQ lo) (absQ hi)
def absHi (lo hi : Rat) : Rat := maxQ (absQ lo) (absQ hi)
def powLo (lo hi : Rat) (n : Nat) : Rat := if 0 < n ∧ n % 2 = 0 then absLo lo hi ^ n else lo ^ n
def powHi (lo hi : Rat) (n : Nat) : Rat := if 0 < n ∧ n % 2 = 0 then absHi lo hi ^ n else hi ^ n
section
variable {h : Heap}
theorem neg_x {x : Value} {k : Nat} {a b : Rat} (hx : BoxV h x k a b) (hk : k < 134217728) : CallGo Tryz.prog 80 #[x] h NoX fun v h' => BoxV h' v k (-b) (-a) := by
  obtain ⟨ra, rb, rfl, ha, hb⟩ := hx
  refine v_fn tb k80 [bval ra rb] rfl ?_
  conv => whnf
  refine CallsO.go (neg_n hb (by omega)) ?_
  rintro _ h1 hle1 h1v
  obtain ⟨r_h1v, rfl⟩ := h1v.raw
  conv => whnf
  refine CallsO.go (neg_n (ha.mono hle1) (by omega)) ?_
  rintro _ h2 hle2 h2v
  obtain ⟨r_h2v, rfl⟩ := h2v.raw
  conv => whnf
  refine pO_b63 r_h1v r_h2v rfl ?_
  conv => whnf
  exact EndO.go ⟨_, _, rfl, h1v.mono hle2, h2v⟩
theorem add_x {x y : Value} {k l : Nat} {a b c d : Rat} (hx : BoxV h x k a b) (hy : BoxV h y l c d) (hk : k + l < 134217728) : CallGo Tryz.prog 77 #[x, y] h NoX fun v h' => BoxV h' v (k + l + 1) (a + c) (b + d) := by
  obtain ⟨ra, rb, rfl, ha, hb⟩ := hx
  obtain ⟨rc, rd, rfl, hc, hd⟩ := hy
  refine v_fn tb k77 [bval ra rb, bval rc rd] rfl ?_
  conv => whnf
  refine CallsO.go (add_n ha hc (by omega)) ?_
  rintro _ h1 hle1 h1v
  obtain ⟨r_h1v, rfl⟩ := h1v.raw
  conv => whnf
  refine CallsO.go (add_n (hb.mono hle1) (hd.mono hle1) (by omega)) ?_
  rintro _ h2 hle2 h2v
  obtain ⟨r_h2v, rfl⟩ := h2v.raw
  conv => whnf
  refine pO_b63 r_h1v r_h2v rfl ?_
  conv => whnf
  exact EndO.go ⟨_, _, rfl, h1v.mono hle2, h2v⟩
theorem sub_x {x y : Value} {k l : Nat} {a b c d : Rat} (hx : BoxV h x k a b) (hy : BoxV h y l c d) (hk : k + l < 134217728) : CallGo Tryz.prog 78 #[x, y] h NoX fun v h' => BoxV h' v (k + l + 1) (a - d) (b - c) := by
  have hx' := hx
  have hy' := hy
  obtain ⟨ra, rb, rfl, ha, hb⟩ := hx
  obtain ⟨rc, rd, rfl, hc, hd⟩ := hy
  refine v_fn tb k78 [bval ra rb, bval rc rd] rfl ?_
  conv => whnf
  refine CallsO.go (neg_x hy' (by omega)) ?_
  rintro v1 h1 hle1 ⟨r1, r2, rfl, hn1, hn2⟩
  conv => whnf
  refine CallsO.go (add_x (hx'.mono hle1) ⟨r1, r2, rfl, hn1, hn2⟩ hk) ?_
  rintro v2 h2 hle2 ⟨r3, r4, rfl, hn3, hn4⟩
  conv => whnf
  refine EndO.go ⟨r3, r4, rfl, ?_, ?_⟩
  · rw [Rat.sub_eq_add_neg]; exact hn3
  · rw [Rat.sub_eq_add_neg]; exact hn4
theorem has_x {x y : Value} {k l : Nat} {a b q : Rat} (hx : BoxV h x k a b) (hy : NumV h y l q) (hk : k + l < 134217728) : CallGo Tryz.prog 60 #[x, y] h NoX fun v h' => v = .bool (hasQ a b q) := by
  have hy' := hy
  obtain ⟨ra, rb, rfl, ha, hb⟩ := hx
  obtain ⟨r, rfl⟩ := hy.raw
  refine v_fn tb k60 [bval ra rb, r.val] rfl ?_
  conv => whnf
  refine CallsO.go (cmp_n ha hy' (by omega)) ?_
  rintro v1 h1 hle1 rfl
  conv => whnf
  by_cases h0 : a ≤ q
  · refine pO_leq rfl rfl (true) (decide_eq_true ((cmpQ_le0 _ _).2 h0)) ?_
    conv => whnf
    refine CallsO.go (cmp_n (hy'.mono hle1) (hb.mono hle1) (by omega)) ?_
    rintro v2 h2 hle2 rfl
    conv => whnf
    by_cases h1 : q ≤ b
    · refine pO_leq rfl rfl (true) (decide_eq_true ((cmpQ_le0 _ _).2 h1)) ?_
      conv => whnf
      exact EndO.go (by unfold hasQ; rw [decide_eq_true h0, decide_eq_true h1]; rfl)
    · refine pO_leq rfl rfl (false) (decide_eq_false (fun e => h1 ((cmpQ_le0 _ _).1 e))) ?_
      conv => whnf
      exact EndO.go (by unfold hasQ; rw [decide_eq_true h0, decide_eq_false h1]; rfl)
  · refine pO_leq rfl rfl (false) (decide_eq_false (fun e => h0 ((cmpQ_le0 _ _).1 e))) ?_
    conv => whnf
    exact EndO.go (by unfold hasQ; rw [decide_eq_false h0]; rfl)
theorem has_b {x y : Value} {k l : Nat} {a b q : Rat} (hx : BoxV h x k a b) (hy : NumV h y l q) (hk : k + l < 134217728) (t : Bool) (ht : hasQ a b q = t) : CallGo Tryz.prog 60 #[x, y] h NoX fun v h' => v = .bool t := by
  subst ht; exact has_x hx hy hk
theorem abs_x {x : Value} {k : Nat} {a b : Rat} (hx : BoxV h x k a b) (hk : k < 67108864) : CallGo Tryz.prog 81 #[x] h NoX fun v h' => BoxV h' v k (absLo a b) (absHi a b) := by
  have hx' := hx
  obtain ⟨ra, rb, rfl, ha, hb⟩ := hx
  refine v_fn tb k81 [bval ra rb] rfl ?_
  conv => whnf
  refine CallsO.go (abs_n ha) ?_
  rintro _ h1 hle1 h1v
  obtain ⟨r_h1v, rfl⟩ := h1v.raw
  conv => whnf
  refine CallsO.go (abs_n (hb.mono hle1)) ?_
  rintro _ h2 hle2 h2v
  obtain ⟨r_h2v, rfl⟩ := h2v.raw
  conv => whnf
  refine eO_lits (sz := 3) [r_h2v.val] u95 s26 z26 (by decide) rfl rfl (fun v hv => by rw [List.mem_singleton.1 hv]; rfl) fun g hg => ?_
  conv => whnf
  have hNL : NumL (h2.upd g (.cells (List.flatMap (fun v => v.cells.toList) [r_h2v.val]).toArray 26 (0, 0))) k [(r_h2v, absQ b)] := by
    intro x hx
    rw [List.mem_singleton.1 hx]; exact h2v.mono (Le.upd hg)
  refine CallsO.go (span_c (l := [(r_h2v, absQ b)]) ((h1v.mono hle2).mono (Le.upd hg)) (row_v (n := 3) (Heap.upd_same _ _ _) rfl (Nat.le_refl 3)) rfl (by decide) hNL (by omega) (by decide)) ?_
  rintro v5 h5 hle5 ⟨r1, r2, rfl, hb1, hb2⟩
  conv => whnf
  have hle05 : Le h h5 := hle1.trans (hle2.trans ((Le.upd hg).trans hle5))
  refine pO_b0 rfl ?_
  conv => whnf
  obtain ⟨t, ht⟩ : ∃ t, hasQ a b 0 = t := ⟨_, rfl⟩
  refine CallsO.go (has_b (hx'.mono hle05) (NumV.zero _ 0) (by omega) t ht) ?_
  rintro v6 h6 hle6 rfl
  conv => whnf
  cases t
  · conv => whnf
    refine EndO.go ⟨r1, r2, rfl, ?_, hb2.mono hle6⟩
    have e : absLo a b = minL (absQ a) [absQ b] := by unfold absLo; rw [ht]; rfl
    rw [e]; exact hb1.mono hle6
  · conv => whnf
    refine pO_b0 rfl ?_
    conv => whnf
    refine EndO.go ⟨⟨false, none, 0, 0, none, 0, 0⟩, r2, rfl, ?_, hb2.mono hle6⟩
    have e : absLo a b = 0 := by unfold absLo; rw [ht]; rfl
    rw [e]; exact NumV.zero _ _
theorem tmod2 (n : Nat) : ((n : Int).tmod 2 == 0) = decide (n % 2 = 0) := by
  have : (n : Int).tmod 2 = ((n % 2 : Nat) : Int) := (Int.ofNat_tmod n 2).symm
  rw [this, Bool.eq_iff_iff, beq_iff_eq, decide_eq_true_iff]; omega
theorem pow_x {x : Value} {k n : Nat} {a b : Rat} (hx : BoxV h x k a b) (hk2 : k < 1048576) (hn : n ≤ 64) : CallGo Tryz.prog 76 #[x, .int .i64 n] h NoX fun v h' => ∃ z, v = .tuple #[z, .int .i64 0] ∧ BoxV h' z (k * n + 64) (powLo a b n) (powHi a b n) := by
  have hx' := hx
  obtain ⟨ra, rb, rfl, ha, hb⟩ := hx
  refine v_fn tb k76 [bval ra rb, .int .i64 n] rfl ?_
  conv => whnf
  rcases Nat.eq_zero_or_pos n with rfl | hn0
  · refine pO_gtr rfl rfl (false) (rfl) ?_
    conv => whnf
    have e1 : powLo a b 0 = a ^ 0 := by unfold powLo; rw [if_neg (by omega)]
    have e2 : powHi a b 0 = b ^ 0 := by unfold powHi; rw [if_neg (by omega)]
    rw [e1, e2]
    refine CallsO.go (pow_n ha hk2 hn) ?_
    rintro _ h8 hle8 ⟨_, rfl, hp1⟩
    obtain ⟨r_hp1, rfl⟩ := hp1.raw
    conv => whnf
    refine CallsO.go (pow_n (hb.mono hle8) hk2 hn) ?_
    rintro _ h9 hle9 ⟨_, rfl, hp2⟩
    obtain ⟨r_hp2, rfl⟩ := hp2.raw
    conv => whnf
    refine pO_b63 r_hp1 r_hp2 rfl ?_
    conv => whnf
    exact EndO.go ⟨_, rfl, r_hp1, r_hp2, rfl, hp1.mono hle9, hp2⟩
  · refine pO_gtr rfl rfl (true) (decide_eq_true (by omega)) ?_
    conv => whnf
    refine pO_rem rfl rfl (by decide) ((n : Int).tmod 2) (rfl) ?_
    conv => whnf
    by_cases he : n % 2 = 0
    · refine pO_eql rfl rfl (true) (by rw [tmod2, decide_eq_true he]) ?_
      conv => whnf
      have e1 : powLo a b n = absLo a b ^ n := by unfold powLo; rw [if_pos ⟨hn0, he⟩]
      have e2 : powHi a b n = absHi a b ^ n := by unfold powHi; rw [if_pos ⟨hn0, he⟩]
      rw [e1, e2]
      refine CallsO.go (abs_x hx' (by omega)) ?_
      rintro v1 h1 hle1 ⟨r1, r2, rfl, hb1, hb2⟩
      conv => whnf
      refine CallsO.go (pow_n hb1 hk2 hn) ?_
      rintro _ h8 hle8 ⟨_, rfl, hp1⟩
      obtain ⟨r_hp1, rfl⟩ := hp1.raw
      conv => whnf
      refine CallsO.go (pow_n (hb2.mono hle8) hk2 hn) ?_
      rintro _ h9 hle9 ⟨_, rfl, hp2⟩
      obtain ⟨r_hp2, rfl⟩ := hp2.raw
      conv => whnf
      refine pO_b63 r_hp1 r_hp2 rfl ?_
      conv => whnf
      exact EndO.go ⟨_, rfl, r_hp1, r_hp2, rfl, hp1.mono hle9, hp2⟩
    · refine pO_eql rfl rfl (false) (by rw [tmod2, decide_eq_false he]) ?_
      conv => whnf
      have e1 : powLo a b n = a ^ n := by unfold powLo; rw [if_neg (fun e => he e.2)]
      have e2 : powHi a b n = b ^ n := by unfold powHi; rw [if_neg (fun e => he e.2)]
      rw [e1, e2]
      refine CallsO.go (pow_n ha hk2 hn) ?_
      rintro _ h8 hle8 ⟨_, rfl, hp1⟩
      obtain ⟨r_hp1, rfl⟩ := hp1.raw
      conv => whnf
      refine CallsO.go (pow_n (hb.mono hle8) hk2 hn) ?_
      rintro _ h9 hle9 ⟨_, rfl, hp2⟩
      obtain ⟨r_hp2, rfl⟩ := hp2.raw
      conv => whnf
      refine pO_b63 r_hp1 r_hp2 rfl ?_
      conv => whnf
      exact EndO.go ⟨_, rfl, r_hp1, r_hp2, rfl, hp1.mono hle9, hp2⟩
end
end Go.Proofs.YtplaobhghfndgaaGreatDoor
