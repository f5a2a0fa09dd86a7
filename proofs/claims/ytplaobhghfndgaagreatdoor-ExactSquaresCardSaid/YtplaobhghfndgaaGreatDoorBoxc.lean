import Derived.Test.YtplaobhghfndgaaGreatDoorLaw6
import Derived.Test.YtplaobhghfndgaaGreatDoorSqq
/-! Boxes: the rest of the operations. -/
set_option linter.unusedVariables false
set_option linter.unusedSimpArgs false
set_option maxRecDepth 100000
namespace Go.Proofs.YtplaobhghfndgaaGreatDoor
open Go Go.Proofs.Vc
attribute [local irreducible] CallsO EffO PureO LoadO StoreO EndO LoopV RoundO
section
variable {h : Heap}
theorem u2 : Tryz.prog.underlying 2 = some (.int .i64) := by kernel_rfl
theorem cei_n {x : Value} {k : Nat} {p : Rat} (hx : NumV h x k p) (hk : k < 1073741800) : CallGo Tryz.prog 136 #[x] h NoX fun v h' => NumV h' v (k + 1) (ceiQ p) := by
  have hx' := hx
  obtain ⟨r, rfl⟩ := hx.raw
  refine v_fn tb k136 [r.val] rfl ?_
  conv => whnf
  refine CallsO.go (neg_n hx' (by omega)) ?_
  rintro _ h1 hle1 n1
  obtain ⟨r_n1, rfl⟩ := n1.raw
  conv => whnf
  refine CallsO.go (floor_n n1 (by omega)) ?_
  rintro _ h2 hle2 n2
  obtain ⟨r_n2, rfl⟩ := n2.raw
  conv => whnf
  refine CallsO.go (neg_n n2 (by omega)) ?_
  rintro _ h3 hle3 n3
  obtain ⟨r_n3, rfl⟩ := n3.raw
  conv => whnf
  exact EndO.go n3
theorem out_x {x y : Value} {k l : Nat} {a b g : Rat} (hx : BoxV h x k a b) (hy : NumV h y l g) (hg : 0 < g) (hkl : k + 2 * l < 134217000) : CallGo Tryz.prog 66 #[x, y] h NoX fun v h' => ∃ z, v = .tuple #[z, .int .i64 0] ∧ BoxV h' z (k + 2 * l + 1) (flo (a / g) * g) (ceiQ (b / g) * g) := by
  have hx' := hx
  have hy' := hy
  obtain ⟨ra, rb, rfl, hna, hnb⟩ := hx
  obtain ⟨rg, rfl⟩ := hy.raw
  refine v_fn tb k66 [bval ra rb, rg.val] rfl ?_
  conv => whnf
  refine CallsO.go (sign_n hy' (by omega)) ?_
  rintro v1 h1 hle1 ⟨rfl, rfl⟩
  replace hna := hna.mono hle1
  replace hnb := hnb.mono hle1
  replace hy' := hy'.mono hle1
  conv => whnf
  refine pO_leq rfl rfl (false) (decide_eq_false (fun e => sgnQ_pos.1 e hg)) ?_
  conv => whnf
  refine CallsO.go (over_n hna hy' (by omega)) ?_
  rintro _ h2 hle2 n1
  obtain ⟨r_n1, rfl⟩ := n1.raw
  replace hna := hna.mono hle2
  replace hnb := hnb.mono hle2
  replace hy' := hy'.mono hle2
  conv => whnf
  refine CallsO.go (floor_n n1 (by omega)) ?_
  rintro _ h3 hle3 n2
  obtain ⟨r_n2, rfl⟩ := n2.raw
  replace hna := hna.mono hle3
  replace hnb := hnb.mono hle3
  replace hy' := hy'.mono hle3
  replace n1 := n1.mono hle3
  conv => whnf
  refine CallsO.go (mul_n n2 hy' (by omega)) ?_
  rintro _ h4 hle4 n3
  obtain ⟨r_n3, rfl⟩ := n3.raw
  replace hna := hna.mono hle4
  replace hnb := hnb.mono hle4
  replace hy' := hy'.mono hle4
  replace n1 := n1.mono hle4
  replace n2 := n2.mono hle4
  conv => whnf
  refine CallsO.go (over_n hnb hy' (by omega)) ?_
  rintro _ h5 hle5 n4
  obtain ⟨r_n4, rfl⟩ := n4.raw
  replace hna := hna.mono hle5
  replace hnb := hnb.mono hle5
  replace hy' := hy'.mono hle5
  replace n1 := n1.mono hle5
  replace n2 := n2.mono hle5
  replace n3 := n3.mono hle5
  conv => whnf
  refine CallsO.go (cei_n n4 (by omega)) ?_
  rintro _ h6 hle6 n5
  obtain ⟨r_n5, rfl⟩ := n5.raw
  replace hna := hna.mono hle6
  replace hnb := hnb.mono hle6
  replace hy' := hy'.mono hle6
  replace n1 := n1.mono hle6
  replace n2 := n2.mono hle6
  replace n3 := n3.mono hle6
  replace n4 := n4.mono hle6
  conv => whnf
  refine CallsO.go (mul_n n5 hy' (by omega)) ?_
  rintro _ h7 hle7 n6
  obtain ⟨r_n6, rfl⟩ := n6.raw
  replace hna := hna.mono hle7
  replace hnb := hnb.mono hle7
  replace hy' := hy'.mono hle7
  replace n1 := n1.mono hle7
  replace n2 := n2.mono hle7
  replace n3 := n3.mono hle7
  replace n4 := n4.mono hle7
  replace n5 := n5.mono hle7
  conv => whnf
  refine pO_b63 r_n3 r_n6 rfl ?_
  conv => whnf
  exact EndO.go ⟨_, rfl, r_n3, r_n6, rfl, n3.up (by omega), n6.up (by omega)⟩
theorem width_n {x : Value} {k : Nat} {a b : Rat} (hx : BoxV h x k a b) (hk : k < 134217728) : CallGo Tryz.prog 57 #[x] h NoX fun v h' => NumV h' v (k + k + 1) (b - a) := by
  obtain ⟨ra, rb, rfl, hna, hnb⟩ := hx
  refine v_fn tb k57 [bval ra rb] rfl ?_
  conv => whnf
  refine CallsO.go (sub_n hnb hna (by omega)) ?_
  rintro _ h1 hle1 n1
  obtain ⟨r_n1, rfl⟩ := n1.raw
  conv => whnf
  exact EndO.go n1
theorem mid_n {x : Value} {k : Nat} {a b : Rat} (hx : BoxV h x k a b) (hk : k < 134217728) : CallGo Tryz.prog 55 #[x] h NoX fun v h' => NumV h' v (k + k + 2) ((a + b) * (1 / 2)) := by
  obtain ⟨ra, rb, rfl, hna, hnb⟩ := hx
  refine v_fn tb k55 [bval ra rb] rfl ?_
  conv => whnf
  refine CallsO.go (add_n hna hnb (by omega)) ?_
  rintro _ h1 hle1 n1
  obtain ⟨r_n1, rfl⟩ := n1.raw
  replace hna := hna.mono hle1
  replace hnb := hnb.mono hle1
  conv => whnf
  refine CallsO.go (half_n) ?_
  rintro _ h2 hle2 n2
  obtain ⟨r_n2, rfl⟩ := n2.raw
  replace hna := hna.mono hle2
  replace hnb := hnb.mono hle2
  replace n1 := n1.mono hle2
  conv => whnf
  refine CallsO.go (mul_n n1 n2 (by omega)) ?_
  rintro _ h3 hle3 n3
  obtain ⟨r_n3, rfl⟩ := n3.raw
  replace hna := hna.mono hle3
  replace hnb := hnb.mono hle3
  replace n1 := n1.mono hle3
  replace n2 := n2.mono hle3
  conv => whnf
  exact EndO.go n3
theorem inside_b {x y : Value} {k l : Nat} {a b c d : Rat} (hx : BoxV h x k a b) (hy : BoxV h y l c d) (hk : k + l < 134217728) (t : Bool) (ht : (hasQ c d a && hasQ c d b) = t) : CallGo Tryz.prog 62 #[x, y] h NoX fun v h' => v = .bool t := by
  have hy' := hy
  obtain ⟨ra, rb, rfl, hna, hnb⟩ := hx
  obtain ⟨rc, rd, rfl, hnc, hnd⟩ := hy
  refine v_fn tb k62 [bval ra rb, bval rc rd] rfl ?_
  conv => whnf
  obtain ⟨u, hu⟩ : ∃ u, hasQ c d a = u := ⟨_, rfl⟩
  obtain ⟨w, hw⟩ : ∃ w, hasQ c d b = w := ⟨_, rfl⟩
  rw [hu, hw] at ht
  refine CallsO.go (has_b hy' hna (by omega) u hu) ?_
  rintro v1 h1 hle1 rfl
  conv => whnf
  cases u
  · conv => whnf
    exact EndO.go (by rw [← ht]; rfl)
  · conv => whnf
    refine CallsO.go (has_b (hy'.mono hle1) (hnb.mono hle1) (by omega) w hw) ?_
    rintro v2 h2 hle2 rfl
    conv => whnf
    exact EndO.go (by rw [← ht]; rfl)
theorem inside_ok {x y : Value} {k l : Nat} {a b c d : Rat} (hx : BoxV h x k a b) (hy : BoxV h y l c d) (hk : k + l < 134217728) (h1 : c ≤ a) (h2 : a ≤ d) (h3 : c ≤ b) (h4 : b ≤ d) : CallGo Tryz.prog 62 #[x, y] h NoX fun v h' => v = .bool true :=
  inside_b hx hy hk true (by unfold hasQ; rw [decide_eq_true h1, decide_eq_true h2, decide_eq_true h3, decide_eq_true h4]; rfl)
theorem has_ok {x y : Value} {k l : Nat} {a b q : Rat} (hx : BoxV h x k a b) (hy : NumV h y l q) (hk : k + l < 134217728) (h1 : a ≤ q) (h2 : q ≤ b) : CallGo Tryz.prog 60 #[x, y] h NoX fun v h' => v = .bool true :=
  has_b hx hy hk true (by unfold hasQ; rw [decide_eq_true h1, decide_eq_true h2]; rfl)
theorem hull_x {x y : Value} {k : Nat} {a b c d : Rat} (hx : BoxV h x k a b) (hy : BoxV h y k c d) (hk : k < 134217728) : CallGo Tryz.prog 82 #[x, y] h NoX fun v h' => BoxV h' v k (min4 a b c d) (max4 a b c d) := by
  obtain ⟨ra, rb, rfl, ha, hb⟩ := hx
  obtain ⟨rc, rd, rfl, hc, hd⟩ := hy
  refine v_fn tb k82 [bval ra rb, bval rc rd] rfl ?_
  conv => whnf
  refine eO_lits (sz := 3) [rb.val, rc.val, rd.val] u95 s26 z26 (by decide) rfl rfl (fun v hv => by simp at hv; rcases hv with rfl | rfl | rfl <;> rfl) fun g hg => ?_
  conv => whnf
  have hNL : NumL (h.upd g (.cells (List.flatMap (fun v => v.cells.toList) [rb.val, rc.val, rd.val]).toArray 26 (0, 0))) k [(rb, b), (rc, c), (rd, d)] := by
    intro x hx
    simp at hx
    rcases hx with rfl | rfl | rfl
    · exact hb.mono (Le.upd hg)
    · exact hc.mono (Le.upd hg)
    · exact hd.mono (Le.upd hg)
  refine CallsO.go (span_c (l := [(rb, b), (rc, c), (rd, d)]) (ha.mono (Le.upd hg)) (row_v (n := 9) (Heap.upd_same _ _ _) rfl (Nat.le_refl 9)) rfl (by decide) hNL hk (by decide)) ?_
  rintro v5 h5 hle5 ⟨r1, r2, rfl, hb1, hb2⟩
  conv => whnf
  exact EndO.go ⟨r1, r2, rfl, hb1, hb2⟩
theorem div_err {x y : Value} {k : Nat} {a b c d : Rat} (hx : BoxV h x k a b) (hy : BoxV h y k c d) (hk : k < 33554432) (h0 : hasQ c d 0 = true) : CallGo Tryz.prog 85 #[x, y] h NoX fun v h' => ∃ z, v = .tuple #[z, .int .i64 10] ∧ BoxV h' z k 0 0 := by
  have hy' := hy
  obtain ⟨ra, rb, rfl, ha, hb⟩ := hx
  obtain ⟨rc, rd, rfl, hc, hd⟩ := hy
  refine v_fn tb k85 [bval ra rb, bval rc rd] rfl ?_
  conv => whnf
  refine pO_b0 rfl ?_
  conv => whnf
  refine CallsO.go (has_b hy' (NumV.zero _ 0) (by omega) true h0) ?_
  rintro v1 h1 hle1 rfl
  conv => whnf
  refine pO_b63n rfl ?_
  conv => whnf
  exact EndO.go ⟨_, rfl, BoxV.zero _ _⟩
theorem div_x {x y : Value} {k : Nat} {a b c d : Rat} (hx : BoxV h x k a b) (hy : BoxV h y k c d) (hk : k < 33554432) (h0 : hasQ c d 0 = false) : CallGo Tryz.prog 85 #[x, y] h NoX fun v h' => ∃ z, v = .tuple #[z, .int .i64 0] ∧ BoxV h' z (k + k) (min4 (a / c) (a / d) (b / c) (b / d)) (max4 (a / c) (a / d) (b / c) (b / d)) := by
  have hx' := hx
  have hy' := hy
  obtain ⟨ra, rb, rfl, ha, hb⟩ := hx
  obtain ⟨rc, rd, rfl, hc, hd⟩ := hy
  refine v_fn tb k85 [bval ra rb, bval rc rd] rfl ?_
  conv => whnf
  refine pO_b0 rfl ?_
  conv => whnf
  refine CallsO.go (has_b hy' (NumV.zero _ 0) (by omega) false h0) ?_
  rintro v1 h1 hle1 rfl
  conv => whnf
  refine CallsO.go (corners_c (kr := k + k) (op := fun p q => p / q) (fun hp hq => over_n hp hq (by omega)) (hx'.mono hle1) (hy'.mono hle1) (by omega)) ?_
  rintro v5 h5 hle5 ⟨r1, r2, rfl, hb1, hb2⟩
  conv => whnf
  exact EndO.go ⟨_, rfl, r1, r2, rfl, hb1, hb2⟩
/-- A box out of two numerals, its ends in order. -/
theorem box_c (a b : List UInt8) (hG : Glob h) {k : Nat} (ha : 4 * a.length ≤ k) (hb : 4 * b.length ≤ k) (hk : k < 134217728) : CallGo Tryz.prog 71 #[.agg #[.string (bs a), .string (bs b)]] h NoX fun v h' => ∃ lo hi : Rat, lo ≤ hi ∧ BoxV h' v k lo hi ∧
    ((lo = (parseQ a).1 ∧ hi = (parseQ b).1) ∨ (lo = (parseQ b).1 ∧ hi = (parseQ a).1)) := by
  refine v_fn tb k71 [.agg #[.string (bs a), .string (bs b)]] rfl ?_
  conv => whnf
  refine CallsO.go (number_c a hG (by omega)) ?_
  rintro _ h1 hle1 hx
  obtain ⟨r_hx, rfl⟩ := hx.raw
  replace hG := hG.mono hle1
  conv => whnf
  refine CallsO.go (number_c b hG (by omega)) ?_
  rintro _ h2 hle2 hy
  obtain ⟨r_hy, rfl⟩ := hy.raw
  replace hG := hG.mono hle2
  replace hx := hx.mono hle2
  conv => whnf
  generalize (parseQ a).1 = x at *
  generalize (parseQ b).1 = y at *
  replace hx := hx.up ha
  replace hy := hy.up hb
  refine CallsO.go (cmp_n hx hy (by omega)) ?_
  rintro v3 h3 hle3 rfl
  replace hG := hG.mono hle3
  replace hx := hx.mono hle3
  replace hy := hy.mono hle3
  conv => whnf
  by_cases hc : y < x
  · refine pO_gtr rfl rfl (true) (decide_eq_true ((cmpQ_pos _ _).2 hc)) ?_
    conv => whnf
    refine CallsO.go (span_ok hy hx (by omega) (by grind)) ?_
    rintro _ h4 hle4 ⟨_, rfl, r_ba, r_bb, rfl, ba, bb⟩
    replace hG := hG.mono hle4
    replace hx := hx.mono hle4
    replace hy := hy.mono hle4
    conv => whnf
    exact EndO.go ⟨y, x, by grind, ⟨_, _, rfl, ba, bb⟩, .inr ⟨rfl, rfl⟩⟩
  · refine pO_gtr rfl rfl (false) (decide_eq_false (fun e => hc ((cmpQ_pos _ _).1 e))) ?_
    conv => whnf
    refine CallsO.go (span_ok hx hy (by omega) (by grind)) ?_
    rintro _ h4 hle4 ⟨_, rfl, r_ba, r_bb, rfl, ba, bb⟩
    replace hG := hG.mono hle4
    replace hx := hx.mono hle4
    replace hy := hy.mono hle4
    conv => whnf
    exact EndO.go ⟨x, y, by grind, ⟨_, _, rfl, ba, bb⟩, .inl ⟨rfl, rfl⟩⟩
/-- A place in a box. -/
theorem at_n {x : Value} {k p : Nat} {a b : Rat} (hx : BoxV h x k a b) (hp : p ≤ 255) (hk : k < 33554432) : CallGo Tryz.prog 74 #[x, .int .u8 p] h NoX fun v h' => NumV h' v (3 * k + 66) (a + (b - a) * (((p : Nat) : Int) / ((255 : Int) : Rat))) := by
  have hx' := hx
  obtain ⟨ra, rb, rfl, ha, hb⟩ := hx
  refine v_fn tb k74 [bval ra rb, .int .u8 p] rfl ?_
  conv => whnf
  refine pO_conv (by rfl) u2 rfl ((p : Nat) : Int) (wr64 rfl (by omega) (by omega)) ?_
  conv => whnf
  refine CallsO.go (lo_b hx') ?_
  rintro _ h1 hle1 n1
  obtain ⟨r_n1, rfl⟩ := n1.raw
  replace ha := ha.mono hle1
  replace hb := hb.mono hle1
  replace hx' := hx'.mono hle1
  conv => whnf
  refine CallsO.go (width_n hx' (by omega)) ?_
  rintro _ h2 hle2 n2
  obtain ⟨r_n2, rfl⟩ := n2.raw
  replace ha := ha.mono hle2
  replace hb := hb.mono hle2
  replace hx' := hx'.mono hle2
  replace n1 := n1.mono hle2
  conv => whnf
  refine CallsO.go (ratio_c (a := ((p : Nat) : Int)) (b := 255) (by omega) (by omega) (by decide) (by decide) (by decide)) ?_
  rintro _ h3 hle3 n3
  obtain ⟨r_n3, rfl⟩ := n3.raw
  replace ha := ha.mono hle3
  replace hb := hb.mono hle3
  replace hx' := hx'.mono hle3
  replace n1 := n1.mono hle3
  replace n2 := n2.mono hle3
  conv => whnf
  refine CallsO.go (mul_n n2 n3 (by omega)) ?_
  rintro _ h4 hle4 n4
  obtain ⟨r_n4, rfl⟩ := n4.raw
  replace ha := ha.mono hle4
  replace hb := hb.mono hle4
  replace hx' := hx'.mono hle4
  replace n1 := n1.mono hle4
  replace n2 := n2.mono hle4
  replace n3 := n3.mono hle4
  conv => whnf
  refine CallsO.go (add_n n1 n4 (by omega)) ?_
  rintro _ h5 hle5 n5
  obtain ⟨r_n5, rfl⟩ := n5.raw
  replace ha := ha.mono hle5
  replace hb := hb.mono hle5
  replace hx' := hx'.mono hle5
  replace n1 := n1.mono hle5
  replace n2 := n2.mono hle5
  replace n3 := n3.mono hle5
  replace n4 := n4.mono hle5
  conv => whnf
  exact EndO.go (n5.up (by omega))
end
end Go.Proofs.YtplaobhghfndgaaGreatDoor
