import Derived.Test.YtplaobhghfndgaaGreatDoorRoot
import Derived.Test.YtplaobhghfndgaaGreatDoorScL0
/-! The calls whose results the document gives; fractions; the help of the statements. -/
set_option linter.unusedVariables false
set_option linter.unusedSimpArgs false
set_option maxRecDepth 100000
namespace Go.Proofs.YtplaobhghfndgaaGreatDoor
open Go Go.Proofs.Vc
attribute [local irreducible] CallsO EffO PureO LoadO StoreO EndO LoopV RoundO
theorem rat_ratio (a : Int) {b : Int} (hb : b ≠ 0) : rat (decide (a < 0) != decide (b < 0)) a.natAbs b.natAbs = (a : Rat) / (b : Rat) := by
  rw [rat_of_int a, rat_of_int b, rat_div _ _ _ _ _ _ (by decide) (by omega) (by decide), Nat.mul_one, Nat.one_mul]
section
variable {h : Heap}
theorem ratio_n {a b : Int} (ha0 : -9223372036854775808 ≤ a) (ha1 : a < 9223372036854775808) (hb0 : -9223372036854775808 ≤ b) (hb1 : b < 9223372036854775808) (hb : b ≠ 0) : CallGo Tryz.prog 87 #[.int .i64 a, .int .i64 b] h NoX fun v h' => ∃ z, v = .tuple #[z, .int .i64 0] ∧ NumV h' z 64 ((a : Rat) / (b : Rat)) := by
  refine v_fn tb k87 [.int .i64 a, .int .i64 b] rfl ?_
  conv => whnf
  refine pO_eql rfl rfl (false) (beq_eq_false_iff_ne.2 hb) ?_
  conv => whnf
  refine pO_lss rfl rfl ((decide (a < 0))) (rfl) ?_
  conv => whnf
  refine pO_lss rfl rfl ((decide (b < 0))) (rfl) ?_
  conv => whnf
  refine pO_bneq u4 rfl rfl (decide (a < 0) != decide (b < 0)) rfl ?_
  conv => whnf
  have hsa := sz_two (n := a.natAbs) (k := 64) (by omega)
  have hsb := sz_two (n := b.natAbs) (k := 64) (by omega)
  refine CallsO.go (size_c ha0 ha1) ?_
  rintro v1 h1 hle1 hv1
  conv => whnf
  refine CallsO.go (size_c hb0 hb1) ?_
  rintro v2 h2 hle2 hv2
  conv => whnf
  refine CallsO.go (reduced_c (m := decide (a < 0) != decide (b < 0)) (k := 64) (hv1.mono hle2) hv2 (show b.natAbs ≠ 0 by omega) (by omega) (rat_sm (by omega) (by omega) (by omega))) ?_
  rintro _ h3 hle3 hz
  obtain ⟨r_hz, rfl⟩ := hz.raw
  conv => whnf
  rw [rat_ratio a hb] at hz
  exact EndO.go ⟨_, rfl, hz⟩
theorem ratio_c {a b : Int} (ha0 : -9223372036854775808 ≤ a) (ha1 : a < 9223372036854775808) (hb0 : -9223372036854775808 ≤ b) (hb1 : b < 9223372036854775808) (hb : b ≠ 0) : CallGo Tryz.prog 108 #[.int .i64 a, .int .i64 b] h NoX fun v h' => NumV h' v 64 ((a : Rat) / (b : Rat)) := by
  refine v_fn tb k108 [.int .i64 a, .int .i64 b] rfl ?_
  conv => whnf
  refine CallsO.go (ratio_n ha0 ha1 hb0 hb1 hb) ?_
  rintro _ h1 hle1 ⟨_, rfl, hz⟩
  obtain ⟨r_hz, rfl⟩ := hz.raw
  conv => whnf
  exact EndO.go hz
theorem point_x {x : Value} {k : Nat} {p : Rat} (hx : NumV h x k p) : CallGo Tryz.prog 58 #[x] h NoX fun v h' => BoxV h' v k p p := by
  have hx' := hx
  obtain ⟨r, rfl⟩ := hx.raw
  refine v_fn tb k58 [r.val] rfl ?_
  conv => whnf
  refine pO_b63 r r rfl ?_
  conv => whnf
  exact EndO.go ⟨r, r, rfl, hx', hx'⟩
theorem span_ok {x y : Value} {k : Nat} {p q : Rat} (hx : NumV h x k p) (hy : NumV h y k q) (hk : k < 134217728) (hpq : p ≤ q) : CallGo Tryz.prog 51 #[x, y] h NoX fun v h' => ∃ z, v = .tuple #[z, .int .i64 0] ∧ BoxV h' z k p q := by
  have := span_b hx hy hk
  have hn : ¬ q < p := by grind
  simp only [if_neg hn] at this
  exact this
theorem parse_k (l : List UInt8) (q : Rat) (e : Nat) (he : parseQ l = (q, e)) (hG : Glob h) (hl : l.length < 4294967281) : CallGo Tryz.prog 20 #[.string (bs l)] h NoX fun v h' => ∃ z, v = .tuple #[z, .int .i64 (e : Nat)] ∧ NumV h' z (4 * l.length) q := by
  have := parse_c l hG hl
  rw [he] at this; exact this
theorem root200 {m : Nat} {x : Rat} (hx : x = ((200 : Nat) : Rat)) (h1 : (m : Rat) * m ≤ x) (h2 : x < ((m : Rat) + 1) * ((m : Rat) + 1)) : m = 14 := by
  subst hx
  rw [← Rat.natCast_mul, Rat.natCast_le_natCast] at h1
  have e : ((m : Rat) + 1) * ((m : Rat) + 1) = (((m + 1) * (m + 1) : Nat) : Rat) := by rw [Rat.natCast_mul, Rat.natCast_add]; rfl
  rw [e, Rat.natCast_lt_natCast] at h2
  rcases Nat.lt_trichotomy m 14 with h3 | h3 | h3
  · have : (m + 1) * (m + 1) ≤ 14 * 14 := Nat.mul_le_mul (by omega) (by omega)
    omega
  · exact h3
  · have : 15 * 15 ≤ m * m := Nat.mul_le_mul h3 h3
    omega
theorem known_c (hG : Glob h) : CallGo Tryz.prog 19 #[] h NoX fun v h' => v = .bool true := by
  refine v_fn tb k19 [] rfl ?_
  conv => whnf
  refine CallsO.go (parse_k [45, 49, 50, 46, 53, 48] (-25/2) 0 (by decide +kernel) hG (by decide)) ?_
  rintro _ h1 hle1 ⟨_, rfl, hx⟩
  obtain ⟨r_hx, rfl⟩ := hx.raw
  conv => whnf
  refine CallsO.go (parse_k [45, 50, 47, 54] (-1/3) 0 (by decide +kernel) (hG.mono hle1) (by decide)) ?_
  rintro _ h2 hle2 ⟨_, rfl, hy⟩
  obtain ⟨r_hy, rfl⟩ := hy.raw
  conv => whnf
  refine CallsO.go (parse_k [48, 49] 0 4 (by decide +kernel) (hG.mono (hle1.trans hle2)) (by decide)) ?_
  rintro _ h3 hle3 ⟨_, rfl, hz⟩
  obtain ⟨r_hz, rfl⟩ := hz.raw
  conv => whnf
  refine pO_neq rfl rfl (false) (rfl) ?_
  conv => whnf
  refine pO_neq rfl rfl (false) (rfl) ?_
  conv => whnf
  refine pO_neq rfl rfl (false) (rfl) ?_
  conv => whnf
  refine CallsO.go (string_c (hx.mono (hle2.trans hle3)) (by decide)) ?_
  rintro v4 h4 hle4 rfl
  conv => whnf
  refine pO_sneB (b := [45, 49, 50, 46, 53]) false rfl rfl (by decide +kernel) ?_
  conv => whnf
  refine CallsO.go (string_c (hy.mono (hle3.trans hle4)) (by decide)) ?_
  rintro v5 h5 hle5 rfl
  conv => whnf
  refine pO_sneB (b := [45, 49, 47, 51]) false rfl rfl (by decide +kernel) ?_
  conv => whnf
  refine CallsO.go (int_n (z := -1) (by decide) (by decide)) ?_
  rintro _ h6 hle6 i1
  obtain ⟨r_i1, rfl⟩ := i1.raw
  conv => whnf
  refine CallsO.go (int_n (z := 2) (by decide) (by decide)) ?_
  rintro _ h7 hle7 i2
  obtain ⟨r_i2, rfl⟩ := i2.raw
  conv => whnf
  refine CallsO.go (span_ok (i1.mono hle7) i2 (by decide) (by decide +kernel)) ?_
  rintro v8 h8 hle8 ⟨_, rfl, ra, rb, rfl, ha1, ha2⟩
  conv => whnf
  refine CallsO.go (int_n (z := 3) (by decide) (by decide)) ?_
  rintro _ h9 hle9 i3
  obtain ⟨r_i3, rfl⟩ := i3.raw
  conv => whnf
  refine CallsO.go (int_n (z := 4) (by decide) (by decide)) ?_
  rintro _ h10 hle10 i4
  obtain ⟨r_i4, rfl⟩ := i4.raw
  conv => whnf
  refine CallsO.go (span_ok (i3.mono hle10) i4 (by decide) (by decide +kernel)) ?_
  rintro v11 h11 hle11 ⟨_, rfl, rc, rd, rfl, hb1, hb2⟩
  conv => whnf
  have hleA := hle9.trans (hle10.trans hle11)
  refine CallsO.go (pow_x (n := 3) ⟨ra, rb, rfl, ha1.mono hleA, ha2.mono hleA⟩ (by decide) (by decide)) ?_
  rintro v12 h12 hle12 ⟨_, rfl, re, rf, rfl, hp1, hp2⟩
  conv => whnf
  refine CallsO.go (int_n (z := 2) (by decide) (by decide)) ?_
  rintro _ h13 hle13 i5
  obtain ⟨r_i5, rfl⟩ := i5.raw
  conv => whnf
  refine CallsO.go (point_x i5) ?_
  rintro v14 h14 hle14 ⟨rg, rh, rfl, hq1, hq2⟩
  conv => whnf
  refine CallsO.go (ratio_c (a := 1) (b := 10) (by decide) (by decide) (by decide) (by decide) (by decide)) ?_
  rintro _ h15 hle15 i6
  obtain ⟨r_i6, rfl⟩ := i6.raw
  conv => whnf
  refine CallsO.go (root_x ⟨rg, rh, rfl, hq1.mono hle15, hq2.mono hle15⟩ i6 (by decide +kernel) (by decide +kernel) (by decide +kernel) (by decide)) ?_
  rintro v16 h16 hle16 ⟨_, rfl, m, n, n0, hm1, hm2, hn1, hn2, hn, ri, rj, rfl, hr1, hr2⟩
  conv => whnf
  obtain rfl := root200 (by decide +kernel) hm1 hm2
  obtain rfl := root200 (by decide +kernel) hn1 hn2
  have hn15 : n = 15 := by rw [hn]; decide +kernel
  subst hn15
  refine pO_neq rfl rfl (false) (rfl) ?_
  conv => whnf
  refine pO_neq rfl rfl (false) (rfl) ?_
  conv => whnf
  refine pO_neq rfl rfl (false) (rfl) ?_
  conv => whnf
  refine pO_neq rfl rfl (false) (rfl) ?_
  conv => whnf
  have hleB := hle13.trans (hle14.trans (hle15.trans hle16))
  refine CallsO.go (lo_b ⟨re, rf, rfl, hp1.mono hleB, hp2.mono hleB⟩) ?_
  rintro _ h17 hle17 l1
  obtain ⟨r_l1, rfl⟩ := l1.raw
  conv => whnf
  refine CallsO.go (string_c l1 (by decide)) ?_
  rintro v18 h18 hle18 rfl
  conv => whnf
  refine pO_sneB (b := [45, 49]) false rfl rfl (by decide +kernel) ?_
  conv => whnf
  have hleC := hleB.trans (hle17.trans hle18)
  refine CallsO.go (hi_b ⟨re, rf, rfl, hp1.mono hleC, hp2.mono hleC⟩) ?_
  rintro _ h19 hle19 l2
  obtain ⟨r_l2, rfl⟩ := l2.raw
  conv => whnf
  refine CallsO.go (string_c l2 (by decide)) ?_
  rintro v20 h20 hle20 rfl
  conv => whnf
  refine pO_sneB (b := [56]) false rfl rfl (by decide +kernel) ?_
  conv => whnf
  have hleD := hle17.trans (hle18.trans (hle19.trans hle20))
  refine CallsO.go (lo_b ⟨ri, rj, rfl, hr1.mono hleD, hr2.mono hleD⟩) ?_
  rintro _ h21 hle21 l3
  obtain ⟨r_l3, rfl⟩ := l3.raw
  conv => whnf
  refine CallsO.go (string_c l3 (by decide)) ?_
  rintro v22 h22 hle22 rfl
  conv => whnf
  refine pO_sneB (b := [49, 46, 52]) false rfl rfl (by decide +kernel) ?_
  conv => whnf
  have hleE := hleD.trans (hle21.trans hle22)
  refine CallsO.go (hi_b ⟨ri, rj, rfl, hr1.mono hleE, hr2.mono hleE⟩) ?_
  rintro _ h23 hle23 l4
  obtain ⟨r_l4, rfl⟩ := l4.raw
  conv => whnf
  refine CallsO.go (string_c l4 (by decide)) ?_
  rintro v24 h24 hle24 rfl
  conv => whnf
  refine pO_sneB (b := [49, 46, 53]) false rfl rfl (by decide +kernel) ?_
  conv => whnf
  have hleF := hle12.trans (hleB.trans (hleD.trans (hle21.trans (hle22.trans (hle23.trans hle24)))))
  have hleG := hleA.trans hleF
  refine CallsO.go (mul_x ⟨ra, rb, rfl, ha1.mono hleG, ha2.mono hleG⟩ ⟨rc, rd, rfl, hb1.mono hleF, hb2.mono hleF⟩ (by decide)) ?_
  rintro v25 h25 hle25 ⟨rk, rl, rfl, hm1, hm2⟩
  conv => whnf
  refine CallsO.go (lo_b ⟨rk, rl, rfl, hm1, hm2⟩) ?_
  rintro _ h26 hle26 l5
  obtain ⟨r_l5, rfl⟩ := l5.raw
  conv => whnf
  refine CallsO.go (string_c l5 (by decide)) ?_
  rintro v27 h27 hle27 rfl
  conv => whnf
  refine pO_seqB (b := [45, 52]) true rfl rfl (by decide +kernel) ?_
  conv => whnf
  refine CallsO.go (hi_b ⟨rk, rl, rfl, hm1.mono (hle26.trans hle27), hm2.mono (hle26.trans hle27)⟩) ?_
  rintro _ h28 hle28 l6
  obtain ⟨r_l6, rfl⟩ := l6.raw
  conv => whnf
  refine CallsO.go (string_c l6 (by decide)) ?_
  rintro v29 h29 hle29 rfl
  conv => whnf
  refine pO_seqB (b := [56]) true rfl rfl (by decide +kernel) ?_
  conv => whnf
  exact EndO.go rfl
/-- Whether two numbers are equal and have one text. -/
theorem equal_c {x y : Value} {k l : Nat} {p q : Rat} (hx : NumV h x k p) (hy : NumV h y l q) (hk : k < 134217728) (hl : l < 134217728) (hpq : p = q) : CallGo Tryz.prog 26 #[x, y] h NoX fun v h' => v = .bool true := by
  subst hpq
  have hx' := hx
  have hy' := hy
  obtain ⟨a, rfl⟩ := hx.raw
  obtain ⟨b, rfl⟩ := hy.raw
  refine v_fn tb k26 [a.val, b.val] rfl ?_
  conv => whnf
  refine CallsO.go (cmp_n hx' hy' (by omega)) ?_
  rintro v1 h1 hle1 rfl
  conv => whnf
  refine pO_eql rfl rfl (true) (beq_iff_eq.2 ((cmpQ_zero p p).2 rfl)) ?_
  conv => whnf
  refine CallsO.go (string_c (hx'.mono hle1) hk) ?_
  rintro v2 h2 hle2 rfl
  conv => whnf
  refine CallsO.go (string_c (hy'.mono (hle1.trans hle2)) hl) ?_
  rintro v3 h3 hle3 rfl
  conv => whnf
  refine pO_seqB true rfl rfl (decide_eq_true rfl) ?_
  conv => whnf
  exact EndO.go rfl
/-- The number of a numeral. -/
theorem number_c (l : List UInt8) (hG : Glob h) (hl : l.length < 4294967281) : CallGo Tryz.prog 23 #[.string (bs l)] h NoX fun v h' => NumV h' v (4 * l.length) (parseQ l).1 := by
  refine v_fn tb k23 [.string (bs l)] rfl ?_
  conv => whnf
  refine CallsO.go (parse_c l hG hl) ?_
  rintro _ h1 hle1 ⟨_, rfl, hz⟩
  obtain ⟨r_hz, rfl⟩ := hz.raw
  conv => whnf
  exact EndO.go hz
/-- Whether some texts are longer than the statements look at. -/
theorem long_c {A : Option Addr} {n c : Nat} {xs : List (List UInt8)} (hr : Row h A (ss xs)) (hn : xs.length = n) (hb : n < 1099511627776) : CallGo Tryz.prog 27 #[.slice A n c] h NoX fun v h' => h' = h ∧ v = .bool (xs.any fun l => decide (120 < l.length)) := by
  subst hn
  refine v_fn tb k27 [.slice A xs.length c] rfl ?_
  conv => whnf
  refine LoopV.by (α := Nat) (fun i => [(0, .v (.slice A xs.length c)), (3, .v (.int .i64 (i : Nat)))]) (fun _ => []) (fun i h' => h' = h ∧ i ≤ xs.length ∧ (xs.take i).any (fun l => decide (120 < l.length)) = false) (fun i => xs.length - i) 0
    ⟨rfl, rfl, rfl, rfl, trivial⟩ trivial ⟨rfl, Nat.zero_le _, rfl⟩ ?_
  rintro i h1 ⟨rfl, hi, hno⟩
  dsimp only
  conv => whnf
  rcases Nat.lt_or_ge i xs.length with hin | hin
  · refine pO_lss rfl rfl (true) (decide_eq_true (by omega)) ?_
    conv => whnf
    refine pO_atN u113 s9 rfl rfl (hr) (by simp [ss]) (ss_get hin) fun pAt hAt => ?_
    conv => whnf
    refine lO_at hAt ?_
    conv => whnf
    have hts : (xs.take (i + 1)).any (fun l => decide (120 < l.length)) = decide (120 < (xs.getD i []).length) := by
      rw [List.take_succ_eq_append_getElem hin, List.any_append, hno]
      simp [List.getD_eq_getElem?_getD, hin]
    rw [bs_size]
    rcases Nat.lt_or_ge 120 (xs.getD i []).length with hg | hg
    · refine pO_gtr rfl rfl (true) (decide_eq_true (by omega)) ?_
      conv => whnf
      refine EndO.go ⟨rfl, ?_⟩
      have : xs.any (fun l => decide (120 < l.length)) = true := by
        rw [List.any_eq_true]
        refine ⟨xs.getD i [], ?_, decide_eq_true hg⟩
        rw [List.getD_eq_getElem?_getD, List.getElem?_eq_getElem hin]; exact List.getElem_mem hin
      rw [this]; rfl
    · refine pO_gtr rfl rfl (false) (decide_eq_false (by omega)) ?_
      conv => whnf
      refine pO_add rfl rfl (((i + 1 : Nat) : Int)) (wr64 (by omega) (by omega) (by omega)) ?_
      conv => whnf
      exact RoundO.go ⟨i + 1, ⟨rfl, rfl, rfl, rfl, trivial⟩, trivial, ⟨rfl, hin, by rw [hts]; exact decide_eq_false (by omega)⟩, by omega⟩
  · refine pO_lss rfl rfl (false) (decide_eq_false (by omega)) ?_
    conv => whnf
    rw [List.take_of_length_le hin] at hno
    exact EndO.go ⟨rfl, by rw [hno]; rfl⟩
theorem long_b {A : Option Addr} {n c : Nat} {xs : List (List UInt8)} (hr : Row h A (ss xs)) (hn : xs.length = n) (hb : n < 1099511627776) (t : Bool) (ht : (xs.any fun l => decide (120 < l.length)) = t) : CallGo Tryz.prog 27 #[.slice A n c] h NoX fun v h' => h' = h ∧ v = .bool t := by
  subst ht; exact long_c hr hn hb
end
end Go.Proofs.YtplaobhghfndgaaGreatDoor
