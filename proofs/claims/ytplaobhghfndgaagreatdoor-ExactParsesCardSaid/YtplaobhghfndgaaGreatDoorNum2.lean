import Derived.Test.YtplaobhghfndgaaGreatDoorNum
/-! Numbers: the other operations. -/
set_option linter.unusedVariables false
set_option linter.unusedSimpArgs false
set_option maxRecDepth 100000
namespace Go.Proofs.YtplaobhghfndgaaGreatDoor
open Go Go.Proofs.Vc
attribute [local irreducible] CallsO EffO PureO LoadO StoreO EndO LoopV RoundO
section
variable {h : Heap}
theorem sz_neg_iff {q : Rat} : decide (0 < sz q.num.natAbs) = decide (0 < q.num.natAbs) := by
  have := sz_eq_zero (n := q.num.natAbs)
  congr 1; apply propext; omega
theorem neg_n {x : Value} {k : Nat} {p : Rat} (hx : NumV h x k p) (hk : k < 1073741824) : CallGo Tryz.prog 41 #[x] h NoX fun v h' => NumV h' v k (-p) := by
  have hx' := hx
  obtain ⟨mp, A, ca, B, cb, hmp, rfl, hA, hB, s1, s2, s3⟩ := hx.open2
  have hsm := hx'.1.neg
  have hmn := neg_minus p
  rw [hmp] at hmn
  have e1 : (-p).num.natAbs = p.num.natAbs := by rw [Rat.neg_num, Int.natAbs_neg]
  have e2 : bot (-p) = bot p := by unfold bot; rw [Rat.neg_den]
  have h9 := sz_eq_zero (n := p.num.natAbs)
  refine v_fn tb k41 [.agg #[.bool mp, .slice A (sz p.num.natAbs) ca, .slice B (sz (bot p)) cb]] rfl ?_
  conv => whnf
  cases mp
  · conv => whnf
    rcases Nat.eq_zero_or_pos p.num.natAbs with h0 | h0
    · refine pO_gtr rfl rfl (false) (decide_eq_false (by omega)) ?_
      conv => whnf
      exact EndO.go (num_of hsm rfl (hmn.trans (by rw [h0]; rfl)) (by rw [e1]; exact hA) (by rw [e2]; exact hB))
    · refine pO_gtr rfl rfl (true) (decide_eq_true (by omega)) ?_
      conv => whnf
      exact EndO.go (num_of hsm rfl (hmn.trans (by rw [decide_eq_true h0]; rfl)) (by rw [e1]; exact hA) (by rw [e2]; exact hB))
  · conv => whnf
    exact EndO.go (num_of hsm rfl (hmn.trans rfl) (by rw [e1]; exact hA) (by rw [e2]; exact hB))
theorem abs_n {x : Value} {k : Nat} {p : Rat} (hx : NumV h x k p) : CallGo Tryz.prog 43 #[x] h NoX fun v h' => NumV h' v k (absQ p) := by
  have hx' := hx
  obtain ⟨mp, A, ca, B, cb, hmp, rfl, hA, hB, s1, s2, s3⟩ := hx.open2
  obtain ⟨e1, e2⟩ := absQ_num p
  refine v_fn tb k43 [.agg #[.bool mp, .slice A (sz p.num.natAbs) ca, .slice B (sz (bot p)) cb]] rfl ?_
  conv => whnf
  refine EndO.go (num_of hx'.1.abs rfl ?_ ?_ ?_)
  · rw [e1]; exact decide_eq_false (by omega)
  · rw [e1]; exact hA
  · unfold bot; rw [e2]; exact hB
theorem sub_n {x y : Value} {k l : Nat} {p q : Rat} (hx : NumV h x k p) (hy : NumV h y l q) (hkl : k + l < 1073741824) : CallGo Tryz.prog 31 #[x, y] h NoX fun v h' => NumV h' v (k + l + 1) (p - q) := by
  have hx' := hx
  have hy' := hy
  obtain ⟨mp, A, ca, B, cb, hmp, rfl, hA, hB, s1, s2, s3⟩ := hx.open2
  obtain ⟨mq, C, cc, D, cd, hmq, rfl, hC, hD, s4, s5, s6⟩ := hy.open2
  refine v_fn tb k31 [.agg #[.bool mp, .slice A (sz p.num.natAbs) ca, .slice B (sz (bot p)) cb], .agg #[.bool mq, .slice C (sz q.num.natAbs) cc, .slice D (sz (bot q)) cd]] rfl ?_
  conv => whnf
  refine CallsO.go (neg_n hy' (by omega)) ?_
  rintro _ h1 hle1 hn
  obtain ⟨r_hn, rfl⟩ := hn.raw
  conv => whnf
  refine CallsO.go (add_n (hx'.mono hle1) hn hkl) ?_
  rintro _ h2 hle2 hs
  obtain ⟨r_hs, rfl⟩ := hs.raw
  conv => whnf
  refine EndO.go ?_
  rw [Rat.sub_eq_add_neg]; exact hs
/-- The sign. -/
def sgnQ (q : Rat) : Int := cmpQ q 0
theorem sgnQ_num (q : Rat) : sgnQ q = if q.num < 0 then -1 else if 0 < q.num then 1 else 0 := by
  unfold sgnQ; rw [cmpQ_cross]
  have e1 : (0 : Rat).num = 0 := rfl
  have e2 : (0 : Rat).den = 1 := rfl
  rw [e1, e2]; simp only [Int.natCast_one, Int.mul_one, Int.zero_mul]
theorem sign_n {x : Value} {k : Nat} {p : Rat} (hx : NumV h x k p) (hk : k < 1073741824) : CallGo Tryz.prog 36 #[x] h NoX fun v h' => h' = h ∧ v = .int .i64 (sgnQ p) := by
  obtain ⟨mp, A, ca, B, cb, hmp, rfl, hA, hB, s1, s2, s3⟩ := hx.open2
  have hs := sgnQ_num p
  have h9 := sz_eq_zero (n := p.num.natAbs)
  refine v_fn tb k36 [.agg #[.bool mp, .slice A (sz p.num.natAbs) ca, .slice B (sz (bot p)) cb]] rfl ?_
  conv => whnf
  cases mp
  · conv => whnf
    have hp : ¬ p.num < 0 := by simpa using hmp
    rw [if_neg hp] at hs
    rcases Nat.eq_zero_or_pos p.num.natAbs with h0 | h0
    · refine pO_min rfl rfl (0) (by rw [if_neg (by omega)]; omega) ?_
      conv => whnf
      exact EndO.go ⟨rfl, by rw [hs, if_neg (by omega)]; rfl⟩
    · by_cases h1 : sz p.num.natAbs = 1
      · refine pO_min rfl rfl (1) (by rw [if_neg (by omega)]; omega) ?_
        conv => whnf
        exact EndO.go ⟨rfl, by rw [hs, if_pos (by omega)]; rfl⟩
      · refine pO_min rfl rfl (1) (by rw [if_pos (by omega)]) ?_
        conv => whnf
        exact EndO.go ⟨rfl, by rw [hs, if_pos (by omega)]; rfl⟩
  · conv => whnf
    have hp : p.num < 0 := by simpa using hmp
    exact EndO.go ⟨rfl, by rw [hs, if_pos hp]; rfl⟩
theorem cmpN_le (a b : Nat) : -1 ≤ cmpN a b ∧ cmpN a b ≤ 1 := by
  unfold cmpN; split
  · omega
  · split <;> omega
theorem cmp_n {x y : Value} {k l : Nat} {p q : Rat} (hx : NumV h x k p) (hy : NumV h y l q) (hkl : k + l < 1073741824) : CallGo Tryz.prog 34 #[x, y] h NoX fun v h' => v = .int .i64 (cmpQ p q) := by
  have hx' := hx
  have hy' := hy
  obtain ⟨mp, A, ca, B, cb, hmp, rfl, hA, hB, s1, s2, s3⟩ := hx.open2
  obtain ⟨mq, C, cc, D, cd, hmq, rfl, hC, hD, s4, s5, s6⟩ := hy.open2
  have hsa := sz_mul p.num.natAbs q.den
  have hsb := sz_mul q.num.natAbs p.den
  obtain ⟨c, hc⟩ : ∃ c, (!(mp == mq)) = c := ⟨_, rfl⟩
  refine v_fn tb k34 [.agg #[.bool mp, .slice A (sz p.num.natAbs) ca, .slice B (sz (bot p)) cb], .agg #[.bool mq, .slice C (sz q.num.natAbs) cc, .slice D (sz (bot q)) cd]] rfl ?_
  conv => whnf
  refine pO_bneq u4 rfl rfl c hc ?_
  conv => whnf
  cases c
  · conv => whnf
    have heq : mp = mq := by simpa using hc
    subst heq
    refine CallsO.go (under_c hy' (by omega)) ?_
    rintro u1 h1 hle1 hu1
    conv => whnf
    refine CallsO.go (mul_c (hA.mono hle1) hu1 (by omega)) ?_
    rintro va h2 hle2 hva
    conv => whnf
    refine CallsO.go (under_c (hx'.mono (hle1.trans hle2)) (by omega)) ?_
    rintro u3 h3 hle3 hu3
    conv => whnf
    refine CallsO.go (mul_c (hC.mono ((hle1.trans hle2).trans hle3)) hu3 (by omega)) ?_
    rintro vb h4 hle4 hvb
    conv => whnf
    refine CallsO.go (cmp_c (hva.mono (hle3.trans hle4)) hvb (by omega)) ?_
    rintro v5 h5 hle5 ⟨rfl, rfl⟩
    conv => whnf
    have hcs := cmp_same (p := p) (q := q) (hmp.trans hmq.symm)
    have hcn : (if p.num.natAbs * q.den < q.num.natAbs * p.den then (-1 : Int) else if q.num.natAbs * p.den < p.num.natAbs * q.den then 1 else 0) = cmpN (p.num.natAbs * q.den) (q.num.natAbs * p.den) := rfl
    rw [hcn] at hcs
    have hb := cmpN_le (p.num.natAbs * q.den) (q.num.natAbs * p.den)
    cases mp
    · conv => whnf
      have hp : ¬ p.num < 0 := by simpa using hmp
      rw [if_neg hp, Int.one_mul] at hcs
      exact EndO.go (by rw [hcs]; rfl)
    · conv => whnf
      have hp : p.num < 0 := by simpa using hmp
      rw [if_pos hp] at hcs
      refine pO_neg rfl ((cmpQ p q)) (wr64 (by rw [hcs]; omega) (by omega) (by omega)) ?_
      conv => whnf
      exact EndO.go rfl
  · conv => whnf
    cases mp
    · have hq : mq = true := by cases mq <;> simp_all
      subst hq
      conv => whnf
      exact EndO.go (by rw [cmp_more (by simpa using hmp) (by simpa using hmq)]; rfl)
    · have hq : mq = false := by cases mq <;> simp_all
      subst hq
      conv => whnf
      exact EndO.go (by rw [cmp_less (by simpa using hmp) (by simpa using hmq)]; rfl)
theorem sgnQ_zero {q : Rat} : sgnQ q = 0 ↔ q.num.natAbs = 0 := by
  rw [sgnQ_num]; split
  · omega
  · split <;> omega
theorem abs_zero {q : Rat} (h : q.num.natAbs = 0) : q = 0 := Rat.num_eq_zero.1 (by omega)
theorem div_n {x y : Value} {k l : Nat} {p q : Rat} (hx : NumV h x k p) (hy : NumV h y l q) (hkl : k + l < 1073741824) : CallGo Tryz.prog 38 #[x, y] h NoX fun v h' => ∃ z, v = .tuple #[z, .int .i64 (if q.num.natAbs = 0 then 10 else 0)] ∧ NumV h' z (k + l) (p / q) := by
  have hx' := hx
  have hy' := hy
  obtain ⟨mp, A, ca, B, cb, hmp, rfl, hA, hB, s1, s2, s3⟩ := hx.open2
  obtain ⟨mq, C, cc, D, cd, hmq, rfl, hC, hD, s4, s5, s6⟩ := hy.open2
  obtain ⟨m, hm⟩ : ∃ m, (!(mp == mq)) = m := ⟨_, rfl⟩
  refine v_fn tb k38 [.agg #[.bool mp, .slice A (sz p.num.natAbs) ca, .slice B (sz (bot p)) cb], .agg #[.bool mq, .slice C (sz q.num.natAbs) cc, .slice D (sz (bot q)) cd]] rfl ?_
  conv => whnf
  refine CallsO.go (sign_n hy' (by omega)) ?_
  rintro v1 h1 hle1 ⟨rfl, rfl⟩
  conv => whnf
  by_cases h0 : q.num.natAbs = 0
  · rw [if_pos h0]
    refine pO_eql rfl rfl (true) (by rw [sgnQ_zero.2 h0]; rfl) ?_
    conv => whnf
    refine pO_b0 rfl ?_
    conv => whnf
    refine EndO.go ⟨_, rfl, ?_⟩
    rw [abs_zero h0, Rat.div_def, Rat.inv_zero, Rat.mul_zero]
    exact NumV.zero _ _
  · rw [if_neg h0]
    have hsm := hx'.1.div hy'.1 h0
    have hpq := num_div p h0
    have hm2 : (decide (p.num < 0) != decide (q.num < 0)) = m := by rw [hmp, hmq]; exact hm
    rw [hm2] at hpq
    have hst := sz_mul p.num.natAbs q.den
    have hsd := sz_mul p.den q.num.natAbs
    refine pO_eql rfl rfl (false) (beq_eq_false_iff_ne.2 (fun e => h0 (sgnQ_zero.1 e))) ?_
    conv => whnf
    refine pO_bneq u4 rfl rfl m hm ?_
    conv => whnf
    refine CallsO.go (under_c hy' (by omega)) ?_
    rintro u1 h1 hle1 hu1
    conv => whnf
    refine CallsO.go (mul_c (hA.mono hle1) hu1 (by omega)) ?_
    rintro va h2 hle2 hva
    conv => whnf
    refine CallsO.go (under_c (hx'.mono (hle1.trans hle2)) (by omega)) ?_
    rintro u3 h3 hle3 hu3
    conv => whnf
    refine CallsO.go (mul_c hu3 (hC.mono ((hle1.trans hle2).trans hle3)) (by omega)) ?_
    rintro vb h4 hle4 hvb
    conv => whnf
    refine CallsO.go (reduced_c (m := m) (k := k + l) (hva.mono (hle3.trans hle4)) hvb (mul_ne (den_ne p) h0) (by omega) (by rw [← hpq]; exact hsm)) ?_
    rintro _ h5 hle5 hu5
    obtain ⟨r_hu5, rfl⟩ := hu5.raw
    conv => whnf
    refine EndO.go ⟨_, rfl, ?_⟩
    rw [hpq]; exact hu5
theorem over_n {x y : Value} {k l : Nat} {p q : Rat} (hx : NumV h x k p) (hy : NumV h y l q) (hkl : k + l < 1073741824) : CallGo Tryz.prog 132 #[x, y] h NoX fun v h' => NumV h' v (k + l) (p / q) := by
  have hx' := hx
  have hy' := hy
  obtain ⟨r, rfl⟩ := hx.raw
  obtain ⟨r2, rfl⟩ := hy.raw
  refine v_fn tb k132 [r.val, r2.val] rfl ?_
  conv => whnf
  refine CallsO.go (div_n hx' hy' hkl) ?_
  rintro _ h1 hle1 ⟨_, rfl, hz⟩
  obtain ⟨r_hz, rfl⟩ := hz.raw
  conv => whnf
  exact EndO.go hz
theorem floor_n {x : Value} {k : Nat} {p : Rat} (hx : NumV h x k p) (hk : k < 1073741824) : CallGo Tryz.prog 45 #[x] h NoX fun v h' => NumV h' v (k + 1) (flo p) := by
  have hx' := hx
  obtain ⟨mp, A, ca, B, cb, hmp, rfl, hA, hB, s1, s2, s3⟩ := hx.open2
  have hsm := hx'.1.flo
  refine v_fn tb k45 [.agg #[.bool mp, .slice A (sz p.num.natAbs) ca, .slice B (sz (bot p)) cb]] rfl ?_
  conv => whnf
  by_cases hd : p.den = 1
  · refine CallsO.go (whole_c hx' (by omega) true (decide_eq_true hd)) ?_
    rintro v1 h1 hle1 ⟨rfl, rfl⟩
    conv => whnf
    refine EndO.go ?_
    rw [flo_whole hd]; exact hx'.up (by omega)
  · refine CallsO.go (whole_c hx' (by omega) false (decide_eq_false hd)) ?_
    rintro v1 h1 hle1 ⟨rfl, rfl⟩
    conv => whnf
    have hb : bot p = p.den := by unfold bot; rw [if_neg hd]
    rw [hb] at hB s3
    have hp0 := Nat.pos_of_ne_zero (den_ne p)
    rw [hb]
    refine CallsO.go (div_c hA hB hp0 (by omega)) ?_
    rintro v2 h2 hle2 ⟨q1, r1, rfl, hq1, hr1⟩
    conv => whnf
    have hsq : sz (p.num.natAbs / p.den) ≤ sz p.num.natAbs := sz_mono (Nat.div_le_self _ _)
    cases mp
    · conv => whnf
      have hp : ¬ p.num < 0 := by simpa using hmp
      obtain ⟨E, ce, rfl, _⟩ := hq1.open
      refine pO_b01 rfl ?_
      conv => whnf
      exact EndO.go (num_int (flo_plus hp) hsm rfl hq1)
    · conv => whnf
      have hp : p.num < 0 := by simpa using hmp
      refine CallsO.go (ones_c) ?_
      rintro o1 h3 hle3 ho
      conv => whnf
      have h1s : sz 1 ≤ 1 := sz_word (by decide)
      refine CallsO.go (add_c (hq1.mono hle3) ho (by omega)) ?_
      rintro q2 h4 hle4 hq2
      conv => whnf
      obtain ⟨E, ce, rfl, _⟩ := hq2.open
      refine pO_b01 rfl ?_
      conv => whnf
      exact EndO.go (num_int (flo_minus hp hd) hsm (by rw [Bool.true_and]; exact decide_eq_true (Nat.succ_pos _)) hq2)
/-- The numbers of int64. -/
theorem sm_int (z : Int) (h0 : -9223372036854775808 ≤ z) (h1 : z < 9223372036854775808) : Sm 64 (z : Rat) :=
  ⟨by rw [Rat.num_intCast]; omega, by rw [Rat.den_intCast]; decide⟩
theorem rat_of_int (z : Int) : (z : Rat) = rat (decide (z < 0)) z.natAbs 1 := by rw [rat_one, sg_self]
theorem int_n {z : Int} (h0 : -9223372036854775808 ≤ z) (h1 : z < 9223372036854775808) : CallGo Tryz.prog 47 #[.int .i64 z] h NoX fun v h' => NumV h' v 64 (z : Rat) := by
  refine v_fn tb k47 [.int .i64 z] rfl ?_
  conv => whnf
  refine pO_lss rfl rfl ((decide (z < 0))) (rfl) ?_
  conv => whnf
  refine CallsO.go (size_c h0 h1) ?_
  rintro v1 h2 hle2 hv
  conv => whnf
  obtain ⟨E, ce, rfl, _⟩ := hv.open
  refine pO_b01 rfl ?_
  conv => whnf
  refine EndO.go (num_int (rat_of_int z) (sm_int z h0 h1) ?_ hv)
  rw [Bool.eq_iff_iff]; simp only [Bool.and_eq_true, decide_eq_true_eq]; omega
theorem half_n : CallGo Tryz.prog 133 #[] h NoX fun v h' => NumV h' v 1 (1 / 2) := by
  refine v_fn tb k133 [] rfl ?_
  conv => whnf
  refine CallsO.go (ones_c) ?_
  rintro v1 h1 hle1 hv
  conv => whnf
  refine eO_lits [.int .u64 ((2 : Nat) : Int)] u24 s140 z140 (by decide) rfl rfl (fun v hv => by rw [List.mem_singleton.1 hv]; rfl) fun g hg => ?_
  conv => whnf
  obtain ⟨E, ce, rfl, _⟩ := hv.open
  refine pO_b12 rfl ?_
  conv => whnf
  refine EndO.go (num_of ⟨by decide +kernel, by decide +kernel⟩ rfl (by decide +kernel) ?_ ?_)
  · rw [show ((1 : Rat) / 2).num.natAbs = 1 from by decide +kernel]; exact hv.mono (Le.upd hg)
  rw [show bot (1 / 2) = 2 from by decide +kernel]
  exact lim_one (Heap.upd_same _ _ _) (by decide) (by decide) rfl
def roundQ (p g : Rat) : Rat := flo (p / g + 1 / 2) * g
theorem round_n {x y : Value} {k l : Nat} {p q : Rat} (hx : NumV h x k p) (hy : NumV h y l q) (hkl : k + 2 * l < 1073741800) : CallGo Tryz.prog 48 #[x, y] h NoX fun v h' => ∃ z, v = .tuple #[z, .int .i64 (if sgnQ q ≤ 0 then 3 else 0)] ∧ NumV h' z (k + 2 * l + 3) (if sgnQ q ≤ 0 then 0 else roundQ p q) := by
  have hx' := hx
  have hy' := hy
  obtain ⟨r, rfl⟩ := hx.raw
  obtain ⟨r2, rfl⟩ := hy.raw
  refine v_fn tb k48 [r.val, r2.val] rfl ?_
  conv => whnf
  refine CallsO.go (sign_n hy' (by omega)) ?_
  rintro v1 h1 hle1 ⟨rfl, rfl⟩
  conv => whnf
  by_cases h0 : sgnQ q ≤ 0
  · rw [if_pos h0, if_pos h0]
    refine pO_leq rfl rfl (true) (decide_eq_true h0) ?_
    conv => whnf
    refine pO_b0 rfl ?_
    conv => whnf
    exact EndO.go ⟨_, rfl, NumV.zero _ _⟩
  · rw [if_neg h0, if_neg h0]
    refine pO_leq rfl rfl (false) (decide_eq_false h0) ?_
    conv => whnf
    refine CallsO.go (over_n hx' hy' (by omega)) ?_
    rintro _ h2 hle2 hd
    obtain ⟨r_hd, rfl⟩ := hd.raw
    conv => whnf
    refine CallsO.go (half_n) ?_
    rintro _ h3 hle3 hh
    obtain ⟨r_hh, rfl⟩ := hh.raw
    conv => whnf
    refine CallsO.go (add_n (hd.mono hle3) hh (by omega)) ?_
    rintro _ h4 hle4 ha
    obtain ⟨r_ha, rfl⟩ := ha.raw
    conv => whnf
    refine CallsO.go (floor_n ha (by omega)) ?_
    rintro _ h5 hle5 hf
    obtain ⟨r_hf, rfl⟩ := hf.raw
    conv => whnf
    refine CallsO.go (mul_n hf (hy'.mono (((hle2.trans hle3).trans hle4).trans hle5)) (by omega)) ?_
    rintro _ h6 hle6 hm
    obtain ⟨r_hm, rfl⟩ := hm.raw
    conv => whnf
    exact EndO.go ⟨_, rfl, hm.up (by omega)⟩
theorem Sm.pow {k : Nat} {q : Rat} (h : Sm k q) (n : Nat) : Sm (k * n) (q ^ n) := by
  rw [Rat.pow_def]
  refine ⟨?_, ?_⟩
  · dsimp only; rw [Int.natAbs_pow, Nat.pow_mul]; exact Nat.pow_le_pow_left h.1 n
  · dsimp only; rw [Nat.pow_mul]; exact Nat.pow_le_pow_left h.2 n
theorem pow_err {x : Value} {k : Nat} {p : Rat} {z : Int} (hx : NumV h x k p) (hz : z < 0 ∨ 64 < z) : CallGo Tryz.prog 24 #[x, .int .i64 z] h NoX fun v h' => ∃ y, v = .tuple #[y, .int .i64 3] ∧ NumV h' y 1 0 := by
  obtain ⟨r, rfl⟩ := hx.raw
  refine v_fn tb k24 [r.val, .int .i64 z] rfl ?_
  conv => whnf
  rcases Int.lt_or_le z 0 with h0 | h0
  · refine pO_lss rfl rfl (true) (decide_eq_true h0) ?_
    conv => whnf
    refine pO_b0 rfl ?_
    conv => whnf
    exact EndO.go ⟨_, rfl, NumV.zero _ _⟩
  · refine pO_lss rfl rfl (false) (decide_eq_false (by omega)) ?_
    conv => whnf
    refine pO_gtr rfl rfl (true) (decide_eq_true (by omega)) ?_
    conv => whnf
    refine pO_b0 rfl ?_
    conv => whnf
    exact EndO.go ⟨_, rfl, NumV.zero _ _⟩
theorem pow_addQ (p : Rat) (a b : Nat) : p ^ (a + b) = p ^ a * p ^ b := by
  induction b with
  | zero => rw [Rat.pow_zero, Rat.mul_one]; rfl
  | succ b ih => rw [← Nat.add_assoc, Rat.pow_succ, ih, Rat.pow_succ, Rat.mul_assoc]
theorem pow_n {x : Value} {k : Nat} {p : Rat} {n : Nat} (hx : NumV h x k p) (hk : k < 1048576) (hn : n ≤ 64) : CallGo Tryz.prog 24 #[x, .int .i64 n] h NoX fun v h' => ∃ y, v = .tuple #[y, .int .i64 0] ∧ NumV h' y (k * n + 64) (p ^ n) := by
  have hx' := hx
  obtain ⟨r, rfl⟩ := hx.raw
  refine v_fn tb k24 [r.val, .int .i64 n] rfl ?_
  conv => whnf
  refine pO_lss rfl rfl (false) (decide_eq_false (by omega)) ?_
  conv => whnf
  refine pO_gtr rfl rfl (false) (decide_eq_false (by omega)) ?_
  conv => whnf
  refine CallsO.go (int_n (z := 1) (by decide) (by decide)) ?_
  rintro _ h1 hle1 h1v
  obtain ⟨r_h1v, rfl⟩ := h1v.raw
  conv => whnf
  refine LoopV.by (α := Nat × Nat × Nat × RN × RN) (fun y => [(1, .v (.int .i64 (y.1 : Nat))), (2, .p 2 0), (4, .p 4 0), (6, .p 6 0)]) (fun y => [(2, y.2.2.2.1.cs), (4, [.bool false, .slice none 0 0, .slice none 0 0]), (6, y.2.2.2.2.cs)])
    (fun y h' => NumV h' y.2.2.2.1.val (k * y.2.1) (p ^ y.2.1) ∧ NumV h' y.2.2.2.2.val (k * y.2.2.1 + 64) (p ^ y.2.2.1) ∧ y.2.2.1 + y.2.1 * y.1 = n ∧ 0 < y.2.1 ∧ y.2.1 ≤ 128) (fun y => y.1) (n, 1, 0, r, r_h1v)
    ⟨rfl, rfl, rfl, rfl, rfl, rfl, rfl, rfl, trivial⟩ ⟨rfl, rfl, rfl, trivial⟩ ⟨?_, ?_, by dsimp only; omega, Nat.one_pos, by dsimp only; omega⟩ ?_
  · dsimp only
    rw [Rat.pow_one, Nat.mul_one]; exact hx'.mono hle1
  · dsimp only
    rw [Rat.pow_zero, Nat.mul_zero, Nat.zero_add]; exact h1v
  rintro ⟨j, e, d, rx, rp⟩ h2 ⟨hb, hp, hsum, he, he2⟩
  dsimp only at hb hp hsum he he2
  dsimp only
  conv => whnf
  rcases Nat.eq_zero_or_pos j with rfl | hj0
  · refine pO_gtr rfl rfl (false) (rfl) ?_
    conv => whnf
    rw [Nat.mul_zero, Nat.add_zero] at hsum
    subst hsum
    exact EndO.go ⟨_, rfl, hp⟩
  · have he3 : e ≤ 64 := by
      have := Nat.le_mul_of_pos_right e hj0
      omega
    have hjn := Nat.le_mul_of_pos_left j he
    have hke : k * e ≤ k * 64 := Nat.mul_le_mul_left _ he3
    have hkd : k * d ≤ k * 64 := Nat.mul_le_mul_left _ (by omega)
    have hk2 : k * (2 * e) = k * e + k * e := by rw [Nat.two_mul, Nat.mul_add]
    have hj2 : ∀ c, j % 2 = c → e * j = 2 * e * (j / 2) + e * c := fun c hc => by
      have h1 := Nat.div_add_mod j 2
      rw [hc] at h1
      conv => lhs; rw [← h1, Nat.mul_add, ← Nat.mul_assoc, Nat.mul_comm e 2]
    have hpe : p ^ (2 * e) = p ^ e * p ^ e := by rw [Nat.two_mul, pow_addQ]
    refine pO_gtr rfl rfl (true) (decide_eq_true (by omega)) ?_
    conv => whnf
    refine pO_and rfl rfl (((j % 2 : Nat) : Int)) (and1_i64 j (by omega)) ?_
    conv => whnf
    rcases Nat.mod_two_eq_zero_or_one j with hm | hm
    · rw [hm]
      refine pO_eql rfl rfl (false) (rfl) ?_
      conv => whnf
      refine CallsO.go (mul_n hb hb (by omega)) ?_
      rintro _ h3 hle3 hff
      obtain ⟨r_hff, rfl⟩ := hff.raw
      conv => whnf
      refine pO_shr rfl rfl (by decide) ((j / 2 : Nat) : Int) (shr1_i64 j) ?_
      conv => whnf
      have := hj2 0 hm
      refine RoundO.go ⟨(j / 2, 2 * e, d, r_hff, rp), ⟨rfl, rfl, rfl, rfl, rfl, rfl, rfl, rfl, trivial⟩, ⟨rfl, rfl, rfl, trivial⟩, ⟨?_, hp.mono hle3, by dsimp only; omega, by dsimp only; omega, by dsimp only; omega⟩, by dsimp only; omega⟩
      dsimp only
      rw [hpe, hk2]; exact hff
    · rw [hm]
      refine pO_eql rfl rfl (true) (rfl) ?_
      conv => whnf
      refine CallsO.go (mul_n hp hb (by omega)) ?_
      rintro _ h3 hle3 hpf
      obtain ⟨r_hpf, rfl⟩ := hpf.raw
      conv => whnf
      refine CallsO.go (mul_n (hb.mono hle3) (hb.mono hle3) (by omega)) ?_
      rintro _ h4 hle4 hff
      obtain ⟨r_hff, rfl⟩ := hff.raw
      conv => whnf
      refine pO_shr rfl rfl (by decide) ((j / 2 : Nat) : Int) (shr1_i64 j) ?_
      conv => whnf
      have := hj2 1 hm
      refine RoundO.go ⟨(j / 2, 2 * e, d + e, r_hff, r_hpf), ⟨rfl, rfl, rfl, rfl, rfl, rfl, rfl, rfl, trivial⟩, ⟨rfl, rfl, rfl, trivial⟩, ⟨?_, ?_, by dsimp only; omega, by dsimp only; omega, by dsimp only; omega⟩, by dsimp only; omega⟩
      · dsimp only
        rw [hpe, hk2]; exact hff
      · dsimp only
        rw [pow_addQ, Nat.mul_add]
        exact (hpf.mono hle4).up (by omega)
end
end Go.Proofs.YtplaobhghfndgaaGreatDoor
