import Derived.Test.YtplaobhghfndgaaGreatDoorBig
import Derived.Test.YtplaobhghfndgaaGreatDoorNum2
import Derived.Test.YtplaobhghfndgaaGreatDoorBoxb
/-! The document's numbers: how they lie in memory, and the operations. -/
set_option linter.unusedVariables false
set_option linter.unusedSimpArgs false
set_option maxRecDepth 100000
namespace Go.Proofs.YtplaobhghfndgaaGreatDoor
open Go Go.Proofs.Vc
attribute [local irreducible] CallsO EffO PureO LoadO StoreO EndO LoopV RoundO
/-- A number of the document's in memory, and how great it is. -/
def RfV (h : Heap) (v : Value) (k : Nat) (q : Rat) : Prop :=
  Sm k q ∧ ∃ t u, v = .agg #[.bool (decide (q.num < 0)), t, u] ∧ Bg h t q.num.natAbs ∧ Bg h u q.den
theorem RfV.mono {h h' : Heap} (hle : Le h h') {v : Value} {k : Nat} {q : Rat} (H : RfV h v k q) : RfV h' v k q := by
  obtain ⟨h1, t, u, h2, h3, h4⟩ := H
  exact ⟨h1, t, u, h2, h3.mono hle, h4.mono hle⟩
theorem RfV.up {h : Heap} {v : Value} {k l : Nat} {q : Rat} (H : RfV h v k q) (hkl : k ≤ l) : RfV h v l q := ⟨H.1.up hkl, H.2⟩
theorem RfV.open {h : Heap} {v : Value} {k : Nat} {q : Rat} (H : RfV h v k q) : ∃ m A ca C cb, decide (q.num < 0) = m ∧ v = .agg #[.bool m, .slice A (bz q.num.natAbs) ca, .slice C (bz q.den) cb] ∧
    Bg h (.slice A (bz q.num.natAbs) ca) q.num.natAbs ∧ Bg h (.slice C (bz q.den) cb) q.den ∧ bz q.num.natAbs ≤ k + 1 ∧ bz q.den ≤ k + 1 := by
  obtain ⟨h1, t, u, rfl, h3, h4⟩ := H
  obtain ⟨A, ca, rfl, _⟩ := h3.open
  obtain ⟨C, cb, rfl, _⟩ := h4.open
  exact ⟨_, A, ca, C, cb, rfl, rfl, h3, h4, bz_two h1.1, bz_two h1.2⟩
theorem RfV.raw {h : Heap} {v : Value} {k : Nat} {q : Rat} (H : RfV h v k q) : ∃ r : RN, v = r.val := by
  obtain ⟨m, A, ca, C, cb, _, h1, _⟩ := H.open
  exact ⟨⟨m, A, _, ca, C, _, cb⟩, h1⟩
theorem rf_of {h : Heap} {v t u : Value} {k : Nat} {q : Rat} {m : Bool} (hk : Sm k q) (hv : v = .agg #[.bool m, t, u]) (hm : decide (q.num < 0) = m) (ht : Bg h t q.num.natAbs) (hu : Bg h u q.den) : RfV h v k q := by
  subst hm; exact ⟨hk, t, u, hv, ht, hu⟩
theorem bl012 (m : Bool) (A : Option Addr) (n c : Nat) (B : Option Addr) (n' c' : Nat) (w : World) : (Instr.build 33 #[(0, .bool m), (1, .slice A n c), (2, .slice B n' c')]).run Tryz.prog w = .ok (.agg #[.bool m, .slice A n c, .slice B n' c']) w := by kernel_rfl
section
variable {ρ : Operand → Value} {dst : Option Nat} {ty : Nat} {pos : String} {af : Array Edge} {gu : Option (Nat × Bool)} {K : Value → Prop} {m : Bool} {A B : Option Addr} {n c n' c' : Nat} {ps : Array (Nat × Operand)}
theorem pO_r (hp : (ps.toList.map fun p => (p.1, ρ p.2)) = [(0, .bool m), (1, .slice A n c), (2, .slice B n' c')]) (hK : K (.agg #[.bool m, .slice A n c, .slice B n' c'])) : PureO Tryz.prog (execOp ρ ⟨dst, .build 33 ps, ty, pos, af, gu⟩) K := by
  refine pO_build _ (fun w => ?_) hK
  rw [← bl012 m A n c B n' c' w]
  have : (ps.map fun p => (p.1, ρ p.2)) = [(0, .bool m), (1, .slice A n c), (2, .slice B n' c')].toArray := by rw [← hp]; simp [← List.map_toArray]
  rw [this]
end
section
variable {h : Heap}
theorem make_c {m : Bool} {x y : Value} {a b k : Nat} (hx : Bg h x a) (hy : Bg h y b) (hb : b ≠ 0) (hs : bz a + bz b < 50000000) (hk : Sm k (rat m a b)) : CallGo Tryz.prog 116 #[.bool m, x, y] h NoX fun v h' => RfV h' v k (rat m a b) := by
  have hx' := hx
  have hy' := hy
  obtain ⟨A, ca, rfl, hca, hra⟩ := hx.open
  obtain ⟨C, cb, rfl, hcb, hrb⟩ := hy.open
  have e1 := rat_abs (m := m) (a := a) hb
  have e2 := rat_den (m := m) (a := a) hb
  have e3 := rat_minus (m := m) (a := a) hb
  have hg0 : 0 < Nat.gcd a b := Nat.gcd_pos_of_pos_right _ (Nat.pos_of_ne_zero hb)
  have hsg : bz (Nat.gcd a b) ≤ bz b := bz_mono (Nat.gcd_le_right _ (Nat.pos_of_ne_zero hb))
  refine v_fn tb k116 [.bool m, .slice A (bz a) ca, .slice C (bz b) cb] rfl ?_
  conv => whnf
  refine CallsO.go (common_c hx' hy' (by omega)) ?_
  rintro g h1 hle1 hg
  conv => whnf
  refine eO_lits [.int .i64 1] u31 s3 z3 (by decide) rfl rfl (fun v hv => by rw [List.mem_singleton.1 hv]; rfl) fun g2 hg2 => ?_
  conv => whnf
  have h1g := Bg.one (h := h1.upd g2 (.cells (List.flatMap (fun v => v.cells.toList) [Value.int .i64 1]).toArray 3 (0, 0))) (n := 1) (Heap.upd_same _ _ _) (by decide) (by decide) rfl
  refine CallsO.go (compare_c (hg.mono (Le.upd hg2)) h1g (by rw [show bz 1 = 1 from by unfold bz; rw [dig_one (by decide) (by decide)]; rfl]; omega)) ?_
  rintro v2 h2 hle2 ⟨rfl, rfl⟩
  conv => whnf
  have hle0 := hle1.trans (Le.upd (o := .cells (List.flatMap (fun v => v.cells.toList) [Value.int .i64 1]).toArray 3 (0, 0)) hg2)
  by_cases hg1 : Nat.gcd a b = 1
  · rw [hg1, Nat.div_one] at e1 e2 e3
    rw [cmpN_eq hg1]
    refine pO_neq rfl rfl (false) (rfl) ?_
    conv => whnf
    cases m
    · conv => whnf
      refine pO_r rfl ?_
      conv => whnf
      exact EndO.go (rf_of hk rfl (e3.trans rfl) (by rw [e1]; exact (hx'.mono hle0)) (by rw [e2]; exact (hy'.mono hle0)))
    · conv => whnf
      rcases Nat.eq_zero_or_pos a with h0 | h0
      · refine pO_gtr rfl rfl (false) (decide_eq_false (by rw [bz_eq_zero.2 h0]; decide)) ?_
        conv => whnf
        refine pO_r rfl ?_
        conv => whnf
        exact EndO.go (rf_of hk rfl (e3.trans (by rw [h0]; rfl : _ = false)) (by rw [e1]; exact (hx'.mono hle0)) (by rw [e2]; exact (hy'.mono hle0)))
      · have h9 := bz_pos h0
        refine pO_gtr rfl rfl (true) (decide_eq_true (by omega)) ?_
        conv => whnf
        refine pO_r rfl ?_
        conv => whnf
        exact EndO.go (rf_of hk rfl (e3.trans (by rw [Bool.true_and]; exact decide_eq_true h0 : _ = true)) (by rw [e1]; exact (hx'.mono hle0)) (by rw [e2]; exact (hy'.mono hle0)))
  · rw [cmpN_gt (by omega)]
    refine pO_neq rfl rfl (true) (rfl) ?_
    conv => whnf
    refine CallsO.go (quot_c (hx'.mono hle0) (hg.mono (Le.upd hg2)) hg0 (by omega)) ?_
    rintro v3 h3 hle3 ⟨q1, r1, rfl, hq1, hr1⟩
    conv => whnf
    refine CallsO.go (quot_c (hy'.mono (hle0.trans hle3)) ((hg.mono (Le.upd hg2)).mono hle3) hg0 (by omega)) ?_
    rintro v4 h4 hle4 ⟨q2, r2, rfl, hq2, hr2⟩
    conv => whnf
    obtain ⟨D, cd, rfl, hcd, hrd⟩ := hq1.open
    obtain ⟨E, ce, rfl, hce, hre⟩ := hq2.open
    cases m
    · conv => whnf
      refine pO_r rfl ?_
      conv => whnf
      exact EndO.go (rf_of hk rfl (e3.trans rfl) (by rw [e1]; exact (hq1.mono hle4)) (by rw [e2]; exact hq2))
    · conv => whnf
      rcases Nat.eq_zero_or_pos (a / Nat.gcd a b) with h0 | h0
      · refine pO_gtr rfl rfl (false) (decide_eq_false (by rw [bz_eq_zero.2 h0]; decide)) ?_
        conv => whnf
        refine pO_r rfl ?_
        conv => whnf
        exact EndO.go (rf_of hk rfl (e3.trans (by rw [h0]; rfl : _ = false)) (by rw [e1]; exact (hq1.mono hle4)) (by rw [e2]; exact hq2))
      · have h9 := bz_pos h0
        refine pO_gtr rfl rfl (true) (decide_eq_true (by omega)) ?_
        conv => whnf
        refine pO_r rfl ?_
        conv => whnf
        exact EndO.go (rf_of hk rfl (e3.trans (by rw [Bool.true_and]; exact decide_eq_true h0 : _ = true)) (by rw [e1]; exact (hq1.mono hle4)) (by rw [e2]; exact hq2))
theorem bz_mul (a b : Nat) : bz (a * b) ≤ bz a + bz b := by
  apply bz_le
  rw [Nat.pow_add]
  exact Nat.mul_lt_mul'' (lt_bz a) (lt_bz b)
theorem rneg_n {x : Value} {k : Nat} {p : Rat} (hx : RfV h x k p) : CallGo Tryz.prog 42 #[x] h NoX fun v h' => RfV h' v k (-p) := by
  have hx' := hx
  obtain ⟨mp, A, ca, C, cb, hmp, rfl, hA, hB, s1, s2⟩ := hx.open
  have hsm := hx'.1.neg
  have hmn := neg_minus p
  rw [hmp] at hmn
  have e1 : (-p).num.natAbs = p.num.natAbs := by rw [Rat.neg_num, Int.natAbs_neg]
  have e2 : (-p).den = p.den := Rat.neg_den _
  have h9 := bz_eq_zero (n := p.num.natAbs)
  refine v_fn tb k42 [.agg #[.bool mp, .slice A (bz p.num.natAbs) ca, .slice C (bz p.den) cb]] rfl ?_
  conv => whnf
  cases mp
  · conv => whnf
    rcases Nat.eq_zero_or_pos p.num.natAbs with h0 | h0
    · refine pO_gtr rfl rfl (false) (decide_eq_false (by omega)) ?_
      conv => whnf
      refine pO_r rfl ?_
      conv => whnf
      exact EndO.go (rf_of hsm rfl (hmn.trans (by rw [h0]; rfl)) (by rw [e1]; exact hA) (by rw [e2]; exact hB))
    · refine pO_gtr rfl rfl (true) (decide_eq_true (by omega)) ?_
      conv => whnf
      refine pO_r rfl ?_
      conv => whnf
      exact EndO.go (rf_of hsm rfl (hmn.trans (by rw [decide_eq_true h0]; rfl)) (by rw [e1]; exact hA) (by rw [e2]; exact hB))
  · conv => whnf
    refine pO_r rfl ?_
    conv => whnf
    exact EndO.go (rf_of hsm rfl (hmn.trans rfl) (by rw [e1]; exact hA) (by rw [e2]; exact hB))
theorem rabs_n {x : Value} {k : Nat} {p : Rat} (hx : RfV h x k p) : CallGo Tryz.prog 44 #[x] h NoX fun v h' => RfV h' v k (absQ p) := by
  have hx' := hx
  obtain ⟨mp, A, ca, C, cb, hmp, rfl, hA, hB, s1, s2⟩ := hx.open
  obtain ⟨e1, e2⟩ := absQ_num p
  refine v_fn tb k44 [.agg #[.bool mp, .slice A (bz p.num.natAbs) ca, .slice C (bz p.den) cb]] rfl ?_
  conv => whnf
  refine pO_r rfl ?_
  conv => whnf
  refine EndO.go (rf_of hx'.1.abs rfl ?_ ?_ ?_)
  · rw [e1]; exact decide_eq_false (by omega)
  · rw [e1]; exact hA
  · rw [e2]; exact hB
theorem rmul_n {x y : Value} {k l : Nat} {p q : Rat} (hx : RfV h x k p) (hy : RfV h y l q) (hkl : k + l < 20000000) : CallGo Tryz.prog 33 #[x, y] h NoX fun v h' => RfV h' v (k + l) (p * q) := by
  have hx' := hx
  obtain ⟨mp, A, ca, C, cb, hmp, rfl, hA, hB, s1, s2⟩ := hx.open
  have hy' := hy
  obtain ⟨mq, D, cc, E, cd, hmq, rfl, hC, hD, s4, s5⟩ := hy.open
  obtain ⟨m, hm⟩ : ∃ m, (!(mp == mq)) = m := ⟨_, rfl⟩
  have hsm := hx'.1.mul hy'.1
  have hpq := num_mul p q
  have hm2 : (decide (p.num < 0) != decide (q.num < 0)) = m := by rw [hmp, hmq]; exact hm
  rw [hm2] at hpq
  have hst := bz_mul p.num.natAbs q.num.natAbs
  have hsd := bz_mul p.den q.den
  refine v_fn tb k33 [.agg #[.bool mp, .slice A (bz p.num.natAbs) ca, .slice C (bz p.den) cb], .agg #[.bool mq, .slice D (bz q.num.natAbs) cc, .slice E (bz q.den) cd]] rfl ?_
  conv => whnf
  refine pO_bneq u4 rfl rfl m hm ?_
  conv => whnf
  refine CallsO.go (times_c hA hC (by omega)) ?_
  rintro t1 h1 hle1 ht1
  conv => whnf
  refine CallsO.go (times_c (hB.mono hle1) (hD.mono hle1) (by omega)) ?_
  rintro t2 h2 hle2 ht2
  conv => whnf
  refine CallsO.go (make_c (m := m) (k := k + l) (ht1.mono hle2) ht2 (mul_ne (den_ne p) (den_ne q)) (by omega) (by rw [← hpq]; exact hsm)) ?_
  rintro h5 hh5 hle5 hu5
  conv => whnf
  obtain ⟨r5, rfl⟩ := hu5.raw
  exact EndO.go (by rw [hpq]; exact hu5)
theorem rdiv_n {x y : Value} {k l : Nat} {p q : Rat} (hx : RfV h x k p) (hy : RfV h y l q) (hq0 : q ≠ 0) (hkl : k + l < 20000000) : CallGo Tryz.prog 40 #[x, y] h NoX fun v h' => RfV h' v (k + l) (p / q) := by
  have hx' := hx
  obtain ⟨mp, A, ca, C, cb, hmp, rfl, hA, hB, s1, s2⟩ := hx.open
  have hy' := hy
  obtain ⟨mq, D, cc, E, cd, hmq, rfl, hC, hD, s4, s5⟩ := hy.open
  obtain ⟨m, hm⟩ : ∃ m, (!(mp == mq)) = m := ⟨_, rfl⟩
  have h0 : q.num.natAbs ≠ 0 := fun e => hq0 (abs_zero e)
  have hsm := hx'.1.div hy'.1 h0
  have hpq := num_div p h0
  have hm2 : (decide (p.num < 0) != decide (q.num < 0)) = m := by rw [hmp, hmq]; exact hm
  rw [hm2] at hpq
  have hst := bz_mul p.num.natAbs q.den
  have hsd := bz_mul p.den q.num.natAbs
  refine v_fn tb k40 [.agg #[.bool mp, .slice A (bz p.num.natAbs) ca, .slice C (bz p.den) cb], .agg #[.bool mq, .slice D (bz q.num.natAbs) cc, .slice E (bz q.den) cd]] rfl ?_
  conv => whnf
  refine pO_bneq u4 rfl rfl m hm ?_
  conv => whnf
  refine CallsO.go (times_c hA hD (by omega)) ?_
  rintro t1 h1 hle1 ht1
  conv => whnf
  refine CallsO.go (times_c (hB.mono hle1) (hC.mono hle1) (by omega)) ?_
  rintro t2 h2 hle2 ht2
  conv => whnf
  refine CallsO.go (make_c (m := m) (k := k + l) (ht1.mono hle2) ht2 (mul_ne (den_ne p) h0) (by omega) (by rw [← hpq]; exact hsm)) ?_
  rintro h5 hh5 hle5 hu5
  conv => whnf
  obtain ⟨r5, rfl⟩ := hu5.raw
  exact EndO.go (by rw [hpq]; exact hu5)
theorem radd_n {x y : Value} {k l : Nat} {p q : Rat} (hx : RfV h x k p) (hy : RfV h y l q) (hkl : k + l < 20000000) : CallGo Tryz.prog 30 #[x, y] h NoX fun v h' => RfV h' v (k + l + 1) (p + q) := by
  have hx' := hx
  obtain ⟨mp, A, ca, C, cb, hmp, rfl, hA, hB, s1, s2⟩ := hx.open
  have hy' := hy
  obtain ⟨mq, D, cc, E, cd, hmq, rfl, hC, hD, s4, s5⟩ := hy.open
  obtain ⟨c, hc⟩ : ∃ c, (mp == mq) = c := ⟨_, rfl⟩
  have hsm := hx'.1.add hy'.1
  have hsa := bz_mul p.num.natAbs q.den
  have hsb := bz_mul q.num.natAbs p.den
  have hsd := bz_mul p.den q.den
  refine v_fn tb k30 [.agg #[.bool mp, .slice A (bz p.num.natAbs) ca, .slice C (bz p.den) cb], .agg #[.bool mq, .slice D (bz q.num.natAbs) cc, .slice E (bz q.den) cd]] rfl ?_
  conv => whnf
  refine CallsO.go (times_c hA hD (by omega)) ?_
  rintro ta h1 hle1 hta
  conv => whnf
  refine CallsO.go (times_c (hC.mono hle1) (hB.mono hle1) (by omega)) ?_
  rintro tb h2 hle2 htb
  conv => whnf
  refine CallsO.go (times_c ((hB.mono hle1).mono hle2) ((hD.mono hle1).mono hle2) (by omega)) ?_
  rintro td h3 hle3 htd
  conv => whnf
  replace hta := (hta.mono hle2).mono hle3
  replace htb := htb.mono hle3
  refine pO_beql u4 rfl rfl c hc ?_
  conv => whnf
  cases c
  · conv => whnf
    have hne : decide (p.num < 0) ≠ decide (q.num < 0) := by rw [hmp, hmq]; exact fun e => by rw [e] at hc; simp at hc
    refine CallsO.go (compare_c hta htb (by omega)) ?_
    rintro v5 h5 hle5 ⟨rfl, rfl⟩
    conv => whnf
    rcases Nat.lt_or_ge (p.num.natAbs * q.den) (q.num.natAbs * p.den) with hlt | hge
    · rw [cmpN_lt hlt]
      refine pO_geq rfl rfl (false) (rfl) ?_
      conv => whnf
      refine CallsO.go (minus_c htb hta (Nat.le_of_lt hlt) (by omega)) ?_
      rintro sv h6 hle6 hs
      conv => whnf
      have hpq := num_add_lt hne (Nat.le_of_lt hlt)
      have hss : bz (q.num.natAbs * p.den - p.num.natAbs * q.den) ≤ k + l + 2 := Nat.le_trans (bz_mono (Nat.sub_le _ _)) (by omega)
      rw [hmq] at hpq
      refine CallsO.go (make_c (m := mq) (k := k + l + 1) hs (htd.mono hle6) (mul_ne (den_ne p) (den_ne q)) (by omega) (by rw [← hpq]; exact hsm)) ?_
      rintro v7 hh7 hle7 hu7
      conv => whnf
      obtain ⟨r7, rfl⟩ := hu7.raw
      exact EndO.go (by rw [hpq]; exact hu7)
    · have hcg : (0 : Int) ≤ cmpN (p.num.natAbs * q.den) (q.num.natAbs * p.den) := by unfold cmpN; rw [if_neg (by omega)]; split <;> decide
      refine pO_geq rfl rfl (true) (decide_eq_true hcg) ?_
      conv => whnf
      refine CallsO.go (minus_c hta htb hge (by omega)) ?_
      rintro sv h6 hle6 hs
      conv => whnf
      have hpq := num_add_ge hne hge
      have hss : bz (p.num.natAbs * q.den - q.num.natAbs * p.den) ≤ k + l + 2 := Nat.le_trans (bz_mono (Nat.sub_le _ _)) (by omega)
      rw [hmp] at hpq
      refine CallsO.go (make_c (m := mp) (k := k + l + 1) hs (htd.mono hle6) (mul_ne (den_ne p) (den_ne q)) (by omega) (by rw [← hpq]; exact hsm)) ?_
      rintro v7 hh7 hle7 hu7
      conv => whnf
      obtain ⟨r7, rfl⟩ := hu7.raw
      exact EndO.go (by rw [hpq]; exact hu7)
  · conv => whnf
    have heq : decide (p.num < 0) = decide (q.num < 0) := by rw [hmp, hmq]; simpa using hc
    refine CallsO.go (plus_c hta htb (by omega)) ?_
    rintro sv h6 hle6 hs
    conv => whnf
    have hpq := num_add_same heq
    have hss : bz (p.num.natAbs * q.den + q.num.natAbs * p.den) ≤ k + l + 2 := bz_two (k := k + l + 1) (by
      have h7 := two_mul_le hx'.1.1 hy'.1.2
      have h8 := two_mul_le hy'.1.1 hx'.1.2
      rw [Nat.add_comm l k] at h8
      have h9 : 2 ^ (k + l + 1) = 2 ^ (k + l) * 2 := Nat.pow_succ _ _
      omega)
    rw [hmp] at hpq
    refine CallsO.go (make_c (m := mp) (k := k + l + 1) hs (htd.mono hle6) (mul_ne (den_ne p) (den_ne q)) (by omega) (by rw [← hpq]; exact hsm)) ?_
    rintro v7 hh7 hle7 hu7
    conv => whnf
    obtain ⟨r7, rfl⟩ := hu7.raw
    exact EndO.go (by rw [hpq]; exact hu7)
theorem rsub_n {x y : Value} {k l : Nat} {p q : Rat} (hx : RfV h x k p) (hy : RfV h y l q) (hkl : k + l < 20000000) : CallGo Tryz.prog 32 #[x, y] h NoX fun v h' => RfV h' v (k + l + 1) (p - q) := by
  have hx' := hx
  have hy' := hy
  obtain ⟨r, rfl⟩ := hx.raw
  obtain ⟨s, rfl⟩ := hy.raw
  refine v_fn tb k32 [r.val, s.val] rfl ?_
  conv => whnf
  refine CallsO.go (rneg_n hy') ?_
  rintro _ h1 hle1 hn
  obtain ⟨r_hn, rfl⟩ := hn.raw
  conv => whnf
  refine CallsO.go (radd_n (hx'.mono hle1) hn hkl) ?_
  rintro _ h2 hle2 hs
  obtain ⟨r_hs, rfl⟩ := hs.raw
  conv => whnf
  refine EndO.go ?_
  rw [Rat.sub_eq_add_neg]; exact hs
theorem rcmp_n {x y : Value} {k l : Nat} {p q : Rat} (hx : RfV h x k p) (hy : RfV h y l q) (hkl : k + l < 20000000) : CallGo Tryz.prog 35 #[x, y] h NoX fun v h' => v = .int .i64 (cmpQ p q) := by
  have hx' := hx
  obtain ⟨mp, A, ca, C, cb, hmp, rfl, hA, hB, s1, s2⟩ := hx.open
  have hy' := hy
  obtain ⟨mq, D, cc, E, cd, hmq, rfl, hC, hD, s4, s5⟩ := hy.open
  have hsa := bz_mul p.num.natAbs q.den
  have hsb := bz_mul q.num.natAbs p.den
  obtain ⟨c, hc⟩ : ∃ c, (!(mp == mq)) = c := ⟨_, rfl⟩
  refine v_fn tb k35 [.agg #[.bool mp, .slice A (bz p.num.natAbs) ca, .slice C (bz p.den) cb], .agg #[.bool mq, .slice D (bz q.num.natAbs) cc, .slice E (bz q.den) cd]] rfl ?_
  conv => whnf
  refine pO_bneq u4 rfl rfl c hc ?_
  conv => whnf
  cases c
  · conv => whnf
    have heq : mp = mq := by simpa using hc
    subst heq
    refine CallsO.go (times_c hA hD (by omega)) ?_
    rintro ta h1 hle1 hta
    conv => whnf
    refine CallsO.go (times_c (hC.mono hle1) (hB.mono hle1) (by omega)) ?_
    rintro tb h2 hle2 htb
    conv => whnf
    refine CallsO.go (compare_c (hta.mono hle2) htb (by omega)) ?_
    rintro v5 h5 hle5 ⟨rfl, rfl⟩
    conv => whnf
    have hcs := cmp_same (p := p) (q := q) (hmp.trans hmq.symm)
    have hcn : (if p.num.natAbs * q.den < q.num.natAbs * p.den then (-1 : Int) else if q.num.natAbs * p.den < p.num.natAbs * q.den then 1 else 0) = cmpN (p.num.natAbs * q.den) (q.num.natAbs * p.den) := rfl
    rw [hcn] at hcs
    have hb := cmpN_le (p.num.natAbs * q.den) (q.num.natAbs * p.den)
    cases mp
    · conv => whnf
      have hp : ¬ p.num < 0 := by simpa using hmp
      rw [if_neg hp, Int.one_mul] at hcs
      exact EndO.go (by rw [hcs]; rfl)
    · conv => whnf
      have hp : p.num < 0 := by simpa using hmp
      rw [if_pos hp] at hcs
      refine pO_neg rfl ((cmpQ p q)) (wr64 (by rw [hcs]; omega) (by omega) (by omega)) ?_
      conv => whnf
      exact EndO.go rfl
  · conv => whnf
    cases mp
    · have hq : mq = true := by cases mq <;> simp_all
      subst hq
      conv => whnf
      exact EndO.go (by rw [cmp_more (by simpa using hmp) (by simpa using hmq)]; rfl)
    · have hq : mq = false := by cases mq <;> simp_all
      subst hq
      conv => whnf
      exact EndO.go (by rw [cmp_less (by simpa using hmp) (by simpa using hmq)]; rfl)
end
theorem bg_one {h : Heap} {g : Nat} : Bg (h.upd g (.cells (List.flatMap (fun v => v.cells.toList) [Value.int .i64 1]).toArray 3 (0, 0))) (.slice (some ⟨g, 0, none⟩) 1 1) 1 :=
  Bg.one (n := 1) (Heap.upd_same _ _ _) (by decide) (by decide) rfl
theorem bz_1 : bz 1 = 1 := by unfold bz; rw [dig_one (by decide) (by decide)]; rfl
section
variable {h : Heap}
theorem rsign_n {x : Value} {k : Nat} {p : Rat} (hx : RfV h x k p) (hk : k < 20000000) : CallGo Tryz.prog 37 #[x] h NoX fun v h' => h' = h ∧ v = .int .i64 (sgnQ p) := by
  have hx' := hx
  obtain ⟨mp, A, ca, C, cb, hmp, rfl, hA, hB, s1, s2⟩ := hx.open
  have hs := sgnQ_num p
  have h9 := bz_eq_zero (n := p.num.natAbs)
  refine v_fn tb k37 [.agg #[.bool mp, .slice A (bz p.num.natAbs) ca, .slice C (bz p.den) cb]] rfl ?_
  conv => whnf
  cases mp
  · conv => whnf
    have hp : ¬ p.num < 0 := by simpa using hmp
    rw [if_neg hp] at hs
    rcases Nat.eq_zero_or_pos p.num.natAbs with h0 | h0
    · refine pO_min rfl rfl (0) (by rw [if_neg (by omega)]; omega) ?_
      conv => whnf
      exact EndO.go ⟨rfl, by rw [hs, if_neg (by omega)]; rfl⟩
    · refine pO_min rfl rfl (1) (by split <;> omega) ?_
      conv => whnf
      exact EndO.go ⟨rfl, by rw [hs, if_pos (by omega)]; rfl⟩
  · conv => whnf
    have hp : p.num < 0 := by simpa using hmp
    rw [if_pos hp] at hs
    exact EndO.go ⟨rfl, by rw [hs]; rfl⟩
theorem rzero_b {x : Value} {k : Nat} {p : Rat} (hx : RfV h x k p) (t : Bool) (ht : decide (p = 0) = t) : CallGo Tryz.prog 39 #[x] h NoX fun v h' => h' = h ∧ v = .bool t := by
  have hx' := hx
  obtain ⟨mp, A, ca, C, cb, hmp, rfl, hA, hB, s1, s2⟩ := hx.open
  have h9 := bz_eq_zero (n := p.num.natAbs)
  refine v_fn tb k39 [.agg #[.bool mp, .slice A (bz p.num.natAbs) ca, .slice C (bz p.den) cb]] rfl ?_
  conv => whnf
  refine pO_eql rfl rfl (t) (by rw [← ht, Bool.eq_iff_iff, beq_iff_eq, decide_eq_true_iff, ← Rat.num_eq_zero]; omega) ?_
  conv => whnf
  exact EndO.go ⟨rfl, rfl⟩
theorem rint_n {z : Int} (h0 : -9223372036854775808 ≤ z) (h1 : z < 9223372036854775808) : CallGo Tryz.prog 56 #[.int .i64 z] h NoX fun v h' => RfV h' v 64 (z : Rat) := by
  have e1 : ((z : Rat)).num.natAbs = z.natAbs := by rw [Rat.num_intCast]
  have e2 : ((z : Rat)).den = 1 := Rat.den_intCast _
  refine v_fn tb k56 [.int .i64 z] rfl ?_
  conv => whnf
  by_cases hz : z < 0
  · refine pO_lss rfl rfl (true) (decide_eq_true hz) ?_
    conv => whnf
    refine pO_add rfl rfl ((z + 1)) (wr64 rfl (by omega) (by omega)) ?_
    conv => whnf
    refine pO_neg rfl ((-(z + 1))) (wr64 rfl (by omega) (by omega)) ?_
    conv => whnf
    refine pO_conv (by rfl) u140 rfl (-(z + 1)) (wru64 rfl (by omega) (by omega)) ?_
    conv => whnf
    refine pO_add rfl rfl (((z.natAbs : Nat) : Int)) (wru64 (by omega) (by omega) (by omega)) ?_
    conv => whnf
    refine CallsO.go (of_c (n := z.natAbs) (by omega)) ?_
    rintro v1 h2 hle2 hv
    conv => whnf
    obtain ⟨E, ce, rfl, _⟩ := hv.open
    refine eO_lits [.int .i64 1] u31 s3 z3 (by decide) rfl rfl (fun v hv => by rw [List.mem_singleton.1 hv]; rfl) fun g2 hg2 => ?_
    conv => whnf
    refine pO_r rfl ?_
    conv => whnf
    exact EndO.go (rf_of (sm_int z h0 h1) rfl (by rw [Rat.num_intCast]; exact decide_eq_true hz) (by rw [e1]; exact hv.mono (Le.upd hg2)) (by rw [e2]; exact bg_one))
  · refine pO_lss rfl rfl (false) (decide_eq_false hz) ?_
    conv => whnf
    refine pO_conv (by rfl) u140 rfl ((z.natAbs : Nat) : Int) (wru64 (by omega) (by omega) (by omega)) ?_
    conv => whnf
    refine CallsO.go (of_c (n := z.natAbs) (by omega)) ?_
    rintro v1 h2 hle2 hv
    conv => whnf
    obtain ⟨E, ce, rfl, _⟩ := hv.open
    refine eO_lits [.int .i64 1] u31 s3 z3 (by decide) rfl rfl (fun v hv => by rw [List.mem_singleton.1 hv]; rfl) fun g2 hg2 => ?_
    conv => whnf
    refine pO_r rfl ?_
    conv => whnf
    exact EndO.go (rf_of (sm_int z h0 h1) rfl (by rw [Rat.num_intCast]; exact decide_eq_false hz) (by rw [e1]; exact hv.mono (Le.upd hg2)) (by rw [e2]; exact bg_one))
theorem rratio_n {a b : Int} (ha0 : -9223372036854775808 ≤ a) (ha1 : a < 9223372036854775808) (hb0 : -9223372036854775808 ≤ b) (hb1 : b < 9223372036854775808) (hb : b ≠ 0) : CallGo Tryz.prog 88 #[.int .i64 a, .int .i64 b] h NoX fun v h' => RfV h' v 128 ((a : Rat) / (b : Rat)) := by
  refine v_fn tb k88 [.int .i64 a, .int .i64 b] rfl ?_
  conv => whnf
  refine CallsO.go (rint_n ha0 ha1) ?_
  rintro _ h1 hle1 n1
  obtain ⟨r_n1, rfl⟩ := n1.raw
  conv => whnf
  refine CallsO.go (rint_n hb0 hb1) ?_
  rintro _ h2 hle2 n2
  obtain ⟨r_n2, rfl⟩ := n2.raw
  conv => whnf
  refine CallsO.go (rdiv_n (n1.mono hle2) n2 (by simpa using hb) (by decide)) ?_
  rintro _ h3 hle3 n3
  obtain ⟨r_n3, rfl⟩ := n3.raw
  conv => whnf
  exact EndO.go n3
theorem rpow_n {x : Value} {k : Nat} {p : Rat} {n : Nat} (hx : RfV h x k p) (hk : k < 100000) (hn : n ≤ 64) : CallGo Tryz.prog 49 #[x, .int .i64 n] h NoX fun v h' => RfV h' v (k * n + 64) (p ^ n) := by
  have hx' := hx
  obtain ⟨r, rfl⟩ := hx.raw
  refine v_fn tb k49 [r.val, .int .i64 n] rfl ?_
  conv => whnf
  refine CallsO.go (rint_n (z := 1) (by decide) (by decide)) ?_
  rintro _ h1 hle1 h1v
  obtain ⟨r_h1v, rfl⟩ := h1v.raw
  conv => whnf
  refine LoopV.by (α := Nat × RN) (fun y => [(1, .v (.int .i64 (n : Nat))), (2, .p 2 0), (4, .p 4 0), (5, .p 5 0), (6, .v (.int .i64 (y.1 : Nat)))]) (fun y => [(2, r.cs), (4, [.bool false, .slice none 0 0, .slice none 0 0]), (5, y.2.cs)])
    (fun y h' => RfV h' r.val k p ∧ RfV h' y.2.val (k * y.1 + 64) (p ^ y.1) ∧ y.1 ≤ n) (fun y => n - y.1) (0, r_h1v)
    ⟨rfl, rfl, rfl, rfl, rfl, rfl, rfl, rfl, rfl, rfl, trivial⟩ ⟨rfl, rfl, rfl, trivial⟩ ⟨hx'.mono hle1, ?_, Nat.zero_le _⟩ ?_
  · dsimp only
    rw [Rat.pow_zero, Nat.mul_zero, Nat.zero_add]; exact h1v
  rintro ⟨i, rp⟩ h2 ⟨hb, hp, hi⟩
  dsimp only at hb hp hi
  dsimp only
  conv => whnf
  rcases Nat.lt_or_ge i n with hin | hin
  · refine pO_lss rfl rfl (true) (decide_eq_true (by omega)) ?_
    conv => whnf
    have h9 : k * (i + 1) = k * i + k := Nat.mul_succ _ _
    have h8 : k * i ≤ k * 64 := Nat.mul_le_mul_left _ (by omega)
    refine CallsO.go (rmul_n hp hb (by omega)) ?_
    rintro _ h3 hle3 n3
    obtain ⟨r_n3, rfl⟩ := n3.raw
    conv => whnf
    refine pO_add rfl rfl (((i + 1 : Nat) : Int)) (wr64 (by omega) (by omega) (by omega)) ?_
    conv => whnf
    exact RoundO.go ⟨(i + 1, r_n3), ⟨rfl, rfl, rfl, rfl, rfl, rfl, rfl, rfl, rfl, rfl, trivial⟩, ⟨rfl, rfl, rfl, trivial⟩, ⟨hb.mono hle3, by dsimp only; rw [Rat.pow_succ]; exact n3.up (by omega), hin⟩, by dsimp only; omega⟩
  · refine pO_lss rfl rfl (false) (decide_eq_false (by omega)) ?_
    conv => whnf
    obtain rfl : i = n := by omega
    exact EndO.go hp
theorem rfloor_n {x : Value} {k : Nat} {p : Rat} (hx : RfV h x k p) (hk : k < 20000000) : CallGo Tryz.prog 46 #[x] h NoX fun v h' => RfV h' v (k + 1) (flo p) := by
  have hx' := hx
  obtain ⟨mp, A, ca, C, cb, hmp, rfl, hA, hB, s1, s2⟩ := hx.open
  have hsm := hx'.1.flo
  have hp0 := Nat.pos_of_ne_zero (den_ne p)
  have hsq : bz (p.num.natAbs / p.den) ≤ bz p.num.natAbs := bz_mono (Nat.div_le_self _ _)
  refine v_fn tb k46 [.agg #[.bool mp, .slice A (bz p.num.natAbs) ca, .slice C (bz p.den) cb]] rfl ?_
  conv => whnf
  refine CallsO.go (quot_c hA hB hp0 (by omega)) ?_
  rintro v2 h2 hle2 ⟨q1, r1, rfl, hq1, hr1⟩
  conv => whnf
  obtain ⟨D, cd, rfl, hcd, hrd⟩ := hq1.open
  obtain ⟨E, ce, rfl, hce, hre⟩ := hr1.open
  cases mp
  · conv => whnf
    have hp : ¬ p.num < 0 := by simpa using hmp
    obtain ⟨e1, e2⟩ := rat_int_num false (p.num.natAbs / p.den)
    rw [← flo_plus hp] at e1 e2
    refine eO_lits [.int .i64 1] u31 s3 z3 (by decide) rfl rfl (fun v hv => by rw [List.mem_singleton.1 hv]; rfl) fun g2 hg2 => ?_
    conv => whnf
    refine pO_r rfl ?_
    conv => whnf
    exact EndO.go (rf_of hsm rfl (by rw [e1, sg_neg]; rfl) (by rw [e1, sg_abs]; exact hq1.mono (Le.upd hg2)) (by rw [e2]; exact bg_one))
  · conv => whnf
    have hp : p.num < 0 := by simpa using hmp
    by_cases hd : p.den = 1
    · have hr0 : p.num.natAbs % p.den = 0 := by rw [hd, Nat.mod_one]
      rw [hr0]
      refine pO_gtr rfl rfl (false) (by rw [bz_eq_zero.2 rfl]; rfl) ?_
      conv => whnf
      have e0 : p.num.natAbs / p.den = p.num.natAbs := by rw [hd, Nat.div_one]
      have hb9 := bz_pos (a := p.num.natAbs / p.den) (by rw [e0]; omega)
      refine pO_gtr rfl rfl (true) (decide_eq_true (by omega)) ?_
      conv => whnf
      refine eO_lits [.int .i64 1] u31 s3 z3 (by decide) rfl rfl (fun v hv => by rw [List.mem_singleton.1 hv]; rfl) fun g2 hg2 => ?_
      conv => whnf
      refine pO_r rfl ?_
      conv => whnf
      exact EndO.go (rf_of hsm rfl (by rw [flo_whole hd]; exact decide_eq_true hp) (by rw [flo_whole hd]; rw [e0] at hq1 ⊢; exact hq1.mono (Le.upd hg2)) (by rw [flo_whole hd, hd]; exact bg_one))
    · have hr0 : 0 < p.num.natAbs % p.den := by
        apply Nat.pos_of_ne_zero
        intro h0
        have h3 : p.den ∣ p.num.natAbs := Nat.dvd_of_mod_eq_zero h0
        have h4 : Nat.gcd p.num.natAbs p.den = 1 := p.reduced
        have h5 : p.den ∣ Nat.gcd p.num.natAbs p.den := Nat.dvd_gcd h3 (Nat.dvd_refl _)
        rw [h4] at h5
        exact hd (Nat.dvd_one.1 h5)
      have hb9 := bz_pos hr0
      refine pO_gtr rfl rfl (true) (decide_eq_true (by omega)) ?_
      conv => whnf
      refine eO_lits [.int .i64 1] u31 s3 z3 (by decide) rfl rfl (fun v hv => by rw [List.mem_singleton.1 hv]; rfl) fun g2 hg2 => ?_
      conv => whnf
      refine CallsO.go (plus_c (hq1.mono (Le.upd hg2)) bg_one (by rw [bz_1]; omega)) ?_
      rintro v3 h3 hle3 hv3
      conv => whnf
      obtain ⟨F, cf, rfl, hcf, hrf⟩ := hv3.open
      have hb8 := bz_pos (a := p.num.natAbs / p.den + 1) (Nat.succ_pos _)
      obtain ⟨e1, e2⟩ := rat_int_num true (p.num.natAbs / p.den + 1)
      rw [← flo_minus hp hd] at e1 e2
      refine pO_gtr rfl rfl (true) (decide_eq_true (by omega)) ?_
      conv => whnf
      refine eO_lits [.int .i64 1] u31 s3 z3 (by decide) rfl rfl (fun v hv => by rw [List.mem_singleton.1 hv]; rfl) fun g2 hg2 => ?_
      conv => whnf
      refine pO_r rfl ?_
      conv => whnf
      exact EndO.go (rf_of hsm rfl (by rw [e1, sg_neg]; simp) (by rw [e1, sg_abs]; exact hv3.mono (Le.upd hg2)) (by rw [e2]; exact bg_one))
theorem rceil_n {x : Value} {k : Nat} {p : Rat} (hx : RfV h x k p) (hk : k < 20000000) : CallGo Tryz.prog 137 #[x] h NoX fun v h' => RfV h' v (k + 1) (-(flo (-p))) := by
  have hx' := hx
  obtain ⟨r, rfl⟩ := hx.raw
  refine v_fn tb k137 [r.val] rfl ?_
  conv => whnf
  refine CallsO.go (rneg_n hx') ?_
  rintro _ h1 hle1 n1
  obtain ⟨r_n1, rfl⟩ := n1.raw
  conv => whnf
  refine CallsO.go (rfloor_n n1 (by omega)) ?_
  rintro _ h2 hle2 n2
  obtain ⟨r_n2, rfl⟩ := n2.raw
  conv => whnf
  refine CallsO.go (rneg_n n2) ?_
  rintro _ h3 hle3 n3
  obtain ⟨r_n3, rfl⟩ := n3.raw
  conv => whnf
  exact EndO.go n3
theorem rround_n {x y : Value} {k l : Nat} {p q : Rat} (hx : RfV h x k p) (hy : RfV h y l q) (hq : q ≠ 0) (hkl : k + 2 * l < 10000000) : CallGo Tryz.prog 50 #[x, y] h NoX fun v h' => RfV h' v (k + 2 * l + 130) (roundQ p q) := by
  have hx' := hx
  have hy' := hy
  obtain ⟨r, rfl⟩ := hx.raw
  obtain ⟨s, rfl⟩ := hy.raw
  refine v_fn tb k50 [r.val, s.val] rfl ?_
  conv => whnf
  refine CallsO.go (rdiv_n hx' hy' hq (by omega)) ?_
  rintro _ h1 hle1 n1
  obtain ⟨r_n1, rfl⟩ := n1.raw
  replace hx' := hx'.mono hle1
  replace hy' := hy'.mono hle1
  conv => whnf
  refine CallsO.go (rratio_n (a := 1) (b := 2) (by decide) (by decide) (by decide) (by decide) (by decide)) ?_
  rintro _ h2 hle2 n2
  obtain ⟨r_n2, rfl⟩ := n2.raw
  replace hx' := hx'.mono hle2
  replace hy' := hy'.mono hle2
  replace n1 := n1.mono hle2
  conv => whnf
  refine CallsO.go (radd_n n1 n2 (by omega)) ?_
  rintro _ h3 hle3 n3
  obtain ⟨r_n3, rfl⟩ := n3.raw
  replace hx' := hx'.mono hle3
  replace hy' := hy'.mono hle3
  replace n1 := n1.mono hle3
  replace n2 := n2.mono hle3
  conv => whnf
  refine CallsO.go (rfloor_n n3 (by omega)) ?_
  rintro _ h4 hle4 n4
  obtain ⟨r_n4, rfl⟩ := n4.raw
  replace hx' := hx'.mono hle4
  replace hy' := hy'.mono hle4
  replace n1 := n1.mono hle4
  replace n2 := n2.mono hle4
  replace n3 := n3.mono hle4
  conv => whnf
  refine CallsO.go (rmul_n n4 hy' (by omega)) ?_
  rintro _ h5 hle5 n5
  obtain ⟨r_n5, rfl⟩ := n5.raw
  replace hx' := hx'.mono hle5
  replace hy' := hy'.mono hle5
  replace n1 := n1.mono hle5
  replace n2 := n2.mono hle5
  replace n3 := n3.mono hle5
  replace n4 := n4.mono hle5
  conv => whnf
  exact EndO.go (n5.up (by omega))
theorem rmin_n {x y : Value} {k : Nat} {p q : Rat} (hx : RfV h x k p) (hy : RfV h y k q) (hk : k < 10000000) : CallGo Tryz.prog 146 #[x, y] h NoX fun v h' => RfV h' v k (minQ p q) := by
  have hx' := hx
  have hy' := hy
  obtain ⟨r, rfl⟩ := hx.raw
  obtain ⟨s, rfl⟩ := hy.raw
  refine v_fn tb k146 [r.val, s.val] rfl ?_
  conv => whnf
  refine CallsO.go (rcmp_n hx' hy' (by omega)) ?_
  rintro v1 h1 hle1 rfl
  conv => whnf
  have hc := cmpQ_pos p q
  unfold minQ
  by_cases h0 : q < p
  · rw [if_pos h0]
    refine pO_leq rfl rfl (false) (decide_eq_false (by have := hc.2 h0; omega)) ?_
    conv => whnf
    exact EndO.go (hy'.mono hle1)
  · rw [if_neg h0]
    refine pO_leq rfl rfl (true) (decide_eq_true (by have : ¬ 0 < cmpQ p q := fun e => h0 (hc.1 e); omega)) ?_
    conv => whnf
    exact EndO.go (hx'.mono hle1)
theorem rmax_n {x y : Value} {k : Nat} {p q : Rat} (hx : RfV h x k p) (hy : RfV h y k q) (hk : k < 10000000) : CallGo Tryz.prog 147 #[x, y] h NoX fun v h' => RfV h' v k (maxQ p q) := by
  have hx' := hx
  have hy' := hy
  obtain ⟨r, rfl⟩ := hx.raw
  obtain ⟨s, rfl⟩ := hy.raw
  refine v_fn tb k147 [r.val, s.val] rfl ?_
  conv => whnf
  refine CallsO.go (rcmp_n hx' hy' (by omega)) ?_
  rintro v1 h1 hle1 rfl
  conv => whnf
  have hc := cmpQ_neg p q
  unfold maxQ
  by_cases h0 : p < q
  · rw [if_pos h0]
    refine pO_geq rfl rfl (false) (decide_eq_false (by have := hc.2 h0; omega)) ?_
    conv => whnf
    exact EndO.go (hy'.mono hle1)
  · rw [if_neg h0]
    refine pO_geq rfl rfl (true) (decide_eq_true (by have : ¬ cmpQ p q < 0 := fun e => h0 (hc.1 e); omega)) ?_
    conv => whnf
    exact EndO.go (hx'.mono hle1)
end
end Go.Proofs.YtplaobhghfndgaaGreatDoor
