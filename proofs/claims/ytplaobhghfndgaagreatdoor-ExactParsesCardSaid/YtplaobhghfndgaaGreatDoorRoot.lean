import Derived.Test.YtplaobhghfndgaaGreatDoorBoxb
import Derived.Test.YtplaobhghfndgaaGreatDoorNewt
/-! Roots. -/
set_option linter.unusedVariables false
set_option linter.unusedSimpArgs false
set_option maxRecDepth 100000
namespace Go.Proofs.YtplaobhghfndgaaGreatDoor
open Go Go.Proofs.Vc
attribute [local irreducible] CallsO EffO PureO LoadO StoreO EndO LoopV RoundO
theorem rat_nat (n : Nat) : rat false n 1 = (n : Rat) := by rw [rat_one]; rfl
theorem nat_num (n : Nat) : ((n : Nat) : Rat).num = n ∧ ((n : Nat) : Rat).den = 1 := ⟨Rat.num_natCast n, Rat.den_natCast n⟩
theorem NumV.size {h : Heap} {v : Value} {k l : Nat} {q : Rat} (H : NumV h v k q) (hs : Sm l q) : NumV h v l q := ⟨hs, H.2⟩
theorem sm_nat {n k : Nat} (h : n ≤ 2 ^ k) : Sm k (n : Rat) := ⟨by rw [(nat_num n).1]; simpa using h, by rw [(nat_num n).2]; exact Nat.one_le_two_pow⟩
theorem nat_cmp (a b : Nat) : (0 : Int) ≤ cmpQ (a : Rat) (b : Rat) ↔ b ≤ a := by
  have h1 := cmpQ_neg (a : Rat) (b : Rat)
  rw [Rat.natCast_lt_natCast] at h1
  omega
theorem pow_lim {h : Heap} {g m d : Nat} (hg : h g = some (.cells (ws ((List.replicate (m + 1) 0).set m d)).toArray 140 (0, 0))) (hd0 : d ≠ 0) (hd : d < W) : Lim h (.slice (some ⟨g, 0, none⟩) (m + 1) (m + 1)) (W ^ m * d) := by
  have hl : (List.replicate (m + 1) 0).set m d = List.replicate m 0 ++ [d] := by
    rw [List.replicate_succ']; exact set_mid _ _ _ _ _ (by simp)
  have hlow : Low W (List.replicate m 0 ++ [d]) := low_append.2 ⟨low_zeros (by decide) _, fun x hx => by rw [List.mem_singleton.1 hx]; exact hd⟩
  have hval : val W (List.replicate m 0 ++ [d]) = W ^ m * d := by rw [val_snoc, val_zeros, List.length_replicate, Nat.zero_add]
  have hdig : dig W (W ^ m * d) = List.replicate m 0 ++ [d] := by
    rw [← hval]; exact dig_val w2 hlow (fun x hx => by simp at hx; rw [← hx]; exact hd0)
  rw [hl] at hg
  unfold Lim
  rw [hdig]
  exact ⟨some ⟨g, 0, none⟩, m + 1, by rw [ws_length]; simp, by rw [ws_length]; simp, row_own hg⟩
theorem start_big (N : Nat) : N < (W ^ (sz N / 2) * (1 * 2 ^ (32 * (sz N % 2)))) * (W ^ (sz N / 2) * (1 * 2 ^ (32 * (sz N % 2)))) ∧ W ^ (sz N / 2) * (1 * 2 ^ (32 * (sz N % 2))) = 2 ^ (32 * sz N) := by
  have e1 : W ^ (sz N / 2) * (1 * 2 ^ (32 * (sz N % 2))) = 2 ^ (32 * sz N) := by
    rw [show W = 2 ^ 64 from rfl, ← Nat.pow_mul, Nat.one_mul, ← Nat.pow_add]; congr 1; omega
  refine ⟨?_, e1⟩
  rw [e1, ← Nat.pow_add]
  have := lt_sz N
  rwa [show W = 2 ^ 64 from rfl, ← Nat.pow_mul, show 64 * sz N = 32 * sz N + 32 * sz N from by omega] at this
section
variable {h : Heap}
theorem root_n {x : Value} {k : Nat} {p : Rat} (hx : NumV h x k p) (hp : ¬ p.num < 0) (hk : k < 1048576) : CallGo Tryz.prog 135 #[x] h NoX fun v h' => ∃ r : Nat, r * r ≤ p.num.natAbs / p.den ∧ p.num.natAbs / p.den < (r + 1) * (r + 1) ∧ NumV h' v (k + 1) (r : Rat) := by
  have hx' := hx
  obtain ⟨r0, rfl⟩ := hx.raw
  have hf := flo_plus hp
  have hsf := hx'.1.flo
  obtain ⟨N, hN⟩ : ∃ N, p.num.natAbs / p.den = N := ⟨_, rfl⟩
  rw [hN, rat_nat] at hf
  rw [hN]
  rw [hf] at hsf
  obtain ⟨en, ed⟩ := nat_num N
  have hNk : N ≤ 2 ^ (k + 1) := by have := hsf.1; rwa [en, Int.natAbs_natCast] at this
  have hsz := sz_two hNk
  refine v_fn tb k135 [r0.val] rfl ?_
  conv => whnf
  refine CallsO.go (floor_n hx' (by omega)) ?_
  rintro v h1 hle1 hfl
  rw [hf] at hfl
  have hfl' := hfl
  obtain ⟨mp, A, ca, B, cb, hmp, rfl, hA, hB, s1, s2, s3⟩ := hfl.open2
  rw [en, Int.natAbs_natCast] at hA hfl'
  rw [en, Int.natAbs_natCast]
  conv => whnf
  refine CallsO.go (sign_n hfl' (by omega)) ?_
  rintro v1 h2 hle2 ⟨rfl, rfl⟩
  conv => whnf
  rcases Nat.eq_zero_or_pos N with rfl | hN0
  · refine pO_eql rfl rfl (true) (by rw [sgnQ_zero.2 (by rw [(nat_num 0).1]; rfl)]; rfl) ?_
    conv => whnf
    exact EndO.go ⟨0, Nat.le_refl _, by decide, hfl'⟩
  · refine pO_eql rfl rfl (false) (beq_eq_false_iff_ne.2 (fun e => by have := sgnQ_zero.1 e; rw [en, Int.natAbs_natCast] at this; omega)) ?_
    conv => whnf
    refine pO_quo rfl rfl (by decide) (((sz N / 2 : Nat) : Int)) (wr64 (Int.ofNat_tdiv (sz N) 2).symm (by omega) (by omega)) ?_
    conv => whnf
    refine pO_add rfl rfl (((sz N / 2 + 1 : Nat) : Int)) (wr64 (by omega) (by omega) (by omega)) ?_
    conv => whnf
    refine eO_make (sz N / 2 + 1) u24 e140 rfl rfl rfl (by omega) fun g hg => ?_
    conv => whnf
    refine pO_b1 rfl ?_
    conv => whnf
    refine pO_quo rfl rfl (by decide) (((sz N / 2 : Nat) : Int)) (wr64 (Int.ofNat_tdiv (sz N) 2).symm (by omega) (by omega)) ?_
    conv => whnf
    refine pO_rem rfl rfl (by decide) (((sz N % 2 : Nat) : Int)) ((Int.ofNat_tmod (sz N) 2).symm) ?_
    conv => whnf
    refine pO_mul rfl rfl (((32 * (sz N % 2) : Nat) : Int)) (wr64 (by omega) (by omega) (by omega)) ?_
    conv => whnf
    have hsh : 1 * 2 ^ (32 * (sz N % 2)) < W := by
      have : 2 ^ (32 * (sz N % 2)) ≤ 2 ^ 32 := Nat.pow_le_pow_right (by decide) (by omega)
      simp only [W]; omega
    refine pO_shl rfl rfl (by omega) (((1 * 2 ^ (32 * (sz N % 2)) : Nat) : Int)) ((congrArg IntKind.u64.wrap (shl_nat 1 (32 * (sz N % 2)) (by omega))).trans ((wrm _).trans (by rw [Nat.mod_eq_of_lt hsh]))) ?_
    conv => whnf
    refine pO_own u24 s140 rfl rfl (by omega) ?_
    conv => whnf
    have hgh : h g = none := Le.absent hle1 hg
    refine stO_w (cur := List.replicate (sz N / 2 + 1) 0) (by rw [ws_replicate]; exact Heap.upd_same _ _ _) hgh (Nat.zero_add _) (by simp) ?_
    conv => whnf
    obtain ⟨hb1, hb2⟩ := start_big N
    obtain ⟨G, hG⟩ : ∃ G, W ^ (sz N / 2) * (1 * 2 ^ (32 * (sz N % 2))) = G := ⟨_, rfl⟩
    have hd0 : 1 * 2 ^ (32 * (sz N % 2)) ≠ 0 := by rw [Nat.one_mul]; exact Nat.ne_of_gt (Nat.two_pow_pos _)
    have hlim := fun (h' : Heap) (hh : h' g = _) => pow_lim (h := h') (g := g) (m := sz N / 2) (d := 1 * 2 ^ (32 * (sz N % 2))) hh hd0 hsh
    rw [hG] at hb1 hb2 hlim
    have hKG : ∀ x : Nat, x ≤ G → Sm (32 * (k + 2)) (x : Rat) := fun x hx => sm_nat (by
      have : 2 ^ (32 * sz N) ≤ 2 ^ (32 * (k + 2)) := Nat.pow_le_pow_right (by decide) (by omega)
      omega)
    have hG0 : 0 < G := by rw [hb2]; exact Nat.two_pow_pos _
    refine LoopV.by (α := Nat × RN) (fun y => [(1, .p 1 0), (2, .p 2 0), (3, .p 3 0)]) (fun y => [(1, [.bool mp, .slice A (sz N) ca, .slice B (sz (bot (N : Rat))) cb]), (2, [.bool false, .slice none 0 0, .slice none 0 0]), (3, y.2.cs)])
      (fun y h' => Le h2 h' ∧ 0 < y.1 ∧ y.1 ≤ G ∧ N < (y.1 + 1) * (y.1 + 1) ∧ NumV h' y.2.val (32 * (k + 2)) (y.1 : Rat)) (fun y => y.1) (G, ⟨false, some ⟨g, 0, none⟩, sz N / 2 + 1, sz N / 2 + 1, none, 0, 0⟩)
      ⟨rfl, rfl, rfl, rfl, rfl, rfl, trivial⟩ ⟨rfl, rfl, rfl, trivial⟩ ⟨(Le.upd hg).upd_out hg, hG0, Nat.le_refl _, ?_, ?_⟩ ?_
    · dsimp only
      have h9 : (G + 1) * (G + 1) = G * G + (2 * G + 1) := by grind
      omega
    · dsimp only
      obtain ⟨gn, gd⟩ := nat_num G
      refine num_of (hKG G (Nat.le_refl _)) rfl ?_ ?_ ?_
      · rw [gn]; exact decide_eq_false (by omega)
      · rw [gn, Int.natAbs_natCast]; exact hlim _ (Heap.upd_same _ _ _)
      · unfold bot; rw [gd, if_pos rfl]; exact Lim.nil _ _ _
    rintro ⟨G', r⟩ h3 ⟨hle3, hg0, hgG, hgN, hgv⟩
    dsimp only at hg0 hgG hgN hgv
    dsimp only
    conv => whnf
    have hfl3 := hfl'.mono hle3
    refine CallsO.go (over_n hfl3 hgv (by omega)) ?_
    rintro _ h4 hle4 hd
    obtain ⟨r_hd, rfl⟩ := hd.raw
    conv => whnf
    refine CallsO.go (add_n (hgv.mono hle4) hd (by omega)) ?_
    rintro _ h5 hle5 ha
    obtain ⟨r_ha, rfl⟩ := ha.raw
    conv => whnf
    refine CallsO.go (half_n) ?_
    rintro _ h6 hle6 hh
    obtain ⟨r_hh, rfl⟩ := hh.raw
    conv => whnf
    refine CallsO.go (mul_n (ha.mono hle6) hh (by omega)) ?_
    rintro _ h7 hle7 hm
    obtain ⟨r_hm, rfl⟩ := hm.raw
    conv => whnf
    refine CallsO.go (floor_n hm (by omega)) ?_
    rintro v h8 hle8 hnx
    rw [newton_flo hg0] at hnx
    obtain ⟨r_n, rfl⟩ := hnx.raw
    conv => whnf
    have hle38 : Le h3 h8 := hle4.trans (hle5.trans (hle6.trans (hle7.trans hle8)))
    refine CallsO.go (cmp_n hnx (hgv.mono hle38) (by omega)) ?_
    rintro v9 h9 hle9 rfl
    conv => whnf
    obtain ⟨X, hX⟩ : ∃ X, (G' + N / G') / 2 = X := ⟨_, rfl⟩
    rw [hX] at hnx ⊢
    rcases Nat.lt_or_ge X G' with hlt | hge
    · refine pO_geq rfl rfl (false) (decide_eq_false (fun e => by have := (nat_cmp X G').1 e; omega)) ?_
      conv => whnf
      have hX1 : 1 ≤ X := by rw [← hX]; exact newton_ge hg0 (by omega)
      refine RoundO.go ⟨(X, r_n), ⟨rfl, rfl, rfl, rfl, rfl, rfl, trivial⟩, ⟨rfl, rfl, rfl, trivial⟩, ⟨hle3.trans (hle38.trans hle9), by dsimp only; omega, by dsimp only; omega, ?_, (hnx.mono hle9).size (hKG X (by omega))⟩, hlt⟩
      dsimp only
      rcases Nat.lt_or_ge N ((X + 1) * (X + 1)) with h10 | h10
      · exact h10
      · have := newton_ge hg0 h10
        omega
    · refine pO_geq rfl rfl (true) (decide_eq_true ((nat_cmp X G').2 hge)) ?_
      conv => whnf
      have hstop := newton_stop hg0 (by rw [hX]; exact hge)
      refine EndO.go ⟨G', hstop, hgN, ((hgv.mono hle38).mono hle9).size (sm_nat ?_)⟩
      have : G' ≤ G' * G' := Nat.le_mul_of_pos_left _ hg0
      omega
theorem root_q {x : Value} {k : Nat} {p : Rat} (hx : NumV h x k p) (hp : 0 ≤ p) (hk : k < 1048576) : CallGo Tryz.prog 135 #[x] h NoX fun v h' => ∃ r : Nat, (r : Rat) * (r : Rat) ≤ p ∧ p < ((r : Rat) + 1) * ((r : Rat) + 1) ∧ NumV h' v (k + 1) (r : Rat) := by
  have hp0 : ¬ p.num < 0 := by have := Rat.num_nonneg.2 hp; omega
  refine (root_n hx hp0 hk).mono ?_
  rintro v h' hle ⟨r, h1, h2, h3⟩
  have hf := flo_plus hp0
  obtain ⟨N, hN⟩ : ∃ N, p.num.natAbs / p.den = N := ⟨_, rfl⟩
  rw [hN] at h1 h2 hf
  rw [rat_nat] at hf
  unfold flo at hf
  have e1 := Rat.floor_le p
  have e2 := Rat.lt_floor (x := p)
  rw [hf] at e1 e2
  have e3 : ((r * r : Nat) : Rat) ≤ (N : Rat) := Rat.natCast_le_natCast.2 h1
  have e4 : ((N + 1 : Nat) : Rat) ≤ (((r + 1) * (r + 1) : Nat) : Rat) := Rat.natCast_le_natCast.2 h2
  rw [Rat.natCast_mul] at e3
  rw [Rat.natCast_mul, Rat.natCast_add, Rat.natCast_add] at e4
  have e5 : ((1 : Nat) : Rat) = 1 := rfl
  rw [e5] at e4
  exact ⟨r, by grind, by grind, h3⟩
theorem RN.minus {h : Heap} {r : RN} {k : Nat} {q : Rat} (H : NumV h r.val k q) : r.m = decide (q.num < 0) := by
  obtain ⟨_, t, u, h2, _⟩ := H
  simp at h2
  exact h2.1
theorem sgnQ_pos {q : Rat} : sgnQ q ≤ 0 ↔ ¬ 0 < q := by
  unfold sgnQ; rw [cmpQ_le0]; grind
/-- The enclosure of the roots. -/
theorem root_x {x y : Value} {k l : Nat} {a b g : Rat} (hx : BoxV h x k a b) (hy : NumV h y l g) (hg : 0 < g) (ha : 0 ≤ a) (hab : a ≤ b) (hkl : k + 2 * l < 1048000) : CallGo Tryz.prog 65 #[x, y] h NoX fun v h' => ∃ z, v = .tuple #[z, .int .i64 0] ∧
    ∃ m n n0 : Nat, (m : Rat) * m ≤ a / (g * g) ∧ a / (g * g) < ((m : Rat) + 1) * ((m : Rat) + 1) ∧ (n0 : Rat) * n0 ≤ b / (g * g) ∧ b / (g * g) < ((n0 : Rat) + 1) * ((n0 : Rat) + 1) ∧ (n = if (n0 : Rat) * n0 * (g * g) < b then n0 + 1 else n0) ∧ BoxV h' z (k + 3 * l + 67) ((m : Rat) * g) ((n : Rat) * g) := by
  have hx' := hx
  have hy' := hy
  obtain ⟨ra, rb, rfl, hna, hnb⟩ := hx
  obtain ⟨rg, rfl⟩ := hy.raw
  have hma := RN.minus hna
  have hma0 : ra.m = false := by rw [hma]; exact decide_eq_false (by have := Rat.num_nonneg.2 ha; omega)
  obtain ⟨ma, A, na, ca, B, na', ca'⟩ := ra
  dsimp only at hma0
  subst hma0
  have hg2 : 0 < g * g := Rat.mul_pos hg hg
  have hdiv : ∀ t : Rat, 0 ≤ t → 0 ≤ t / (g * g) := fun t ht => by rw [Rat.div_def]; exact Rat.mul_nonneg ht (Rat.le_of_lt (Rat.inv_pos.2 hg2))
  refine v_fn tb k65 [bval ⟨false, A, na, ca, B, na', ca'⟩ rb, rg.val] rfl ?_
  conv => whnf
  refine CallsO.go (sign_n hy' (by omega)) ?_
  rintro v1 h1 hle1 ⟨rfl, rfl⟩
  conv => whnf
  refine pO_leq rfl rfl (false) (decide_eq_false (fun e => sgnQ_pos.1 e hg)) ?_
  conv => whnf
  refine CallsO.go (mul_n hy' hy' (by omega)) ?_
  rintro _ h2 hle2 hsq
  obtain ⟨r_hsq, rfl⟩ := hsq.raw
  conv => whnf
  refine CallsO.go (over_n (hna.mono hle2) hsq (by omega)) ?_
  rintro _ h3 hle3 hd1
  obtain ⟨r_hd1, rfl⟩ := hd1.raw
  conv => whnf
  refine CallsO.go (root_q hd1 (hdiv a ha) (by omega)) ?_
  rintro v h4 hle4 ⟨m, hm1, hm2, hm⟩
  obtain ⟨r_m, rfl⟩ := hm.raw
  conv => whnf
  refine CallsO.go (over_n (hnb.mono (hle2.trans (hle3.trans hle4))) (hsq.mono (hle3.trans hle4)) (by omega)) ?_
  rintro _ h5 hle5 hd2
  obtain ⟨r_hd2, rfl⟩ := hd2.raw
  conv => whnf
  refine CallsO.go (root_q hd2 (hdiv b (by grind)) (by omega)) ?_
  rintro v h6 hle6 ⟨n0, hn1, hn2, hn⟩
  obtain ⟨r_n, rfl⟩ := hn.raw
  conv => whnf
  refine CallsO.go (mul_n hn hn (by omega)) ?_
  rintro _ h7 hle7 hnn
  obtain ⟨r_hnn, rfl⟩ := hnn.raw
  conv => whnf
  refine CallsO.go (mul_n hnn (hsq.mono (hle3.trans (hle4.trans (hle5.trans (hle6.trans hle7))))) (by omega)) ?_
  rintro _ h8 hle8 hns
  obtain ⟨r_hns, rfl⟩ := hns.raw
  conv => whnf
  have hle28 := hle2.trans (hle3.trans (hle4.trans (hle5.trans (hle6.trans (hle7.trans hle8)))))
  refine CallsO.go (cmp_n hns (hnb.mono hle28) (by omega)) ?_
  rintro v9 h9 hle9 rfl
  conv => whnf
  by_cases hc : (n0 : Rat) * n0 * (g * g) < b
  · refine pO_lss rfl rfl (true) (decide_eq_true ((cmpQ_neg _ _).2 hc)) ?_
    conv => whnf
    refine CallsO.go (int_n (z := 1) (by decide) (by decide)) ?_
    rintro _ h10 hle10 h1v
    obtain ⟨r_h1v, rfl⟩ := h1v.raw
    conv => whnf
    refine CallsO.go (add_n (hn.mono (hle7.trans (hle8.trans (hle9.trans hle10)))) h1v (by omega)) ?_
    rintro _ h11 hle11 hn1v
    obtain ⟨r_hn1v, rfl⟩ := hn1v.raw
    conv => whnf
    have e1 : (n0 : Rat) + ((1 : Int) : Rat) = ((n0 + 1 : Nat) : Rat) := by rw [Rat.natCast_add]; rfl
    rw [e1] at hn1v
    have hle4b := hle5.trans (hle6.trans (hle7.trans (hle8.trans (hle9.trans (hle10.trans hle11)))))
    have hle2b := hle28.trans (hle9.trans (hle10.trans hle11))
    refine CallsO.go (mul_n (hm.mono hle4b) (hy'.mono hle2b) (by omega)) ?_
    rintro _ h12 hle12 hz1
    obtain ⟨r_hz1, rfl⟩ := hz1.raw
    conv => whnf
    refine CallsO.go (mul_n (hn1v.mono hle12) (hy'.mono (hle2b.trans hle12)) (by omega)) ?_
    rintro _ h13 hle13 hz2
    obtain ⟨r_hz2, rfl⟩ := hz2.raw
    conv => whnf
    refine pO_b63 r_hz1 r_hz2 rfl ?_
    conv => whnf
    exact EndO.go ⟨_, rfl, m, n0 + 1, n0, hm1, hm2, hn1, hn2, by rw [if_pos hc], r_hz1, r_hz2, rfl, (hz1.mono hle13).up (by omega), hz2.up (by omega)⟩
  · refine pO_lss rfl rfl (false) (decide_eq_false (fun e => hc ((cmpQ_neg _ _).1 e))) ?_
    conv => whnf
    have hle4b := hle5.trans (hle6.trans (hle7.trans (hle8.trans hle9)))
    have hle2b := hle28.trans hle9
    refine CallsO.go (mul_n (hm.mono hle4b) (hy'.mono hle2b) (by omega)) ?_
    rintro _ h12 hle12 hz1
    obtain ⟨r_hz1, rfl⟩ := hz1.raw
    conv => whnf
    refine CallsO.go (mul_n (hn.mono (hle7.trans (hle8.trans (hle9.trans hle12)))) (hy'.mono (hle2b.trans hle12)) (by omega)) ?_
    rintro _ h13 hle13 hz2
    obtain ⟨r_hz2, rfl⟩ := hz2.raw
    conv => whnf
    refine pO_b63 r_hz1 r_hz2 rfl ?_
    conv => whnf
    exact EndO.go ⟨_, rfl, m, n0, n0, hm1, hm2, hn1, hn2, by rw [if_neg hc], r_hz1, r_hz2, rfl, (hz1.mono hle13).up (by omega), hz2.up (by omega)⟩
end
end Go.Proofs.YtplaobhghfndgaaGreatDoor
