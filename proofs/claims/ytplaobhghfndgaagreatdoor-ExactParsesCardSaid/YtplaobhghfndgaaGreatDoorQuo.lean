import Derived.Test.YtplaobhghfndgaaGreatDoorDiv
/-! Limbs, part 4: the long division. -/
set_option linter.unusedVariables false
set_option linter.unusedSimpArgs false
set_option maxRecDepth 100000
namespace Go.Proofs.YtplaobhghfndgaaGreatDoor
open Go Go.Proofs.Vc
attribute [local irreducible] CallsO EffO PureO LoadO StoreO EndO LoopV RoundO
section
variable {h : Heap}
theorem norm_up {t s : Nat} (hs : s ≤ 63) (h : t * 2 ^ s < W) : (t + 1) * 2 ^ s ≤ W := by
  have hp : 2 ^ (64 - s) * 2 ^ s = W := by rw [← Nat.pow_add, show 64 - s + s = 64 from by omega]
  rw [← hp] at h ⊢
  have := Nat.lt_of_mul_lt_mul_right h
  exact Nat.mul_le_mul_right _ this
theorem norm_hi {b t s P : Nat} (hs : s ≤ 63) (h : t * 2 ^ s < W) (hb : b < (t + 1) * P) : b * 2 ^ s < P * W := by
  have h1 : b * 2 ^ s < (t + 1) * P * 2 ^ s := Nat.mul_lt_mul_of_pos_right hb (Nat.two_pow_pos s)
  have h2 : (t + 1) * P * 2 ^ s = P * ((t + 1) * 2 ^ s) := by rw [Nat.mul_comm (t + 1) P, Nat.mul_assoc]
  rw [h2] at h1
  exact Nat.lt_of_lt_of_le h1 (Nat.mul_le_mul_left _ (norm_up hs h))
theorem norm_lo {b t s P : Nat} (h : 9223372036854775808 ≤ t * 2 ^ s) (hb : t * P ≤ b) : 9223372036854775808 * P ≤ b * 2 ^ s := by
  have h1 : t * P * 2 ^ s ≤ b * 2 ^ s := Nat.mul_le_mul_right _ hb
  have h2 : t * P * 2 ^ s = t * 2 ^ s * P := Nat.mul_right_comm _ _ _
  rw [h2] at h1
  exact Nat.le_trans (Nat.mul_le_mul_right _ h) h1
theorem quo_init {a s m k n V D : Nat} (hs : s ≤ 63) (hm : m = k + (n + 1)) (hV : 9223372036854775808 * W ^ (n + 1) ≤ V) (ha : a < W ^ m) (hD : D * W ^ k ≤ a * 2 ^ s) : D < V := by
  have h1 : a * 2 ^ s < W ^ m * 2 ^ s := Nat.mul_lt_mul_of_pos_right ha (Nat.two_pow_pos s)
  have h2 : 2 ^ s ≤ 9223372036854775808 := Nat.le_trans (Nat.pow_le_pow_right (by decide) hs) (by decide)
  have h3 : W ^ m * 2 ^ s ≤ W ^ m * 9223372036854775808 := Nat.mul_le_mul_left _ h2
  have h4 : W ^ m * 9223372036854775808 = 9223372036854775808 * W ^ (n + 1) * W ^ k := by
    rw [hm, Nat.pow_add, Nat.mul_comm, Nat.mul_comm (W ^ k), Nat.mul_assoc]
  have h5 : 9223372036854775808 * W ^ (n + 1) * W ^ k ≤ V * W ^ k := Nat.mul_le_mul_right _ hV
  have h6 : D * W ^ k < V * W ^ k := by omega
  exact Nat.lt_of_mul_lt_mul_right h6
theorem drop_ext {l m : List Nat} (i : Nat) (hl : l.length = m.length) (h : ∀ k, i ≤ k → l.getD k 0 = m.getD k 0) : l.drop i = m.drop i := by
  apply List.ext_getElem (by simp [hl])
  intro k h1 h2
  have h3 := h (i + k) (by omega)
  simp only [List.length_drop] at h1 h2
  simp only [List.getElem_drop]
  simpa [List.getD_eq_getElem?_getD, show i + k < l.length by omega, show i + k < m.length by omega] using h3
theorem take_ext {l m : List Nat} (i : Nat) (hl : l.length = m.length) (h : ∀ k, k < i → l.getD k 0 = m.getD k 0) : l.take i = m.take i := by
  apply List.ext_getElem (by simp [hl])
  intro k h1 h2
  simp only [List.length_take] at h1 h2
  have h3 := h k (by omega)
  simp only [List.getElem_take]
  simpa [List.getD_eq_getElem?_getD, show k < l.length by omega, show k < m.length by omega] using h3
theorem drop_zero_of_lt {b : Nat} {l : List Nat} {i k : Nat} (h : val b (l.drop i) < b ^ k) (hik : i + k ≤ l.length) : val b (l.drop (i + k)) = 0 := by
  have h1 := val_take_drop b (l.drop i) k (by simp; omega)
  rw [List.drop_drop] at h1
  rcases Nat.eq_zero_or_pos (val b (l.drop (i + k))) with h0 | h0
  · exact h0
  · have := Nat.le_mul_of_pos_right (b ^ k) h0
    omega
theorem rem_step {v0 v1 P w c b q p z x e t : Nat} (hp : b * c = w) (hx : c * q + p = x) (hset : v1 + P * 0 = v0 + P * (z * b + q)) (hval : v0 * c + e = t + P * p) : v1 * c + e = t + P * x + P * w * z := by
  subst hp hx
  have h1 : v1 = v0 + P * (z * b + q) := by omega
  subst h1
  grind
theorem strip_step {T P X R g V M w bo : Nat} (hP : 0 < P) (hM : P * w = M) (h : T + P * X + P * (g * V) = T + P * R + M * bo) : X + g * V = R + w * bo := by
  subst hM
  have h1 : P * (X + g * V) = P * (R + w * bo) := by grind
  exact Nat.eq_of_mul_eq_mul_left hP h1
theorem lose_top {v0 v1 v2 Pj g V Pn M w t u mi bo : Nat} (hM : Pn * w = M) (h1 : v1 + Pj * (g * V) = v0 + Pn * mi) (h2 : v2 + Pn * u = v1 + Pn * t) (h3 : t + mi = u + w * bo) : v2 + Pj * (g * V) = v0 + M * bo := by
  subst hM
  have h4 : Pn * (t + mi) = Pn * (u + w * bo) := by rw [h3]
  grind
theorem gain_top {v0 v1 v2 Pj V Pn M w t u ov ba : Nat} (hM : Pn * w = M) (h1 : v1 + Pn * ov = v0 + Pj * (1 * V)) (h2 : v2 + Pn * u = v1 + Pn * t) (h3 : t + w * ba = u + ov) : v2 + M * ba = v0 + Pj * V := by
  subst hM
  have h4 : Pn * (t + w * ba) = Pn * (u + ov) := by rw [h3]
  grind
theorem back_step {v2 v1 U M ba Pj g V : Nat} (hba : ba ≤ 1) (h1 : v2 + M * ba = v1 + Pj * V) (h2 : v1 + Pj * ((g + 1) * V) = U + M * 1) : v2 + Pj * (g * V) = U + M * (1 - ba) := by
  have h3 : Pj * ((g + 1) * V) = Pj * (g * V) + Pj * V := by rw [Nat.succ_mul, Nat.mul_add]
  have h4 : ba = 0 ∨ ba = 1 := by omega
  rcases h4 with rfl | rfl
  · omega
  · omega
theorem guess_more {X R g V Q w : Nat} (hX : X < w) (hQ : Q * V ≤ R) (h : X + g * V = R + w * 1) : Q < g := by
  rcases Nat.lt_or_ge Q g with h1 | h1
  · exact h1
  · have := Nat.mul_le_mul_right V h1
    omega
theorem guess_div2 {R V vt vs B C top u2 q : Nat} (hvt : 0 < vt) (hv : (vs + B * vt) * C ≤ V) (hW : R < (u2 + B * top + 1) * C) (hu2 : u2 < B) (hq : q * V ≤ R) : q ≤ top / vt := by
  refine guess_div (C := B * C) hvt (Nat.le_trans ?_ hv) (Nat.lt_of_lt_of_le hW ?_) hq
  · rw [← Nat.mul_assoc, Nat.mul_comm vt]; exact Nat.mul_le_mul_right _ (Nat.le_add_left _ _)
  · rw [← Nat.mul_assoc]; exact Nat.mul_le_mul_right _ (by rw [Nat.succ_mul, Nat.mul_comm top]; omega)
theorem quo_exact {X R g V : Nat} (hV : 0 < V) (hQ : R / V ≤ g) (h : X + g * V = R) : g = R / V ∧ X = R % V := by
  have h1 : g ≤ R / V := (Nat.le_div_iff_mul_le hV).2 (by omega)
  have h2 : g = R / V := by omega
  refine ⟨h2, ?_⟩
  have := Nat.div_add_mod R V
  rw [Nat.mul_comm, ← h2] at this
  omega
theorem quo_join {A V U v2 Pj W g q : Nat} (hval : A = Pj * W * q * V + U) (h : v2 + Pj * (g * V) = U) : A = Pj * (g + W * q) * V + v2 := by
  subst hval h
  grind
set_option maxHeartbeats 4000000 in
theorem div_c {x y : Value} {a b : Nat} (hx : Lim h x a) (hy : Lim h y b) (hb0 : 0 < b) (hb : sz a + sz b < 1099511627770) : CallGo Tryz.prog 128 #[x, y] h NoX fun v h' => ∃ q r, v = .tuple #[q, r] ∧ Lim h' q (a / b) ∧ Lim h' r (a % b) := by
  have hx' := hx
  have hy' := hy
  obtain ⟨A, ca, rfl, hca, hra⟩ := hx.open
  obtain ⟨B, cb, rfl, hcb, hrb⟩ := hy.open
  have hla := low_dig w2 a
  have hlb := low_dig w2 b
  have hda : (dig W a).length = sz a := rfl
  have hdb : (dig W b).length = sz b := rfl
  have hva := val_dig w2 a
  have hvb := val_dig w2 b
  have hn0 : 0 < sz b := by
    rcases Nat.eq_zero_or_pos (sz b) with h0 | h0
    · have := (dig_eq_nil w2).1 (List.eq_nil_of_length_eq_zero (hdb.trans h0)); omega
    · exact h0
  refine v_fn tb k128 [.slice A (sz a) ca, .slice B (sz b) cb] rfl ?_
  conv => whnf
  refine CallsO.go (cmp_c hx' hy' (by omega)) ?_
  rintro v h1 hle1 ⟨rfl, rfl⟩
  conv => whnf
  rcases Nat.lt_or_ge a b with hab | hab
  · rw [cmpN_lt hab]
    refine pO_lss rfl rfl (true) (rfl) ?_
    conv => whnf
    refine EndO.go ⟨_, _, rfl, ?_, ?_⟩
    · rw [Nat.div_eq_of_lt hab]; exact Lim.nil _ _ _
    · rw [Nat.mod_eq_of_lt hab]; exact hx'
  · have hc0 : (0 : Int) ≤ cmpN a b := by unfold cmpN; rw [if_neg (by omega)]; split <;> decide
    refine pO_lss rfl rfl (false) (decide_eq_false (by omega)) ?_
    conv => whnf
    rcases Nat.eq_or_lt_of_le (show 1 ≤ sz b from hn0) with hn1 | hn1
    · refine pO_eql rfl rfl (true) (by rw [← hn1]; rfl) ?_
      conv => whnf
      refine pO_at1 u24 s140 rfl rfl (hrb) ((ws_length _).trans hdb) (by decide) (ws_get _ 0 (by omega)) fun pAt hAt => ?_
      conv => whnf
      refine lO_at hAt ?_
      conv => whnf
      have hbd : (dig W b).getD 0 0 = b := by
        obtain ⟨d, hd⟩ := List.length_eq_one_iff.1 (hdb.trans hn1.symm)
        rw [hd] at hvb ⊢
        simpa [val] using hvb
      have hbW := low_getD (b := W) (by decide) hlb 0
      rw [hbd] at hbW ⊢
      refine CallsO.go (divWord_c hx' hb0 hbW (by omega)) ?_
      rintro v h2 hle2 ⟨q, hq, rfl⟩
      conv => whnf
      refine CallsO.go (limbsOf_c (n := a % b) (Nat.lt_trans (Nat.mod_lt _ hb0) hbW)) ?_
      rintro v h3 hle3 hr3
      conv => whnf
      exact EndO.go ⟨_, _, rfl, hq.mono hle3, hr3⟩
    · refine pO_eql rfl rfl (false) (beq_eq_false_iff_ne.2 (by omega)) ?_
      conv => whnf
      refine pO_sub rfl rfl ((((sz b - 1 : Nat)) : Int)) (wr64 (by omega) (by omega) (by omega)) ?_
      conv => whnf
      refine pO_atN u24 s140 rfl rfl (hrb) ((ws_length _).trans hdb) (ws_get _ (sz b - 1) (by omega)) fun pAt hAt => ?_
      conv => whnf
      refine lO_at hAt ?_
      conv => whnf
      have htW := low_getD (b := W) (by decide) hlb (sz b - 1)
      have hsz : sz b ≤ sz a := dig_length_mono w2 hab
      obtain ⟨n, hn⟩ : ∃ n, sz b = n + 2 := ⟨sz b - 2, by omega⟩
      have hn1' : sz b - 1 = n + 1 := by omega
      rw [hn1'] at htW hAt ⊢
      have htb := val_drop_bounds (b := W) (by decide) hlb (n + 1) (by omega)
      rw [val_drop_last W (show (dig W b).length = n + 1 + 1 from by omega), hvb] at htb
      have ht0 : (dig W b).getD (n + 1) 0 ≠ 0 := by
        intro h0
        rw [h0, Nat.zero_add, Nat.one_mul] at htb
        have := dig_length_le w2 htb.2
        omega
      refine CallsO.go (lz64_c _ htW) ?_
      rintro v h2 hle2 ⟨rfl, rfl⟩
      conv => whnf
      obtain ⟨s, hs, hs1, hs2, hsW⟩ := norm_shift _ ht0 htW
      rw [hs]
      refine pO_conv (by rfl) (show Tryz.prog.underlying 146 = some (.int .u64) by kernel_rfl) rfl ((s : Nat) : Int) (wru64 rfl (by omega) (by omega)) ?_
      conv => whnf
      refine CallsO.go (shift_c hy' hs1 (by omega)) ?_
      rintro v h3 hle3 ⟨gv, zv, hgv, rfl, hgv3, hlv, hlowv, hvv⟩
      conv => whnf
      refine pO_part 0 (sz b) u24 s140 rfl (row_own hgv3) ((ws_length _).trans hlv) (Nat.le_refl _) rfl ⟨_, rfl⟩ (Nat.zero_le _) (by omega) fun C hrv => ?_
      conv => whnf
      rw [List.drop_zero, show (ws zv).take (sz b) = ws (zv.take (sz b)) from by simp [ws]] at hrv
      refine CallsO.go (shift_c (hx'.mono hle3) hs1 (by omega)) ?_
      rintro v h4 hle4 ⟨gu, zu, hgu, rfl, hgu4, hlu, hlowu, hvu⟩
      conv => whnf
      refine pO_sub rfl rfl (((sz a + 1 - sz b : Nat) : Int)) (wr64 (by omega) (by omega) (by omega)) ?_
      conv => whnf
      refine eO_make (sz a + 1 - sz b) u24 e140 rfl rfl rfl (by omega) fun gq hgq => ?_
      conv => whnf
      refine pO_sub rfl rfl (((sz a + 1 - sz b : Nat) : Int) - 1) (wr64 rfl (by omega) (by omega)) ?_
      conv => whnf
      have hgq3 : h3 gq = none := Le.absent hle4 hgq
      have hgu2 : h2 gu = none := Le.absent hle3 hgu
      have hgq2 : h2 gq = none := Le.absent hle3 hgq3
      have hne : gu ≠ gq := fun e => by rw [e, hgq] at hgu4; cases hgu4
      have hlvl : (zv.take (sz b)).length = sz b := by simp; omega
      have hlowvl : Low W (zv.take (sz b)) := low_take hlowv _
      have hVW : b * 2 ^ s < W ^ sz b := by
        rw [hn, Nat.pow_succ]; exact norm_hi hs1 hsW htb.2
      have hVlo : 9223372036854775808 * W ^ (n + 1) ≤ b * 2 ^ s := norm_lo hs2 htb.1
      have hvl : val W (zv.take (sz b)) = b * 2 ^ s := by
        have h6 := val_take_drop W zv (sz b) (by omega)
        rw [hvv] at h6
        rcases Nat.eq_zero_or_pos (val W (zv.drop (sz b))) with h7 | h7
        · rw [h7, Nat.mul_zero, Nat.add_zero] at h6; exact h6.symm
        · have := Nat.le_mul_of_pos_right (W ^ sz b) h7
          omega
      have hinit : val W (zu.drop (sz a + 1 - sz b)) < b * 2 ^ s := by
        have h6 := (val_drop_bounds (b := W) (by decide) hlowu (sz a + 1 - sz b) (by omega)).1
        have h7 := val_lt hla
        rw [hda, hva] at h7
        exact quo_init (k := sz a + 1 - sz b) hs1 (by omega) hVlo h7 (by rw [← hvu]; exact h6)
      refine LoopV.by (α := List Nat × List Nat × Nat) (fun x => [(6, .v (.int .i64 (sz b : Nat))), (9, .v (.int .u64 s)), (10, .v (.slice C (sz b - 0) (sz b + 1 - 0))), (11, .v (.slice (some ⟨gu, 0, none⟩) (sz a + 1) (sz a + 1))), (12, .v (.slice (some ⟨gq, 0, none⟩) (sz a + 1 - sz b) (sz a + 1 - sz b))), (13, .v (.int .i64 ((x.2.2 : Int) - 1)))]) (fun _ => [])
        (fun x h' => h' gu = some (.cells (ws x.1).toArray 140 (0, 0)) ∧ h' gq = some (.cells (ws x.2.1).toArray 140 (0, 0)) ∧ Le h3 h' ∧ x.1.length = sz a + 1 ∧ x.2.1.length = sz a + 1 - sz b ∧ Low W x.1 ∧ Low W x.2.1 ∧ x.2.2 ≤ sz a + 1 - sz b ∧
          a * 2 ^ s = W ^ x.2.2 * val W (x.2.1.drop x.2.2) * (b * 2 ^ s) + val W x.1 ∧ val W (x.1.drop x.2.2) < b * 2 ^ s) (fun x => x.2.2) (zu, List.replicate (sz a + 1 - sz b) 0, sz a + 1 - sz b)
        ⟨rfl, rfl, rfl, rfl, rfl, rfl, rfl, rfl, rfl, rfl, rfl, rfl, trivial⟩ trivial ⟨by rw [Heap.upd_ne _ _ hne]; exact hgu4, by rw [ws_replicate]; exact Heap.upd_same _ _ _, hle4.trans (Le.upd hgq), hlu, by simp, hlowu, low_zeros (by decide) _, Nat.le_refl _, by
          dsimp only
          rw [List.drop_of_length_le (by simp), hvu]
          simp [val], hinit⟩ ?_
      rintro ⟨uc, qc, k⟩ h5 ⟨hg5, hq5, hle5, hlu5, hlq5, hlow5, hlowq5, hk, hval, hrem⟩
      dsimp only at hg5 hq5 hle5 hlu5 hlq5 hlow5 hlowq5 hk hval hrem
      dsimp only
      conv => whnf
      have hgr3 : ∀ g, h3 g = none → h2 g = none := fun g hg => Le.absent hle3 hg
      rcases Nat.eq_zero_or_pos k with rfl | hk0
      · refine pO_geq rfl rfl (false) (decide_eq_false (by omega)) ?_
        conv => whnf
        rw [Nat.pow_zero, Nat.one_mul, List.drop_zero] at hval
        rw [List.drop_zero] at hrem
        obtain ⟨hq1, hr1⟩ := div64_fin (Nat.two_pow_pos s) rfl hval hrem
        refine eO_make (sz b) u24 e140 rfl rfl rfl (by omega) fun gr hgr => ?_
        conv => whnf
        have hgur : gu ≠ gr := fun e => by rw [e, hgr] at hg5; cases hg5
        have hgqr : gq ≠ gr := fun e => by rw [e, hgr] at hq5; cases hq5
        have hgr2 : h2 gr = none := hgr3 gr (Le.absent hle5 hgr)
        have hp : 2 ^ (64 - s) * 2 ^ s = W := by rw [← Nat.pow_add, show 64 - s + s = 64 from by omega]
        refine LoopV.by (α := List Nat × Nat) (fun x => [(9, .v (.int .u64 s)), (11, .v (.slice (some ⟨gu, 0, none⟩) (sz a + 1) (sz a + 1))), (12, .v (.slice (some ⟨gq, 0, none⟩) (sz a + 1 - sz b) (sz a + 1 - sz b))), (23, .v (.slice (some ⟨gr, 0, none⟩) (sz b) (sz b))), (207, .v (.int .i64 (sz b : Nat))), (208, .v (.int .i64 (x.2 : Nat)))]) (fun _ => [])
          (fun x h' => h' gr = some (.cells (ws x.1).toArray 140 (0, 0)) ∧ h' gu = some (.cells (ws uc).toArray 140 (0, 0)) ∧ h' gq = some (.cells (ws qc).toArray 140 (0, 0)) ∧ x.1.length = sz b ∧ Low W x.1 ∧ x.2 ≤ sz b ∧
            val W x.1 * 2 ^ s + uc.getD 0 0 % 2 ^ s = val W (uc.take x.2) + W ^ x.2 * (uc.getD x.2 0 % 2 ^ s) ∧ (∀ j, x.2 ≤ j → x.1.getD j 0 = 0)) (fun x => sz b - x.2) (List.replicate (sz b) 0, 0)
          ⟨rfl, rfl, rfl, rfl, rfl, rfl, rfl, rfl, rfl, rfl, rfl, rfl, trivial⟩ trivial ⟨by rw [ws_replicate]; exact Heap.upd_same _ _ _, by rw [Heap.upd_ne _ _ hgur]; exact hg5, by rw [Heap.upd_ne _ _ hgqr]; exact hq5, by simp, low_zeros (by decide) _, Nat.zero_le _, by simp [val, val_zeros], fun j _ => by simp [List.getD_eq_getElem?_getD, List.getElem?_replicate]; split <;> rfl⟩ ?_
        rintro ⟨rc, i⟩ h6 ⟨hg6, hu6, hq6, hlr, hlowr, hi, hv6, hz6⟩
        dsimp only at hg6 hu6 hq6 hlr hlowr hi hv6 hz6
        dsimp only
        conv => whnf
        have hui := low_getD (b := W) (by decide) hlow5 i
        have hui1 := low_getD (b := W) (by decide) hlow5 (i + 1)
        rcases Nat.lt_or_ge i (sz b) with hin | hin
        · refine pO_lss rfl rfl (true) (decide_eq_true (by omega)) ?_
          conv => whnf
          refine pO_own u24 s140 rfl rfl (by omega) ?_
          conv => whnf
          refine lO_own (hu6) rfl (by omega) ?_
          conv => whnf
          refine pO_shr rfl rfl (by omega) (((uc.getD (0 + i) 0 / 2 ^ s : Nat) : Int)) (shr_nat _ s (by omega)) ?_
          conv => whnf
          refine pO_add rfl rfl (((i + 1 : Nat) : Int)) (wr64 (by omega) (by omega) (by omega)) ?_
          conv => whnf
          refine pO_own u24 s140 rfl rfl (by omega) ?_
          conv => whnf
          refine lO_own (hu6) rfl (by omega) ?_
          conv => whnf
          refine pO_shl rfl rfl (by decide) (((uc.getD (0 + (i + 1)) 0 * 2 ^ 1 % W : Nat) : Int)) ((congrArg IntKind.u64.wrap (shl_nat _ 1 (by decide))).trans (wrm _)) ?_
          conv => whnf
          refine pO_sub rfl rfl (((63 - s : Nat) : Int)) (wru64 (by omega) (by omega) (by omega)) ?_
          conv => whnf
          have h8 : uc.getD (0 + (i + 1)) 0 * 2 ^ 1 % W * 2 ^ (63 - s) % W = uc.getD (0 + (i + 1)) 0 % 2 ^ s * 2 ^ (64 - s) := by
            have h9 : 2 ^ 1 * 2 ^ (63 - s) = 2 ^ (64 - s) := by rw [← Nat.pow_add, show 1 + (63 - s) = 64 - s from by omega]
            rw [Nat.mod_mul_mod, Nat.mul_assoc, h9, ← hp, Nat.mul_comm (2 ^ (64 - s)) (2 ^ s), Nat.mul_mod_mul_right]
          refine pO_shl rfl rfl (by omega) (((uc.getD (0 + (i + 1)) 0 % 2 ^ s * 2 ^ (64 - s) : Nat) : Int)) ((congrArg IntKind.u64.wrap (shl_nat _ (63 - s) (by omega))).trans ((wrm _).trans (congrArg _ h8))) ?_
          conv => whnf
          have hq9 : uc.getD (0 + i) 0 / 2 ^ s < 2 ^ (64 - s) := Nat.div_lt_of_lt_mul (by rw [Nat.mul_comm, hp, Nat.zero_add]; exact hui)
          have hq10 : uc.getD (0 + (i + 1)) 0 % 2 ^ s * 2 ^ (64 - s) + uc.getD (0 + i) 0 / 2 ^ s < W := by
            have h10 : uc.getD (0 + (i + 1)) 0 % 2 ^ s + 1 ≤ 2 ^ s := Nat.mod_lt _ (Nat.two_pow_pos s)
            have h11 := Nat.mul_le_mul_right (2 ^ (64 - s)) h10
            rw [Nat.succ_mul, Nat.mul_comm (2 ^ s), hp] at h11
            omega
          refine pO_or rfl rfl (((uc.getD (0 + (i + 1)) 0 % 2 ^ s * 2 ^ (64 - s) + uc.getD (0 + i) 0 / 2 ^ s : Nat) : Int)) (or_low _ _ (64 - s) hq9 hq10) ?_
          conv => whnf
          refine pO_own u24 s140 rfl rfl (by omega) ?_
          conv => whnf
          refine stO_w (hg6) (hgr2) rfl (by omega) ?_
          conv => whnf
          refine pO_add rfl rfl (((i + 1 : Nat) : Int)) (wr64 (by omega) (by omega) (by omega)) ?_
          conv => whnf
          refine RoundO.go ⟨(rc.set (0 + i) (uc.getD (0 + (i + 1)) 0 % 2 ^ s * 2 ^ (64 - s) + uc.getD (0 + i) 0 / 2 ^ s), i + 1), ⟨rfl, rfl, rfl, rfl, rfl, rfl, rfl, rfl, rfl, rfl, rfl, rfl, trivial⟩, trivial, ⟨Heap.upd_same _ _ _, (Heap.upd_ne _ _ hgur).trans hu6, (Heap.upd_ne _ _ hgqr).trans hq6, by simp [hlr], low_set hlowr _ hq10, hin, ?_, ?_⟩, by dsimp only; omega⟩
          all_goals dsimp only
          · have h11 := val_set W rc (0 + i) (uc.getD (0 + (i + 1)) 0 % 2 ^ s * 2 ^ (64 - s) + uc.getD (0 + i) 0 / 2 ^ s) (by omega)
            have h12 := Nat.div_add_mod (uc.getD i 0) (2 ^ s)
            have h13 : 2 ^ s * (uc.getD i 0 / 2 ^ s) + uc.getD i 0 % 2 ^ s = uc.getD i 0 := h12
            rw [val_take_succ, Nat.pow_succ]
            simp only [Nat.zero_add] at h11 ⊢
            rw [hz6 i (Nat.le_refl _)] at h11
            exact rem_step (b := 2 ^ (64 - s)) hp h13 h11 hv6
          · intro j hj
            rw [getD_set_ne (by omega)]
            exact hz6 j (by omega)
        · refine pO_lss rfl rfl (false) (decide_eq_false (by omega)) ?_
          conv => whnf
          have hi2 : i = sz b := by omega
          subst hi2
          have hu0 : val W (uc.drop (sz b)) = 0 := by
            have h11 := val_take_drop W uc (sz b) (by omega)
            rcases Nat.eq_zero_or_pos (val W (uc.drop (sz b))) with h0 | h0
            · exact h0
            · have := Nat.le_mul_of_pos_right (W ^ sz b) h0
              omega
          have hut : val W (uc.take (sz b)) = val W uc := by
            have h11 := val_take_drop W uc (sz b) (by omega)
            rw [hu0] at h11; omega
          have hud : uc.getD (sz b) 0 = 0 := by
            have h11 := val_drop_succ W uc (sz b) (by omega)
            omega
          rw [hut, hud, Nat.zero_mod, Nat.mul_zero, Nat.add_zero] at hv6
          have hrv : val W rc = val W uc / 2 ^ s := by
            rw [← hv6, Nat.mul_comm, Nat.mul_add_div (Nat.two_pow_pos s), Nat.div_eq_of_lt (Nat.mod_lt _ (Nat.two_pow_pos s)), Nat.add_zero]
          refine CallsO.go (trim_c (row_own hq6) hlq5 (Nat.le_refl _) (by omega)) ?_
          rintro v h7 hle7 hv7
          conv => whnf
          refine CallsO.go (trim_c ((row_own hg6).mono hle7) hlr (Nat.le_refl _) (by omega)) ?_
          rintro v2 h8 hle8 hv8
          conv => whnf
          refine EndO.go ⟨_, _, rfl, ?_, ?_⟩
          · rw [hq1]; exact (Lim.of hlowq5 hv7).mono hle8
          · rw [hr1, ← hrv]; exact Lim.of hlowr hv8
      · obtain ⟨j, rfl⟩ : ∃ j, k = j + 1 := ⟨k - 1, by omega⟩
        have hjj : ((j + 1 : Nat) : Int) - 1 = (j : Int) := by omega
        rw [hjj]
        -- what is known of the window
        have hV0 : 0 < b * 2 ^ s := Nat.mul_pos hb0 (Nat.two_pow_pos s)
        have hjn : j + n + 3 ≤ sz a + 1 := by omega
        have hWn : W ^ sz b = W ^ (n + 2) := by rw [hn]
        have hz0 : val W (uc.drop (j + n + 3)) = 0 := by
          have := drop_zero_of_lt (b := W) (l := uc) (i := j + 1) (k := n + 2) (by omega) (by omega)
          rwa [show j + 1 + (n + 2) = j + n + 3 from by omega] at this
        have hR1 := val_drop_succ W uc j (by omega)
        have huj := low_getD (b := W) (by decide) hlow5 j
        have hRV : val W (uc.drop j) < b * 2 ^ s * W := by
          have h6 : W * (val W (uc.drop (j + 1)) + 1) ≤ W * (b * 2 ^ s) := Nat.mul_le_mul_left _ hrem
          rw [Nat.mul_add, Nat.mul_one] at h6
          rw [Nat.mul_comm _ W]
          omega
        obtain ⟨Q, hQ⟩ : ∃ Q, val W (uc.drop j) / (b * 2 ^ s) = Q := ⟨_, rfl⟩
        have hQV : Q * (b * 2 ^ s) ≤ val W (uc.drop j) := by rw [← hQ]; exact Nat.div_mul_le_self _ _
        have hQW : Q < W := by rw [← hQ]; exact Nat.div_lt_of_lt_mul hRV
        have hub := (val_drop_bounds (b := W) (by decide) (low_drop hlow5 j) n (by simp; omega)).2
        rw [List.drop_drop, val_drop_succ W uc (j + n) (by omega), val_drop_succ W uc (j + n + 1) (by omega), val_drop_succ W uc (j + n + 1 + 1) (by omega), show j + n + 1 + 1 + 1 = j + n + 3 from by omega, hz0, Nat.mul_zero, Nat.add_zero, show j + n + 1 + 1 = j + n + 2 from rfl] at hub
        have hub2 : val W (uc.drop j) < ((uc.getD (j + n + 2) 0 * W + uc.getD (j + n + 1) 0) * W + uc.getD (j + n) 0 + 1) * W ^ n := by
          rw [show (uc.getD (j + n + 2) 0 * W + uc.getD (j + n + 1) 0) * W + uc.getD (j + n) 0 = uc.getD (j + n) 0 + W * (uc.getD (j + n + 1) 0 + W * (uc.getD (j + n + 2) 0 + 0)) from by simp only [W]; omega]
          exact hub
        have hvb2 := (val_drop_bounds (b := W) (by decide) hlowvl n (by omega)).1
        rw [val_drop_last2 W (n := n) (by omega), hvl] at hvb2
        have hut := low_getD (b := W) (by decide) hlow5 (j + n + 2)
        have hu1 := low_getD (b := W) (by decide) hlow5 (j + n + 1)
        have hu2 := low_getD (b := W) (by decide) hlow5 (j + n)
        have hvt := low_getD (b := W) (by decide) hlowvl (n + 1)
        have hvs := low_getD (b := W) (by decide) hlowvl n
        have hja : 0 + (j + sz b) = j + n + 2 := by omega
        refine pO_geq rfl rfl (true) (decide_eq_true (by omega)) ?_
        conv => whnf
        refine pO_add rfl rfl (((j + sz b : Nat) : Int)) (wr64 (by omega) (by omega) (by omega)) ?_
        conv => whnf
        refine pO_own u24 s140 rfl rfl (by omega) ?_
        conv => whnf
        refine lO_own (hg5) rfl (by omega) ?_
        conv => whnf
        rw [hja]
        refine pO_sub rfl rfl (((n + 1 : Nat) : Int)) (wr64 (by omega) (by omega) (by omega)) ?_
        conv => whnf
        refine pO_atN u24 s140 rfl rfl (hrv.mono hle5) ((ws_length _).trans hlvl) (ws_get _ (n + 1) (by omega)) fun pAt hAt => ?_
        conv => whnf
        refine lO_at hAt ?_
        conv => whnf
        rcases Nat.lt_or_ge (uc.getD (j + n + 2) 0) ((zv.take (sz b)).getD (n + 1) 0) with htop | htop
        · refine pO_lss rfl rfl (true) (decide_eq_true (by omega)) ?_
          conv => whnf
          refine pO_add rfl rfl (((j + sz b : Nat) : Int)) (wr64 (by omega) (by omega) (by omega)) ?_
          conv => whnf
          refine pO_own u24 s140 rfl rfl (by omega) ?_
          conv => whnf
          refine lO_own (hg5) rfl (by omega) ?_
          conv => whnf
          rw [hja]
          refine pO_add rfl rfl (((j + sz b : Nat) : Int)) (wr64 (by omega) (by omega) (by omega)) ?_
          conv => whnf
          refine pO_sub rfl rfl (((j + n + 1 : Nat) : Int)) (wr64 (by omega) (by omega) (by omega)) ?_
          conv => whnf
          refine pO_own u24 s140 rfl rfl (by omega) ?_
          conv => whnf
          refine lO_own (hg5) rfl (by omega) ?_
          conv => whnf
          rw [Nat.zero_add]
          refine pO_sub rfl rfl (((n + 1 : Nat) : Int)) (wr64 (by omega) (by omega) (by omega)) ?_
          conv => whnf
          refine pO_atN u24 s140 rfl rfl (hrv.mono hle5) ((ws_length _).trans hlvl) (ws_get _ (n + 1) (by omega)) fun pAt hAt => ?_
          conv => whnf
          refine lO_at hAt ?_
          conv => whnf
          refine CallsO.go (div64_c _ _ _ htop hvt hu1) ?_
          rintro v h6 hle6 ⟨rfl, rfl⟩
          conv => whnf
          refine LoopV.cut (α := Nat × Nat) (β := Nat) (fun x => [(6, .v (.int .i64 (sz b : Nat))), (9, .v (.int .u64 s)), (10, .v (.slice C (sz b - 0) (sz b + 1 - 0))), (11, .v (.slice (some ⟨gu, 0, none⟩) (sz a + 1) (sz a + 1))), (12, .v (.slice (some ⟨gq, 0, none⟩) (sz a + 1 - sz b) (sz a + 1 - sz b))), (13, .v (.int .i64 (j : Int))), (14, .v (.int .u64 (x.1 : Nat))), (15, .v (.int .u64 (x.2 : Nat)))]) (fun _ => [])
            (fun x h' => h' = h6 ∧ Q ≤ x.1 ∧ x.1 < W ∧ x.2 < W ∧ x.1 * (zv.take (sz b)).getD (n + 1) 0 + x.2 = uc.getD (j + n + 2) 0 * W + uc.getD (j + n + 1) 0) (fun x => x.1) ((uc.getD (j + n + 2) 0 * W + uc.getD (j + n + 1) 0) / (zv.take (sz b)).getD (n + 1) 0, (uc.getD (j + n + 2) 0 * W + uc.getD (j + n + 1) 0) % (zv.take (sz b)).getD (n + 1) 0)
            3 (fun g => [(6, .v (.int .i64 (sz b : Nat))), (9, .v (.int .u64 s)), (10, .v (.slice C (sz b - 0) (sz b + 1 - 0))), (11, .v (.slice (some ⟨gu, 0, none⟩) (sz a + 1) (sz a + 1))), (12, .v (.slice (some ⟨gq, 0, none⟩) (sz a + 1 - sz b) (sz a + 1 - sz b))), (13, .v (.int .i64 (j : Int))), (14, .v (.int .u64 (g : Nat)))]) (fun _ => [])
            (fun g h' => h' = h6 ∧ Q ≤ g ∧ g < W) ⟨rfl, rfl, rfl, rfl, rfl, rfl, rfl, rfl, rfl, rfl, rfl, rfl, rfl, rfl, rfl, rfl, trivial⟩ trivial ⟨rfl, ?_, ?_, Nat.lt_trans (Nat.mod_lt _ (by omega)) hvt, ?_⟩ ?_ ?_
          · dsimp only
            refine guess_div2 (by omega) hvb2 (u2 := uc.getD (j + n) 0) ?_ hu2 hQV
            rw [show uc.getD (j + n) 0 + W * (uc.getD (j + n + 2) 0 * W + uc.getD (j + n + 1) 0) = (uc.getD (j + n + 2) 0 * W + uc.getD (j + n + 1) 0) * W + uc.getD (j + n) 0 from by simp only [W]; omega]
            exact hub2
          · dsimp only
            exact half_ltB htop hu1
          · dsimp only
            rw [Nat.mul_comm]; exact Nat.div_add_mod _ _
          · rintro ⟨g, rs⟩ _ ⟨rfl, hgQ, hgW, hrW, hgr⟩
            dsimp only at hgQ hgW hrW hgr
            dsimp only
            conv => whnf
            refine pO_sub rfl rfl (((n : Nat) : Int)) (wr64 (by omega) (by omega) (by omega)) ?_
            conv => whnf
            refine pO_atN u24 s140 rfl rfl (hrv.mono hle5) ((ws_length _).trans hlvl) (ws_get _ n (by omega)) fun pAt hAt => ?_
            conv => whnf
            refine lO_at hAt ?_
            conv => whnf
            refine CallsO.go (mul64_e g _ hgW hvs) ?_
            rintro v h7 hle7 ⟨rfl, hi, lo, rfl, e1, l1, b1⟩
            conv => whnf
            rcases Nat.lt_or_ge hi rs with hhr | hhr
            · refine pO_lss rfl rfl (true) (decide_eq_true (by omega)) ?_
              conv => whnf
              exact RoundO.go ⟨g, ⟨rfl, rfl, rfl, rfl, rfl, rfl, rfl, rfl, rfl, rfl, rfl, rfl, rfl, rfl, trivial⟩, trivial, rfl, hgQ, hgW⟩
            · refine pO_lss rfl rfl (false) (decide_eq_false (by omega)) ?_
              conv => whnf
              rcases Nat.eq_or_lt_of_le hhr with hhe | hhl
              · subst hhe
                refine pO_eql rfl rfl (true) (beq_iff_eq.2 rfl) ?_
                conv => whnf
                refine pO_add rfl rfl (((j + sz b : Nat) : Int)) (wr64 (by omega) (by omega) (by omega)) ?_
                conv => whnf
                refine pO_sub rfl rfl (((j + n : Nat) : Int)) (wr64 (by omega) (by omega) (by omega)) ?_
                conv => whnf
                refine pO_own u24 s140 rfl rfl (by omega) ?_
                conv => whnf
                refine lO_own (hg5) rfl (by omega) ?_
                conv => whnf
                rw [Nat.zero_add]
                rcases Nat.lt_or_ge (uc.getD (j + n) 0) lo with hlo | hlo
                · refine pO_leq rfl rfl (false) (decide_eq_false (by omega)) ?_
                  conv => whnf
                  have hgt : rs * W + uc.getD (j + n) 0 < g * (zv.take (sz b)).getD n 0 := by
                    rw [← e1]; simp only [W]; omega
                  have hgd : Q < g := guess_down (B := W) (C := W ^ n) (top := uc.getD (j + n + 2) 0 * W + uc.getD (j + n + 1) 0) (u2 := uc.getD (j + n) 0) (by rw [Nat.add_comm, Nat.mul_comm _ W]; exact hvb2) hub2 hQV hgQ hgr hgt
                  obtain ⟨g, rfl⟩ : ∃ g', g = g' + 1 := ⟨g - 1, by omega⟩
                  have hgW' : g + 1 < 18446744073709551616 := hgW
                  refine pO_sub rfl rfl ((g : Int)) (wru64 (by omega) (by omega) (by omega)) ?_
                  conv => whnf
                  refine pO_sub rfl rfl (((n + 1 : Nat) : Int)) (wr64 (by omega) (by omega) (by omega)) ?_
                  conv => whnf
                  refine pO_atN u24 s140 rfl rfl (hrv.mono hle5) ((ws_length _).trans hlvl) (ws_get _ (n + 1) (by omega)) fun pAt hAt => ?_
                  conv => whnf
                  refine lO_at hAt ?_
                  conv => whnf
                  refine pO_add rfl rfl ((((rs + (zv.take (sz b)).getD (n + 1) 0) % W : Nat) : Int)) (wadd _ _) ?_
                  conv => whnf
                  rw [Nat.succ_mul] at hgr
                  rcases Nat.lt_or_ge (rs + (zv.take (sz b)).getD (n + 1) 0) W with hov | hov
                  · rw [Nat.mod_eq_of_lt hov]
                    refine pO_lss rfl rfl (false) (decide_eq_false (by omega)) ?_
                    conv => whnf
                    refine RoundO.go ⟨(g, rs + (zv.take (sz b)).getD (n + 1) 0), ⟨rfl, rfl, rfl, rfl, rfl, rfl, rfl, rfl, rfl, rfl, rfl, rfl, rfl, rfl, rfl, rfl, trivial⟩, trivial, ⟨rfl, by dsimp only; omega, by dsimp only; omega, hov, by dsimp only; omega⟩, Nat.lt_succ_self _⟩
                  · have hmm : (rs + (zv.take (sz b)).getD (n + 1) 0) % W = rs + (zv.take (sz b)).getD (n + 1) 0 - W := by
                      rw [Nat.mod_eq_sub_mod hov, Nat.mod_eq_of_lt (by omega)]
                    rw [hmm]
                    refine pO_lss rfl rfl (true) (decide_eq_true (by omega)) ?_
                    conv => whnf
                    exact RoundO.go ⟨g, ⟨rfl, rfl, rfl, rfl, rfl, rfl, rfl, rfl, rfl, rfl, rfl, rfl, rfl, rfl, trivial⟩, trivial, rfl, by omega, by omega⟩
                · refine pO_leq rfl rfl (true) (decide_eq_true (by omega)) ?_
                  conv => whnf
                  exact RoundO.go ⟨g, ⟨rfl, rfl, rfl, rfl, rfl, rfl, rfl, rfl, rfl, rfl, rfl, rfl, rfl, rfl, trivial⟩, trivial, rfl, hgQ, hgW⟩
              · refine pO_eql rfl rfl (false) (beq_eq_false_iff_ne.2 (by omega)) ?_
                conv => whnf
                have hgt : rs * W + uc.getD (j + n) 0 < g * (zv.take (sz b)).getD n 0 := by
                  rw [← e1]; simp only [W] at hu2 ⊢; omega
                have hgd : Q < g := guess_down (B := W) (C := W ^ n) (top := uc.getD (j + n + 2) 0 * W + uc.getD (j + n + 1) 0) (u2 := uc.getD (j + n) 0) (by rw [Nat.add_comm, Nat.mul_comm _ W]; exact hvb2) hub2 hQV hgQ hgr hgt
                obtain ⟨g, rfl⟩ : ∃ g', g = g' + 1 := ⟨g - 1, by omega⟩
                have hgW' : g + 1 < 18446744073709551616 := hgW
                refine pO_sub rfl rfl ((g : Int)) (wru64 (by omega) (by omega) (by omega)) ?_
                conv => whnf
                refine pO_sub rfl rfl (((n + 1 : Nat) : Int)) (wr64 (by omega) (by omega) (by omega)) ?_
                conv => whnf
                refine pO_atN u24 s140 rfl rfl (hrv.mono hle5) ((ws_length _).trans hlvl) (ws_get _ (n + 1) (by omega)) fun pAt hAt => ?_
                conv => whnf
                refine lO_at hAt ?_
                conv => whnf
                refine pO_add rfl rfl ((((rs + (zv.take (sz b)).getD (n + 1) 0) % W : Nat) : Int)) (wadd _ _) ?_
                conv => whnf
                rw [Nat.succ_mul] at hgr
                rcases Nat.lt_or_ge (rs + (zv.take (sz b)).getD (n + 1) 0) W with hov | hov
                · rw [Nat.mod_eq_of_lt hov]
                  refine pO_lss rfl rfl (false) (decide_eq_false (by omega)) ?_
                  conv => whnf
                  refine RoundO.go ⟨(g, rs + (zv.take (sz b)).getD (n + 1) 0), ⟨rfl, rfl, rfl, rfl, rfl, rfl, rfl, rfl, rfl, rfl, rfl, rfl, rfl, rfl, rfl, rfl, trivial⟩, trivial, ⟨rfl, by dsimp only; omega, by dsimp only; omega, hov, by dsimp only; omega⟩, Nat.lt_succ_self _⟩
                · have hmm : (rs + (zv.take (sz b)).getD (n + 1) 0) % W = rs + (zv.take (sz b)).getD (n + 1) 0 - W := by
                    rw [Nat.mod_eq_sub_mod hov, Nat.mod_eq_of_lt (by omega)]
                  rw [hmm]
                  refine pO_lss rfl rfl (true) (decide_eq_true (by omega)) ?_
                  conv => whnf
                  exact RoundO.go ⟨g, ⟨rfl, rfl, rfl, rfl, rfl, rfl, rfl, rfl, rfl, rfl, rfl, rfl, rfl, rfl, trivial⟩, trivial, rfl, by omega, by omega⟩
          · rintro gs _ ⟨rfl, hgQ, hgW⟩
            dsimp only
            conv => whnf
            refine pO_tail j u24 s140 rfl rfl (by omega) (Nat.le_refl _) (Nat.zero_add _) ?_
            conv => whnf
            refine CallsO.goX rfl (fun k hk => by subst hk; exact ⟨hgu2, by rw [hg5]; rfl⟩) (lose_c hg5 hlow5 hlowvl hlvl (by omega) (by omega) (by omega) (hrv.mono (hle5.to_less hgu)) hgW) ?_
            rintro v h7 hx7 ⟨z1, mi, rfl, hg7, hl7, hlow7, hmi, hv7, hs7⟩
            conv => whnf
            have hle7 : Le h3 h7 := Le.less hx7 hle5 hgu
            have hq7 := hx7 gq _ (fun e => hne e.symm) hq5
            refine pO_add rfl rfl (((j + sz b : Nat) : Int)) (wr64 (by omega) (by omega) (by omega)) ?_
            conv => whnf
            refine pO_add rfl rfl (((j + sz b : Nat) : Int)) (wr64 (by omega) (by omega) (by omega)) ?_
            conv => whnf
            refine pO_own u24 s140 rfl rfl (by omega) ?_
            conv => whnf
            refine lO_own (hg7) rfl (by omega) ?_
            conv => whnf
            have hz1 := low_getD (b := W) (by decide) hlow7 (0 + (j + sz b))
            refine CallsO.go (sub64_0 _ mi hz1 hmi) ?_
            rintro v h8 hle8 ⟨rfl, t1, bo, rfl, e1, l1, b1⟩
            conv => whnf
            refine pO_own u24 s140 rfl rfl (by omega) ?_
            conv => whnf
            refine stO_w (hg7) (hgu2) rfl (by omega) ?_
            conv => whnf
            refine LoopV.by (α := List Nat × Nat × Nat) (fun x => [(6, .v (.int .i64 (sz b : Nat))), (9, .v (.int .u64 s)), (10, .v (.slice C (sz b - 0) (sz b + 1 - 0))), (11, .v (.slice (some ⟨gu, 0, none⟩) (sz a + 1) (sz a + 1))), (12, .v (.slice (some ⟨gq, 0, none⟩) (sz a + 1 - sz b) (sz a + 1 - sz b))), (13, .v (.int .i64 (j : Int))), (14, .v (.int .u64 (x.2.1 : Nat))), (20, .v (.int .u64 (x.2.2 : Nat)))]) (fun _ => [])
              (fun x h' => h' gu = some (.cells (ws x.1).toArray 140 (0, 0)) ∧ h' gq = some (.cells (ws qc).toArray 140 (0, 0)) ∧ Le h3 h' ∧ x.1.length = sz a + 1 ∧ Low W x.1 ∧
                val W x.1 + W ^ j * (x.2.1 * (b * 2 ^ s)) = val W uc + W ^ (j + (n + 3)) * x.2.2 ∧ x.1.take j = uc.take j ∧ x.1.drop (j + n + 3) = uc.drop (j + n + 3) ∧ Q ≤ x.2.1 ∧ x.2.1 < W ∧ x.2.2 ≤ 1) (fun x => x.2.1) (z1.set (0 + (j + sz b)) t1, gs, bo)
              ⟨rfl, rfl, rfl, rfl, rfl, rfl, rfl, rfl, rfl, rfl, rfl, rfl, rfl, rfl, rfl, rfl, trivial⟩ trivial ⟨Heap.upd_same _ _ _, (Heap.upd_ne _ _ hne.symm).trans hq7, hle7.upd_out hgu, by simp; omega, low_set hlow7 _ l1, ?_, ?_, ?_, hgQ, hgW, b1⟩ ?_
            · dsimp only
              have h11 := val_set W z1 (0 + (j + sz b)) t1 (by omega)
              rw [hja] at h11 e1 ⊢
              rw [hvl, show j + (sz b - 0) = j + n + 2 from by omega] at hv7
              exact lose_top (w := W) (by rw [← Nat.pow_succ]; rfl) hv7 h11 e1
            · dsimp only
              rw [List.take_set_of_le (by omega)]
              exact take_ext j hl7 fun k hk => hs7 k (.inl hk)
            · dsimp only
              rw [List.drop_set_of_lt (by omega)]
              exact drop_ext _ hl7 fun k hk => hs7 k (.inr (by omega))
            rintro ⟨zc, g, bo⟩ h6 ⟨hg6, hq6, hle6, hlz, hlowz, hvz, htz, hdz, hgQ, hgW, hbo⟩
            dsimp only at hg6 hq6 hle6 hlz hlowz hvz htz hdz hgQ hgW hbo
            dsimp only
            conv => whnf
            have hsplit1 := val_take_drop W zc j (by omega)
            have hsplit2 := val_take_drop W uc j (by omega)
            rw [htz] at hsplit1
            have hvz' := hvz
            rw [hsplit1, hsplit2] at hvz'
            have hX := strip_step (w := W ^ (n + 3)) (Nat.pow_pos (by decide)) (by rw [← Nat.pow_add]) hvz'
            have hXlt : val W (zc.drop j) < W ^ (n + 3) := by
              have h11 := val_take_drop W (zc.drop j) (n + 3) (by simp; omega)
              rw [List.drop_drop, show j + (n + 3) = j + n + 3 from by omega, hdz, hz0, Nat.mul_zero, Nat.add_zero] at h11
              have h12 := val_lt (low_take (low_drop hlowz j) (n + 3))
              rw [List.length_take, List.length_drop, Nat.min_eq_left (by omega)] at h12
              omega
            rcases Nat.eq_zero_or_pos bo with rfl | hbo1
            · refine pO_gtr rfl rfl (false) (rfl) ?_
              conv => whnf
              rw [Nat.mul_zero, Nat.add_zero] at hX
              obtain ⟨hgq1, hXm⟩ := quo_exact hV0 (by rw [hQ]; exact hgQ) hX
              refine pO_own u24 s140 rfl rfl (by omega) ?_
              conv => whnf
              refine stO_w (hq6) (hgq2) rfl (by omega) ?_
              conv => whnf
              refine pO_sub rfl rfl ((j : Int) - 1) (wr64 rfl (by omega) (by omega)) ?_
              conv => whnf
              refine RoundO.go ⟨(zc, qc.set (0 + j) g, j), ⟨rfl, rfl, rfl, rfl, rfl, rfl, rfl, rfl, rfl, rfl, rfl, rfl, trivial⟩, trivial, ⟨(Heap.upd_ne _ _ hne).trans hg6, Heap.upd_same _ _ _, hle6.upd_out hgq3, hlz, by simp [hlq5], hlowz, low_set hlowq5 _ hgW, by dsimp only; omega, ?_, ?_⟩, by dsimp only; omega⟩
              all_goals dsimp only
              · rw [Nat.zero_add, val_drop_succ W _ j (by simp; omega), getD_set_eq (by omega), List.drop_set_of_lt (by omega)]
                rw [Nat.pow_succ] at hval
                exact quo_join hval (by rw [hvz, Nat.mul_zero, Nat.add_zero])
              · rw [hXm]; exact Nat.mod_lt _ hV0
            · have hbo2 : bo = 1 := by omega
              subst hbo2
              have hgm := guess_more (Q := Q) hXlt hQV hX
              obtain ⟨g, rfl⟩ : ∃ g', g = g' + 1 := ⟨g - 1, by omega⟩
              refine pO_gtr rfl rfl (true) (rfl) ?_
              conv => whnf
              have hgW' : g + 1 < 18446744073709551616 := hgW
              refine pO_sub rfl rfl ((g : Int)) (wru64 (by omega) (by omega) (by omega)) ?_
              conv => whnf
              refine pO_tail j u24 s140 rfl rfl (by omega) (Nat.le_refl _) (Nat.zero_add _) ?_
              conv => whnf
              refine CallsO.goX rfl (fun k hk => by subst hk; exact ⟨hgu2, by rw [hg6]; rfl⟩) (gain_c (a := 1) hg6 hlowz hlowvl hlvl (by omega) (by omega) (by omega) (hrv.mono (hle6.to_less hgu)) (by decide)) ?_
              rintro v h7 hx7 ⟨z2, ov, rfl, hg7, hl7, hlow7, hov, hv7, hs7⟩
              conv => whnf
              have hle7 : Le h3 h7 := Le.less hx7 hle6 hgu
              have hq7 := hx7 gq _ (fun e => hne e.symm) hq6
              refine pO_add rfl rfl (((j + sz b : Nat) : Int)) (wr64 (by omega) (by omega) (by omega)) ?_
              conv => whnf
              refine pO_add rfl rfl (((j + sz b : Nat) : Int)) (wr64 (by omega) (by omega) (by omega)) ?_
              conv => whnf
              refine pO_own u24 s140 rfl rfl (by omega) ?_
              conv => whnf
              refine lO_own (hg7) rfl (by omega) ?_
              conv => whnf
              have hz2 := low_getD (b := W) (by decide) hlow7 (0 + (j + sz b))
              refine CallsO.go (add64_0 _ ov hz2 hov) ?_
              rintro v h8 hle8 ⟨rfl, t2, ba, rfl, e2, l2, b2⟩
              conv => whnf
              refine pO_own u24 s140 rfl rfl (by omega) ?_
              conv => whnf
              refine stO_w (hg7) (hgu2) rfl (by omega) ?_
              conv => whnf
              refine pO_sub rfl rfl (((1 - ba : Nat) : Int)) (wru64 (by omega) (by omega) (by omega)) ?_
              conv => whnf
              refine RoundO.go ⟨(z2.set (0 + (j + sz b)) t2, g, 1 - ba), ⟨rfl, rfl, rfl, rfl, rfl, rfl, rfl, rfl, rfl, rfl, rfl, rfl, rfl, rfl, rfl, rfl, trivial⟩, trivial, ⟨Heap.upd_same _ _ _, (Heap.upd_ne _ _ hne.symm).trans hq7, hle7.upd_out hgu, by simp; omega, low_set hlow7 _ l2, ?_, ?_, ?_, by dsimp only; omega, by dsimp only; omega, by dsimp only; omega⟩, by dsimp only; omega⟩
              all_goals dsimp only
              · have h11 := val_set W z2 (0 + (j + sz b)) t2 (by omega)
                rw [hja] at h11 e2 ⊢
                rw [hvl, show j + (sz b - 0) = j + n + 2 from by omega] at hv7
                have h12 := gain_top (w := W) (M := W ^ (j + (n + 3))) (by rw [← Nat.pow_succ]; rfl) hv7 h11 e2
                exact back_step b2 h12 hvz
              · rw [List.take_set_of_le (by omega), ← htz]
                exact take_ext j (hl7.trans rfl) fun k hk => hs7 k (.inl hk)
              · rw [List.drop_set_of_lt (by omega), ← hdz]
                exact drop_ext _ (hl7.trans rfl) fun k hk => hs7 k (.inr (by omega))
        · refine pO_lss rfl rfl (false) (decide_eq_false (by omega)) ?_
          conv => whnf
          have hgW : 18446744073709551615 < W := by decide
          have hgQ : Q ≤ 18446744073709551615 := by simp only [W] at hQW; omega
          refine pO_tail j u24 s140 rfl rfl (by omega) (Nat.le_refl _) (Nat.zero_add _) ?_
          conv => whnf
          refine CallsO.goX rfl (fun k hk => by subst hk; exact ⟨hgu2, by rw [hg5]; rfl⟩) (lose_c (a := 18446744073709551615) hg5 hlow5 hlowvl hlvl (by omega) (by omega) (by omega) (hrv.mono (hle5.to_less hgu)) hgW) ?_
          rintro v h7 hx7 ⟨z1, mi, rfl, hg7, hl7, hlow7, hmi, hv7, hs7⟩
          conv => whnf
          have hle7 : Le h3 h7 := Le.less hx7 hle5 hgu
          have hq7 := hx7 gq _ (fun e => hne e.symm) hq5
          refine pO_add rfl rfl (((j + sz b : Nat) : Int)) (wr64 (by omega) (by omega) (by omega)) ?_
          conv => whnf
          refine pO_add rfl rfl (((j + sz b : Nat) : Int)) (wr64 (by omega) (by omega) (by omega)) ?_
          conv => whnf
          refine pO_own u24 s140 rfl rfl (by omega) ?_
          conv => whnf
          refine lO_own (hg7) rfl (by omega) ?_
          conv => whnf
          have hz1 := low_getD (b := W) (by decide) hlow7 (0 + (j + sz b))
          refine CallsO.go (sub64_0 _ mi hz1 hmi) ?_
          rintro v h8 hle8 ⟨rfl, t1, bo, rfl, e1, l1, b1⟩
          conv => whnf
          refine pO_own u24 s140 rfl rfl (by omega) ?_
          conv => whnf
          refine stO_w (hg7) (hgu2) rfl (by omega) ?_
          conv => whnf
          refine LoopV.by (α := List Nat × Nat × Nat) (fun x => [(6, .v (.int .i64 (sz b : Nat))), (9, .v (.int .u64 s)), (10, .v (.slice C (sz b - 0) (sz b + 1 - 0))), (11, .v (.slice (some ⟨gu, 0, none⟩) (sz a + 1) (sz a + 1))), (12, .v (.slice (some ⟨gq, 0, none⟩) (sz a + 1 - sz b) (sz a + 1 - sz b))), (13, .v (.int .i64 (j : Int))), (14, .v (.int .u64 (x.2.1 : Nat))), (20, .v (.int .u64 (x.2.2 : Nat)))]) (fun _ => [])
            (fun x h' => h' gu = some (.cells (ws x.1).toArray 140 (0, 0)) ∧ h' gq = some (.cells (ws qc).toArray 140 (0, 0)) ∧ Le h3 h' ∧ x.1.length = sz a + 1 ∧ Low W x.1 ∧
              val W x.1 + W ^ j * (x.2.1 * (b * 2 ^ s)) = val W uc + W ^ (j + (n + 3)) * x.2.2 ∧ x.1.take j = uc.take j ∧ x.1.drop (j + n + 3) = uc.drop (j + n + 3) ∧ Q ≤ x.2.1 ∧ x.2.1 < W ∧ x.2.2 ≤ 1) (fun x => x.2.1) (z1.set (0 + (j + sz b)) t1, 18446744073709551615, bo)
            ⟨rfl, rfl, rfl, rfl, rfl, rfl, rfl, rfl, rfl, rfl, rfl, rfl, rfl, rfl, rfl, rfl, trivial⟩ trivial ⟨Heap.upd_same _ _ _, (Heap.upd_ne _ _ hne.symm).trans hq7, hle7.upd_out hgu, by simp; omega, low_set hlow7 _ l1, ?_, ?_, ?_, hgQ, hgW, b1⟩ ?_
          · dsimp only
            have h11 := val_set W z1 (0 + (j + sz b)) t1 (by omega)
            rw [hja] at h11 e1 ⊢
            rw [hvl, show j + (sz b - 0) = j + n + 2 from by omega] at hv7
            exact lose_top (w := W) (by rw [← Nat.pow_succ]; rfl) hv7 h11 e1
          · dsimp only
            rw [List.take_set_of_le (by omega)]
            exact take_ext j hl7 fun k hk => hs7 k (.inl hk)
          · dsimp only
            rw [List.drop_set_of_lt (by omega)]
            exact drop_ext _ hl7 fun k hk => hs7 k (.inr (by omega))
          rintro ⟨zc, g, bo⟩ h6 ⟨hg6, hq6, hle6, hlz, hlowz, hvz, htz, hdz, hgQ, hgW, hbo⟩
          dsimp only at hg6 hq6 hle6 hlz hlowz hvz htz hdz hgQ hgW hbo
          dsimp only
          conv => whnf
          have hsplit1 := val_take_drop W zc j (by omega)
          have hsplit2 := val_take_drop W uc j (by omega)
          rw [htz] at hsplit1
          have hvz' := hvz
          rw [hsplit1, hsplit2] at hvz'
          have hX := strip_step (w := W ^ (n + 3)) (Nat.pow_pos (by decide)) (by rw [← Nat.pow_add]) hvz'
          have hXlt : val W (zc.drop j) < W ^ (n + 3) := by
            have h11 := val_take_drop W (zc.drop j) (n + 3) (by simp; omega)
            rw [List.drop_drop, show j + (n + 3) = j + n + 3 from by omega, hdz, hz0, Nat.mul_zero, Nat.add_zero] at h11
            have h12 := val_lt (low_take (low_drop hlowz j) (n + 3))
            rw [List.length_take, List.length_drop, Nat.min_eq_left (by omega)] at h12
            omega
          rcases Nat.eq_zero_or_pos bo with rfl | hbo1
          · refine pO_gtr rfl rfl (false) (rfl) ?_
            conv => whnf
            rw [Nat.mul_zero, Nat.add_zero] at hX
            obtain ⟨hgq1, hXm⟩ := quo_exact hV0 (by rw [hQ]; exact hgQ) hX
            refine pO_own u24 s140 rfl rfl (by omega) ?_
            conv => whnf
            refine stO_w (hq6) (hgq2) rfl (by omega) ?_
            conv => whnf
            refine pO_sub rfl rfl ((j : Int) - 1) (wr64 rfl (by omega) (by omega)) ?_
            conv => whnf
            refine RoundO.go ⟨(zc, qc.set (0 + j) g, j), ⟨rfl, rfl, rfl, rfl, rfl, rfl, rfl, rfl, rfl, rfl, rfl, rfl, trivial⟩, trivial, ⟨(Heap.upd_ne _ _ hne).trans hg6, Heap.upd_same _ _ _, hle6.upd_out hgq3, hlz, by simp [hlq5], hlowz, low_set hlowq5 _ hgW, by dsimp only; omega, ?_, ?_⟩, by dsimp only; omega⟩
            all_goals dsimp only
            · rw [Nat.zero_add, val_drop_succ W _ j (by simp; omega), getD_set_eq (by omega), List.drop_set_of_lt (by omega)]
              rw [Nat.pow_succ] at hval
              exact quo_join hval (by rw [hvz, Nat.mul_zero, Nat.add_zero])
            · rw [hXm]; exact Nat.mod_lt _ hV0
          · have hbo2 : bo = 1 := by omega
            subst hbo2
            have hgm := guess_more (Q := Q) hXlt hQV hX
            obtain ⟨g, rfl⟩ : ∃ g', g = g' + 1 := ⟨g - 1, by omega⟩
            refine pO_gtr rfl rfl (true) (rfl) ?_
            conv => whnf
            have hgW' : g + 1 < 18446744073709551616 := hgW
            refine pO_sub rfl rfl ((g : Int)) (wru64 (by omega) (by omega) (by omega)) ?_
            conv => whnf
            refine pO_tail j u24 s140 rfl rfl (by omega) (Nat.le_refl _) (Nat.zero_add _) ?_
            conv => whnf
            refine CallsO.goX rfl (fun k hk => by subst hk; exact ⟨hgu2, by rw [hg6]; rfl⟩) (gain_c (a := 1) hg6 hlowz hlowvl hlvl (by omega) (by omega) (by omega) (hrv.mono (hle6.to_less hgu)) (by decide)) ?_
            rintro v h7 hx7 ⟨z2, ov, rfl, hg7, hl7, hlow7, hov, hv7, hs7⟩
            conv => whnf
            have hle7 : Le h3 h7 := Le.less hx7 hle6 hgu
            have hq7 := hx7 gq _ (fun e => hne e.symm) hq6
            refine pO_add rfl rfl (((j + sz b : Nat) : Int)) (wr64 (by omega) (by omega) (by omega)) ?_
            conv => whnf
            refine pO_add rfl rfl (((j + sz b : Nat) : Int)) (wr64 (by omega) (by omega) (by omega)) ?_
            conv => whnf
            refine pO_own u24 s140 rfl rfl (by omega) ?_
            conv => whnf
            refine lO_own (hg7) rfl (by omega) ?_
            conv => whnf
            have hz2 := low_getD (b := W) (by decide) hlow7 (0 + (j + sz b))
            refine CallsO.go (add64_0 _ ov hz2 hov) ?_
            rintro v h8 hle8 ⟨rfl, t2, ba, rfl, e2, l2, b2⟩
            conv => whnf
            refine pO_own u24 s140 rfl rfl (by omega) ?_
            conv => whnf
            refine stO_w (hg7) (hgu2) rfl (by omega) ?_
            conv => whnf
            refine pO_sub rfl rfl (((1 - ba : Nat) : Int)) (wru64 (by omega) (by omega) (by omega)) ?_
            conv => whnf
            refine RoundO.go ⟨(z2.set (0 + (j + sz b)) t2, g, 1 - ba), ⟨rfl, rfl, rfl, rfl, rfl, rfl, rfl, rfl, rfl, rfl, rfl, rfl, rfl, rfl, rfl, rfl, trivial⟩, trivial, ⟨Heap.upd_same _ _ _, (Heap.upd_ne _ _ hne.symm).trans hq7, hle7.upd_out hgu, by simp; omega, low_set hlow7 _ l2, ?_, ?_, ?_, by dsimp only; omega, by dsimp only; omega, by dsimp only; omega⟩, by dsimp only; omega⟩
            all_goals dsimp only
            · have h11 := val_set W z2 (0 + (j + sz b)) t2 (by omega)
              rw [hja] at h11 e2 ⊢
              rw [hvl, show j + (sz b - 0) = j + n + 2 from by omega] at hv7
              have h12 := gain_top (w := W) (M := W ^ (j + (n + 3))) (by rw [← Nat.pow_succ]; rfl) hv7 h11 e2
              exact back_step b2 h12 hvz
            · rw [List.take_set_of_le (by omega), ← htz]
              exact take_ext j (hl7.trans rfl) fun k hk => hs7 k (.inl hk)
            · rw [List.drop_set_of_lt (by omega), ← hdz]
              exact drop_ext _ (hl7.trans rfl) fun k hk => hs7 k (.inr (by omega))
end
end Go.Proofs.YtplaobhghfndgaaGreatDoor
