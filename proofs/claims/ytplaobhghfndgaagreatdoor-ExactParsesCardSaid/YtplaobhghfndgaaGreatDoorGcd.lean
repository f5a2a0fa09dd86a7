import Derived.Test.YtplaobhghfndgaaGreatDoorQuo
import Derived.Test.YtplaobhghfndgaaGreatDoorRatq
import Derived.Test.YtplaobhghfndgaaGreatDoorTxt
/-! Limbs, part 5: divisors, powers, factors. -/
set_option linter.unusedVariables false
set_option linter.unusedSimpArgs false
set_option maxRecDepth 100000
namespace Go.Proofs.YtplaobhghfndgaaGreatDoor
open Go Go.Proofs.Vc
attribute [local irreducible] CallsO EffO PureO LoadO StoreO EndO LoopV RoundO
theorem sz_le {n k : Nat} (h : n < W ^ k) : sz n ≤ k := dig_length_le w2 h
theorem sz_mono {n m : Nat} (h : n ≤ m) : sz n ≤ sz m := dig_length_mono w2 h
theorem lt_sz (n : Nat) : n < W ^ sz n := lt_of_dig_length w2 n
theorem sz_eq_zero {n : Nat} : sz n = 0 ↔ n = 0 := by
  unfold sz; rw [List.length_eq_zero_iff]; exact dig_eq_nil w2
theorem sz_mul (a b : Nat) : sz (a * b) ≤ sz a + sz b := by
  apply sz_le
  rw [Nat.pow_add]
  exact Nat.mul_lt_mul'' (lt_sz a) (lt_sz b)
theorem sz_word {a : Nat} (h : a < W) : sz a ≤ 1 := sz_le (by rw [Nat.pow_one]; exact h)
theorem sz_two {n k : Nat} (h : n ≤ 2 ^ k) : sz n ≤ k + 1 := by
  apply sz_le
  have h1 : (2 : Nat) ^ k < 2 ^ (k + 1) := Nat.pow_lt_pow_right (by decide) (Nat.lt_succ_self k)
  have h2 : (2 : Nat) ^ (k + 1) ≤ W ^ (k + 1) := Nat.pow_le_pow_left (by decide) _
  omega
theorem word_of_sz {a : Nat} (h : sz a = 1) : (dig W a).getD 0 0 = a ∧ a < W := by
  have hd : (dig W a).length = 1 := h
  obtain ⟨d, hd⟩ := List.length_eq_one_iff.1 hd
  have hv := val_dig w2 a
  rw [hd] at hv ⊢
  have : d = a := by simpa [val] using hv
  subst this
  exact ⟨rfl, by have := lt_sz d; rw [h, Nat.pow_one] at this; exact this⟩
section
variable {h : Heap}
theorem Lim.row {h : Heap} {A : Option Addr} {n c k : Nat} (H : Lim h (.slice A n c) k) : n = sz k ∧ n ≤ c ∧ Row h A (ws (dig W k)) := by
  obtain ⟨A', c', h1, h2, h3⟩ := H.open
  cases h1
  exact ⟨rfl, h2, h3⟩
theorem gcd_c {x y : Value} {a b : Nat} (hx : Lim h x a) (hy : Lim h y b) (hb : sz a + sz b < 549755813880) : CallGo Tryz.prog 152 #[x, y] h NoX fun v h' => Lim h' v (Nat.gcd a b) := by
  have hx' := hx
  have hy' := hy
  obtain ⟨A, ca, rfl, hca, hra⟩ := hx.open
  obtain ⟨B, cb, rfl, hcb, hrb⟩ := hy.open
  refine v_fn tb k152 [.slice A (sz a) ca, .slice B (sz b) cb] rfl ?_
  conv => whnf
  refine LoopV.by (α := Nat × Nat × (Option Addr × Nat) × (Option Addr × Nat)) (fun x => [(0, .v (.slice x.2.2.1.1 (sz x.1) x.2.2.1.2)), (1, .v (.slice x.2.2.2.1 (sz x.2.1) x.2.2.2.2))]) (fun _ => [])
    (fun x h' => Lim h' (.slice x.2.2.1.1 (sz x.1) x.2.2.1.2) x.1 ∧ Lim h' (.slice x.2.2.2.1 (sz x.2.1) x.2.2.2.2) x.2.1 ∧ sz x.1 ≤ sz a + sz b ∧ sz x.2.1 ≤ sz a + sz b ∧ Nat.gcd x.1 x.2.1 = Nat.gcd a b) (fun x => x.2.1) (a, b, (A, ca), (B, cb))
    ⟨rfl, rfl, rfl, rfl, trivial⟩ trivial ⟨hx', hy', by dsimp only; omega, by dsimp only; omega, rfl⟩ ?_
  rintro ⟨p, q, ⟨A, ca⟩, B, cb⟩ h1 ⟨hp, hq, hsp, hsq, hg⟩
  dsimp only at hp hq hsp hsq hg
  dsimp only
  conv => whnf
  rcases Nat.eq_zero_or_pos q with rfl | hq0
  · have hs0 : sz 0 = 0 := sz_eq_zero.2 rfl
    refine pO_gtr rfl rfl (false) (by rw [hs0]; rfl) ?_
    conv => whnf
    rw [Nat.gcd_zero_right] at hg
    exact EndO.go (by rw [← hg]; exact hp)
  · have hs0 : 0 < sz q := by
      rcases Nat.eq_zero_or_pos (sz q) with h0 | h0
      · have := sz_eq_zero.1 h0; omega
      · exact h0
    refine pO_gtr rfl rfl (true) (decide_eq_true (by omega)) ?_
    conv => whnf
    by_cases hp1 : sz p = 1
    · refine pO_eql rfl rfl (true) (by rw [hp1]; rfl) ?_
      conv => whnf
      by_cases hq1 : sz q = 1
      · refine pO_eql rfl rfl (true) (by rw [hq1]; rfl) ?_
        conv => whnf
        obtain ⟨_, _, hrp⟩ := hp.row
        obtain ⟨_, _, hrq⟩ := hq.row
        obtain ⟨wp1, wp2⟩ := word_of_sz hp1
        obtain ⟨wq1, wq2⟩ := word_of_sz hq1
        refine pO_at1 u24 s140 rfl rfl (hrp) (ws_length _) (by decide) (ws_get _ 0 (by unfold sz at hp1; omega)) fun pAt hAt => ?_
        conv => whnf
        refine lO_at hAt ?_
        conv => whnf
        refine pO_at1 u24 s140 rfl rfl (hrq) (ws_length _) (by decide) (ws_get _ 0 (by unfold sz at hq1; omega)) fun pAt hAt => ?_
        conv => whnf
        refine lO_at hAt ?_
        conv => whnf
        rw [wp1, wq1]
        refine LoopV.by (α := Nat × Nat) (fun x => [(5, .v (.int .u64 (x.1 : Nat))), (6, .v (.int .u64 (x.2 : Nat)))]) (fun _ => [])
          (fun x h' => x.1 < W ∧ x.2 < W ∧ Nat.gcd x.1 x.2 = Nat.gcd a b) (fun x => x.2) (p, q)
          ⟨rfl, rfl, rfl, rfl, trivial⟩ trivial ⟨wp2, wq2, hg⟩ ?_
        rintro ⟨p', q'⟩ h2 ⟨hp', hq', hg'⟩
        dsimp only at hp' hq' hg'
        dsimp only
        conv => whnf
        rcases Nat.eq_zero_or_pos q' with rfl | hq2
        · refine pO_gtr rfl rfl (false) (rfl) ?_
          conv => whnf
          rw [Nat.gcd_zero_right] at hg'
          refine eO_lits [.int .u64 (p' : Int)] u24 s140 z140 (by decide) rfl rfl (fun v hv => by rw [List.mem_singleton.1 hv]; rfl) fun g hg => ?_
          conv => whnf
          refine EndO.go ?_
          rw [← hg']
          have hgp : 0 < Nat.gcd p q := Nat.gcd_pos_of_pos_right _ hq0
          exact lim_one (Heap.upd_same _ _ _) (by rw [hg'] ; omega) hp' rfl
        · refine pO_gtr rfl rfl (true) (decide_eq_true (by omega)) ?_
          conv => whnf
          refine pO_rem rfl rfl (by omega) (((p' % q' : Nat) : Int)) ((Int.ofNat_tmod p' q').symm) ?_
          conv => whnf
          refine RoundO.go ⟨(q', p' % q'), ⟨rfl, rfl, rfl, rfl, trivial⟩, trivial, ⟨hq', ?_, ?_⟩, Nat.mod_lt _ hq2⟩
          · exact Nat.lt_trans (Nat.mod_lt _ hq2) hq'
          · dsimp only
            rw [← hg', Nat.gcd_comm q', ← Nat.gcd_rec, Nat.gcd_comm]
      · refine pO_eql rfl rfl (false) (beq_eq_false_iff_ne.2 (by omega)) ?_
        conv => whnf
        refine CallsO.go (div_c hp hq hq0 (by omega)) ?_
        rintro v h2 hle2 ⟨q1, r1, rfl, hq2, hr2⟩
        conv => whnf
        obtain ⟨R, cr, rfl, hcr, hrr⟩ := hr2.open
        refine RoundO.go ⟨(q, p % q, (B, cb), (R, cr)), ⟨rfl, rfl, rfl, rfl, trivial⟩, trivial, ⟨hq.mono hle2, hr2, hsq, ?_, ?_⟩, Nat.mod_lt _ hq0⟩
        · exact Nat.le_trans (sz_mono (Nat.le_of_lt (Nat.mod_lt _ hq0))) hsq
        · dsimp only
          rw [← hg, Nat.gcd_comm q, ← Nat.gcd_rec, Nat.gcd_comm]
    · refine pO_eql rfl rfl (false) (beq_eq_false_iff_ne.2 (by omega)) ?_
      conv => whnf
      refine CallsO.go (div_c hp hq hq0 (by omega)) ?_
      rintro v h2 hle2 ⟨q1, r1, rfl, hq2, hr2⟩
      conv => whnf
      obtain ⟨R, cr, rfl, hcr, hrr⟩ := hr2.open
      refine RoundO.go ⟨(q, p % q, (B, cb), (R, cr)), ⟨rfl, rfl, rfl, rfl, trivial⟩, trivial, ⟨hq.mono hle2, hr2, hsq, ?_, ?_⟩, Nat.mod_lt _ hq0⟩
      · exact Nat.le_trans (sz_mono (Nat.le_of_lt (Nat.mod_lt _ hq0))) hsq
      · dsimp only
        rw [← hg, Nat.gcd_comm q, ← Nat.gcd_rec, Nat.gcd_comm]
theorem and1_i64 (n : Nat) (hn : n < 9223372036854775808) : IntKind.i64.wrap ((BitVec.ofInt IntKind.i64.bits (n : Int) &&& BitVec.ofInt IntKind.i64.bits 1).toNat : Int) = ((n % 2 : Nat) : Int) := by
  have h0 : (BitVec.ofInt IntKind.i64.bits (n : Int) &&& BitVec.ofInt IntKind.i64.bits 1).toNat = n % 2 := by
    show (BitVec.ofInt 64 (n : Int) &&& BitVec.ofInt 64 ((1 : Nat) : Int)).toNat = _
    rw [ofInt_nat, ofInt_nat, BitVec.toNat_and]
    have h1 : (BitVec.ofNat 64 n).toNat = n := by rw [BitVec.toNat_ofNat, Nat.mod_eq_of_lt (by omega)]
    have h2 : (BitVec.ofNat 64 1).toNat = 1 := by decide
    rw [h1, h2, Nat.and_one_is_mod]
  exact wr64 (by rw [h0]) (by omega) (by omega)
theorem shr1_i64 (n : Nat) : (n : Int).fdiv (2 ^ (min (1 : Int).toNat IntKind.i64.bits)) = ((n / 2 : Nat) : Int) := by
  have h1 : (2 : Int) ^ (min (1 : Int).toNat IntKind.i64.bits) = ((2 : Nat) : Int) := by decide
  rw [h1, Int.fdiv_eq_ediv_of_nonneg _ (by omega), Int.natCast_ediv]
theorem pow_half {p f n : Nat} : (n % 2 = 1 → p * f * (f * f) ^ (n / 2) = p * f ^ n) ∧ (n % 2 = 0 → p * (f * f) ^ (n / 2) = p * f ^ n) := by
  have h1 := Nat.div_add_mod n 2
  have h2 : (f * f) ^ (n / 2) = f ^ (2 * (n / 2)) := by rw [Nat.pow_mul, Nat.pow_two]
  refine ⟨fun h => ?_, fun h => ?_⟩
  · rw [h2]
    conv => rhs; rw [← h1, h, Nat.pow_succ]
    rw [Nat.mul_assoc, Nat.mul_comm f]
  · rw [h2]
    conv => rhs; rw [← h1, h, Nat.add_zero]
/-- The power of a word. -/
theorem power_c {a n : Nat} (ha0 : 0 < a) (ha : a < W) (hn : n < 1073741824) : CallGo Tryz.prog 114 #[.int .u64 a, .int .i64 n] h NoX fun v h' => Lim h' v (a ^ n) := by
  refine v_fn tb k114 [.int .u64 a, .int .i64 n] rfl ?_
  conv => whnf
  refine CallsO.go (ones_c) ?_
  rintro v h1 hle1 hv1
  conv => whnf
  refine eO_lits [.int .u64 (a : Int)] u24 s140 z140 (by decide) rfl rfl (fun v hv => by rw [List.mem_singleton.1 hv]; rfl) fun g hg => ?_
  conv => whnf
  have hf := lim_one (h := h1.upd g (.cells #[.int .u64 (a : Int)] 140 (0, 0))) (Heap.upd_same _ _ _) (Nat.ne_of_gt ha0) ha rfl
  refine LoopV.by (α := Nat × Nat × Nat × Nat × Value × Value) (fun x => [(1, .v (.int .i64 (x.1 : Nat))), (5, .v x.2.2.2.2.1), (6, .v x.2.2.2.2.2)]) (fun _ => [])
    (fun x h' => Lim h' x.2.2.2.2.1 x.2.1 ∧ Lim h' x.2.2.2.2.2 x.2.2.1 ∧ x.2.1 * x.2.2.1 ^ x.1 = a ^ n ∧ x.2.2.1 = a ^ x.2.2.2.1 ∧ 0 < x.2.2.2.1 ∧ x.2.2.2.1 * x.1 ≤ n ∧ x.2.2.2.1 ≤ 2 * n + 1 ∧ x.2.1 ≤ a ^ n) (fun x => x.1) (n, 1, a, 1, v, .slice (some ⟨g, 0, none⟩) 1 1)
    ⟨rfl, rfl, rfl, rfl, rfl, rfl, trivial⟩ trivial ⟨hv1.mono (Le.upd hg), hf, by dsimp only; rw [Nat.one_mul], by dsimp only; rw [Nat.pow_one], Nat.one_pos, by dsimp only; omega, by dsimp only; omega, Nat.pow_pos ha0⟩ ?_
  rintro ⟨k, p, f, e, pv, fv⟩ h2 ⟨hp, hf, hpf, hfe, he, hek, hen, hpn⟩
  dsimp only at hp hf hpf hfe he hek hen hpn
  dsimp only
  conv => whnf
  have hk : k ≤ n := by
    have := Nat.le_mul_of_pos_left k he
    omega
  have hbig : ∀ m x : Nat, x ≤ a ^ m → m ≤ 2 * n + 1 → sz x ≤ 2 * n + 1 := fun m x hx hm => by
    apply sz_le
    have h6 : a ^ m ≤ a ^ (2 * n + 1) := Nat.pow_le_pow_right ha0 hm
    have h7 : a ^ (2 * n + 1) < W ^ (2 * n + 1) := Nat.pow_lt_pow_left ha (by omega)
    omega
  have hsp := hbig n p hpn (by omega)
  have hsf := hbig e f (by rw [hfe]; exact Nat.le_refl _) hen
  rcases Nat.eq_zero_or_pos k with rfl | hk0
  · refine pO_gtr rfl rfl (false) (rfl) ?_
    conv => whnf
    rw [Nat.pow_zero, Nat.mul_one] at hpf
    exact EndO.go (by rw [← hpf]; exact hp)
  · refine pO_gtr rfl rfl (true) (decide_eq_true (by omega)) ?_
    conv => whnf
    refine pO_and rfl rfl (((k % 2 : Nat) : Int)) (and1_i64 k (by omega)) ?_
    conv => whnf
    have hen2 : e ≤ n := by
      have := Nat.le_mul_of_pos_right e hk0
      omega
    have hek2 : 2 * e * (k / 2) ≤ n := by
      have h6 : 2 * e * (k / 2) = e * (2 * (k / 2)) := by rw [Nat.mul_comm 2 e, Nat.mul_assoc]
      have h7 : e * (2 * (k / 2)) ≤ e * k := Nat.mul_le_mul_left _ (by omega)
      omega
    have hff : f * f = a ^ (2 * e) := by rw [hfe, Nat.two_mul, Nat.pow_add]
    rcases Nat.mod_two_eq_zero_or_one k with hm | hm
    · rw [hm]
      refine pO_eql rfl rfl (false) (rfl) ?_
      conv => whnf
      refine CallsO.go (mul_c hf hf (by omega)) ?_
      rintro w h3 hle3 hw
      conv => whnf
      refine pO_shr rfl rfl (by decide) ((k / 2 : Nat) : Int) (shr1_i64 k) ?_
      conv => whnf
      exact RoundO.go ⟨(k / 2, p, f * f, 2 * e, pv, w), ⟨rfl, rfl, rfl, rfl, rfl, rfl, trivial⟩, trivial, ⟨hp.mono hle3, hw, by dsimp only; rw [pow_half.2 hm]; exact hpf, hff, by dsimp only; omega, hek2, by dsimp only; omega, hpn⟩, by dsimp only; omega⟩
    · rw [hm]
      refine pO_eql rfl rfl (true) (rfl) ?_
      conv => whnf
      refine CallsO.go (mul_c hp hf (by omega)) ?_
      rintro u h3 hle3 hu
      conv => whnf
      refine CallsO.go (mul_c (hf.mono hle3) (hf.mono hle3) (by omega)) ?_
      rintro w h4 hle4 hw
      conv => whnf
      refine pO_shr rfl rfl (by decide) ((k / 2 : Nat) : Int) (shr1_i64 k) ?_
      conv => whnf
      have hpf2 : p * f * (f * f) ^ (k / 2) = a ^ n := by rw [pow_half.1 hm]; exact hpf
      refine RoundO.go ⟨(k / 2, p * f, f * f, 2 * e, u, w), ⟨rfl, rfl, rfl, rfl, rfl, rfl, trivial⟩, trivial, ⟨hu.mono hle4, hw, hpf2, hff, by dsimp only; omega, hek2, by dsimp only; omega, ?_⟩, by dsimp only; omega⟩
      dsimp only
      rw [← hpf2]
      exact Nat.le_mul_of_pos_right _ (Nat.pow_pos (Nat.mul_pos (by rw [hfe]; exact Nat.pow_pos ha0) (by rw [hfe]; exact Nat.pow_pos ha0)))
/-- The absolute value of an int64. -/
theorem size_c {z : Int} (h0 : -9223372036854775808 ≤ z) (h1 : z < 9223372036854775808) : CallGo Tryz.prog 131 #[.int .i64 z] h NoX fun v h' => Lim h' v z.natAbs := by
  refine v_fn tb k131 [.int .i64 z] rfl ?_
  conv => whnf
  rcases Int.lt_or_le z 0 with hz | hz
  · refine pO_lss rfl rfl (true) (decide_eq_true hz) ?_
    conv => whnf
    refine pO_conv (by rfl) (show Tryz.prog.underlying 140 = some (.int .u64) by kernel_rfl) rfl (z + 18446744073709551616) (by rw [IntKind.wrap_u64]; omega) ?_
    conv => whnf
    refine pO_neg rfl (((z.natAbs : Nat) : Int)) ((by rw [IntKind.wrap_u64]; omega)) ?_
    conv => whnf
    refine CallsO.go (limbsOf_c (n := z.natAbs) (by simp only [W]; omega)) ?_
    rintro v h2 hle2 hv
    conv => whnf
    exact EndO.go hv
  · refine pO_lss rfl rfl (false) (decide_eq_false (by omega)) ?_
    conv => whnf
    refine pO_conv (by rfl) (show Tryz.prog.underlying 140 = some (.int .u64) by kernel_rfl) rfl ((z.natAbs : Nat) : Int) (by rw [IntKind.wrap_u64]; omega) ?_
    conv => whnf
    refine CallsO.go (limbsOf_c (n := z.natAbs) (by simp only [W]; omega)) ?_
    rintro v h2 hle2 hv
    conv => whnf
    exact EndO.go hv
/-- Without its factors d. -/
theorem strip_c {x : Value} {a d : Nat} (hx : Lim h x a) (ha : 0 < a) (hd : 2 ≤ d) (hdW : d < W) (hb : sz a < 1099511627776) : CallGo Tryz.prog 140 #[x, .int .u64 d] h NoX fun v h' => ∃ y, v = .tuple #[y, .int .i64 ((stripN d a).2 : Nat)] ∧ Lim h' y (stripN d a).1 := by
  refine v_fn tb k140 [x, .int .u64 d] rfl ?_
  conv => whnf
  refine LoopV.by (α := Nat × Nat × Value) (fun y => [(0, .v y.2.2), (1, .v (.int .u64 d)), (6, .v (.int .i64 (y.2.1 : Nat)))]) (fun _ => [])
    (fun y h' => Lim h' y.2.2 y.1 ∧ 0 < y.1 ∧ y.1 ≤ a ∧ y.2.1 + sz y.1 ≤ 2 ^ 62 ∧ (stripN d a).1 = (stripN d y.1).1 ∧ (stripN d a).2 = (stripN d y.1).2 + y.2.1 ∧ y.1 * 2 ^ y.2.1 ≤ a) (fun y => y.1) (a, 0, x)
    ⟨rfl, rfl, rfl, rfl, rfl, rfl, trivial⟩ trivial ⟨hx, ha, Nat.le_refl _, by dsimp only; omega, rfl, rfl, by dsimp only; omega⟩ ?_
  rintro ⟨b, k, y⟩ h1 ⟨hy, hb0, hba, _, hs1, hs2, hk⟩
  dsimp only at hy hb0 hba hs1 hs2 hk
  dsimp only
  conv => whnf
  refine CallsO.go (divWord_c hy (by omega) hdW (Nat.lt_of_le_of_lt (sz_mono hba) hb)) ?_
  rintro v h2 hle2 ⟨q, hq, rfl⟩
  conv => whnf
  have hkb : k < 2 ^ 47 := by
    have h3 : 2 ^ k ≤ a := Nat.le_trans (Nat.le_mul_of_pos_left _ hb0) hk
    have h4 : a < W ^ sz a := lt_sz a
    have h5 : W ^ sz a = 2 ^ (64 * sz a) := by rw [Nat.pow_mul]
    have h6 : 2 ^ k < 2 ^ (64 * sz a) := by omega
    have := (Nat.pow_lt_pow_iff_right (by decide)).1 h6
    omega
  rcases Nat.eq_zero_or_pos (b % d) with hm | hm
  · rw [hm]
    refine pO_gtr rfl rfl (false) (rfl) ?_
    conv => whnf
    refine pO_add rfl rfl (((k + 1 : Nat) : Int)) (wr64 (by omega) (by omega) (by omega)) ?_
    conv => whnf
    have h3 := stripN_go hd hb0 hm
    have h4 : b / d * 2 ≤ b := by
      have h5 := Nat.div_add_mod b d
      have h6 : 2 * (b / d) ≤ d * (b / d) := Nat.mul_le_mul_right _ hd
      omega
    have hq0 : 0 < b / d := Nat.div_pos (Nat.le_of_dvd hb0 (Nat.dvd_of_mod_eq_zero hm)) (by omega)
    refine RoundO.go ⟨(b / d, k + 1, q), ⟨rfl, rfl, rfl, rfl, rfl, rfl, trivial⟩, trivial, ⟨hq, hq0, ?_, ?_, ?_, ?_, ?_⟩, ?_⟩
    all_goals dsimp only
    · exact Nat.le_trans (Nat.div_le_self _ _) hba
    · have := sz_mono (Nat.le_trans (Nat.div_le_self b d) hba)
      omega
    · rw [hs1, h3]
    · rw [hs2, h3]; dsimp only; omega
    · rw [Nat.pow_succ, Nat.mul_comm (2 ^ k), ← Nat.mul_assoc]
      exact Nat.le_trans (Nat.mul_le_mul_right _ h4) hk
    · omega
  · refine pO_gtr rfl rfl (true) (decide_eq_true (by omega)) ?_
    conv => whnf
    have h3 := stripN_stop (d := d) (n := b) (by omega)
    rw [h3] at hs1 hs2
    refine EndO.go ⟨y, ?_, ?_⟩
    · rw [hs2, Nat.zero_add]; rfl
    · rw [hs1]; exact hy.mono hle2
end
end Go.Proofs.YtplaobhghfndgaaGreatDoor
