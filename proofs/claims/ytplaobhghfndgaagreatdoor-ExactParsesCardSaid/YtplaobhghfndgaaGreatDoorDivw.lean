import Derived.Test.YtplaobhghfndgaaGreatDoorLimb
/-! The quotient of two words by one. -/
set_option linter.unusedVariables false
set_option linter.unusedSimpArgs false
set_option maxRecDepth 100000
namespace Go.Proofs.YtplaobhghfndgaaGreatDoor
open Go Go.Proofs.Vc
attribute [local irreducible] CallsO EffO PureO LoadO StoreO EndO LoopV RoundO
theorem wrm (x : Nat) : IntKind.u64.wrap (x : Int) = ((x % W : Nat) : Int) := by rw [IntKind.wrap_u64]; simp only [W]; omega
theorem shl_nat (a s : Nat) (hs : s ≤ 64) : ((a : Int) * 2 ^ (min (s : Int).toNat IntKind.u64.bits)) = ((a * 2 ^ s : Nat) : Int) := by
  have : min (s : Int).toNat IntKind.u64.bits = s := by
    show min (s : Int).toNat 64 = s
    omega
  rw [this]; push_cast; rfl
theorem shr_nat (a s : Nat) (hs : s ≤ 64) : (a : Int).fdiv (2 ^ (min (s : Int).toNat IntKind.u64.bits)) = ((a / 2 ^ s : Nat) : Int) := by
  have : min (s : Int).toNat IntKind.u64.bits = s := by
    show min (s : Int).toNat 64 = s
    omega
  rw [this]
  have h2 : (2 : Int) ^ s = ((2 ^ s : Nat) : Int) := by push_cast; rfl
  rw [h2]
  rw [Int.fdiv_eq_ediv_of_nonneg _ (Int.natCast_nonneg _)]
  rfl
theorem bitLen_spec : ∀ (k x : Nat), k ≤ 64 → x < 2 ^ k → x ≠ 0 → ∃ m, Lib.bitLen x = m + 1 ∧ 2 ^ m ≤ x ∧ x < 2 ^ (m + 1) ∧ m < k
  | 0, x, _, h, h0 => by simp at h; exact absurd h h0
  | k + 1, x, hk, h, h0 => by
    have h64 : x < 2 ^ 64 := Nat.lt_of_lt_of_le h (Nat.pow_le_pow_right (by decide) hk)
    rw [Lib.bitLen_half x h0 h64]
    rcases Nat.eq_zero_or_pos (x / 2) with h1 | h1
    · refine ⟨0, by rw [h1]; rfl, by omega, by omega, by omega⟩
    · obtain ⟨m, h2, h3, h4, h5⟩ := bitLen_spec k (x / 2) (by omega) (by rw [Nat.pow_succ] at h; omega) (by omega)
      refine ⟨m + 1, by omega, by rw [Nat.pow_succ]; omega, by rw [Nat.pow_succ]; omega, by omega⟩
theorem norm_shift (y : Nat) (h0 : y ≠ 0) (hy : y < W) : ∃ s : Nat, (64 - (Lib.bitLen y : Int)) = (s : Int) ∧ s ≤ 63 ∧ 9223372036854775808 ≤ y * 2 ^ s ∧ y * 2 ^ s < W := by
  obtain ⟨m, h2, h3, h4, h5⟩ := bitLen_spec 64 y (by decide) hy h0
  refine ⟨63 - m, by omega, by omega, ?_, ?_⟩
  · have : 2 ^ m * 2 ^ (63 - m) = 9223372036854775808 := by rw [← Nat.pow_add, show m + (63 - m) = 63 from by omega]
    rw [← this]; exact Nat.mul_le_mul_right _ h3
  · have : 2 ^ (m + 1) * 2 ^ (63 - m) = W := by rw [← Nat.pow_add, show m + 1 + (63 - m) = 64 from by omega]
    rw [← this]; exact Nat.mul_lt_mul_of_pos_right h4 (Nat.two_pow_pos _)
theorem ofInt_nat (n : Nat) : BitVec.ofInt 64 (n : Int) = BitVec.ofNat 64 n := by
  apply BitVec.eq_of_toNat_eq; simp
theorem and_low (x : Nat) : IntKind.u64.wrap ((BitVec.ofInt IntKind.u64.bits (x : Int) &&& BitVec.ofInt IntKind.u64.bits 4294967295).toNat : Int) = ((x % 4294967296 : Nat) : Int) := by
  refine wru64 ?_ (by omega) (by omega)
  show ((BitVec.ofInt 64 (x : Int) &&& BitVec.ofInt 64 ((4294967295 : Nat) : Int)).toNat : Int) = _
  rw [ofInt_nat, ofInt_nat, BitVec.toNat_and]
  have h1 : (BitVec.ofNat 64 x).toNat = x % 2 ^ 64 := BitVec.toNat_ofNat ..
  have h2 : (BitVec.ofNat 64 4294967295).toNat = 2 ^ 32 - 1 := by decide
  rw [h1, h2, Nat.and_two_pow_sub_one_eq_mod]
  have : x % 2 ^ 64 % 2 ^ 32 = x % 4294967296 := Nat.mod_mod_of_dvd x ⟨2 ^ 32, by decide⟩
  rw [this]
theorem or_high (p q s : Nat) (hq : q < 2 ^ s) (hlt : p * 2 ^ s + q < W) : IntKind.u64.wrap ((BitVec.ofInt IntKind.u64.bits ((p * 2 ^ s : Nat) : Int) ||| BitVec.ofInt IntKind.u64.bits (q : Int)).toNat : Int) = ((p * 2 ^ s + q : Nat) : Int) := by
  refine wru64 ?_ (by omega) (by simp only [W] at hlt; omega)
  show ((BitVec.ofInt 64 ((p * 2 ^ s : Nat) : Int) ||| BitVec.ofInt 64 (q : Int)).toNat : Int) = _
  rw [ofInt_nat, ofInt_nat, BitVec.toNat_or]
  have h1 : (BitVec.ofNat 64 (p * 2 ^ s)).toNat = p * 2 ^ s := by rw [BitVec.toNat_ofNat, Nat.mod_eq_of_lt (by simp only [W] at hlt; omega)]
  have h2 : (BitVec.ofNat 64 q).toNat = q := by rw [BitVec.toNat_ofNat, Nat.mod_eq_of_lt (by simp only [W] at hlt; omega)]
  rw [h1, h2, Nat.mul_comm p, Nat.two_pow_add_eq_or_of_lt hq]
/-- A guess that is made from the first word of two is not too small. -/
theorem half_ge {u u1 y1 y0 B : Nat} (hB : 0 < B) (hy1 : 0 < y1) (h1 : u1 < B) : (u * B + u1) / (y1 * B + y0) ≤ u / y1 := by
  rw [Nat.le_div_iff_mul_le hy1]
  have h2 := Nat.div_mul_le_self (u * B + u1) (y1 * B + y0)
  generalize (u * B + u1) / (y1 * B + y0) = q at *
  have h3 : q * y1 * B ≤ u * B + u1 := by
    have : q * (y1 * B + y0) = q * y1 * B + q * y0 := by rw [Nat.mul_add, Nat.mul_assoc]
    omega
  have h4 : q * y1 * B < (u + 1) * B := by rw [Nat.succ_mul]; omega
  have := Nat.lt_of_mul_lt_mul_right h4
  omega
/-- The half division: what a round shows. -/
theorem half_down {u u1 y1 y0 q r B : Nat} (hr : q * y1 + r = u) (hq : q * y0 > B * r + u1) : (u * B + u1) / (y1 * B + y0) < q := by
  have hy : 0 < y1 * B + y0 := by
    rcases Nat.eq_zero_or_pos y0 with h0 | h0
    · subst h0; omega
    · omega
  rw [Nat.div_lt_iff_lt_mul hy]
  have h1 : q * (y1 * B + y0) = q * y1 * B + q * y0 := by rw [Nat.mul_add, Nat.mul_assoc]
  have h2 : u * B = q * y1 * B + r * B := by rw [← hr, Nat.add_mul]
  have h3 : B * r = r * B := Nat.mul_comm _ _
  omega
theorem half_done {u u1 y1 y0 q r B : Nat} (hy : 0 < y1) (hB : 0 < B) (hr : q * y1 + r = u) (hq : q * y0 ≤ B * r + u1) (hge : (u * B + u1) / (y1 * B + y0) ≤ q) : (u * B + u1) / (y1 * B + y0) = q := by
  refine Nat.le_antisymm hge ?_
  have hpos : 0 < y1 * B + y0 := by have := Nat.mul_pos hy hB; omega
  rw [Nat.le_div_iff_mul_le hpos]
  have h1 : q * (y1 * B + y0) = q * y1 * B + q * y0 := by rw [Nat.mul_add, Nat.mul_assoc]
  have h2 : u * B = q * y1 * B + r * B := by rw [← hr, Nat.add_mul]
  have h3 : B * r = r * B := Nat.mul_comm _ _
  omega
theorem half_ltB {u u1 y B : Nat} (hu : u < y) (h1 : u1 < B) : (u * B + u1) / y < B := by
  have hy : 0 < y := by omega
  rw [Nat.div_lt_iff_lt_mul hy]
  have : (u + 1) * B ≤ y * B := Nat.mul_le_mul_right _ hu
  rw [Nat.succ_mul] at this
  rw [Nat.mul_comm B y]
  omega
theorem half_lt {u u1 y1 y0 : Nat} (hu : u < y1 * 4294967296 + y0) (h1 : u1 < 4294967296) : (u * 4294967296 + u1) / (y1 * 4294967296 + y0) < 4294967296 := half_ltB hu h1
theorem mul_b {a b A B : Nat} (ha : a ≤ A) (hb : b ≤ B) : a * b ≤ A * B := Nat.mul_le_mul ha hb
theorem div64_fin {N c q y R Y : Nat} (hc : 0 < c) (hY : y * c = Y) (hN : N * c = q * Y + R) (hR : R < Y) : N / y = q ∧ N % y = R / c := by
  subst hY
  have h1 : q * (y * c) = q * y * c := (Nat.mul_assoc _ _ _).symm
  rw [h1] at hN
  have h2 : q * y ≤ N := by
    have : q * y * c ≤ N * c := by omega
    exact Nat.le_of_mul_le_mul_right this hc
  obtain ⟨r, rfl⟩ : ∃ r, N = q * y + r := ⟨N - q * y, by omega⟩
  rw [Nat.add_mul] at hN
  have h3 : R = r * c := by omega
  subst h3
  have h4 : r < y := Nat.lt_of_mul_lt_mul_right hR
  rw [Nat.mul_div_cancel _ hc, Nat.mul_comm q y, Nat.mul_add_div (by omega), Nat.div_eq_of_lt h4, Nat.mul_add_mod, Nat.mod_eq_of_lt h4]
  exact ⟨by omega, rfl⟩
theorem wmul (a b : Nat) : IntKind.u64.wrap ((a : Int) * (b : Int)) = ((a * b % W : Nat) : Int) := by rw [← Int.natCast_mul, wrm]
theorem wadd (a b : Nat) : IntKind.u64.wrap ((a : Int) + (b : Int)) = (((a + b) % W : Nat) : Int) := by rw [← Int.natCast_add, wrm]
theorem div64_c {h : Heap} (hi lo y : Nat) (hhi : hi < y) (hy : y < W) (hlo : lo < W) : CallGo Tryz.prog 166 #[.int .u64 hi, .int .u64 lo, .int .u64 y] h NoX fun v h' => h' = h ∧ v = .tuple #[.int .u64 (((hi * W + lo) / y : Nat) : Int), .int .u64 (((hi * W + lo) % y : Nat) : Int)] := by
  refine v_fn tb k166 [.int .u64 hi, .int .u64 lo, .int .u64 y] rfl ?_
  conv => whnf
  refine pO_eql rfl rfl (false) (beq_eq_false_iff_ne.2 (by omega)) ?_
  conv => whnf
  refine pO_leq rfl rfl (false) (decide_eq_false (by omega)) ?_
  conv => whnf
  rcases Nat.eq_zero_or_pos hi with rfl | hpos
  · refine pO_eql rfl rfl (true) (rfl) ?_
    conv => whnf
    have hd : lo / y < W := Nat.lt_of_le_of_lt (Nat.div_le_self _ _) hlo
    simp only [W] at hd
    refine pO_quo rfl rfl (by omega) (((lo / y : Nat) : Int)) (wru64 (Int.ofNat_tdiv lo y).symm (Int.natCast_nonneg _) (Int.ofNat_lt.2 hd)) ?_
    conv => whnf
    refine pO_rem rfl rfl (by omega) (((lo % y : Nat) : Int)) ((Int.ofNat_tmod lo y).symm) ?_
    conv => whnf
    exact EndO.go ⟨rfl, by rw [Nat.zero_mul, Nat.zero_add]; rfl⟩
  · refine pO_eql rfl rfl (false) (beq_eq_false_iff_ne.2 (by omega)) ?_
    conv => whnf
    refine CallsO.go (lz64_c y hy) ?_
    rintro v h2 hle2 ⟨rfl, rfl⟩
    conv => whnf
    obtain ⟨s, hs, hs1, hs2, hsW⟩ := norm_shift y (by omega) hy
    rw [hs]
    refine pO_conv (by rfl) (show Tryz.prog.underlying 146 = some (.int .u64) by kernel_rfl) rfl ((s : Nat) : Int) (wru64 rfl (by omega) (by omega)) ?_
    conv => whnf
    refine pO_shl rfl rfl (by omega) (((y * 2 ^ s : Nat) : Int)) (by rw [shl_nat _ _ (by omega), wrm, Nat.mod_eq_of_lt hsW]) ?_
    conv => whnf
    generalize hY : y * 2 ^ s = Y at *
    refine pO_shr rfl rfl (by decide) (((Y / 4294967296 : Nat) : Int)) (shr_nat Y 32 (by decide)) ?_
    conv => whnf
    refine pO_and rfl rfl (((Y % 4294967296 : Nat) : Int)) (and_low Y) ?_
    conv => whnf
    have hp : 2 ^ s * 2 ^ (64 - s) = W := by rw [← Nat.pow_add, show s + (64 - s) = 64 from by omega]
    have hq : lo / 2 ^ (64 - s) < 2 ^ s := Nat.div_lt_of_lt_mul (by rw [Nat.mul_comm, hp]; exact hlo)
    have hun : hi * 2 ^ s + lo / 2 ^ (64 - s) < Y := by
      have h3 : (hi + 1) * 2 ^ s ≤ Y := by rw [← hY]; exact Nat.mul_le_mul_right _ hhi
      rw [Nat.succ_mul] at h3
      omega
    have hun' : hi * 2 ^ s < W := Nat.lt_of_le_of_lt (Nat.le_add_right _ _) (Nat.lt_trans hun hsW)
    refine pO_shl rfl rfl (by omega) (((hi * 2 ^ s : Nat) : Int)) (by rw [shl_nat _ _ (by omega), wrm, Nat.mod_eq_of_lt hun']) ?_
    conv => whnf
    refine pO_sub rfl rfl (((64 - s : Nat) : Int)) (wru64 (by omega) (by omega) (by omega)) ?_
    conv => whnf
    refine pO_shr rfl rfl (by omega) (((lo / 2 ^ (64 - s) : Nat) : Int)) (shr_nat lo (64 - s) (by omega)) ?_
    conv => whnf
    refine pO_or rfl rfl (((hi * 2 ^ s + lo / 2 ^ (64 - s) : Nat) : Int)) (or_high hi _ s hq (Nat.lt_trans hun hsW)) ?_
    conv => whnf
    refine pO_shl rfl rfl (by omega) (((lo * 2 ^ s % W : Nat) : Int)) (by rw [shl_nat _ _ (by omega), wrm]) ?_
    conv => whnf
    have hU : (hi * W + lo) * 2 ^ s = (hi * 2 ^ s + lo / 2 ^ (64 - s)) * W + lo * 2 ^ s % W := by
      have h3 := Nat.div_add_mod lo (2 ^ (64 - s))
      have h4 : lo * 2 ^ s % W = lo % 2 ^ (64 - s) * 2 ^ s := by
        rw [← hp, Nat.mul_comm (2 ^ s) (2 ^ (64 - s)), Nat.mul_mod_mul_right]
      rw [h4, ← hp]
      generalize lo / 2 ^ (64 - s) = q at *
      generalize lo % 2 ^ (64 - s) = r at *
      generalize 2 ^ (64 - s) = b at *
      generalize 2 ^ s = c at *
      subst h3
      grind
    have hun10 : lo * 2 ^ s % W < W := Nat.mod_lt _ (by decide)
    generalize hi * 2 ^ s + lo / 2 ^ (64 - s) = un at *
    generalize lo * 2 ^ s % W = um at *
    refine pO_shr rfl rfl (by decide) (((um / 4294967296 : Nat) : Int)) (shr_nat um 32 (by decide)) ?_
    conv => whnf
    refine pO_and rfl rfl (((um % 4294967296 : Nat) : Int)) (and_low um) ?_
    conv => whnf
    obtain ⟨y1, hy1⟩ : ∃ y1, Y / 4294967296 = y1 := ⟨_, rfl⟩
    obtain ⟨y0, hy0⟩ : ∃ y0, Y % 4294967296 = y0 := ⟨_, rfl⟩
    obtain ⟨u1, hu1⟩ : ∃ u1, um / 4294967296 = u1 := ⟨_, rfl⟩
    obtain ⟨u0, hu0⟩ : ∃ u0, um % 4294967296 = u0 := ⟨_, rfl⟩
    rw [hy1, hy0, hu1, hu0]
    have hYe : Y = y1 * 4294967296 + y0 := by omega
    have hume : um = u1 * 4294967296 + u0 := by omega
    have hy1b : 2147483648 ≤ y1 := by omega
    simp only [W] at hsW hun10
    have hle0 : un / y1 ≤ 4294967297 := by
      have h3 := Nat.div_mul_le_self un y1
      rcases Nat.lt_or_ge (un / y1) 4294967298 with h4 | h4
      · omega
      · have := mul_b h4 (Nat.le_refl y1); omega
    have hdm := Nat.div_add_mod un y1
    have hmm : un / y1 * y1 ≤ un := Nat.div_mul_le_self _ _
    have hcm : y1 * (un / y1) = un / y1 * y1 := Nat.mul_comm _ _
    have hrm : un % y1 < y1 := Nat.mod_lt _ (by omega)
    have htl := half_lt (u := un) (u1 := u1) (y1 := y1) (y0 := y0) (by omega) (by omega)
    refine pO_quo rfl rfl (by omega) (((un / y1 : Nat) : Int)) (wru64 (Int.ofNat_tdiv un y1).symm (Int.natCast_nonneg _) (by omega)) ?_
    conv => whnf
    refine pO_mul rfl rfl (((un / y1 * y1 : Nat) : Int)) (wru64 (Int.natCast_mul _ _).symm (Int.natCast_nonneg _) (by omega)) ?_
    conv => whnf
    refine pO_sub rfl rfl (((un % y1 : Nat) : Int)) (wru64 (by omega) (Int.natCast_nonneg _) (by omega)) ?_
    conv => whnf
    refine LoopV.cut (α := Nat × Nat) (β := Unit) (fun x => [(2, .v (.int .u64 Y)), (8, .v (.int .u64 s)), (9, .v (.int .u64 y1)), (10, .v (.int .u64 y0)), (11, .v (.int .u64 un)), (13, .v (.int .u64 u1)), (14, .v (.int .u64 u0)), (15, .v (.int .u64 (x.1 : Nat))), (16, .v (.int .u64 (x.2 : Nat)))]) (fun _ => [])
      (fun x h' => h' = h2 ∧ x.1 * y1 + x.2 = un ∧ (un * 4294967296 + u1) / (y1 * 4294967296 + y0) ≤ x.1 ∧ x.2 < 4294967296 ∧ x.1 ≤ 4294967297) (fun x => x.1) (un / y1, un % y1) 0
      (fun _ => [(2, .v (.int .u64 Y)), (8, .v (.int .u64 s)), (9, .v (.int .u64 y1)), (10, .v (.int .u64 y0)), (11, .v (.int .u64 un)), (13, .v (.int .u64 u1)), (14, .v (.int .u64 u0)), (15, .v (.int .u64 (((un * 4294967296 + u1) / (y1 * 4294967296 + y0) : Nat) : Int)))]) (fun _ => []) (fun _ h' => h' = h2) ⟨rfl, rfl, rfl, rfl, rfl, rfl, rfl, rfl, rfl, rfl, rfl, rfl, rfl, rfl, rfl, rfl, rfl, rfl, trivial⟩ trivial ⟨rfl, by dsimp only; omega, half_ge (by decide) (by omega) (by omega), by dsimp only; omega, hle0⟩ ?_ ?_
    · rintro ⟨q, r⟩ h1 ⟨rfl, hr, hge, hr2, hq2⟩
      dsimp only at hr hge hr2 hq2
      dsimp only
      conv => whnf
      rcases Nat.lt_or_ge q 4294967296 with hqB | hqB
      · have hm1 := mul_b (show q ≤ 4294967295 from by omega) (show y0 ≤ 4294967295 from by omega)
        refine pO_geq rfl rfl (false) (decide_eq_false (by omega)) ?_
        conv => whnf
        refine pO_mul rfl rfl (((q * y0 : Nat) : Int)) (wru64 (Int.natCast_mul q y0).symm (Int.natCast_nonneg _) (by omega)) ?_
        conv => whnf
        refine pO_mul rfl rfl (((4294967296 * r : Nat) : Int)) (wru64 (Int.natCast_mul 4294967296 r).symm (Int.natCast_nonneg _) (by omega)) ?_
        conv => whnf
        refine pO_add rfl rfl (((4294967296 * r + u1 : Nat) : Int)) (wru64 (Int.natCast_add _ _).symm (Int.natCast_nonneg _) (by omega)) ?_
        conv => whnf
        rcases Nat.lt_or_ge (4294967296 * r + u1) (q * y0) with hcmp | hcmp
        · refine pO_gtr rfl rfl (true) (decide_eq_true (by omega)) ?_
          conv => whnf
          have hlt := half_down (u := un) (u1 := u1) (y1 := y1) (y0 := y0) hr hcmp
          have hpos : 0 < q := Nat.lt_of_le_of_lt (Nat.zero_le _) hlt
          have hrq : (q - 1) * y1 + (r + y1) = un := by
            obtain ⟨p, rfl⟩ : ∃ p, q = p + 1 := ⟨q - 1, by omega⟩
            rw [← hr, Nat.add_sub_cancel, Nat.succ_mul]; omega
          refine pO_sub rfl rfl (((q - 1 : Nat) : Int)) (wru64 (by omega) (by omega) (by omega)) ?_
          conv => whnf
          refine pO_add rfl rfl (((r + y1 : Nat) : Int)) (wru64 (by omega) (by omega) (by omega)) ?_
          conv => whnf
          rcases Nat.lt_or_ge (r + y1) 4294967296 with hc | hc
          · refine pO_geq rfl rfl (false) (decide_eq_false (by omega)) ?_
            conv => whnf
            exact RoundO.go ⟨(q - 1, r + y1), ⟨rfl, rfl, rfl, rfl, rfl, rfl, rfl, rfl, rfl, rfl, rfl, rfl, rfl, rfl, rfl, rfl, rfl, rfl, trivial⟩, trivial, ⟨rfl, hrq, by dsimp only; omega, hc, by dsimp only; omega⟩, by dsimp only; omega⟩
          · refine pO_geq rfl rfl (true) (decide_eq_true (by omega)) ?_
            conv => whnf
            have hm := mul_b (show q - 1 ≤ 4294967296 from by omega) (show y0 ≤ 4294967295 from by omega)
            have hd := half_done (u := un) (u1 := u1) (y1 := y1) (y0 := y0) (q := q - 1) (r := r + y1) (B := 4294967296) (by omega) (by decide) hrq (by omega) (by omega)
            exact RoundO.go ⟨(), ⟨rfl, rfl, rfl, rfl, rfl, rfl, rfl, rfl, rfl, rfl, rfl, rfl, rfl, rfl, congrArg (fun n : Nat => AV.v (.int .u64 (n : Int))) hd.symm, rfl, trivial⟩, trivial, rfl⟩
        · refine pO_gtr rfl rfl (false) (decide_eq_false (by omega)) ?_
          conv => whnf
          have hd := half_done (u := un) (u1 := u1) (y1 := y1) (y0 := y0) (B := 4294967296) (by omega) (by decide) hr hcmp hge
          exact RoundO.go ⟨(), ⟨rfl, rfl, rfl, rfl, rfl, rfl, rfl, rfl, rfl, rfl, rfl, rfl, rfl, rfl, congrArg (fun n : Nat => AV.v (.int .u64 (n : Int))) hd.symm, rfl, trivial⟩, trivial, rfl⟩
      · refine pO_geq rfl rfl (true) (decide_eq_true (by omega)) ?_
        conv => whnf
        have hlt : (un * 4294967296 + u1) / (y1 * 4294967296 + y0) < q := by omega
        have hpos : 0 < q := Nat.lt_of_le_of_lt (Nat.zero_le _) hlt
        have hrq : (q - 1) * y1 + (r + y1) = un := by
          obtain ⟨p, rfl⟩ : ∃ p, q = p + 1 := ⟨q - 1, by omega⟩
          rw [← hr, Nat.add_sub_cancel, Nat.succ_mul]; omega
        refine pO_sub rfl rfl (((q - 1 : Nat) : Int)) (wru64 (by omega) (by omega) (by omega)) ?_
        conv => whnf
        refine pO_add rfl rfl (((r + y1 : Nat) : Int)) (wru64 (by omega) (by omega) (by omega)) ?_
        conv => whnf
        rcases Nat.lt_or_ge (r + y1) 4294967296 with hc | hc
        · refine pO_geq rfl rfl (false) (decide_eq_false (by omega)) ?_
          conv => whnf
          exact RoundO.go ⟨(q - 1, r + y1), ⟨rfl, rfl, rfl, rfl, rfl, rfl, rfl, rfl, rfl, rfl, rfl, rfl, rfl, rfl, rfl, rfl, rfl, rfl, trivial⟩, trivial, ⟨rfl, hrq, by dsimp only; omega, hc, by dsimp only; omega⟩, by dsimp only; omega⟩
        · refine pO_geq rfl rfl (true) (decide_eq_true (by omega)) ?_
          conv => whnf
          have hm := mul_b (show q - 1 ≤ 4294967296 from by omega) (show y0 ≤ 4294967295 from by omega)
          have hd := half_done (u := un) (u1 := u1) (y1 := y1) (y0 := y0) (q := q - 1) (r := r + y1) (B := 4294967296) (by omega) (by decide) hrq (by omega) (by omega)
          exact RoundO.go ⟨(), ⟨rfl, rfl, rfl, rfl, rfl, rfl, rfl, rfl, rfl, rfl, rfl, rfl, rfl, rfl, congrArg (fun n : Nat => AV.v (.int .u64 (n : Int))) hd.symm, rfl, trivial⟩, trivial, rfl⟩
    rintro _ h3 hh3
    rw [hh3]
    dsimp only
    conv => whnf
    have hT1 := Nat.div_add_mod (un * 4294967296 + u1) (y1 * 4294967296 + y0)
    have hRl1 : (un * 4294967296 + u1) % (y1 * 4294967296 + y0) < y1 * 4294967296 + y0 := Nat.mod_lt _ (by omega)
    have hc1 : (y1 * 4294967296 + y0) * ((un * 4294967296 + u1) / (y1 * 4294967296 + y0)) = (un * 4294967296 + u1) / (y1 * 4294967296 + y0) * Y := by rw [Nat.mul_comm, ← hYe]
    rw [hc1] at hT1
    obtain ⟨Q1, hQ1e⟩ : ∃ q, (un * 4294967296 + u1) / (y1 * 4294967296 + y0) = q := ⟨_, rfl⟩
    obtain ⟨R1, hR1e⟩ : ∃ r, (un * 4294967296 + u1) % (y1 * 4294967296 + y0) = r := ⟨_, rfl⟩
    rw [hQ1e] at hT1 htl ⊢
    rw [hR1e] at hT1 hRl1
    refine pO_mul rfl rfl (((un * 4294967296 % W : Nat) : Int)) (wmul un 4294967296) ?_
    conv => whnf
    refine pO_add rfl rfl ((((un * 4294967296 % W + u1) % W : Nat) : Int)) (wadd _ u1) ?_
    conv => whnf
    refine pO_mul rfl rfl (((Q1 * Y % W : Nat) : Int)) (wmul Q1 Y) ?_
    conv => whnf
    have hs3 : IntKind.u64.wrap ((((un * 4294967296 % W + u1) % W : Nat) : Int) - ((Q1 * Y % W : Nat) : Int)) = (R1 : Int) := by
      rw [IntKind.wrap_u64]
      simp only [W]
      generalize Q1 * Y = p at *
      omega
    refine pO_sub rfl rfl ((R1 : Int)) (hs3) ?_
    conv => whnf
    have hle0 : R1 / y1 ≤ 4294967297 := by
      have h3 := Nat.div_mul_le_self R1 y1
      rcases Nat.lt_or_ge (R1 / y1) 4294967298 with h4 | h4
      · omega
      · have := mul_b h4 (Nat.le_refl y1); omega
    have hdm := Nat.div_add_mod R1 y1
    have hmm : R1 / y1 * y1 ≤ R1 := Nat.div_mul_le_self _ _
    have hcm : y1 * (R1 / y1) = R1 / y1 * y1 := Nat.mul_comm _ _
    have hrm : R1 % y1 < y1 := Nat.mod_lt _ (by omega)
    have htl := half_lt (u := R1) (u1 := u0) (y1 := y1) (y0 := y0) (by omega) (by omega)
    refine pO_quo rfl rfl (by omega) (((R1 / y1 : Nat) : Int)) (wru64 (Int.ofNat_tdiv R1 y1).symm (Int.natCast_nonneg _) (by omega)) ?_
    conv => whnf
    refine pO_mul rfl rfl (((R1 / y1 * y1 : Nat) : Int)) (wru64 (Int.natCast_mul _ _).symm (Int.natCast_nonneg _) (by omega)) ?_
    conv => whnf
    refine pO_sub rfl rfl (((R1 % y1 : Nat) : Int)) (wru64 (by omega) (Int.natCast_nonneg _) (by omega)) ?_
    conv => whnf
    refine LoopV.cut (α := Nat × Nat) (β := Unit) (fun x => [(2, .v (.int .u64 Y)), (8, .v (.int .u64 s)), (9, .v (.int .u64 y1)), (10, .v (.int .u64 y0)), (14, .v (.int .u64 u0)), (15, .v (.int .u64 Q1)), (17, .v (.int .u64 R1)), (18, .v (.int .u64 (x.1 : Nat))), (16, .v (.int .u64 (x.2 : Nat)))]) (fun _ => [])
      (fun x h' => h' = h2 ∧ x.1 * y1 + x.2 = R1 ∧ (R1 * 4294967296 + u0) / (y1 * 4294967296 + y0) ≤ x.1 ∧ x.2 < 4294967296 ∧ x.1 ≤ 4294967297) (fun x => x.1) (R1 / y1, R1 % y1) 2
      (fun _ => [(2, .v (.int .u64 Y)), (8, .v (.int .u64 s)), (9, .v (.int .u64 y1)), (10, .v (.int .u64 y0)), (14, .v (.int .u64 u0)), (15, .v (.int .u64 Q1)), (17, .v (.int .u64 R1)), (18, .v (.int .u64 (((R1 * 4294967296 + u0) / (y1 * 4294967296 + y0) : Nat) : Int)))]) (fun _ => []) (fun _ h' => h' = h2) ⟨rfl, rfl, rfl, rfl, rfl, rfl, rfl, rfl, rfl, rfl, rfl, rfl, rfl, rfl, rfl, rfl, rfl, rfl, trivial⟩ trivial ⟨rfl, by dsimp only; omega, half_ge (by decide) (by omega) (by omega), by dsimp only; omega, hle0⟩ ?_ ?_
    · rintro ⟨q, r⟩ h1 ⟨rfl, hr, hge, hr2, hq2⟩
      dsimp only at hr hge hr2 hq2
      dsimp only
      conv => whnf
      rcases Nat.lt_or_ge q 4294967296 with hqB | hqB
      · have hm1 := mul_b (show q ≤ 4294967295 from by omega) (show y0 ≤ 4294967295 from by omega)
        refine pO_geq rfl rfl (false) (decide_eq_false (by omega)) ?_
        conv => whnf
        refine pO_mul rfl rfl (((q * y0 : Nat) : Int)) (wru64 (Int.natCast_mul q y0).symm (Int.natCast_nonneg _) (by omega)) ?_
        conv => whnf
        refine pO_mul rfl rfl (((4294967296 * r : Nat) : Int)) (wru64 (Int.natCast_mul 4294967296 r).symm (Int.natCast_nonneg _) (by omega)) ?_
        conv => whnf
        refine pO_add rfl rfl (((4294967296 * r + u0 : Nat) : Int)) (wru64 (Int.natCast_add _ _).symm (Int.natCast_nonneg _) (by omega)) ?_
        conv => whnf
        rcases Nat.lt_or_ge (4294967296 * r + u0) (q * y0) with hcmp | hcmp
        · refine pO_gtr rfl rfl (true) (decide_eq_true (by omega)) ?_
          conv => whnf
          have hlt := half_down (u := R1) (u1 := u0) (y1 := y1) (y0 := y0) hr hcmp
          have hpos : 0 < q := Nat.lt_of_le_of_lt (Nat.zero_le _) hlt
          have hrq : (q - 1) * y1 + (r + y1) = R1 := by
            obtain ⟨p, rfl⟩ : ∃ p, q = p + 1 := ⟨q - 1, by omega⟩
            rw [← hr, Nat.add_sub_cancel, Nat.succ_mul]; omega
          refine pO_sub rfl rfl (((q - 1 : Nat) : Int)) (wru64 (by omega) (by omega) (by omega)) ?_
          conv => whnf
          refine pO_add rfl rfl (((r + y1 : Nat) : Int)) (wru64 (by omega) (by omega) (by omega)) ?_
          conv => whnf
          rcases Nat.lt_or_ge (r + y1) 4294967296 with hc | hc
          · refine pO_geq rfl rfl (false) (decide_eq_false (by omega)) ?_
            conv => whnf
            exact RoundO.go ⟨(q - 1, r + y1), ⟨rfl, rfl, rfl, rfl, rfl, rfl, rfl, rfl, rfl, rfl, rfl, rfl, rfl, rfl, rfl, rfl, rfl, rfl, trivial⟩, trivial, ⟨rfl, hrq, by dsimp only; omega, hc, by dsimp only; omega⟩, by dsimp only; omega⟩
          · refine pO_geq rfl rfl (true) (decide_eq_true (by omega)) ?_
            conv => whnf
            have hm := mul_b (show q - 1 ≤ 4294967296 from by omega) (show y0 ≤ 4294967295 from by omega)
            have hd := half_done (u := R1) (u1 := u0) (y1 := y1) (y0 := y0) (q := q - 1) (r := r + y1) (B := 4294967296) (by omega) (by decide) hrq (by omega) (by omega)
            exact RoundO.go ⟨(), ⟨rfl, rfl, rfl, rfl, rfl, rfl, rfl, rfl, rfl, rfl, rfl, rfl, rfl, rfl, congrArg (fun n : Nat => AV.v (.int .u64 (n : Int))) hd.symm, rfl, trivial⟩, trivial, rfl⟩
        · refine pO_gtr rfl rfl (false) (decide_eq_false (by omega)) ?_
          conv => whnf
          have hd := half_done (u := R1) (u1 := u0) (y1 := y1) (y0 := y0) (B := 4294967296) (by omega) (by decide) hr hcmp hge
          exact RoundO.go ⟨(), ⟨rfl, rfl, rfl, rfl, rfl, rfl, rfl, rfl, rfl, rfl, rfl, rfl, rfl, rfl, congrArg (fun n : Nat => AV.v (.int .u64 (n : Int))) hd.symm, rfl, trivial⟩, trivial, rfl⟩
      · refine pO_geq rfl rfl (true) (decide_eq_true (by omega)) ?_
        conv => whnf
        have hlt : (R1 * 4294967296 + u0) / (y1 * 4294967296 + y0) < q := by omega
        have hpos : 0 < q := Nat.lt_of_le_of_lt (Nat.zero_le _) hlt
        have hrq : (q - 1) * y1 + (r + y1) = R1 := by
          obtain ⟨p, rfl⟩ : ∃ p, q = p + 1 := ⟨q - 1, by omega⟩
          rw [← hr, Nat.add_sub_cancel, Nat.succ_mul]; omega
        refine pO_sub rfl rfl (((q - 1 : Nat) : Int)) (wru64 (by omega) (by omega) (by omega)) ?_
        conv => whnf
        refine pO_add rfl rfl (((r + y1 : Nat) : Int)) (wru64 (by omega) (by omega) (by omega)) ?_
        conv => whnf
        rcases Nat.lt_or_ge (r + y1) 4294967296 with hc | hc
        · refine pO_geq rfl rfl (false) (decide_eq_false (by omega)) ?_
          conv => whnf
          exact RoundO.go ⟨(q - 1, r + y1), ⟨rfl, rfl, rfl, rfl, rfl, rfl, rfl, rfl, rfl, rfl, rfl, rfl, rfl, rfl, rfl, rfl, rfl, rfl, trivial⟩, trivial, ⟨rfl, hrq, by dsimp only; omega, hc, by dsimp only; omega⟩, by dsimp only; omega⟩
        · refine pO_geq rfl rfl (true) (decide_eq_true (by omega)) ?_
          conv => whnf
          have hm := mul_b (show q - 1 ≤ 4294967296 from by omega) (show y0 ≤ 4294967295 from by omega)
          have hd := half_done (u := R1) (u1 := u0) (y1 := y1) (y0 := y0) (q := q - 1) (r := r + y1) (B := 4294967296) (by omega) (by decide) hrq (by omega) (by omega)
          exact RoundO.go ⟨(), ⟨rfl, rfl, rfl, rfl, rfl, rfl, rfl, rfl, rfl, rfl, rfl, rfl, rfl, rfl, congrArg (fun n : Nat => AV.v (.int .u64 (n : Int))) hd.symm, rfl, trivial⟩, trivial, rfl⟩
    rintro _ h1 rfl
    dsimp only
    conv => whnf
    have hT2 := Nat.div_add_mod (R1 * 4294967296 + u0) (y1 * 4294967296 + y0)
    have hRl2 : (R1 * 4294967296 + u0) % (y1 * 4294967296 + y0) < y1 * 4294967296 + y0 := Nat.mod_lt _ (by omega)
    have hc2 : (y1 * 4294967296 + y0) * ((R1 * 4294967296 + u0) / (y1 * 4294967296 + y0)) = (R1 * 4294967296 + u0) / (y1 * 4294967296 + y0) * Y := by rw [Nat.mul_comm, ← hYe]
    have htl2 := half_lt (u := R1) (u1 := u0) (y1 := y1) (y0 := y0) (by omega) (by omega)
    rw [hc2] at hT2
    obtain ⟨Q2, hQ2e⟩ : ∃ q, (R1 * 4294967296 + u0) / (y1 * 4294967296 + y0) = q := ⟨_, rfl⟩
    obtain ⟨R2, hR2e⟩ : ∃ r, (R1 * 4294967296 + u0) % (y1 * 4294967296 + y0) = r := ⟨_, rfl⟩
    rw [hQ2e] at hT2 htl2 ⊢
    rw [hR2e] at hT2 hRl2
    refine pO_mul rfl rfl (((Q1 * 4294967296 : Nat) : Int)) (wru64 (Int.natCast_mul Q1 4294967296).symm (Int.natCast_nonneg _) (by omega)) ?_
    conv => whnf
    refine pO_add rfl rfl (((Q1 * 4294967296 + Q2 : Nat) : Int)) (wru64 (Int.natCast_add _ _).symm (Int.natCast_nonneg _) (by omega)) ?_
    conv => whnf
    refine pO_mul rfl rfl (((R1 * 4294967296 % W : Nat) : Int)) (wmul R1 4294967296) ?_
    conv => whnf
    refine pO_add rfl rfl ((((R1 * 4294967296 % W + u0) % W : Nat) : Int)) (wadd _ u0) ?_
    conv => whnf
    refine pO_mul rfl rfl (((Q2 * Y % W : Nat) : Int)) (wmul Q2 Y) ?_
    conv => whnf
    have hs4 : IntKind.u64.wrap ((((R1 * 4294967296 % W + u0) % W : Nat) : Int) - ((Q2 * Y % W : Nat) : Int)) = (R2 : Int) := by
      rw [IntKind.wrap_u64]
      simp only [W]
      generalize Q2 * Y = p at *
      omega
    refine pO_sub rfl rfl ((R2 : Int)) (hs4) ?_
    conv => whnf
    refine pO_shr rfl rfl (by omega) (((R2 / 2 ^ s : Nat) : Int)) (shr_nat R2 s (by omega)) ?_
    conv => whnf
    have hN : (hi * W + lo) * 2 ^ s = (Q1 * 4294967296 + Q2) * Y + R2 := by
      rw [hU, Nat.add_mul]
      have h5 : Q1 * 4294967296 * Y = Q1 * Y * 4294967296 := Nat.mul_right_comm _ _ _
      simp only [W]
      omega
    obtain ⟨h6, h7⟩ := div64_fin (Nat.two_pow_pos s) hY hN (by omega)
    exact EndO.go ⟨rfl, by rw [h6, h7]; rfl⟩
end Go.Proofs.YtplaobhghfndgaaGreatDoor
