import Derived.Test.YtplaobhghfndgaaGreatDoorKnown
import Derived.Test.YtplaobhghfndgaaGreatDoorScQ4
/-! The law ExactPowerLaws, walked. -/
set_option linter.unusedVariables false
set_option linter.unusedSimpArgs false
set_option maxRecDepth 100000
namespace Go.Proofs.YtplaobhghfndgaaGreatDoor
open Go Go.Proofs.Vc
attribute [local irreducible] CallsO EffO PureO LoadO StoreO EndO LoopV RoundO
theorem u3 : Tryz.prog.underlying 3 = some (.int .i64) := by kernel_rfl
theorem mul_powQ (x y : Rat) (n : Nat) : (x * y) ^ n = x ^ n * y ^ n := by
  induction n with
  | zero => rw [Rat.pow_zero, Rat.pow_zero, Rat.pow_zero, Rat.mul_one]
  | succ n ih => rw [Rat.pow_succ, ih, Rat.pow_succ, Rat.pow_succ]; grind
section
variable {h : Heap}
set_option maxHeartbeats 4000000 in
theorem law4 (a b : List UInt8) (m n : Nat) (hm : m < 256) (hn : n < 256) (hG : Glob h) : CallGo Tryz.prog 4 #[.agg #[.string (bs a), .string (bs b), .int .u8 m, .int .u8 n]] h NoX fun v h' => v = .bool true := by
  refine v_fn tb k4 [.agg #[.string (bs a), .string (bs b), .int .u8 m, .int .u8 n]] rfl ?_
  conv => whnf
  rcases Nat.lt_or_ge 30 a.length with ha | ha
  · refine pO_gtr rfl rfl (true) (decide_eq_true (by rw [bs_size]; omega)) ?_
    conv => whnf
    refine CallsO.go (known_c hG) ?_
    rintro v1 h1 hle1 rfl
    conv => whnf
    exact EndO.go rfl
  · refine pO_gtr rfl rfl (false) (decide_eq_false (by rw [bs_size]; omega)) ?_
    conv => whnf
    rcases Nat.lt_or_ge 30 b.length with hb | hb
    · refine pO_gtr rfl rfl (true) (decide_eq_true (by rw [bs_size]; omega)) ?_
      conv => whnf
      refine CallsO.go (known_c hG) ?_
      rintro v1 h1 hle1 rfl
      conv => whnf
      exact EndO.go rfl
    · refine pO_gtr rfl rfl (false) (decide_eq_false (by rw [bs_size]; omega)) ?_
      conv => whnf
      refine CallsO.go (number_c a hG (by omega)) ?_
      rintro _ h1 hle1 hx
      obtain ⟨r_hx, rfl⟩ := hx.raw
      replace hG := hG.mono hle1
      conv => whnf
      refine CallsO.go (number_c b hG (by omega)) ?_
      rintro _ h2 hle2 hy
      obtain ⟨r_hy, rfl⟩ := hy.raw
      replace hG := hG.mono hle2
      replace hx := hx.mono hle2
      conv => whnf
      generalize (parseQ a).1 = x at *
      generalize (parseQ b).1 = y at *
      replace hx := hx.up (show 4 * a.length ≤ 120 by omega)
      replace hy := hy.up (show 4 * b.length ≤ 120 by omega)
      refine pO_rem rfl rfl (by decide) (((m % 9 : Nat) : Int)) ((Int.ofNat_tmod m 9).symm) ?_
      conv => whnf
      refine pO_conv (by rfl) u3 rfl ((m % 9 : Nat) : Int) (wr64 rfl (by omega) (by omega)) ?_
      conv => whnf
      refine pO_rem rfl rfl (by decide) (((n % 9 : Nat) : Int)) ((Int.ofNat_tmod n 9).symm) ?_
      conv => whnf
      refine pO_conv (by rfl) u3 rfl ((n % 9 : Nat) : Int) (wr64 rfl (by omega) (by omega)) ?_
      conv => whnf
      obtain ⟨i, hi⟩ : ∃ i, m % 9 = i := ⟨_, rfl⟩
      obtain ⟨j, hj⟩ : ∃ j, n % 9 = j := ⟨_, rfl⟩
      have hi8 : i ≤ 8 := by omega
      have hj8 : j ≤ 8 := by omega
      rw [hi, hj]
      refine CallsO.go (pow_n hx (by omega) (show i ≤ 64 by omega)) ?_
      rintro _ h3 hle3 ⟨_, rfl, hp⟩
      obtain ⟨r_hp, rfl⟩ := hp.raw
      replace hG := hG.mono hle3
      replace hx := hx.mono hle3
      replace hy := hy.mono hle3
      conv => whnf
      refine CallsO.go (pow_n hx (by omega) (show j ≤ 64 by omega)) ?_
      rintro _ h4 hle4 ⟨_, rfl, hq⟩
      obtain ⟨r_hq, rfl⟩ := hq.raw
      replace hG := hG.mono hle4
      replace hx := hx.mono hle4
      replace hy := hy.mono hle4
      replace hp := hp.mono hle4
      conv => whnf
      refine pO_add rfl rfl (((i + j : Nat) : Int)) (wr64 (by omega) (by omega) (by omega)) ?_
      conv => whnf
      refine CallsO.go (pow_n hx (by omega) (show i + j ≤ 64 by omega)) ?_
      rintro _ h5 hle5 ⟨_, rfl, hr⟩
      obtain ⟨r_hr, rfl⟩ := hr.raw
      replace hG := hG.mono hle5
      replace hx := hx.mono hle5
      replace hy := hy.mono hle5
      replace hp := hp.mono hle5
      replace hq := hq.mono hle5
      conv => whnf
      refine CallsO.go (mul_n hx hy (by omega)) ?_
      rintro _ h6 hle6 hxy
      obtain ⟨r_hxy, rfl⟩ := hxy.raw
      replace hG := hG.mono hle6
      replace hx := hx.mono hle6
      replace hy := hy.mono hle6
      replace hp := hp.mono hle6
      replace hq := hq.mono hle6
      replace hr := hr.mono hle6
      conv => whnf
      refine CallsO.go (pow_n hxy (by omega) (show i ≤ 64 by omega)) ?_
      rintro _ h7 hle7 ⟨_, rfl, hs⟩
      obtain ⟨r_hs, rfl⟩ := hs.raw
      replace hG := hG.mono hle7
      replace hx := hx.mono hle7
      replace hy := hy.mono hle7
      replace hp := hp.mono hle7
      replace hq := hq.mono hle7
      replace hr := hr.mono hle7
      replace hxy := hxy.mono hle7
      conv => whnf
      refine CallsO.go (pow_n hy (by omega) (show i ≤ 64 by omega)) ?_
      rintro _ h8 hle8 ⟨_, rfl, ht⟩
      obtain ⟨r_ht, rfl⟩ := ht.raw
      replace hG := hG.mono hle8
      replace hx := hx.mono hle8
      replace hy := hy.mono hle8
      replace hp := hp.mono hle8
      replace hq := hq.mono hle8
      replace hr := hr.mono hle8
      replace hxy := hxy.mono hle8
      replace hs := hs.mono hle8
      conv => whnf
      refine pO_eql rfl rfl (true) (rfl) ?_
      conv => whnf
      refine pO_eql rfl rfl (true) (rfl) ?_
      conv => whnf
      refine pO_eql rfl rfl (true) (rfl) ?_
      conv => whnf
      refine pO_eql rfl rfl (true) (rfl) ?_
      conv => whnf
      refine pO_eql rfl rfl (true) (rfl) ?_
      conv => whnf
      refine CallsO.go (mul_n hp hq (by omega)) ?_
      rintro _ h9 hle9 hpq
      obtain ⟨r_hpq, rfl⟩ := hpq.raw
      replace hG := hG.mono hle9
      replace hx := hx.mono hle9
      replace hy := hy.mono hle9
      replace hp := hp.mono hle9
      replace hq := hq.mono hle9
      replace hr := hr.mono hle9
      replace hxy := hxy.mono hle9
      replace hs := hs.mono hle9
      replace ht := ht.mono hle9
      conv => whnf
      refine CallsO.go (equal_c hpq hr (by omega) (by omega) (pow_addQ x i j).symm) ?_
      rintro v10 h10 hle10 rfl
      replace hG := hG.mono hle10
      replace hx := hx.mono hle10
      replace hy := hy.mono hle10
      replace hp := hp.mono hle10
      replace hq := hq.mono hle10
      replace hr := hr.mono hle10
      replace hxy := hxy.mono hle10
      replace hs := hs.mono hle10
      replace ht := ht.mono hle10
      replace hpq := hpq.mono hle10
      conv => whnf
      refine CallsO.go (mul_n hp ht (by omega)) ?_
      rintro _ h11 hle11 hpt
      obtain ⟨r_hpt, rfl⟩ := hpt.raw
      replace hG := hG.mono hle11
      replace hx := hx.mono hle11
      replace hy := hy.mono hle11
      replace hp := hp.mono hle11
      replace hq := hq.mono hle11
      replace hr := hr.mono hle11
      replace hxy := hxy.mono hle11
      replace hs := hs.mono hle11
      replace ht := ht.mono hle11
      replace hpq := hpq.mono hle11
      conv => whnf
      refine CallsO.go (equal_c hpt hs (by omega) (by omega) (mul_powQ x y i).symm) ?_
      rintro v12 h12 hle12 rfl
      replace hG := hG.mono hle12
      replace hx := hx.mono hle12
      replace hy := hy.mono hle12
      replace hp := hp.mono hle12
      replace hq := hq.mono hle12
      replace hr := hr.mono hle12
      replace hxy := hxy.mono hle12
      replace hs := hs.mono hle12
      replace ht := ht.mono hle12
      replace hpq := hpq.mono hle12
      replace hpt := hpt.mono hle12
      conv => whnf
      refine CallsO.go (known_c hG) ?_
      rintro v13 h13 hle13 rfl
      replace hG := hG.mono hle13
      replace hx := hx.mono hle13
      replace hy := hy.mono hle13
      replace hp := hp.mono hle13
      replace hq := hq.mono hle13
      replace hr := hr.mono hle13
      replace hxy := hxy.mono hle13
      replace hs := hs.mono hle13
      replace ht := ht.mono hle13
      replace hpq := hpq.mono hle13
      replace hpt := hpt.mono hle13
      conv => whnf
      exact EndO.go rfl
end
end Go.Proofs.YtplaobhghfndgaaGreatDoor
