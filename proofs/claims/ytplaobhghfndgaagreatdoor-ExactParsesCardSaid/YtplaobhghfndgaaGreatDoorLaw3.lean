import Derived.Test.YtplaobhghfndgaaGreatDoorReft
import Derived.Test.YtplaobhghfndgaaGreatDoorScQ3
/-! The law ExactParses, walked. -/
set_option linter.unusedVariables false
set_option linter.unusedSimpArgs false
set_option maxRecDepth 100000
namespace Go.Proofs.YtplaobhghfndgaaGreatDoor
open Go Go.Proofs.Vc
attribute [local irreducible] CallsO EffO PureO LoadO StoreO EndO LoopV RoundO
section
variable {h : Heap}
theorem law3 (l : List UInt8) (hG : Glob h) : CallGo Tryz.prog 3 #[.string (bs l)] h NoX fun v h' => v = .bool true := by
  refine v_fn tb k3 [.string (bs l)] rfl ?_
  conv => whnf
  rcases Nat.lt_or_ge 1200 l.length with h1 | h1
  · refine pO_gtr rfl rfl (true) (decide_eq_true (by rw [bs_size]; omega)) ?_
    conv => whnf
    rcases Nat.lt_or_ge 2000 l.length with h2 | h2
    · refine pO_leq rfl rfl (false) (decide_eq_false (by rw [bs_size]; omega)) ?_
      conv => whnf
      rcases Nat.lt_or_ge 3000 l.length with h3 | h3
      · refine pO_gtr rfl rfl (true) (decide_eq_true (by rw [bs_size]; omega)) ?_
        conv => whnf
        refine CallsO.go (known_c hG) ?_
        rintro v1 h1 hle1 rfl
        replace hG := hG.mono hle1
        conv => whnf
        exact EndO.go rfl
      · refine pO_gtr rfl rfl (false) (decide_eq_false (by rw [bs_size]; omega)) ?_
        conv => whnf
        refine CallsO.go (parse_c l hG (by omega)) ?_
        rintro _ h2 hle2 ⟨_, rfl, n1⟩
        obtain ⟨r_n1, rfl⟩ := n1.raw
        replace hG := hG.mono hle2
        conv => whnf
        refine CallsO.go (parse_r l (by omega)) ?_
        rintro _ h3 hle3 ⟨_, rfl, n2⟩
        obtain ⟨r_n2, rfl⟩ := n2.raw
        replace hG := hG.mono hle3
        replace n1 := n1.mono hle3
        conv => whnf
        refine pO_eql rfl rfl (true) (beq_iff_eq.2 rfl) ?_
        conv => whnf
        refine CallsO.go (same_ok n1 n2 (by omega) (by omega) rfl) ?_
        rintro v4 h4 hle4 rfl
        replace hG := hG.mono hle4
        replace n1 := n1.mono hle4
        replace n2 := n2.mono hle4
        conv => whnf
        refine CallsO.go (known_c hG) ?_
        rintro v5 h5 hle5 rfl
        replace hG := hG.mono hle5
        conv => whnf
        exact EndO.go rfl
    · refine pO_leq rfl rfl (true) (decide_eq_true (by rw [bs_size]; omega)) ?_
      conv => whnf
      refine CallsO.go (known_c hG) ?_
      rintro v1 h1 hle1 rfl
      replace hG := hG.mono hle1
      conv => whnf
      exact EndO.go rfl
  · refine pO_gtr rfl rfl (false) (decide_eq_false (by rw [bs_size]; omega)) ?_
    conv => whnf
    refine pO_gtr rfl rfl (false) (decide_eq_false (by rw [bs_size]; omega)) ?_
    conv => whnf
    refine CallsO.go (parse_c l hG (by omega)) ?_
    rintro _ h2 hle2 ⟨_, rfl, n1⟩
    obtain ⟨r_n1, rfl⟩ := n1.raw
    replace hG := hG.mono hle2
    conv => whnf
    refine CallsO.go (parse_r l (by omega)) ?_
    rintro _ h3 hle3 ⟨_, rfl, n2⟩
    obtain ⟨r_n2, rfl⟩ := n2.raw
    replace hG := hG.mono hle3
    replace n1 := n1.mono hle3
    conv => whnf
    refine pO_eql rfl rfl (true) (beq_iff_eq.2 rfl) ?_
    conv => whnf
    refine CallsO.go (same_ok n1 n2 (by omega) (by omega) rfl) ?_
    rintro v4 h4 hle4 rfl
    replace hG := hG.mono hle4
    replace n1 := n1.mono hle4
    replace n2 := n2.mono hle4
    conv => whnf
    refine CallsO.go (known_c hG) ?_
    rintro v5 h5 hle5 rfl
    replace hG := hG.mono hle5
    conv => whnf
    exact EndO.go rfl
end
end Go.Proofs.YtplaobhghfndgaaGreatDoor
