import Derived.Test.YtplaobhghfndgaaGreatDoorLaw4
import Derived.Test.YtplaobhghfndgaaGreatDoorScQ6
/-! The law ExactField, walked. -/
set_option linter.unusedVariables false
set_option linter.unusedSimpArgs false
set_option maxRecDepth 100000
namespace Go.Proofs.YtplaobhghfndgaaGreatDoor
open Go Go.Proofs.Vc
attribute [local irreducible] CallsO EffO PureO LoadO StoreO EndO LoopV RoundO
section
variable {h : Heap}
theorem div_zeroQ (x : Rat) : x / 0 = 0 := by rw [Rat.div_def, Rat.inv_zero, Rat.mul_zero]
set_option maxHeartbeats 4000000 in
theorem law6 (a b c : List UInt8) (hG : Glob h) : CallGo Tryz.prog 6 #[.string (bs a), .string (bs b), .string (bs c)] h NoX fun v h' => v = .bool true := by
  refine v_fn tb k6 [.string (bs a), .string (bs b), .string (bs c)] rfl ?_
  conv => whnf
  refine eO_lits [.string (bs a), .string (bs b), .string (bs c)] u113 s9 z9 (by decide) rfl rfl (fun v hv => by simp at hv; rcases hv with rfl | rfl | rfl <;> rfl) fun g hg => ?_
  conv => whnf
  replace hG := hG.mono (Le.upd (o := .cells (List.flatMap (fun v => v.cells.toList) [Value.string (bs a), Value.string (bs b), Value.string (bs c)]).toArray 9 (0, 0)) hg)
  obtain ⟨t, ht⟩ : ∃ t, ([a, b, c].any fun l => decide (120 < l.length)) = t := ⟨_, rfl⟩
  refine CallsO.go (long_b (n := 3) (xs := [a, b, c]) (row_v (n := 3) (cur := [.string (bs a), .string (bs b), .string (bs c)]) (Heap.upd_same _ _ _) rfl (Nat.le_refl 3)) rfl (by decide) t ht) ?_
  rintro v0 h0 hle0 ⟨rfl, rfl⟩
  conv => whnf
  cases t
  · conv => whnf
    simp only [List.any_cons, List.any_nil, Bool.or_eq_false_iff, decide_eq_false_iff_not] at ht
    obtain ⟨ha, hb, hc, _⟩ := ht
    refine CallsO.go (number_c a hG (by omega)) ?_
    rintro _ h1 hle1 hx
    obtain ⟨r_hx, rfl⟩ := hx.raw
    replace hG := hG.mono hle1
    conv => whnf
    refine CallsO.go (number_c b hG (by omega)) ?_
    rintro _ h2 hle2 hy
    obtain ⟨r_hy, rfl⟩ := hy.raw
    replace hG := hG.mono hle2
    replace hx := hx.mono hle2
    conv => whnf
    refine CallsO.go (number_c c hG (by omega)) ?_
    rintro _ h3 hle3 hz
    obtain ⟨r_hz, rfl⟩ := hz.raw
    replace hG := hG.mono hle3
    replace hx := hx.mono hle3
    replace hy := hy.mono hle3
    conv => whnf
    generalize (parseQ a).1 = x at *
    generalize (parseQ b).1 = y at *
    generalize (parseQ c).1 = z at *
    replace hx := hx.up (show 4 * a.length ≤ 480 by omega)
    replace hy := hy.up (show 4 * b.length ≤ 480 by omega)
    replace hz := hz.up (show 4 * c.length ≤ 480 by omega)
    refine CallsO.go (add_n hx hy (by decide)) ?_
    rintro _ h4 hle4 n1
    obtain ⟨r_n1, rfl⟩ := n1.raw
    replace hG := hG.mono hle4
    replace hx := hx.mono hle4
    replace hy := hy.mono hle4
    replace hz := hz.mono hle4
    conv => whnf
    refine CallsO.go (add_n hy hx (by decide)) ?_
    rintro _ h5 hle5 n2
    obtain ⟨r_n2, rfl⟩ := n2.raw
    replace hG := hG.mono hle5
    replace hx := hx.mono hle5
    replace hy := hy.mono hle5
    replace hz := hz.mono hle5
    replace n1 := n1.mono hle5
    conv => whnf
    refine CallsO.go (equal_c n1 n2 (by decide) (by decide) (Rat.add_comm _ _)) ?_
    rintro v6 h6 hle6 rfl
    replace hG := hG.mono hle6
    replace hx := hx.mono hle6
    replace hy := hy.mono hle6
    replace hz := hz.mono hle6
    replace n1 := n1.mono hle6
    replace n2 := n2.mono hle6
    conv => whnf
    refine CallsO.go (mul_n hx hy (by decide)) ?_
    rintro _ h7 hle7 n3
    obtain ⟨r_n3, rfl⟩ := n3.raw
    replace hG := hG.mono hle7
    replace hx := hx.mono hle7
    replace hy := hy.mono hle7
    replace hz := hz.mono hle7
    replace n1 := n1.mono hle7
    replace n2 := n2.mono hle7
    conv => whnf
    refine CallsO.go (mul_n hy hx (by decide)) ?_
    rintro _ h8 hle8 n4
    obtain ⟨r_n4, rfl⟩ := n4.raw
    replace hG := hG.mono hle8
    replace hx := hx.mono hle8
    replace hy := hy.mono hle8
    replace hz := hz.mono hle8
    replace n1 := n1.mono hle8
    replace n2 := n2.mono hle8
    replace n3 := n3.mono hle8
    conv => whnf
    refine CallsO.go (equal_c n3 n4 (by decide) (by decide) (Rat.mul_comm _ _)) ?_
    rintro v9 h9 hle9 rfl
    replace hG := hG.mono hle9
    replace hx := hx.mono hle9
    replace hy := hy.mono hle9
    replace hz := hz.mono hle9
    replace n1 := n1.mono hle9
    replace n2 := n2.mono hle9
    replace n3 := n3.mono hle9
    replace n4 := n4.mono hle9
    conv => whnf
    refine CallsO.go (add_n hx hy (by decide)) ?_
    rintro _ h10 hle10 n5
    obtain ⟨r_n5, rfl⟩ := n5.raw
    replace hG := hG.mono hle10
    replace hx := hx.mono hle10
    replace hy := hy.mono hle10
    replace hz := hz.mono hle10
    replace n1 := n1.mono hle10
    replace n2 := n2.mono hle10
    replace n3 := n3.mono hle10
    replace n4 := n4.mono hle10
    conv => whnf
    refine CallsO.go (add_n n5 hz (by decide)) ?_
    rintro _ h11 hle11 n6
    obtain ⟨r_n6, rfl⟩ := n6.raw
    replace hG := hG.mono hle11
    replace hx := hx.mono hle11
    replace hy := hy.mono hle11
    replace hz := hz.mono hle11
    replace n1 := n1.mono hle11
    replace n2 := n2.mono hle11
    replace n3 := n3.mono hle11
    replace n4 := n4.mono hle11
    replace n5 := n5.mono hle11
    conv => whnf
    refine CallsO.go (add_n hy hz (by decide)) ?_
    rintro _ h12 hle12 n7
    obtain ⟨r_n7, rfl⟩ := n7.raw
    replace hG := hG.mono hle12
    replace hx := hx.mono hle12
    replace hy := hy.mono hle12
    replace hz := hz.mono hle12
    replace n1 := n1.mono hle12
    replace n2 := n2.mono hle12
    replace n3 := n3.mono hle12
    replace n4 := n4.mono hle12
    replace n5 := n5.mono hle12
    replace n6 := n6.mono hle12
    conv => whnf
    refine CallsO.go (add_n hx n7 (by decide)) ?_
    rintro _ h13 hle13 n8
    obtain ⟨r_n8, rfl⟩ := n8.raw
    replace hG := hG.mono hle13
    replace hx := hx.mono hle13
    replace hy := hy.mono hle13
    replace hz := hz.mono hle13
    replace n1 := n1.mono hle13
    replace n2 := n2.mono hle13
    replace n3 := n3.mono hle13
    replace n4 := n4.mono hle13
    replace n5 := n5.mono hle13
    replace n6 := n6.mono hle13
    replace n7 := n7.mono hle13
    conv => whnf
    refine CallsO.go (equal_c n6 n8 (by decide) (by decide) (Rat.add_assoc _ _ _)) ?_
    rintro v14 h14 hle14 rfl
    replace hG := hG.mono hle14
    replace hx := hx.mono hle14
    replace hy := hy.mono hle14
    replace hz := hz.mono hle14
    replace n1 := n1.mono hle14
    replace n2 := n2.mono hle14
    replace n3 := n3.mono hle14
    replace n4 := n4.mono hle14
    replace n5 := n5.mono hle14
    replace n6 := n6.mono hle14
    replace n7 := n7.mono hle14
    replace n8 := n8.mono hle14
    conv => whnf
    refine CallsO.go (mul_n hx hy (by decide)) ?_
    rintro _ h15 hle15 n9
    obtain ⟨r_n9, rfl⟩ := n9.raw
    replace hG := hG.mono hle15
    replace hx := hx.mono hle15
    replace hy := hy.mono hle15
    replace hz := hz.mono hle15
    replace n1 := n1.mono hle15
    replace n2 := n2.mono hle15
    replace n3 := n3.mono hle15
    replace n4 := n4.mono hle15
    replace n5 := n5.mono hle15
    replace n6 := n6.mono hle15
    replace n7 := n7.mono hle15
    replace n8 := n8.mono hle15
    conv => whnf
    refine CallsO.go (mul_n n9 hz (by decide)) ?_
    rintro _ h16 hle16 n10
    obtain ⟨r_n10, rfl⟩ := n10.raw
    replace hG := hG.mono hle16
    replace hx := hx.mono hle16
    replace hy := hy.mono hle16
    replace hz := hz.mono hle16
    replace n1 := n1.mono hle16
    replace n2 := n2.mono hle16
    replace n3 := n3.mono hle16
    replace n4 := n4.mono hle16
    replace n5 := n5.mono hle16
    replace n6 := n6.mono hle16
    replace n7 := n7.mono hle16
    replace n8 := n8.mono hle16
    replace n9 := n9.mono hle16
    conv => whnf
    refine CallsO.go (mul_n hy hz (by decide)) ?_
    rintro _ h17 hle17 n11
    obtain ⟨r_n11, rfl⟩ := n11.raw
    replace hG := hG.mono hle17
    replace hx := hx.mono hle17
    replace hy := hy.mono hle17
    replace hz := hz.mono hle17
    replace n1 := n1.mono hle17
    replace n2 := n2.mono hle17
    replace n3 := n3.mono hle17
    replace n4 := n4.mono hle17
    replace n5 := n5.mono hle17
    replace n6 := n6.mono hle17
    replace n7 := n7.mono hle17
    replace n8 := n8.mono hle17
    replace n9 := n9.mono hle17
    replace n10 := n10.mono hle17
    conv => whnf
    refine CallsO.go (mul_n hx n11 (by decide)) ?_
    rintro _ h18 hle18 n12
    obtain ⟨r_n12, rfl⟩ := n12.raw
    replace hG := hG.mono hle18
    replace hx := hx.mono hle18
    replace hy := hy.mono hle18
    replace hz := hz.mono hle18
    replace n1 := n1.mono hle18
    replace n2 := n2.mono hle18
    replace n3 := n3.mono hle18
    replace n4 := n4.mono hle18
    replace n5 := n5.mono hle18
    replace n6 := n6.mono hle18
    replace n7 := n7.mono hle18
    replace n8 := n8.mono hle18
    replace n9 := n9.mono hle18
    replace n10 := n10.mono hle18
    replace n11 := n11.mono hle18
    conv => whnf
    refine CallsO.go (equal_c n10 n12 (by decide) (by decide) (Rat.mul_assoc _ _ _)) ?_
    rintro v19 h19 hle19 rfl
    replace hG := hG.mono hle19
    replace hx := hx.mono hle19
    replace hy := hy.mono hle19
    replace hz := hz.mono hle19
    replace n1 := n1.mono hle19
    replace n2 := n2.mono hle19
    replace n3 := n3.mono hle19
    replace n4 := n4.mono hle19
    replace n5 := n5.mono hle19
    replace n6 := n6.mono hle19
    replace n7 := n7.mono hle19
    replace n8 := n8.mono hle19
    replace n9 := n9.mono hle19
    replace n10 := n10.mono hle19
    replace n11 := n11.mono hle19
    replace n12 := n12.mono hle19
    conv => whnf
    refine CallsO.go (add_n hx hy (by decide)) ?_
    rintro _ h20 hle20 n13
    obtain ⟨r_n13, rfl⟩ := n13.raw
    replace hG := hG.mono hle20
    replace hx := hx.mono hle20
    replace hy := hy.mono hle20
    replace hz := hz.mono hle20
    replace n1 := n1.mono hle20
    replace n2 := n2.mono hle20
    replace n3 := n3.mono hle20
    replace n4 := n4.mono hle20
    replace n5 := n5.mono hle20
    replace n6 := n6.mono hle20
    replace n7 := n7.mono hle20
    replace n8 := n8.mono hle20
    replace n9 := n9.mono hle20
    replace n10 := n10.mono hle20
    replace n11 := n11.mono hle20
    replace n12 := n12.mono hle20
    conv => whnf
    refine CallsO.go (mul_n n13 hz (by decide)) ?_
    rintro _ h21 hle21 n14
    obtain ⟨r_n14, rfl⟩ := n14.raw
    replace hG := hG.mono hle21
    replace hx := hx.mono hle21
    replace hy := hy.mono hle21
    replace hz := hz.mono hle21
    replace n1 := n1.mono hle21
    replace n2 := n2.mono hle21
    replace n3 := n3.mono hle21
    replace n4 := n4.mono hle21
    replace n5 := n5.mono hle21
    replace n6 := n6.mono hle21
    replace n7 := n7.mono hle21
    replace n8 := n8.mono hle21
    replace n9 := n9.mono hle21
    replace n10 := n10.mono hle21
    replace n11 := n11.mono hle21
    replace n12 := n12.mono hle21
    replace n13 := n13.mono hle21
    conv => whnf
    refine CallsO.go (mul_n hx hz (by decide)) ?_
    rintro _ h22 hle22 n15
    obtain ⟨r_n15, rfl⟩ := n15.raw
    replace hG := hG.mono hle22
    replace hx := hx.mono hle22
    replace hy := hy.mono hle22
    replace hz := hz.mono hle22
    replace n1 := n1.mono hle22
    replace n2 := n2.mono hle22
    replace n3 := n3.mono hle22
    replace n4 := n4.mono hle22
    replace n5 := n5.mono hle22
    replace n6 := n6.mono hle22
    replace n7 := n7.mono hle22
    replace n8 := n8.mono hle22
    replace n9 := n9.mono hle22
    replace n10 := n10.mono hle22
    replace n11 := n11.mono hle22
    replace n12 := n12.mono hle22
    replace n13 := n13.mono hle22
    replace n14 := n14.mono hle22
    conv => whnf
    refine CallsO.go (mul_n hy hz (by decide)) ?_
    rintro _ h23 hle23 n16
    obtain ⟨r_n16, rfl⟩ := n16.raw
    replace hG := hG.mono hle23
    replace hx := hx.mono hle23
    replace hy := hy.mono hle23
    replace hz := hz.mono hle23
    replace n1 := n1.mono hle23
    replace n2 := n2.mono hle23
    replace n3 := n3.mono hle23
    replace n4 := n4.mono hle23
    replace n5 := n5.mono hle23
    replace n6 := n6.mono hle23
    replace n7 := n7.mono hle23
    replace n8 := n8.mono hle23
    replace n9 := n9.mono hle23
    replace n10 := n10.mono hle23
    replace n11 := n11.mono hle23
    replace n12 := n12.mono hle23
    replace n13 := n13.mono hle23
    replace n14 := n14.mono hle23
    replace n15 := n15.mono hle23
    conv => whnf
    refine CallsO.go (add_n n15 n16 (by decide)) ?_
    rintro _ h24 hle24 n17
    obtain ⟨r_n17, rfl⟩ := n17.raw
    replace hG := hG.mono hle24
    replace hx := hx.mono hle24
    replace hy := hy.mono hle24
    replace hz := hz.mono hle24
    replace n1 := n1.mono hle24
    replace n2 := n2.mono hle24
    replace n3 := n3.mono hle24
    replace n4 := n4.mono hle24
    replace n5 := n5.mono hle24
    replace n6 := n6.mono hle24
    replace n7 := n7.mono hle24
    replace n8 := n8.mono hle24
    replace n9 := n9.mono hle24
    replace n10 := n10.mono hle24
    replace n11 := n11.mono hle24
    replace n12 := n12.mono hle24
    replace n13 := n13.mono hle24
    replace n14 := n14.mono hle24
    replace n15 := n15.mono hle24
    replace n16 := n16.mono hle24
    conv => whnf
    refine CallsO.go (equal_c n14 n17 (by decide) (by decide) (Rat.add_mul _ _ _)) ?_
    rintro v25 h25 hle25 rfl
    replace hG := hG.mono hle25
    replace hx := hx.mono hle25
    replace hy := hy.mono hle25
    replace hz := hz.mono hle25
    replace n1 := n1.mono hle25
    replace n2 := n2.mono hle25
    replace n3 := n3.mono hle25
    replace n4 := n4.mono hle25
    replace n5 := n5.mono hle25
    replace n6 := n6.mono hle25
    replace n7 := n7.mono hle25
    replace n8 := n8.mono hle25
    replace n9 := n9.mono hle25
    replace n10 := n10.mono hle25
    replace n11 := n11.mono hle25
    replace n12 := n12.mono hle25
    replace n13 := n13.mono hle25
    replace n14 := n14.mono hle25
    replace n15 := n15.mono hle25
    replace n16 := n16.mono hle25
    replace n17 := n17.mono hle25
    conv => whnf
    refine CallsO.go (sub_n hx hy (by decide)) ?_
    rintro _ h26 hle26 n18
    obtain ⟨r_n18, rfl⟩ := n18.raw
    replace hG := hG.mono hle26
    replace hx := hx.mono hle26
    replace hy := hy.mono hle26
    replace hz := hz.mono hle26
    replace n1 := n1.mono hle26
    replace n2 := n2.mono hle26
    replace n3 := n3.mono hle26
    replace n4 := n4.mono hle26
    replace n5 := n5.mono hle26
    replace n6 := n6.mono hle26
    replace n7 := n7.mono hle26
    replace n8 := n8.mono hle26
    replace n9 := n9.mono hle26
    replace n10 := n10.mono hle26
    replace n11 := n11.mono hle26
    replace n12 := n12.mono hle26
    replace n13 := n13.mono hle26
    replace n14 := n14.mono hle26
    replace n15 := n15.mono hle26
    replace n16 := n16.mono hle26
    replace n17 := n17.mono hle26
    conv => whnf
    refine CallsO.go (add_n n18 hy (by decide)) ?_
    rintro _ h27 hle27 n19
    obtain ⟨r_n19, rfl⟩ := n19.raw
    replace hG := hG.mono hle27
    replace hx := hx.mono hle27
    replace hy := hy.mono hle27
    replace hz := hz.mono hle27
    replace n1 := n1.mono hle27
    replace n2 := n2.mono hle27
    replace n3 := n3.mono hle27
    replace n4 := n4.mono hle27
    replace n5 := n5.mono hle27
    replace n6 := n6.mono hle27
    replace n7 := n7.mono hle27
    replace n8 := n8.mono hle27
    replace n9 := n9.mono hle27
    replace n10 := n10.mono hle27
    replace n11 := n11.mono hle27
    replace n12 := n12.mono hle27
    replace n13 := n13.mono hle27
    replace n14 := n14.mono hle27
    replace n15 := n15.mono hle27
    replace n16 := n16.mono hle27
    replace n17 := n17.mono hle27
    replace n18 := n18.mono hle27
    conv => whnf
    refine CallsO.go (equal_c n19 hx (by decide) (by decide) (by grind)) ?_
    rintro v28 h28 hle28 rfl
    replace hG := hG.mono hle28
    replace hx := hx.mono hle28
    replace hy := hy.mono hle28
    replace hz := hz.mono hle28
    replace n1 := n1.mono hle28
    replace n2 := n2.mono hle28
    replace n3 := n3.mono hle28
    replace n4 := n4.mono hle28
    replace n5 := n5.mono hle28
    replace n6 := n6.mono hle28
    replace n7 := n7.mono hle28
    replace n8 := n8.mono hle28
    replace n9 := n9.mono hle28
    replace n10 := n10.mono hle28
    replace n11 := n11.mono hle28
    replace n12 := n12.mono hle28
    replace n13 := n13.mono hle28
    replace n14 := n14.mono hle28
    replace n15 := n15.mono hle28
    replace n16 := n16.mono hle28
    replace n17 := n17.mono hle28
    replace n18 := n18.mono hle28
    replace n19 := n19.mono hle28
    conv => whnf
    refine pO_b0 rfl ?_
    conv => whnf
    refine CallsO.go (neg_n hx (by decide)) ?_
    rintro _ h29 hle29 n20
    obtain ⟨r_n20, rfl⟩ := n20.raw
    replace hG := hG.mono hle29
    replace hx := hx.mono hle29
    replace hy := hy.mono hle29
    replace hz := hz.mono hle29
    replace n1 := n1.mono hle29
    replace n2 := n2.mono hle29
    replace n3 := n3.mono hle29
    replace n4 := n4.mono hle29
    replace n5 := n5.mono hle29
    replace n6 := n6.mono hle29
    replace n7 := n7.mono hle29
    replace n8 := n8.mono hle29
    replace n9 := n9.mono hle29
    replace n10 := n10.mono hle29
    replace n11 := n11.mono hle29
    replace n12 := n12.mono hle29
    replace n13 := n13.mono hle29
    replace n14 := n14.mono hle29
    replace n15 := n15.mono hle29
    replace n16 := n16.mono hle29
    replace n17 := n17.mono hle29
    replace n18 := n18.mono hle29
    replace n19 := n19.mono hle29
    conv => whnf
    refine CallsO.go (add_n hx n20 (by decide)) ?_
    rintro _ h30 hle30 n21
    obtain ⟨r_n21, rfl⟩ := n21.raw
    replace hG := hG.mono hle30
    replace hx := hx.mono hle30
    replace hy := hy.mono hle30
    replace hz := hz.mono hle30
    replace n1 := n1.mono hle30
    replace n2 := n2.mono hle30
    replace n3 := n3.mono hle30
    replace n4 := n4.mono hle30
    replace n5 := n5.mono hle30
    replace n6 := n6.mono hle30
    replace n7 := n7.mono hle30
    replace n8 := n8.mono hle30
    replace n9 := n9.mono hle30
    replace n10 := n10.mono hle30
    replace n11 := n11.mono hle30
    replace n12 := n12.mono hle30
    replace n13 := n13.mono hle30
    replace n14 := n14.mono hle30
    replace n15 := n15.mono hle30
    replace n16 := n16.mono hle30
    replace n17 := n17.mono hle30
    replace n18 := n18.mono hle30
    replace n19 := n19.mono hle30
    replace n20 := n20.mono hle30
    conv => whnf
    refine CallsO.go (equal_c n21 (NumV.zero _ 0) (by decide) (by decide) (by grind)) ?_
    rintro v31 h31 hle31 rfl
    replace hG := hG.mono hle31
    replace hx := hx.mono hle31
    replace hy := hy.mono hle31
    replace hz := hz.mono hle31
    replace n1 := n1.mono hle31
    replace n2 := n2.mono hle31
    replace n3 := n3.mono hle31
    replace n4 := n4.mono hle31
    replace n5 := n5.mono hle31
    replace n6 := n6.mono hle31
    replace n7 := n7.mono hle31
    replace n8 := n8.mono hle31
    replace n9 := n9.mono hle31
    replace n10 := n10.mono hle31
    replace n11 := n11.mono hle31
    replace n12 := n12.mono hle31
    replace n13 := n13.mono hle31
    replace n14 := n14.mono hle31
    replace n15 := n15.mono hle31
    replace n16 := n16.mono hle31
    replace n17 := n17.mono hle31
    replace n18 := n18.mono hle31
    replace n19 := n19.mono hle31
    replace n20 := n20.mono hle31
    replace n21 := n21.mono hle31
    conv => whnf
    refine pO_b0 rfl ?_
    conv => whnf
    refine CallsO.go (add_n hx (NumV.zero _ 0) (by decide)) ?_
    rintro _ h32 hle32 n22
    obtain ⟨r_n22, rfl⟩ := n22.raw
    replace hG := hG.mono hle32
    replace hx := hx.mono hle32
    replace hy := hy.mono hle32
    replace hz := hz.mono hle32
    replace n1 := n1.mono hle32
    replace n2 := n2.mono hle32
    replace n3 := n3.mono hle32
    replace n4 := n4.mono hle32
    replace n5 := n5.mono hle32
    replace n6 := n6.mono hle32
    replace n7 := n7.mono hle32
    replace n8 := n8.mono hle32
    replace n9 := n9.mono hle32
    replace n10 := n10.mono hle32
    replace n11 := n11.mono hle32
    replace n12 := n12.mono hle32
    replace n13 := n13.mono hle32
    replace n14 := n14.mono hle32
    replace n15 := n15.mono hle32
    replace n16 := n16.mono hle32
    replace n17 := n17.mono hle32
    replace n18 := n18.mono hle32
    replace n19 := n19.mono hle32
    replace n20 := n20.mono hle32
    replace n21 := n21.mono hle32
    conv => whnf
    refine CallsO.go (equal_c n22 hx (by decide) (by decide) (by grind)) ?_
    rintro v33 h33 hle33 rfl
    replace hG := hG.mono hle33
    replace hx := hx.mono hle33
    replace hy := hy.mono hle33
    replace hz := hz.mono hle33
    replace n1 := n1.mono hle33
    replace n2 := n2.mono hle33
    replace n3 := n3.mono hle33
    replace n4 := n4.mono hle33
    replace n5 := n5.mono hle33
    replace n6 := n6.mono hle33
    replace n7 := n7.mono hle33
    replace n8 := n8.mono hle33
    replace n9 := n9.mono hle33
    replace n10 := n10.mono hle33
    replace n11 := n11.mono hle33
    replace n12 := n12.mono hle33
    replace n13 := n13.mono hle33
    replace n14 := n14.mono hle33
    replace n15 := n15.mono hle33
    replace n16 := n16.mono hle33
    replace n17 := n17.mono hle33
    replace n18 := n18.mono hle33
    replace n19 := n19.mono hle33
    replace n20 := n20.mono hle33
    replace n21 := n21.mono hle33
    replace n22 := n22.mono hle33
    conv => whnf
    refine CallsO.go (int_n (z := 1) (by decide) (by decide)) ?_
    rintro _ h34 hle34 n23
    obtain ⟨r_n23, rfl⟩ := n23.raw
    replace hG := hG.mono hle34
    replace hx := hx.mono hle34
    replace hy := hy.mono hle34
    replace hz := hz.mono hle34
    replace n1 := n1.mono hle34
    replace n2 := n2.mono hle34
    replace n3 := n3.mono hle34
    replace n4 := n4.mono hle34
    replace n5 := n5.mono hle34
    replace n6 := n6.mono hle34
    replace n7 := n7.mono hle34
    replace n8 := n8.mono hle34
    replace n9 := n9.mono hle34
    replace n10 := n10.mono hle34
    replace n11 := n11.mono hle34
    replace n12 := n12.mono hle34
    replace n13 := n13.mono hle34
    replace n14 := n14.mono hle34
    replace n15 := n15.mono hle34
    replace n16 := n16.mono hle34
    replace n17 := n17.mono hle34
    replace n18 := n18.mono hle34
    replace n19 := n19.mono hle34
    replace n20 := n20.mono hle34
    replace n21 := n21.mono hle34
    replace n22 := n22.mono hle34
    conv => whnf
    refine CallsO.go (mul_n hx n23 (by decide)) ?_
    rintro _ h35 hle35 n24
    obtain ⟨r_n24, rfl⟩ := n24.raw
    replace hG := hG.mono hle35
    replace hx := hx.mono hle35
    replace hy := hy.mono hle35
    replace hz := hz.mono hle35
    replace n1 := n1.mono hle35
    replace n2 := n2.mono hle35
    replace n3 := n3.mono hle35
    replace n4 := n4.mono hle35
    replace n5 := n5.mono hle35
    replace n6 := n6.mono hle35
    replace n7 := n7.mono hle35
    replace n8 := n8.mono hle35
    replace n9 := n9.mono hle35
    replace n10 := n10.mono hle35
    replace n11 := n11.mono hle35
    replace n12 := n12.mono hle35
    replace n13 := n13.mono hle35
    replace n14 := n14.mono hle35
    replace n15 := n15.mono hle35
    replace n16 := n16.mono hle35
    replace n17 := n17.mono hle35
    replace n18 := n18.mono hle35
    replace n19 := n19.mono hle35
    replace n20 := n20.mono hle35
    replace n21 := n21.mono hle35
    replace n22 := n22.mono hle35
    replace n23 := n23.mono hle35
    conv => whnf
    refine CallsO.go (equal_c n24 hx (by decide) (by decide) (by have : ((1 : Int) : Rat) = 1 := rfl; rw [this]; grind)) ?_
    rintro v36 h36 hle36 rfl
    replace hG := hG.mono hle36
    replace hx := hx.mono hle36
    replace hy := hy.mono hle36
    replace hz := hz.mono hle36
    replace n1 := n1.mono hle36
    replace n2 := n2.mono hle36
    replace n3 := n3.mono hle36
    replace n4 := n4.mono hle36
    replace n5 := n5.mono hle36
    replace n6 := n6.mono hle36
    replace n7 := n7.mono hle36
    replace n8 := n8.mono hle36
    replace n9 := n9.mono hle36
    replace n10 := n10.mono hle36
    replace n11 := n11.mono hle36
    replace n12 := n12.mono hle36
    replace n13 := n13.mono hle36
    replace n14 := n14.mono hle36
    replace n15 := n15.mono hle36
    replace n16 := n16.mono hle36
    replace n17 := n17.mono hle36
    replace n18 := n18.mono hle36
    replace n19 := n19.mono hle36
    replace n20 := n20.mono hle36
    replace n21 := n21.mono hle36
    replace n22 := n22.mono hle36
    replace n23 := n23.mono hle36
    replace n24 := n24.mono hle36
    conv => whnf
    refine CallsO.go (div_n hx hy (by decide)) ?_
    rintro _ h37 hle37 ⟨_, rfl, n25⟩
    obtain ⟨r_n25, rfl⟩ := n25.raw
    replace hG := hG.mono hle37
    replace hx := hx.mono hle37
    replace hy := hy.mono hle37
    replace hz := hz.mono hle37
    replace n1 := n1.mono hle37
    replace n2 := n2.mono hle37
    replace n3 := n3.mono hle37
    replace n4 := n4.mono hle37
    replace n5 := n5.mono hle37
    replace n6 := n6.mono hle37
    replace n7 := n7.mono hle37
    replace n8 := n8.mono hle37
    replace n9 := n9.mono hle37
    replace n10 := n10.mono hle37
    replace n11 := n11.mono hle37
    replace n12 := n12.mono hle37
    replace n13 := n13.mono hle37
    replace n14 := n14.mono hle37
    replace n15 := n15.mono hle37
    replace n16 := n16.mono hle37
    replace n17 := n17.mono hle37
    replace n18 := n18.mono hle37
    replace n19 := n19.mono hle37
    replace n20 := n20.mono hle37
    replace n21 := n21.mono hle37
    replace n22 := n22.mono hle37
    replace n23 := n23.mono hle37
    replace n24 := n24.mono hle37
    conv => whnf
    by_cases h0 : y.num.natAbs = 0
    · rw [if_pos h0]
      refine pO_eql rfl rfl (true) (rfl) ?_
      conv => whnf
      refine CallsO.go (sign_n hy (by decide)) ?_
      rintro v38 h38 hle38 ⟨rfl, rfl⟩
      replace hG := hG.mono hle38
      replace hx := hx.mono hle38
      replace hy := hy.mono hle38
      replace hz := hz.mono hle38
      replace n1 := n1.mono hle38
      replace n2 := n2.mono hle38
      replace n3 := n3.mono hle38
      replace n4 := n4.mono hle38
      replace n5 := n5.mono hle38
      replace n6 := n6.mono hle38
      replace n7 := n7.mono hle38
      replace n8 := n8.mono hle38
      replace n9 := n9.mono hle38
      replace n10 := n10.mono hle38
      replace n11 := n11.mono hle38
      replace n12 := n12.mono hle38
      replace n13 := n13.mono hle38
      replace n14 := n14.mono hle38
      replace n15 := n15.mono hle38
      replace n16 := n16.mono hle38
      replace n17 := n17.mono hle38
      replace n18 := n18.mono hle38
      replace n19 := n19.mono hle38
      replace n20 := n20.mono hle38
      replace n21 := n21.mono hle38
      replace n22 := n22.mono hle38
      replace n23 := n23.mono hle38
      replace n24 := n24.mono hle38
      replace n25 := n25.mono hle38
      conv => whnf
      refine pO_eql rfl rfl (true) (by rw [sgnQ_zero.2 h0]; rfl) ?_
      conv => whnf
      refine pO_beql u4 rfl rfl true rfl ?_
      conv => whnf
      refine pO_neq rfl rfl (true) (rfl) ?_
      conv => whnf
      refine CallsO.go (known_c hG) ?_
      rintro v39 h39 hle39 rfl
      replace hG := hG.mono hle39
      replace hx := hx.mono hle39
      replace hy := hy.mono hle39
      replace hz := hz.mono hle39
      replace n1 := n1.mono hle39
      replace n2 := n2.mono hle39
      replace n3 := n3.mono hle39
      replace n4 := n4.mono hle39
      replace n5 := n5.mono hle39
      replace n6 := n6.mono hle39
      replace n7 := n7.mono hle39
      replace n8 := n8.mono hle39
      replace n9 := n9.mono hle39
      replace n10 := n10.mono hle39
      replace n11 := n11.mono hle39
      replace n12 := n12.mono hle39
      replace n13 := n13.mono hle39
      replace n14 := n14.mono hle39
      replace n15 := n15.mono hle39
      replace n16 := n16.mono hle39
      replace n17 := n17.mono hle39
      replace n18 := n18.mono hle39
      replace n19 := n19.mono hle39
      replace n20 := n20.mono hle39
      replace n21 := n21.mono hle39
      replace n22 := n22.mono hle39
      replace n23 := n23.mono hle39
      replace n24 := n24.mono hle39
      replace n25 := n25.mono hle39
      conv => whnf
      exact EndO.go rfl
    · rw [if_neg h0]
      refine pO_eql rfl rfl (false) (rfl) ?_
      conv => whnf
      refine CallsO.go (sign_n hy (by decide)) ?_
      rintro v38 h38 hle38 ⟨rfl, rfl⟩
      replace hG := hG.mono hle38
      replace hx := hx.mono hle38
      replace hy := hy.mono hle38
      replace hz := hz.mono hle38
      replace n1 := n1.mono hle38
      replace n2 := n2.mono hle38
      replace n3 := n3.mono hle38
      replace n4 := n4.mono hle38
      replace n5 := n5.mono hle38
      replace n6 := n6.mono hle38
      replace n7 := n7.mono hle38
      replace n8 := n8.mono hle38
      replace n9 := n9.mono hle38
      replace n10 := n10.mono hle38
      replace n11 := n11.mono hle38
      replace n12 := n12.mono hle38
      replace n13 := n13.mono hle38
      replace n14 := n14.mono hle38
      replace n15 := n15.mono hle38
      replace n16 := n16.mono hle38
      replace n17 := n17.mono hle38
      replace n18 := n18.mono hle38
      replace n19 := n19.mono hle38
      replace n20 := n20.mono hle38
      replace n21 := n21.mono hle38
      replace n22 := n22.mono hle38
      replace n23 := n23.mono hle38
      replace n24 := n24.mono hle38
      replace n25 := n25.mono hle38
      conv => whnf
      refine pO_eql rfl rfl (false) (beq_eq_false_iff_ne.2 (fun e => h0 (sgnQ_zero.1 e))) ?_
      conv => whnf
      refine pO_beql u4 rfl rfl true rfl ?_
      conv => whnf
      refine pO_neq rfl rfl (false) (rfl) ?_
      conv => whnf
      have hy0 : y ≠ 0 := fun e => h0 (by rw [e]; rfl)
      refine CallsO.go (mul_n n25 hy (by decide)) ?_
      rintro _ h39 hle39 n26
      obtain ⟨r_n26, rfl⟩ := n26.raw
      replace hG := hG.mono hle39
      replace hx := hx.mono hle39
      replace hy := hy.mono hle39
      replace hz := hz.mono hle39
      replace n1 := n1.mono hle39
      replace n2 := n2.mono hle39
      replace n3 := n3.mono hle39
      replace n4 := n4.mono hle39
      replace n5 := n5.mono hle39
      replace n6 := n6.mono hle39
      replace n7 := n7.mono hle39
      replace n8 := n8.mono hle39
      replace n9 := n9.mono hle39
      replace n10 := n10.mono hle39
      replace n11 := n11.mono hle39
      replace n12 := n12.mono hle39
      replace n13 := n13.mono hle39
      replace n14 := n14.mono hle39
      replace n15 := n15.mono hle39
      replace n16 := n16.mono hle39
      replace n17 := n17.mono hle39
      replace n18 := n18.mono hle39
      replace n19 := n19.mono hle39
      replace n20 := n20.mono hle39
      replace n21 := n21.mono hle39
      replace n22 := n22.mono hle39
      replace n23 := n23.mono hle39
      replace n24 := n24.mono hle39
      replace n25 := n25.mono hle39
      conv => whnf
      refine CallsO.go (equal_c n26 hx (by decide) (by decide) (by grind)) ?_
      rintro v40 h40 hle40 rfl
      replace hG := hG.mono hle40
      replace hx := hx.mono hle40
      replace hy := hy.mono hle40
      replace hz := hz.mono hle40
      replace n1 := n1.mono hle40
      replace n2 := n2.mono hle40
      replace n3 := n3.mono hle40
      replace n4 := n4.mono hle40
      replace n5 := n5.mono hle40
      replace n6 := n6.mono hle40
      replace n7 := n7.mono hle40
      replace n8 := n8.mono hle40
      replace n9 := n9.mono hle40
      replace n10 := n10.mono hle40
      replace n11 := n11.mono hle40
      replace n12 := n12.mono hle40
      replace n13 := n13.mono hle40
      replace n14 := n14.mono hle40
      replace n15 := n15.mono hle40
      replace n16 := n16.mono hle40
      replace n17 := n17.mono hle40
      replace n18 := n18.mono hle40
      replace n19 := n19.mono hle40
      replace n20 := n20.mono hle40
      replace n21 := n21.mono hle40
      replace n22 := n22.mono hle40
      replace n23 := n23.mono hle40
      replace n24 := n24.mono hle40
      replace n25 := n25.mono hle40
      replace n26 := n26.mono hle40
      conv => whnf
      refine CallsO.go (known_c hG) ?_
      rintro v41 h41 hle41 rfl
      replace hG := hG.mono hle41
      replace hx := hx.mono hle41
      replace hy := hy.mono hle41
      replace hz := hz.mono hle41
      replace n1 := n1.mono hle41
      replace n2 := n2.mono hle41
      replace n3 := n3.mono hle41
      replace n4 := n4.mono hle41
      replace n5 := n5.mono hle41
      replace n6 := n6.mono hle41
      replace n7 := n7.mono hle41
      replace n8 := n8.mono hle41
      replace n9 := n9.mono hle41
      replace n10 := n10.mono hle41
      replace n11 := n11.mono hle41
      replace n12 := n12.mono hle41
      replace n13 := n13.mono hle41
      replace n14 := n14.mono hle41
      replace n15 := n15.mono hle41
      replace n16 := n16.mono hle41
      replace n17 := n17.mono hle41
      replace n18 := n18.mono hle41
      replace n19 := n19.mono hle41
      replace n20 := n20.mono hle41
      replace n21 := n21.mono hle41
      replace n22 := n22.mono hle41
      replace n23 := n23.mono hle41
      replace n24 := n24.mono hle41
      replace n25 := n25.mono hle41
      replace n26 := n26.mono hle41
      conv => whnf
      exact EndO.go rfl
  · conv => whnf
    refine CallsO.go (known_c hG) ?_
    rintro v1 h1 hle1 rfl
    replace hG := hG.mono hle1
    conv => whnf
    exact EndO.go rfl
end
end Go.Proofs.YtplaobhghfndgaaGreatDoor
