import Derived.Test.YtplaobhghfndgaaGreatDoorBoxc
import Derived.Test.YtplaobhghfndgaaGreatDoorScQ11
/-! The law ExactSquares, walked. -/
set_option linter.unusedVariables false
set_option linter.unusedSimpArgs false
set_option maxRecDepth 100000
namespace Go.Proofs.YtplaobhghfndgaaGreatDoor
open Go Go.Proofs.Vc
attribute [local irreducible] CallsO EffO PureO LoadO StoreO EndO LoopV RoundO
section
variable {h : Heap}
set_option maxHeartbeats 8000000 in
theorem law11 (a b c : List UInt8) (pl : Nat) (hpl : pl < 256) (hG : Glob h) : CallGo Tryz.prog 11 #[.agg #[.string (bs a), .string (bs b)], .string (bs c), .int .u8 pl] h NoX fun v h' => v = .bool true := by
  refine v_fn tb k11 [.agg #[.string (bs a), .string (bs b)], .string (bs c), .int .u8 pl] rfl ?_
  conv => whnf
  rcases Nat.lt_or_ge 40 a.length with ha | ha
  · refine pO_gtr rfl rfl (true) (decide_eq_true (by rw [bs_size]; omega)) ?_
    conv => whnf
    refine CallsO.go (known_c hG) ?_
    rintro v1 h1 hle1 rfl
    replace hG := hG.mono hle1
    conv => whnf
    exact EndO.go rfl
  · refine pO_gtr rfl rfl (false) (decide_eq_false (by rw [bs_size]; omega)) ?_
    conv => whnf
    rcases Nat.lt_or_ge 40 b.length with hb | hb
    · refine pO_gtr rfl rfl (true) (decide_eq_true (by rw [bs_size]; omega)) ?_
      conv => whnf
      refine CallsO.go (known_c hG) ?_
      rintro v1 h1 hle1 rfl
      replace hG := hG.mono hle1
      conv => whnf
      exact EndO.go rfl
    · refine pO_gtr rfl rfl (false) (decide_eq_false (by rw [bs_size]; omega)) ?_
      conv => whnf
      rcases Nat.lt_or_ge 40 c.length with hc | hc
      · refine pO_gtr rfl rfl (true) (decide_eq_true (by rw [bs_size]; omega)) ?_
        conv => whnf
        refine CallsO.go (known_c hG) ?_
        rintro v1 h1 hle1 rfl
        replace hG := hG.mono hle1
        conv => whnf
        exact EndO.go rfl
      · refine pO_gtr rfl rfl (false) (decide_eq_false (by rw [bs_size]; omega)) ?_
        conv => whnf
        refine CallsO.go (box_c a b hG (k := 160) (by omega) (by omega) (by decide)) ?_
        rintro _ h1 hle1 ⟨lo, hi, hlh, ⟨r1, r2, rfl, s1, s2⟩, _⟩
        replace hG := hG.mono hle1
        conv => whnf
        refine CallsO.go (number_c c hG (by omega)) ?_
        rintro _ h2 hle2 ng
        obtain ⟨r_ng, rfl⟩ := ng.raw
        replace hG := hG.mono hle2
        replace s1 := s1.mono hle2
        replace s2 := s2.mono hle2
        conv => whnf
        generalize (parseQ c).1 = g at *
        replace ng := ng.up (show 4 * c.length ≤ 160 by omega)
        refine CallsO.go (sign_n ng (by decide)) ?_
        rintro v3 h3 hle3 ⟨rfl, rfl⟩
        replace hG := hG.mono hle3
        replace s1 := s1.mono hle3
        replace s2 := s2.mono hle3
        replace ng := ng.mono hle3
        conv => whnf
        by_cases hg0 : 0 < g
        · refine pO_leq rfl rfl (false) (decide_eq_false (fun e => sgnQ_pos.1 e hg0)) ?_
          conv => whnf
          obtain ⟨o1, o2, o3, o4⟩ := out_in hg0 hlh
          refine CallsO.go (out_x ⟨r1, r2, rfl, s1, s2⟩ ng hg0 (by decide)) ?_
          rintro _ h4 hle4 ⟨_, rfl, r_b1, r_b2, rfl, b1, b2⟩
          replace hG := hG.mono hle4
          replace s1 := s1.mono hle4
          replace s2 := s2.mono hle4
          replace ng := ng.mono hle4
          conv => whnf
          refine pO_neq rfl rfl (false) (rfl) ?_
          conv => whnf
          refine CallsO.go (inside_ok ⟨r1, r2, rfl, s1, s2⟩ ⟨r_b1, r_b2, rfl, b1, b2⟩ (by decide) o1 (by grind) (by grind) o3) ?_
          rintro v5 h5 hle5 rfl
          replace hG := hG.mono hle5
          replace s1 := s1.mono hle5
          replace s2 := s2.mono hle5
          replace ng := ng.mono hle5
          replace b1 := b1.mono hle5
          replace b2 := b2.mono hle5
          conv => whnf
          refine CallsO.go (lo_b ⟨r1, r2, rfl, s1, s2⟩) ?_
          rintro _ h6 hle6 n1
          obtain ⟨r_n1, rfl⟩ := n1.raw
          replace hG := hG.mono hle6
          replace s1 := s1.mono hle6
          replace s2 := s2.mono hle6
          replace ng := ng.mono hle6
          replace b1 := b1.mono hle6
          replace b2 := b2.mono hle6
          conv => whnf
          refine CallsO.go (lo_b ⟨r_b1, r_b2, rfl, b1, b2⟩) ?_
          rintro _ h7 hle7 n2
          obtain ⟨r_n2, rfl⟩ := n2.raw
          replace hG := hG.mono hle7
          replace s1 := s1.mono hle7
          replace s2 := s2.mono hle7
          replace ng := ng.mono hle7
          replace b1 := b1.mono hle7
          replace b2 := b2.mono hle7
          replace n1 := n1.mono hle7
          conv => whnf
          refine CallsO.go (add_n n2 ng (by decide)) ?_
          rintro _ h8 hle8 n3
          obtain ⟨r_n3, rfl⟩ := n3.raw
          replace hG := hG.mono hle8
          replace s1 := s1.mono hle8
          replace s2 := s2.mono hle8
          replace ng := ng.mono hle8
          replace b1 := b1.mono hle8
          replace b2 := b2.mono hle8
          replace n1 := n1.mono hle8
          replace n2 := n2.mono hle8
          conv => whnf
          refine CallsO.go (cmp_n n1 n3 (by decide)) ?_
          rintro v9 h9 hle9 rfl
          replace hG := hG.mono hle9
          replace s1 := s1.mono hle9
          replace s2 := s2.mono hle9
          replace ng := ng.mono hle9
          replace b1 := b1.mono hle9
          replace b2 := b2.mono hle9
          replace n1 := n1.mono hle9
          replace n2 := n2.mono hle9
          replace n3 := n3.mono hle9
          conv => whnf
          refine pO_geq rfl rfl (false) (decide_eq_false (fun e => by have := (cmpQ_neg _ _).2 o2; omega)) ?_
          conv => whnf
          refine CallsO.go (hi_b ⟨r1, r2, rfl, s1, s2⟩) ?_
          rintro _ h10 hle10 n4
          obtain ⟨r_n4, rfl⟩ := n4.raw
          replace hG := hG.mono hle10
          replace s1 := s1.mono hle10
          replace s2 := s2.mono hle10
          replace ng := ng.mono hle10
          replace b1 := b1.mono hle10
          replace b2 := b2.mono hle10
          replace n1 := n1.mono hle10
          replace n2 := n2.mono hle10
          replace n3 := n3.mono hle10
          conv => whnf
          refine CallsO.go (hi_b ⟨r_b1, r_b2, rfl, b1, b2⟩) ?_
          rintro _ h11 hle11 n5
          obtain ⟨r_n5, rfl⟩ := n5.raw
          replace hG := hG.mono hle11
          replace s1 := s1.mono hle11
          replace s2 := s2.mono hle11
          replace ng := ng.mono hle11
          replace b1 := b1.mono hle11
          replace b2 := b2.mono hle11
          replace n1 := n1.mono hle11
          replace n2 := n2.mono hle11
          replace n3 := n3.mono hle11
          replace n4 := n4.mono hle11
          conv => whnf
          refine CallsO.go (sub_n n5 ng (by decide)) ?_
          rintro _ h12 hle12 n6
          obtain ⟨r_n6, rfl⟩ := n6.raw
          replace hG := hG.mono hle12
          replace s1 := s1.mono hle12
          replace s2 := s2.mono hle12
          replace ng := ng.mono hle12
          replace b1 := b1.mono hle12
          replace b2 := b2.mono hle12
          replace n1 := n1.mono hle12
          replace n2 := n2.mono hle12
          replace n3 := n3.mono hle12
          replace n4 := n4.mono hle12
          replace n5 := n5.mono hle12
          conv => whnf
          refine CallsO.go (cmp_n n4 n6 (by decide)) ?_
          rintro v13 h13 hle13 rfl
          replace hG := hG.mono hle13
          replace s1 := s1.mono hle13
          replace s2 := s2.mono hle13
          replace ng := ng.mono hle13
          replace b1 := b1.mono hle13
          replace b2 := b2.mono hle13
          replace n1 := n1.mono hle13
          replace n2 := n2.mono hle13
          replace n3 := n3.mono hle13
          replace n4 := n4.mono hle13
          replace n5 := n5.mono hle13
          replace n6 := n6.mono hle13
          conv => whnf
          refine pO_leq rfl rfl (false) (decide_eq_false (fun e => by have := (cmpQ_le0 _ _).1 e; grind)) ?_
          conv => whnf
          refine CallsO.go (lo_b ⟨r1, r2, rfl, s1, s2⟩) ?_
          rintro _ h14 hle14 n7
          obtain ⟨r_n7, rfl⟩ := n7.raw
          replace hG := hG.mono hle14
          replace s1 := s1.mono hle14
          replace s2 := s2.mono hle14
          replace ng := ng.mono hle14
          conv => whnf
          refine CallsO.go (sign_n n7 (by decide)) ?_
          rintro v15 h15 hle15 ⟨rfl, rfl⟩
          replace hG := hG.mono hle15
          replace s1 := s1.mono hle15
          replace s2 := s2.mono hle15
          replace ng := ng.mono hle15
          replace n7 := n7.mono hle15
          conv => whnf
          by_cases hlo : lo < 0
          · refine pO_lss rfl rfl (true) (decide_eq_true ((cmpQ_neg _ _).2 hlo)) ?_
            conv => whnf
            refine CallsO.go (known_c hG) ?_
            rintro v1 h1 hle1 rfl
            replace hG := hG.mono hle1
            conv => whnf
            exact EndO.go rfl
          · refine pO_lss rfl rfl (false) (decide_eq_false (fun e => hlo ((cmpQ_neg _ _).1 e))) ?_
            conv => whnf
            have hlo0 : 0 ≤ lo := by grind
            refine CallsO.go (root_x ⟨r1, r2, rfl, s1, s2⟩ ng hg0 hlo0 hlh (by decide)) ?_
            rintro _ h16 hle16 ⟨_, rfl, m, n, n0, hm1, hm2, hn1, hn2, hnn, r3, r4, rfl, t1, t2⟩
            replace hG := hG.mono hle16
            replace s1 := s1.mono hle16
            replace s2 := s2.mono hle16
            replace ng := ng.mono hle16
            conv => whnf
            have E := enc_of hg0 hm1 hm2 hn1 hn2 hnn
            have hmg : 0 ≤ (m : Rat) * g := Rat.mul_nonneg (natc_nonneg m) (Rat.le_of_lt hg0)
            refine pO_neq rfl rfl (false) (rfl) ?_
            conv => whnf
            refine CallsO.go (lo_b ⟨r3, r4, rfl, t1, t2⟩) ?_
            rintro _ h17 hle17 n8
            obtain ⟨r_n8, rfl⟩ := n8.raw
            replace hG := hG.mono hle17
            replace s1 := s1.mono hle17
            replace s2 := s2.mono hle17
            replace ng := ng.mono hle17
            replace t1 := t1.mono hle17
            replace t2 := t2.mono hle17
            conv => whnf
            refine CallsO.go (sign_n n8 (by decide)) ?_
            rintro v18 h18 hle18 ⟨rfl, rfl⟩
            replace hG := hG.mono hle18
            replace s1 := s1.mono hle18
            replace s2 := s2.mono hle18
            replace ng := ng.mono hle18
            replace t1 := t1.mono hle18
            replace t2 := t2.mono hle18
            replace n8 := n8.mono hle18
            conv => whnf
            refine pO_lss rfl rfl (false) (decide_eq_false (fun e => by have := (cmpQ_neg _ _).1 e; grind)) ?_
            conv => whnf
            obtain ⟨x1, x2⟩ := at_in hlh (p := pl) (by omega)
            refine CallsO.go (at_n ⟨r1, r2, rfl, s1, s2⟩ (by omega) (by decide)) ?_
            rintro _ h19 hle19 nx
            obtain ⟨r_nx, rfl⟩ := nx.raw
            replace hG := hG.mono hle19
            replace s1 := s1.mono hle19
            replace s2 := s2.mono hle19
            replace ng := ng.mono hle19
            replace t1 := t1.mono hle19
            replace t2 := t2.mono hle19
            conv => whnf
            generalize lo + (hi - lo) * (((pl : Nat) : Int) / ((255 : Int) : Rat)) = x at *
            refine CallsO.go (lo_b ⟨r3, r4, rfl, t1, t2⟩) ?_
            rintro _ h20 hle20 p1
            obtain ⟨r_p1, rfl⟩ := p1.raw
            replace hG := hG.mono hle20
            replace s1 := s1.mono hle20
            replace s2 := s2.mono hle20
            replace ng := ng.mono hle20
            replace t1 := t1.mono hle20
            replace t2 := t2.mono hle20
            replace nx := nx.mono hle20
            conv => whnf
            refine CallsO.go (add_n p1 ng (by decide)) ?_
            rintro _ h21 hle21 nu
            obtain ⟨r_nu, rfl⟩ := nu.raw
            replace hG := hG.mono hle21
            replace s1 := s1.mono hle21
            replace s2 := s2.mono hle21
            replace ng := ng.mono hle21
            replace t1 := t1.mono hle21
            replace t2 := t2.mono hle21
            replace nx := nx.mono hle21
            replace p1 := p1.mono hle21
            conv => whnf
            refine CallsO.go (hi_b ⟨r3, r4, rfl, t1, t2⟩) ?_
            rintro _ h22 hle22 p2
            obtain ⟨r_p2, rfl⟩ := p2.raw
            replace hG := hG.mono hle22
            replace s1 := s1.mono hle22
            replace s2 := s2.mono hle22
            replace ng := ng.mono hle22
            replace t1 := t1.mono hle22
            replace t2 := t2.mono hle22
            replace nx := nx.mono hle22
            replace p1 := p1.mono hle22
            replace nu := nu.mono hle22
            conv => whnf
            refine CallsO.go (sub_n p2 ng (by decide)) ?_
            rintro _ h23 hle23 nd
            obtain ⟨r_nd, rfl⟩ := nd.raw
            replace hG := hG.mono hle23
            replace s1 := s1.mono hle23
            replace s2 := s2.mono hle23
            replace ng := ng.mono hle23
            replace t1 := t1.mono hle23
            replace t2 := t2.mono hle23
            replace nx := nx.mono hle23
            replace p1 := p1.mono hle23
            replace nu := nu.mono hle23
            replace p2 := p2.mono hle23
            conv => whnf
            refine CallsO.go (lo_b ⟨r3, r4, rfl, t1, t2⟩) ?_
            rintro _ h24 hle24 p3
            obtain ⟨r_p3, rfl⟩ := p3.raw
            replace hG := hG.mono hle24
            replace s1 := s1.mono hle24
            replace s2 := s2.mono hle24
            replace ng := ng.mono hle24
            replace t1 := t1.mono hle24
            replace t2 := t2.mono hle24
            replace nx := nx.mono hle24
            replace p1 := p1.mono hle24
            replace nu := nu.mono hle24
            replace p2 := p2.mono hle24
            replace nd := nd.mono hle24
            conv => whnf
            refine CallsO.go (lo_b ⟨r3, r4, rfl, t1, t2⟩) ?_
            rintro _ h25 hle25 p4
            obtain ⟨r_p4, rfl⟩ := p4.raw
            replace hG := hG.mono hle25
            replace s1 := s1.mono hle25
            replace s2 := s2.mono hle25
            replace ng := ng.mono hle25
            replace t1 := t1.mono hle25
            replace t2 := t2.mono hle25
            replace nx := nx.mono hle25
            replace p1 := p1.mono hle25
            replace nu := nu.mono hle25
            replace p2 := p2.mono hle25
            replace nd := nd.mono hle25
            replace p3 := p3.mono hle25
            conv => whnf
            refine CallsO.go (mul_n p3 p4 (by decide)) ?_
            rintro _ h26 hle26 p5
            obtain ⟨r_p5, rfl⟩ := p5.raw
            replace hG := hG.mono hle26
            replace s1 := s1.mono hle26
            replace s2 := s2.mono hle26
            replace ng := ng.mono hle26
            replace t1 := t1.mono hle26
            replace t2 := t2.mono hle26
            replace nx := nx.mono hle26
            replace p1 := p1.mono hle26
            replace nu := nu.mono hle26
            replace p2 := p2.mono hle26
            replace nd := nd.mono hle26
            replace p3 := p3.mono hle26
            replace p4 := p4.mono hle26
            conv => whnf
            refine CallsO.go (cmp_n p5 nx (by decide)) ?_
            rintro v27 h27 hle27 rfl
            replace hG := hG.mono hle27
            replace s1 := s1.mono hle27
            replace s2 := s2.mono hle27
            replace ng := ng.mono hle27
            replace t1 := t1.mono hle27
            replace t2 := t2.mono hle27
            replace nx := nx.mono hle27
            replace p1 := p1.mono hle27
            replace nu := nu.mono hle27
            replace p2 := p2.mono hle27
            replace nd := nd.mono hle27
            replace p3 := p3.mono hle27
            replace p4 := p4.mono hle27
            replace p5 := p5.mono hle27
            conv => whnf
            refine pO_gtr rfl rfl (false) (decide_eq_false (fun e => by have h1 := (cmpQ_pos _ _).1 e; have h2 := E.lo; grind)) ?_
            conv => whnf
            refine CallsO.go (hi_b ⟨r3, r4, rfl, t1, t2⟩) ?_
            rintro _ h28 hle28 p6
            obtain ⟨r_p6, rfl⟩ := p6.raw
            replace hG := hG.mono hle28
            replace s1 := s1.mono hle28
            replace s2 := s2.mono hle28
            replace ng := ng.mono hle28
            replace t1 := t1.mono hle28
            replace t2 := t2.mono hle28
            replace nx := nx.mono hle28
            replace p1 := p1.mono hle28
            replace nu := nu.mono hle28
            replace p2 := p2.mono hle28
            replace nd := nd.mono hle28
            replace p3 := p3.mono hle28
            replace p4 := p4.mono hle28
            replace p5 := p5.mono hle28
            conv => whnf
            refine CallsO.go (hi_b ⟨r3, r4, rfl, t1, t2⟩) ?_
            rintro _ h29 hle29 p7
            obtain ⟨r_p7, rfl⟩ := p7.raw
            replace hG := hG.mono hle29
            replace s1 := s1.mono hle29
            replace s2 := s2.mono hle29
            replace ng := ng.mono hle29
            replace t1 := t1.mono hle29
            replace t2 := t2.mono hle29
            replace nx := nx.mono hle29
            replace p1 := p1.mono hle29
            replace nu := nu.mono hle29
            replace p2 := p2.mono hle29
            replace nd := nd.mono hle29
            replace p3 := p3.mono hle29
            replace p4 := p4.mono hle29
            replace p5 := p5.mono hle29
            replace p6 := p6.mono hle29
            conv => whnf
            refine CallsO.go (mul_n p6 p7 (by decide)) ?_
            rintro _ h30 hle30 p8
            obtain ⟨r_p8, rfl⟩ := p8.raw
            replace hG := hG.mono hle30
            replace s1 := s1.mono hle30
            replace s2 := s2.mono hle30
            replace ng := ng.mono hle30
            replace t1 := t1.mono hle30
            replace t2 := t2.mono hle30
            replace nx := nx.mono hle30
            replace p1 := p1.mono hle30
            replace nu := nu.mono hle30
            replace p2 := p2.mono hle30
            replace nd := nd.mono hle30
            replace p3 := p3.mono hle30
            replace p4 := p4.mono hle30
            replace p5 := p5.mono hle30
            replace p6 := p6.mono hle30
            replace p7 := p7.mono hle30
            conv => whnf
            refine CallsO.go (cmp_n p8 nx (by decide)) ?_
            rintro v31 h31 hle31 rfl
            replace hG := hG.mono hle31
            replace s1 := s1.mono hle31
            replace s2 := s2.mono hle31
            replace ng := ng.mono hle31
            replace t1 := t1.mono hle31
            replace t2 := t2.mono hle31
            replace nx := nx.mono hle31
            replace p1 := p1.mono hle31
            replace nu := nu.mono hle31
            replace p2 := p2.mono hle31
            replace nd := nd.mono hle31
            replace p3 := p3.mono hle31
            replace p4 := p4.mono hle31
            replace p5 := p5.mono hle31
            replace p6 := p6.mono hle31
            replace p7 := p7.mono hle31
            replace p8 := p8.mono hle31
            conv => whnf
            refine pO_lss rfl rfl (false) (decide_eq_false (fun e => by have h1 := (cmpQ_neg _ _).1 e; have h2 := E.hi; grind)) ?_
            conv => whnf
            refine CallsO.go (mul_n nu nu (by decide)) ?_
            rintro _ h32 hle32 p9
            obtain ⟨r_p9, rfl⟩ := p9.raw
            replace hG := hG.mono hle32
            replace s1 := s1.mono hle32
            replace s2 := s2.mono hle32
            replace ng := ng.mono hle32
            replace t1 := t1.mono hle32
            replace t2 := t2.mono hle32
            replace nx := nx.mono hle32
            replace nu := nu.mono hle32
            replace nd := nd.mono hle32
            conv => whnf
            refine CallsO.go (lo_b ⟨r1, r2, rfl, s1, s2⟩) ?_
            rintro _ h33 hle33 p10
            obtain ⟨r_p10, rfl⟩ := p10.raw
            replace hG := hG.mono hle33
            replace s1 := s1.mono hle33
            replace s2 := s2.mono hle33
            replace ng := ng.mono hle33
            replace t1 := t1.mono hle33
            replace t2 := t2.mono hle33
            replace nx := nx.mono hle33
            replace nu := nu.mono hle33
            replace nd := nd.mono hle33
            replace p9 := p9.mono hle33
            conv => whnf
            refine CallsO.go (cmp_n p9 p10 (by decide)) ?_
            rintro v34 h34 hle34 rfl
            replace hG := hG.mono hle34
            replace s1 := s1.mono hle34
            replace s2 := s2.mono hle34
            replace ng := ng.mono hle34
            replace t1 := t1.mono hle34
            replace t2 := t2.mono hle34
            replace nx := nx.mono hle34
            replace nu := nu.mono hle34
            replace nd := nd.mono hle34
            replace p9 := p9.mono hle34
            replace p10 := p10.mono hle34
            conv => whnf
            refine pO_leq rfl rfl (false) (decide_eq_false (fun e => by have h1 := (cmpQ_le0 _ _).1 e; have h2 := E.up; grind)) ?_
            conv => whnf
            refine CallsO.go (sign_n nd (by decide)) ?_
            rintro v35 h35 hle35 ⟨rfl, rfl⟩
            replace hG := hG.mono hle35
            replace s1 := s1.mono hle35
            replace s2 := s2.mono hle35
            replace ng := ng.mono hle35
            replace t1 := t1.mono hle35
            replace t2 := t2.mono hle35
            replace nx := nx.mono hle35
            replace nu := nu.mono hle35
            replace nd := nd.mono hle35
            conv => whnf
            by_cases hd0 : (n : Rat) * g - g < 0
            · refine pO_geq rfl rfl (false) (decide_eq_false (fun e => by have := (cmpQ_neg _ _).2 hd0; unfold sgnQ at e; omega)) ?_
              conv => whnf
              refine CallsO.go (point_x nx) ?_
              rintro _ h40 hle40 ⟨r5, r6, rfl, w1, w2⟩
              replace hG := hG.mono hle40
              replace ng := ng.mono hle40
              replace t1 := t1.mono hle40
              replace t2 := t2.mono hle40
              conv => whnf
              refine CallsO.go (root_x ⟨r5, r6, rfl, w1, w2⟩ ng hg0 (by grind) (Rat.le_refl) (by decide)) ?_
              rintro _ h41 hle41 ⟨_, rfl, m', n', n0', km1, km2, kn1, kn2, knn, r7, r8, rfl, z1, z2⟩
              replace hG := hG.mono hle41
              replace ng := ng.mono hle41
              replace t1 := t1.mono hle41
              replace t2 := t2.mono hle41
              conv => whnf
              obtain ⟨i1, i2, i3, i4, i5⟩ := one_in hg0 x1 x2 hm1 hm2 hn1 hn2 hnn km1 km2 kn1 kn2 knn
              refine pO_eql rfl rfl (true) (rfl) ?_
              conv => whnf
              refine CallsO.go (width_n ⟨r7, r8, rfl, z1, z2⟩ (by decide)) ?_
              rintro _ h42 hle42 q1
              obtain ⟨r_q1, rfl⟩ := q1.raw
              replace hG := hG.mono hle42
              replace ng := ng.mono hle42
              replace t1 := t1.mono hle42
              replace t2 := t2.mono hle42
              replace z1 := z1.mono hle42
              replace z2 := z2.mono hle42
              conv => whnf
              refine CallsO.go (add_n ng ng (by decide)) ?_
              rintro _ h43 hle43 q2
              obtain ⟨r_q2, rfl⟩ := q2.raw
              replace hG := hG.mono hle43
              replace ng := ng.mono hle43
              replace t1 := t1.mono hle43
              replace t2 := t2.mono hle43
              replace z1 := z1.mono hle43
              replace z2 := z2.mono hle43
              replace q1 := q1.mono hle43
              conv => whnf
              refine CallsO.go (cmp_n q1 q2 (by decide)) ?_
              rintro v44 h44 hle44 rfl
              replace hG := hG.mono hle44
              replace ng := ng.mono hle44
              replace t1 := t1.mono hle44
              replace t2 := t2.mono hle44
              replace z1 := z1.mono hle44
              replace z2 := z2.mono hle44
              replace q1 := q1.mono hle44
              replace q2 := q2.mono hle44
              conv => whnf
              have hwid : (n' : Rat) * g - (m' : Rat) * g < g + g := by
                have e1 : (n' : Rat) * g ≤ ((m' + 1 : Nat) : Rat) * g := grid_le hg0 i5
                rw [natc_succ] at e1
                grind
              refine pO_lss rfl rfl (true) (decide_eq_true ((cmpQ_neg _ _).2 hwid)) ?_
              conv => whnf
              refine CallsO.go (inside_ok ⟨r7, r8, rfl, z1, z2⟩ ⟨r3, r4, rfl, t1, t2⟩ (by decide) (grid_le hg0 i1) (grid_le hg0 i2) (grid_le hg0 i3) (grid_le hg0 i4)) ?_
              rintro v45 h45 hle45 rfl
              replace hG := hG.mono hle45
              conv => whnf
              refine CallsO.go (known_c hG) ?_
              rintro v46 h46 hle46 rfl
              replace hG := hG.mono hle46
              conv => whnf
              exact EndO.go rfl
            · refine pO_geq rfl rfl (true) (decide_eq_true (by have e : ¬ cmpQ ((n : Rat) * g - g) 0 < 0 := fun e => hd0 ((cmpQ_neg _ _).1 e); unfold sgnQ; omega)) ?_
              conv => whnf
              refine CallsO.go (mul_n nd nd (by decide)) ?_
              rintro _ h36 hle36 p11
              obtain ⟨r_p11, rfl⟩ := p11.raw
              replace hG := hG.mono hle36
              replace s1 := s1.mono hle36
              replace s2 := s2.mono hle36
              replace ng := ng.mono hle36
              replace t1 := t1.mono hle36
              replace t2 := t2.mono hle36
              replace nx := nx.mono hle36
              replace nd := nd.mono hle36
              conv => whnf
              refine CallsO.go (hi_b ⟨r1, r2, rfl, s1, s2⟩) ?_
              rintro _ h37 hle37 p12
              obtain ⟨r_p12, rfl⟩ := p12.raw
              replace hG := hG.mono hle37
              replace s1 := s1.mono hle37
              replace s2 := s2.mono hle37
              replace ng := ng.mono hle37
              replace t1 := t1.mono hle37
              replace t2 := t2.mono hle37
              replace nx := nx.mono hle37
              replace nd := nd.mono hle37
              replace p11 := p11.mono hle37
              conv => whnf
              refine CallsO.go (cmp_n p11 p12 (by decide)) ?_
              rintro v38 h38 hle38 rfl
              replace hG := hG.mono hle38
              replace s1 := s1.mono hle38
              replace s2 := s2.mono hle38
              replace ng := ng.mono hle38
              replace t1 := t1.mono hle38
              replace t2 := t2.mono hle38
              replace nx := nx.mono hle38
              replace nd := nd.mono hle38
              replace p11 := p11.mono hle38
              replace p12 := p12.mono hle38
              conv => whnf
              refine pO_geq rfl rfl (false) (decide_eq_false (fun e => by have h1 := E.down (by grind); have h2 := (cmpQ_neg _ _).2 h1; omega)) ?_
              conv => whnf
              refine CallsO.go (point_x nx) ?_
              rintro _ h40 hle40 ⟨r5, r6, rfl, w1, w2⟩
              replace hG := hG.mono hle40
              replace ng := ng.mono hle40
              replace t1 := t1.mono hle40
              replace t2 := t2.mono hle40
              conv => whnf
              refine CallsO.go (root_x ⟨r5, r6, rfl, w1, w2⟩ ng hg0 (by grind) (Rat.le_refl) (by decide)) ?_
              rintro _ h41 hle41 ⟨_, rfl, m', n', n0', km1, km2, kn1, kn2, knn, r7, r8, rfl, z1, z2⟩
              replace hG := hG.mono hle41
              replace ng := ng.mono hle41
              replace t1 := t1.mono hle41
              replace t2 := t2.mono hle41
              conv => whnf
              obtain ⟨i1, i2, i3, i4, i5⟩ := one_in hg0 x1 x2 hm1 hm2 hn1 hn2 hnn km1 km2 kn1 kn2 knn
              refine pO_eql rfl rfl (true) (rfl) ?_
              conv => whnf
              refine CallsO.go (width_n ⟨r7, r8, rfl, z1, z2⟩ (by decide)) ?_
              rintro _ h42 hle42 q1
              obtain ⟨r_q1, rfl⟩ := q1.raw
              replace hG := hG.mono hle42
              replace ng := ng.mono hle42
              replace t1 := t1.mono hle42
              replace t2 := t2.mono hle42
              replace z1 := z1.mono hle42
              replace z2 := z2.mono hle42
              conv => whnf
              refine CallsO.go (add_n ng ng (by decide)) ?_
              rintro _ h43 hle43 q2
              obtain ⟨r_q2, rfl⟩ := q2.raw
              replace hG := hG.mono hle43
              replace ng := ng.mono hle43
              replace t1 := t1.mono hle43
              replace t2 := t2.mono hle43
              replace z1 := z1.mono hle43
              replace z2 := z2.mono hle43
              replace q1 := q1.mono hle43
              conv => whnf
              refine CallsO.go (cmp_n q1 q2 (by decide)) ?_
              rintro v44 h44 hle44 rfl
              replace hG := hG.mono hle44
              replace ng := ng.mono hle44
              replace t1 := t1.mono hle44
              replace t2 := t2.mono hle44
              replace z1 := z1.mono hle44
              replace z2 := z2.mono hle44
              replace q1 := q1.mono hle44
              replace q2 := q2.mono hle44
              conv => whnf
              have hwid : (n' : Rat) * g - (m' : Rat) * g < g + g := by
                have e1 : (n' : Rat) * g ≤ ((m' + 1 : Nat) : Rat) * g := grid_le hg0 i5
                rw [natc_succ] at e1
                grind
              refine pO_lss rfl rfl (true) (decide_eq_true ((cmpQ_neg _ _).2 hwid)) ?_
              conv => whnf
              refine CallsO.go (inside_ok ⟨r7, r8, rfl, z1, z2⟩ ⟨r3, r4, rfl, t1, t2⟩ (by decide) (grid_le hg0 i1) (grid_le hg0 i2) (grid_le hg0 i3) (grid_le hg0 i4)) ?_
              rintro v45 h45 hle45 rfl
              replace hG := hG.mono hle45
              conv => whnf
              refine CallsO.go (known_c hG) ?_
              rintro v46 h46 hle46 rfl
              replace hG := hG.mono hle46
              conv => whnf
              exact EndO.go rfl
        · refine pO_leq rfl rfl (true) (decide_eq_true (sgnQ_pos.2 hg0)) ?_
          conv => whnf
          refine CallsO.go (known_c hG) ?_
          rintro v1 h1 hle1 rfl
          replace hG := hG.mono hle1
          conv => whnf
          exact EndO.go rfl
end
end Go.Proofs.YtplaobhghfndgaaGreatDoor
