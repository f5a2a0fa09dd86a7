import Derived.Test.YtplaobhghfndgaaGreatDoorKnown
import Derived.Test.YtplaobhghfndgaaGreatDoorLaw6
import Derived.Test.YtplaobhghfndgaaGreatDoorOrdq
import Derived.Test.YtplaobhghfndgaaGreatDoorBack
import Derived.Test.YtplaobhghfndgaaGreatDoorScQ10
/-! The law ExactOrder, walked. -/
set_option linter.unusedVariables false
set_option linter.unusedSimpArgs false
set_option maxRecDepth 100000
namespace Go.Proofs.YtplaobhghfndgaaGreatDoor
open Go Go.Proofs.Vc
attribute [local irreducible] CallsO EffO PureO LoadO StoreO EndO LoopV RoundO
theorem decT_ten {n m : Nat} (h : n < 10 ^ (m + 1)) : (decT n).length ≤ m + 1 := by
  unfold decT
  split
  · simp
  · unfold dtx
    rw [List.length_map, List.length_reverse]
    exact dig_length_le (by decide) h
theorem two_ten {a k : Nat} (h : a ≤ 2 ^ k) : a < 10 ^ (k + 1) := by
  have h1 : (2 : Nat) ^ k ≤ 10 ^ k := Nat.pow_le_pow_left (by decide) _
  have h2 : (10 : Nat) ^ k < 10 ^ (k + 1) := Nat.pow_lt_pow_right (by decide) (Nat.lt_succ_self k)
  omega
theorem textQ_len {q : Rat} {k : Nat} (h : Sm k q) : (textQ q).length ≤ 2 * k + 6 := by
  have hs : (if q.num < 0 then ([45] : List UInt8) else []).length ≤ 1 := by split <;> simp
  have ha := decT_ten (two_ten h.1)
  have hb := decT_ten (two_ten h.2)
  unfold textQ
  rw [List.length_append]
  have key : (textA q.num.natAbs q.den).length ≤ 2 * k + 5 := by
    unfold textA
    split
    · omega
    · dsimp only
      split
      · rename_i hd h5
        have hp0 := Nat.pos_of_ne_zero (den_ne q)
        obtain ⟨e1, e2, e3⟩ := stripN_eq (d := 2) (by decide) q.den hp0
        obtain ⟨e4, e5, e6⟩ := stripN_eq (d := 5) (by decide) (stripN 2 q.den).1 e3
        obtain ⟨g1, g2⟩ := strip_le (d := 2) (by decide) hp0 h.2
        obtain ⟨g3, g4⟩ := strip_le (d := 5) (by decide) e3 (Nat.le_trans g2 h.2)
        rw [h5, Nat.one_mul] at e4
        have hb2 : q.den = 2 ^ (stripN 2 q.den).2 * 5 ^ (stripN 5 (stripN 2 q.den).1).2 := by rw [Nat.mul_comm, ← e4]; exact e1
        have hN := textA_k (a := q.num.natAbs) hb2
        rw [← hN]
        generalize hpl : max (stripN 2 q.den).2 (stripN 5 (stripN 2 q.den).1).2 = pl at *
        have hpk : pl ≤ k := by omega
        have hlt : q.num.natAbs * 10 ^ pl / q.den < 10 ^ (k + pl + 1) := by
          have f1 : q.num.natAbs * 10 ^ pl / q.den ≤ q.num.natAbs * 10 ^ pl := Nat.div_le_self _ _
          have f2 : q.num.natAbs * 10 ^ pl < 10 ^ (k + 1) * 10 ^ pl := Nat.mul_lt_mul_of_pos_right (two_ten h.1) (Nat.pow_pos (by decide))
          rw [← Nat.pow_add, show k + 1 + pl = k + pl + 1 from by omega] at f2
          omega
        have hl := decT_ten hlt
        unfold decPt
        simp only [List.length_append, List.length_take, List.length_drop, List.length_replicate, List.length_cons, List.length_nil]
        omega
      · simp only [List.length_append, List.length_cons, List.length_nil]; omega
  omega
section
variable {h : Heap}
theorem frac_n {x : Value} {k : Nat} {p : Rat} (hx : NumV h x k p) (hk : k < 1073741824) : CallGo Tryz.prog 69 #[x] h NoX fun v h' => ∃ y z, v = .tuple #[y, z] ∧ NumV h' y k ((p.num : Int) : Rat) ∧ NumV h' z k (((p.den : Nat) : Int) : Rat) := by
  have hx' := hx
  obtain ⟨mp, A, ca, B, cb, hmp, rfl, hA, hB, s1, s2, s3⟩ := hx.open2
  refine v_fn tb k69 [.agg #[.bool mp, .slice A (sz p.num.natAbs) ca, .slice B (sz (bot p)) cb]] rfl ?_
  conv => whnf
  refine pO_b01 rfl ?_
  conv => whnf
  refine CallsO.go (under_c hx' hk) ?_
  rintro v1 h1 hle1 hv
  conv => whnf
  obtain ⟨E, ce, rfl, _⟩ := hv.open
  refine pO_b1 rfl ?_
  conv => whnf
  refine EndO.go ⟨_, _, rfl, ?_, ?_⟩
  · refine num_of ⟨?_, ?_⟩ rfl ?_ ?_ ?_
    · rw [Rat.num_intCast]; exact hx'.1.1
    · rw [Rat.den_intCast]; exact Nat.one_le_two_pow
    · rw [Rat.num_intCast]; exact hmp
    · rw [Rat.num_intCast]; exact hA.mono hle1
    · unfold bot; rw [Rat.den_intCast, if_pos rfl]; exact Lim.nil _ _ _
  · refine num_of ⟨?_, ?_⟩ rfl ?_ ?_ ?_
    · rw [Rat.num_intCast, Int.natAbs_natCast]; exact hx'.1.2
    · rw [Rat.den_intCast]; exact Nat.one_le_two_pow
    · rw [Rat.num_intCast]; exact decide_eq_false (by omega)
    · rw [Rat.num_intCast, Int.natAbs_natCast]; exact hv
    · unfold bot; rw [Rat.den_intCast, if_pos rfl]; exact Lim.nil _ _ _
theorem parse_x (l : List UInt8) (q : Rat) (hl : parseQ l = (q, 0)) (hG : Glob h) (hll : l.length < 4294967281) {k : Nat} (hk : Sm k q) : CallGo Tryz.prog 20 #[.string (bs l)] h NoX fun v h' => ∃ z, v = .tuple #[z, .int .i64 0] ∧ NumV h' z k q := by
  have := parse_k l q 0 hl hG hll
  refine this.mono ?_
  rintro v h' _ ⟨z, h1, h2⟩
  exact ⟨z, h1, h2.size hk⟩
theorem cmpQ_bd (p q : Rat) : -1 ≤ cmpQ p q ∧ cmpQ p q ≤ 1 := by rcases cmpQ_or p q with ⟨_, h⟩ | ⟨_, h⟩ | ⟨_, h⟩ <;> rw [h] <;> decide
set_option maxHeartbeats 8000000 in
theorem law10 (a b c : List UInt8) (hG : Glob h) : CallGo Tryz.prog 10 #[.string (bs a), .string (bs b), .string (bs c)] h NoX fun v h' => v = .bool true := by
  refine v_fn tb k10 [.string (bs a), .string (bs b), .string (bs c)] rfl ?_
  conv => whnf
  refine eO_lits [.string (bs a), .string (bs b), .string (bs c)] u113 s9 z9 (by decide) rfl rfl (fun v hv => by simp at hv; rcases hv with rfl | rfl | rfl <;> rfl) fun g hg => ?_
  conv => whnf
  replace hG := hG.mono (Le.upd (o := .cells (List.flatMap (fun v => v.cells.toList) [Value.string (bs a), Value.string (bs b), Value.string (bs c)]).toArray 9 (0, 0)) hg)
  obtain ⟨t, ht⟩ : ∃ t, ([a, b, c].any fun l => decide (120 < l.length)) = t := ⟨_, rfl⟩
  refine CallsO.go (long_b (n := 3) (xs := [a, b, c]) (row_v (n := 3) (cur := [.string (bs a), .string (bs b), .string (bs c)]) (Heap.upd_same _ _ _) rfl (Nat.le_refl 3)) rfl (by decide) t ht) ?_
  rintro v0 h0 hle0 ⟨rfl, rfl⟩
  conv => whnf
  cases t
  · conv => whnf
    simp only [List.any_cons, List.any_nil, Bool.or_eq_false_iff, decide_eq_false_iff_not] at ht
    obtain ⟨ha, hb, hc, _⟩ := ht
    refine CallsO.go (number_c a hG (by omega)) ?_
    rintro _ h1 hle1 hx
    obtain ⟨r_hx, rfl⟩ := hx.raw
    replace hG := hG.mono hle1
    conv => whnf
    refine CallsO.go (number_c b hG (by omega)) ?_
    rintro _ h2 hle2 hy
    obtain ⟨r_hy, rfl⟩ := hy.raw
    replace hG := hG.mono hle2
    replace hx := hx.mono hle2
    conv => whnf
    refine CallsO.go (number_c c hG (by omega)) ?_
    rintro _ h3 hle3 hz
    obtain ⟨r_hz, rfl⟩ := hz.raw
    replace hG := hG.mono hle3
    replace hx := hx.mono hle3
    replace hy := hy.mono hle3
    conv => whnf
    generalize (parseQ a).1 = x at *
    generalize (parseQ b).1 = y at *
    generalize (parseQ c).1 = z at *
    replace hx := hx.up (show 4 * a.length ≤ 480 by omega)
    replace hy := hy.up (show 4 * b.length ≤ 480 by omega)
    replace hz := hz.up (show 4 * c.length ≤ 480 by omega)
    have bxy := cmpQ_bd x y
    have bz := cmpQ_bd z 0
    refine CallsO.go (cmp_n hx hy (by decide)) ?_
    rintro v4 h4 hle4 rfl
    replace hG := hG.mono hle4
    replace hx := hx.mono hle4
    replace hy := hy.mono hle4
    replace hz := hz.mono hle4
    conv => whnf
    refine CallsO.go (cmp_n hy hx (by decide)) ?_
    rintro v5 h5 hle5 rfl
    replace hG := hG.mono hle5
    replace hx := hx.mono hle5
    replace hy := hy.mono hle5
    replace hz := hz.mono hle5
    conv => whnf
    refine pO_neg rfl ((cmpQ x y)) (wr64 (by rw [cmpQ_swap x y, Int.neg_neg]) (by omega) (by omega)) ?_
    conv => whnf
    refine pO_neq rfl rfl (false) (by simp) ?_
    conv => whnf
    refine pO_lss rfl rfl (false) (decide_eq_false (by omega)) ?_
    conv => whnf
    refine pO_gtr rfl rfl (false) (decide_eq_false (by omega)) ?_
    conv => whnf
    refine CallsO.go (sub_n hx hy (by decide)) ?_
    rintro _ h6 hle6 n1
    obtain ⟨r_n1, rfl⟩ := n1.raw
    replace hG := hG.mono hle6
    replace hx := hx.mono hle6
    replace hy := hy.mono hle6
    replace hz := hz.mono hle6
    conv => whnf
    refine CallsO.go (sign_n n1 (by decide)) ?_
    rintro v7 h7 hle7 ⟨rfl, rfl⟩
    replace hG := hG.mono hle7
    replace hx := hx.mono hle7
    replace hy := hy.mono hle7
    replace hz := hz.mono hle7
    replace n1 := n1.mono hle7
    conv => whnf
    refine pO_neq rfl rfl (false) (by unfold sgnQ; rw [cmpQ_sub]; simp) ?_
    conv => whnf
    refine CallsO.go (add_n hx hz (by decide)) ?_
    rintro _ h8 hle8 n2
    obtain ⟨r_n2, rfl⟩ := n2.raw
    replace hG := hG.mono hle8
    replace hx := hx.mono hle8
    replace hy := hy.mono hle8
    replace hz := hz.mono hle8
    replace n1 := n1.mono hle8
    conv => whnf
    refine CallsO.go (add_n hy hz (by decide)) ?_
    rintro _ h9 hle9 n3
    obtain ⟨r_n3, rfl⟩ := n3.raw
    replace hG := hG.mono hle9
    replace hx := hx.mono hle9
    replace hy := hy.mono hle9
    replace hz := hz.mono hle9
    replace n1 := n1.mono hle9
    replace n2 := n2.mono hle9
    conv => whnf
    refine CallsO.go (cmp_n n2 n3 (by decide)) ?_
    rintro v10 h10 hle10 rfl
    replace hG := hG.mono hle10
    replace hx := hx.mono hle10
    replace hy := hy.mono hle10
    replace hz := hz.mono hle10
    replace n1 := n1.mono hle10
    replace n2 := n2.mono hle10
    replace n3 := n3.mono hle10
    conv => whnf
    refine pO_neq rfl rfl (false) (by rw [cmpQ_add]; simp) ?_
    conv => whnf
    refine CallsO.go (mul_n hx hz (by decide)) ?_
    rintro _ h11 hle11 n4
    obtain ⟨r_n4, rfl⟩ := n4.raw
    replace hG := hG.mono hle11
    replace hx := hx.mono hle11
    replace hy := hy.mono hle11
    replace hz := hz.mono hle11
    replace n1 := n1.mono hle11
    replace n2 := n2.mono hle11
    replace n3 := n3.mono hle11
    conv => whnf
    refine CallsO.go (mul_n hy hz (by decide)) ?_
    rintro _ h12 hle12 n5
    obtain ⟨r_n5, rfl⟩ := n5.raw
    replace hG := hG.mono hle12
    replace hx := hx.mono hle12
    replace hy := hy.mono hle12
    replace hz := hz.mono hle12
    replace n1 := n1.mono hle12
    replace n2 := n2.mono hle12
    replace n3 := n3.mono hle12
    replace n4 := n4.mono hle12
    conv => whnf
    refine CallsO.go (cmp_n n4 n5 (by decide)) ?_
    rintro v13 h13 hle13 rfl
    replace hG := hG.mono hle13
    replace hx := hx.mono hle13
    replace hy := hy.mono hle13
    replace hz := hz.mono hle13
    replace n1 := n1.mono hle13
    replace n2 := n2.mono hle13
    replace n3 := n3.mono hle13
    replace n4 := n4.mono hle13
    replace n5 := n5.mono hle13
    conv => whnf
    refine CallsO.go (sign_n hz (by decide)) ?_
    rintro v14 h14 hle14 ⟨rfl, rfl⟩
    replace hG := hG.mono hle14
    replace hx := hx.mono hle14
    replace hy := hy.mono hle14
    replace hz := hz.mono hle14
    replace n1 := n1.mono hle14
    replace n2 := n2.mono hle14
    replace n3 := n3.mono hle14
    replace n4 := n4.mono hle14
    replace n5 := n5.mono hle14
    conv => whnf
    have hprod : -1 ≤ cmpQ x y * cmpQ z 0 ∧ cmpQ x y * cmpQ z 0 ≤ 1 := by rw [← cmpQ_mul]; exact cmpQ_bd _ _
    refine pO_mul rfl rfl ((cmpQ x y * sgnQ z)) (wr64 rfl (by unfold sgnQ; omega) (by unfold sgnQ; omega)) ?_
    conv => whnf
    refine pO_neq rfl rfl (false) (by unfold sgnQ; rw [cmpQ_mul]; simp) ?_
    conv => whnf
    -- x <= y and y <= z, but not x > z
    have htr : x ≤ y → y ≤ z → ¬ z < x := fun e1 e2 e3 => by grind
    by_cases hxy : x ≤ y
    · refine pO_leq rfl rfl (true) (decide_eq_true ((cmpQ_le0 _ _).2 hxy)) ?_
      conv => whnf
      refine CallsO.go (cmp_n hy hz (by decide)) ?_
      rintro v15 h15 hle15 rfl
      replace hG := hG.mono hle15
      replace hx := hx.mono hle15
      replace hy := hy.mono hle15
      replace hz := hz.mono hle15
      conv => whnf
      by_cases hyz : y ≤ z
      · refine pO_leq rfl rfl (true) (decide_eq_true ((cmpQ_le0 _ _).2 hyz)) ?_
        conv => whnf
        refine CallsO.go (cmp_n hx hz (by decide)) ?_
        rintro v16 h16 hle16 rfl
        replace hG := hG.mono hle16
        replace hx := hx.mono hle16
        replace hy := hy.mono hle16
        replace hz := hz.mono hle16
        conv => whnf
        refine pO_gtr rfl rfl (false) (decide_eq_false (fun e => htr hxy hyz ((cmpQ_pos _ _).1 e))) ?_
        conv => whnf
        refine CallsO.go (floor_n hx (by decide)) ?_
        rintro _ h20 hle20 f1
        obtain ⟨r_f1, rfl⟩ := f1.raw
        replace hG := hG.mono hle20
        replace hx := hx.mono hle20
        replace hy := hy.mono hle20
        replace hz := hz.mono hle20
        conv => whnf
        refine CallsO.go (cmp_n f1 hx (by decide)) ?_
        rintro v21 h21 hle21 rfl
        replace hG := hG.mono hle21
        replace hx := hx.mono hle21
        replace hy := hy.mono hle21
        replace hz := hz.mono hle21
        replace f1 := f1.mono hle21
        conv => whnf
        refine pO_gtr rfl rfl (false) (decide_eq_false (fun e => by have h1 := (cmpQ_pos _ _).1 e; have h2 := flo_le x; grind)) ?_
        conv => whnf
        refine CallsO.go (int_n (z := 1) (by decide) (by decide)) ?_
        rintro _ h22 hle22 i1
        obtain ⟨r_i1, rfl⟩ := i1.raw
        replace hG := hG.mono hle22
        replace hx := hx.mono hle22
        replace hy := hy.mono hle22
        replace hz := hz.mono hle22
        replace f1 := f1.mono hle22
        conv => whnf
        refine CallsO.go (add_n f1 i1 (by decide)) ?_
        rintro _ h23 hle23 f2
        obtain ⟨r_f2, rfl⟩ := f2.raw
        replace hG := hG.mono hle23
        replace hx := hx.mono hle23
        replace hy := hy.mono hle23
        replace hz := hz.mono hle23
        replace f1 := f1.mono hle23
        replace i1 := i1.mono hle23
        conv => whnf
        refine CallsO.go (cmp_n hx f2 (by decide)) ?_
        rintro v24 h24 hle24 rfl
        replace hG := hG.mono hle24
        replace hx := hx.mono hle24
        replace hy := hy.mono hle24
        replace hz := hz.mono hle24
        replace f1 := f1.mono hle24
        replace i1 := i1.mono hle24
        replace f2 := f2.mono hle24
        conv => whnf
        refine pO_geq rfl rfl (false) (decide_eq_false (fun e => by have h1 := lt_flo x; have h2 := (cmpQ_neg x (flo x + ((1 : Int) : Rat))).2 h1; omega)) ?_
        conv => whnf
        refine CallsO.go (floor_n f1 (by decide)) ?_
        rintro _ h25 hle25 f3
        obtain ⟨r_f3, rfl⟩ := f3.raw
        replace hG := hG.mono hle25
        replace hx := hx.mono hle25
        replace hy := hy.mono hle25
        replace hz := hz.mono hle25
        replace f1 := f1.mono hle25
        replace i1 := i1.mono hle25
        replace f2 := f2.mono hle25
        conv => whnf
        refine CallsO.go (equal_c f3 f1 (by decide) (by decide) (flo_flo x)) ?_
        rintro v26 h26 hle26 rfl
        replace hG := hG.mono hle26
        replace hx := hx.mono hle26
        replace hy := hy.mono hle26
        replace hz := hz.mono hle26
        replace f1 := f1.mono hle26
        replace i1 := i1.mono hle26
        replace f2 := f2.mono hle26
        replace f3 := f3.mono hle26
        conv => whnf
        refine CallsO.go (frac_n hx (by decide)) ?_
        rintro _ h27 hle27 ⟨_, _, rfl, na, de⟩
        obtain ⟨r_na, rfl⟩ := na.raw
        obtain ⟨r_de, rfl⟩ := de.raw
        replace hG := hG.mono hle27
        replace hx := hx.mono hle27
        replace hy := hy.mono hle27
        replace hz := hz.mono hle27
        conv => whnf
        refine CallsO.go (div_n na de (by decide)) ?_
        rintro _ h28 hle28 ⟨_, rfl, bk⟩
        obtain ⟨r_bk, rfl⟩ := bk.raw
        replace hG := hG.mono hle28
        replace hx := hx.mono hle28
        replace hy := hy.mono hle28
        replace hz := hz.mono hle28
        replace na := na.mono hle28
        replace de := de.mono hle28
        conv => whnf
        have hde : (((x.den : Nat) : Int) : Rat).num.natAbs ≠ 0 := by rw [Rat.num_intCast, Int.natAbs_natCast]; exact den_ne x
        rw [if_neg hde]
        have hden0 : (0 : Rat) < (((x.den : Nat) : Int) : Rat) := by
          rw [Rat.intCast_natCast]; exact Rat.natCast_lt_natCast.2 (Nat.pos_of_ne_zero (den_ne x))
        refine CallsO.go (string_c hx (by decide)) ?_
        rintro v29 h29 hle29 rfl
        replace hG := hG.mono hle29
        replace hx := hx.mono hle29
        replace hy := hy.mono hle29
        replace hz := hz.mono hle29
        replace na := na.mono hle29
        replace de := de.mono hle29
        replace bk := bk.mono hle29
        conv => whnf
        have hlen := textQ_len hx.1
        refine CallsO.go (parse_x (textQ x) x (parse_text x (by omega)) hG (by omega) hx.1) ?_
        rintro _ h30 hle30 ⟨_, rfl, ag⟩
        obtain ⟨r_ag, rfl⟩ := ag.raw
        replace hG := hG.mono hle30
        replace hx := hx.mono hle30
        replace hy := hy.mono hle30
        replace hz := hz.mono hle30
        replace na := na.mono hle30
        replace de := de.mono hle30
        replace bk := bk.mono hle30
        conv => whnf
        refine pO_neq rfl rfl (false) (rfl) ?_
        conv => whnf
        refine pO_neq rfl rfl (false) (rfl) ?_
        conv => whnf
        refine CallsO.go (equal_c bk hx (by decide) (by decide) (num_den x)) ?_
        rintro v31 h31 hle31 rfl
        replace hG := hG.mono hle31
        replace hx := hx.mono hle31
        replace hy := hy.mono hle31
        replace hz := hz.mono hle31
        replace na := na.mono hle31
        replace de := de.mono hle31
        replace bk := bk.mono hle31
        replace ag := ag.mono hle31
        conv => whnf
        refine CallsO.go (equal_c ag hx (by decide) (by decide) rfl) ?_
        rintro v32 h32 hle32 rfl
        replace hG := hG.mono hle32
        replace hx := hx.mono hle32
        replace hy := hy.mono hle32
        replace hz := hz.mono hle32
        replace na := na.mono hle32
        replace de := de.mono hle32
        replace bk := bk.mono hle32
        replace ag := ag.mono hle32
        conv => whnf
        refine CallsO.go (sign_n de (by decide)) ?_
        rintro v33 h33 hle33 ⟨rfl, rfl⟩
        replace hG := hG.mono hle33
        replace hx := hx.mono hle33
        replace hy := hy.mono hle33
        replace hz := hz.mono hle33
        replace na := na.mono hle33
        replace de := de.mono hle33
        replace bk := bk.mono hle33
        replace ag := ag.mono hle33
        conv => whnf
        refine pO_leq rfl rfl (false) (decide_eq_false (fun e => sgnQ_pos.1 e hden0)) ?_
        conv => whnf
        refine CallsO.go (floor_n na (by decide)) ?_
        rintro _ h34 hle34 f4
        obtain ⟨r_f4, rfl⟩ := f4.raw
        replace hG := hG.mono hle34
        replace hx := hx.mono hle34
        replace hy := hy.mono hle34
        replace hz := hz.mono hle34
        replace na := na.mono hle34
        replace de := de.mono hle34
        replace bk := bk.mono hle34
        replace ag := ag.mono hle34
        conv => whnf
        refine CallsO.go (equal_c f4 na (by decide) (by decide) (flo_int _)) ?_
        rintro v35 h35 hle35 rfl
        replace hG := hG.mono hle35
        replace hx := hx.mono hle35
        replace hy := hy.mono hle35
        replace hz := hz.mono hle35
        replace na := na.mono hle35
        replace de := de.mono hle35
        replace bk := bk.mono hle35
        replace ag := ag.mono hle35
        replace f4 := f4.mono hle35
        conv => whnf
        refine CallsO.go (floor_n de (by decide)) ?_
        rintro _ h36 hle36 f5
        obtain ⟨r_f5, rfl⟩ := f5.raw
        replace hG := hG.mono hle36
        replace hx := hx.mono hle36
        replace hy := hy.mono hle36
        replace hz := hz.mono hle36
        replace na := na.mono hle36
        replace de := de.mono hle36
        replace bk := bk.mono hle36
        replace ag := ag.mono hle36
        replace f4 := f4.mono hle36
        conv => whnf
        refine CallsO.go (equal_c f5 de (by decide) (by decide) (flo_int _)) ?_
        rintro v37 h37 hle37 rfl
        replace hG := hG.mono hle37
        replace hx := hx.mono hle37
        replace hy := hy.mono hle37
        replace hz := hz.mono hle37
        replace na := na.mono hle37
        replace de := de.mono hle37
        replace bk := bk.mono hle37
        replace ag := ag.mono hle37
        replace f4 := f4.mono hle37
        replace f5 := f5.mono hle37
        conv => whnf
        refine CallsO.go (round_n hx hz (by decide)) ?_
        rintro _ h38 hle38 ⟨_, rfl, ro⟩
        obtain ⟨r_ro, rfl⟩ := ro.raw
        replace hG := hG.mono hle38
        replace hx := hx.mono hle38
        replace hy := hy.mono hle38
        replace hz := hz.mono hle38
        replace na := na.mono hle38
        replace de := de.mono hle38
        replace bk := bk.mono hle38
        replace ag := ag.mono hle38
        replace f4 := f4.mono hle38
        replace f5 := f5.mono hle38
        conv => whnf
        refine CallsO.go (sign_n hz (by decide)) ?_
        rintro v39 h39 hle39 ⟨rfl, rfl⟩
        replace hG := hG.mono hle39
        replace hx := hx.mono hle39
        replace hy := hy.mono hle39
        replace hz := hz.mono hle39
        replace na := na.mono hle39
        replace de := de.mono hle39
        replace bk := bk.mono hle39
        replace ag := ag.mono hle39
        replace f4 := f4.mono hle39
        replace f5 := f5.mono hle39
        replace ro := ro.mono hle39
        conv => whnf
        by_cases hz0 : sgnQ z ≤ 0
        · rw [if_pos hz0]
          refine pO_leq rfl rfl (true) (decide_eq_true hz0) ?_
          conv => whnf
          refine pO_eql rfl rfl (true) (rfl) ?_
          conv => whnf
          refine CallsO.go (known_c hG) ?_
          rintro v40 h40 hle40 rfl
          replace hG := hG.mono hle40
          conv => whnf
          exact EndO.go rfl
        · rw [if_neg hz0]
          rw [if_neg hz0] at ro
          have hzp : 0 < z := by
            rcases cmpQ_or z 0 with ⟨e1, e2⟩ | ⟨e1, e2⟩ | ⟨e1, e2⟩
            · exact absurd (show sgnQ z ≤ 0 by unfold sgnQ; omega) hz0
            · exact absurd (show sgnQ z ≤ 0 by unfold sgnQ; omega) hz0
            · exact e1
          refine pO_leq rfl rfl (false) (decide_eq_false hz0) ?_
          conv => whnf
          refine CallsO.go (div_n ro hz (by decide)) ?_
          rintro _ h41 hle41 ⟨_, rfl, ti⟩
          obtain ⟨r_ti, rfl⟩ := ti.raw
          replace hG := hG.mono hle41
          replace hx := hx.mono hle41
          replace hz := hz.mono hle41
          replace ro := ro.mono hle41
          conv => whnf
          have hza : z.num.natAbs ≠ 0 := fun e => by have := abs_zero e; grind
          rw [if_neg hza]
          refine CallsO.go (sub_n ro hx (by decide)) ?_
          rintro _ h42 hle42 d1
          obtain ⟨r_d1, rfl⟩ := d1.raw
          replace hG := hG.mono hle42
          replace hx := hx.mono hle42
          replace hz := hz.mono hle42
          replace ro := ro.mono hle42
          replace ti := ti.mono hle42
          conv => whnf
          refine CallsO.go (sub_n ro hx (by decide)) ?_
          rintro _ h43 hle43 d2
          obtain ⟨r_d2, rfl⟩ := d2.raw
          replace hG := hG.mono hle43
          replace hx := hx.mono hle43
          replace hz := hz.mono hle43
          replace ro := ro.mono hle43
          replace ti := ti.mono hle43
          replace d1 := d1.mono hle43
          conv => whnf
          refine CallsO.go (add_n d1 d2 (by decide)) ?_
          rintro _ h44 hle44 fa
          obtain ⟨r_fa, rfl⟩ := fa.raw
          replace hG := hG.mono hle44
          replace hx := hx.mono hle44
          replace hz := hz.mono hle44
          replace ro := ro.mono hle44
          replace ti := ti.mono hle44
          replace d1 := d1.mono hle44
          replace d2 := d2.mono hle44
          conv => whnf
          refine pO_eql rfl rfl (true) (rfl) ?_
          conv => whnf
          refine pO_eql rfl rfl (true) (rfl) ?_
          conv => whnf
          refine CallsO.go (floor_n ti (by decide)) ?_
          rintro _ h45 hle45 ft
          obtain ⟨r_ft, rfl⟩ := ft.raw
          replace hG := hG.mono hle45
          replace hx := hx.mono hle45
          replace hz := hz.mono hle45
          replace ro := ro.mono hle45
          replace ti := ti.mono hle45
          replace d1 := d1.mono hle45
          replace d2 := d2.mono hle45
          replace fa := fa.mono hle45
          conv => whnf
          have hti : flo (roundQ x z / z) = roundQ x z / z := by unfold roundQ; rw [div_cancel_r hzp, flo_flo]
          refine CallsO.go (equal_c ft ti (by decide) (by decide) hti) ?_
          rintro v46 h46 hle46 rfl
          replace hG := hG.mono hle46
          replace hx := hx.mono hle46
          replace hz := hz.mono hle46
          replace ro := ro.mono hle46
          replace ti := ti.mono hle46
          replace d1 := d1.mono hle46
          replace d2 := d2.mono hle46
          replace fa := fa.mono hle46
          replace ft := ft.mono hle46
          conv => whnf
          obtain ⟨far1, far2⟩ := round_far hzp (flo_le (x / z + 1 / 2)) (lt_flo (x / z + 1 / 2))
          refine CallsO.go (cmp_n fa hz (by decide)) ?_
          rintro v47 h47 hle47 rfl
          replace hG := hG.mono hle47
          replace hx := hx.mono hle47
          replace hz := hz.mono hle47
          replace ro := ro.mono hle47
          replace ti := ti.mono hle47
          replace d1 := d1.mono hle47
          replace d2 := d2.mono hle47
          replace fa := fa.mono hle47
          replace ft := ft.mono hle47
          conv => whnf
          refine pO_leq rfl rfl (true) (decide_eq_true ((cmpQ_le0 _ _).2 far1)) ?_
          conv => whnf
          refine CallsO.go (add_n fa hz (by decide)) ?_
          rintro _ h48 hle48 fb
          obtain ⟨r_fb, rfl⟩ := fb.raw
          replace hG := hG.mono hle48
          replace hx := hx.mono hle48
          replace hz := hz.mono hle48
          replace ro := ro.mono hle48
          replace ti := ti.mono hle48
          replace d1 := d1.mono hle48
          replace d2 := d2.mono hle48
          replace fa := fa.mono hle48
          replace ft := ft.mono hle48
          conv => whnf
          refine CallsO.go (sign_n fb (by decide)) ?_
          rintro v49 h49 hle49 ⟨rfl, rfl⟩
          replace hG := hG.mono hle49
          replace hx := hx.mono hle49
          replace hz := hz.mono hle49
          replace ro := ro.mono hle49
          replace ti := ti.mono hle49
          replace d1 := d1.mono hle49
          replace d2 := d2.mono hle49
          replace fa := fa.mono hle49
          replace ft := ft.mono hle49
          replace fb := fb.mono hle49
          conv => whnf
          refine pO_gtr rfl rfl (true) (decide_eq_true ((cmpQ_pos _ _).2 far2)) ?_
          conv => whnf
          refine CallsO.go (known_c hG) ?_
          rintro v50 h50 hle50 rfl
          replace hG := hG.mono hle50
          replace hx := hx.mono hle50
          replace hz := hz.mono hle50
          replace ro := ro.mono hle50
          replace ti := ti.mono hle50
          replace d1 := d1.mono hle50
          replace d2 := d2.mono hle50
          replace fa := fa.mono hle50
          replace ft := ft.mono hle50
          replace fb := fb.mono hle50
          conv => whnf
          exact EndO.go rfl
      · refine pO_leq rfl rfl (false) (decide_eq_false (fun e => hyz ((cmpQ_le0 _ _).1 e))) ?_
        conv => whnf
        refine CallsO.go (floor_n hx (by decide)) ?_
        rintro _ h20 hle20 f1
        obtain ⟨r_f1, rfl⟩ := f1.raw
        replace hG := hG.mono hle20
        replace hx := hx.mono hle20
        replace hy := hy.mono hle20
        replace hz := hz.mono hle20
        conv => whnf
        refine CallsO.go (cmp_n f1 hx (by decide)) ?_
        rintro v21 h21 hle21 rfl
        replace hG := hG.mono hle21
        replace hx := hx.mono hle21
        replace hy := hy.mono hle21
        replace hz := hz.mono hle21
        replace f1 := f1.mono hle21
        conv => whnf
        refine pO_gtr rfl rfl (false) (decide_eq_false (fun e => by have h1 := (cmpQ_pos _ _).1 e; have h2 := flo_le x; grind)) ?_
        conv => whnf
        refine CallsO.go (int_n (z := 1) (by decide) (by decide)) ?_
        rintro _ h22 hle22 i1
        obtain ⟨r_i1, rfl⟩ := i1.raw
        replace hG := hG.mono hle22
        replace hx := hx.mono hle22
        replace hy := hy.mono hle22
        replace hz := hz.mono hle22
        replace f1 := f1.mono hle22
        conv => whnf
        refine CallsO.go (add_n f1 i1 (by decide)) ?_
        rintro _ h23 hle23 f2
        obtain ⟨r_f2, rfl⟩ := f2.raw
        replace hG := hG.mono hle23
        replace hx := hx.mono hle23
        replace hy := hy.mono hle23
        replace hz := hz.mono hle23
        replace f1 := f1.mono hle23
        replace i1 := i1.mono hle23
        conv => whnf
        refine CallsO.go (cmp_n hx f2 (by decide)) ?_
        rintro v24 h24 hle24 rfl
        replace hG := hG.mono hle24
        replace hx := hx.mono hle24
        replace hy := hy.mono hle24
        replace hz := hz.mono hle24
        replace f1 := f1.mono hle24
        replace i1 := i1.mono hle24
        replace f2 := f2.mono hle24
        conv => whnf
        refine pO_geq rfl rfl (false) (decide_eq_false (fun e => by have h1 := lt_flo x; have h2 := (cmpQ_neg x (flo x + ((1 : Int) : Rat))).2 h1; omega)) ?_
        conv => whnf
        refine CallsO.go (floor_n f1 (by decide)) ?_
        rintro _ h25 hle25 f3
        obtain ⟨r_f3, rfl⟩ := f3.raw
        replace hG := hG.mono hle25
        replace hx := hx.mono hle25
        replace hy := hy.mono hle25
        replace hz := hz.mono hle25
        replace f1 := f1.mono hle25
        replace i1 := i1.mono hle25
        replace f2 := f2.mono hle25
        conv => whnf
        refine CallsO.go (equal_c f3 f1 (by decide) (by decide) (flo_flo x)) ?_
        rintro v26 h26 hle26 rfl
        replace hG := hG.mono hle26
        replace hx := hx.mono hle26
        replace hy := hy.mono hle26
        replace hz := hz.mono hle26
        replace f1 := f1.mono hle26
        replace i1 := i1.mono hle26
        replace f2 := f2.mono hle26
        replace f3 := f3.mono hle26
        conv => whnf
        refine CallsO.go (frac_n hx (by decide)) ?_
        rintro _ h27 hle27 ⟨_, _, rfl, na, de⟩
        obtain ⟨r_na, rfl⟩ := na.raw
        obtain ⟨r_de, rfl⟩ := de.raw
        replace hG := hG.mono hle27
        replace hx := hx.mono hle27
        replace hy := hy.mono hle27
        replace hz := hz.mono hle27
        conv => whnf
        refine CallsO.go (div_n na de (by decide)) ?_
        rintro _ h28 hle28 ⟨_, rfl, bk⟩
        obtain ⟨r_bk, rfl⟩ := bk.raw
        replace hG := hG.mono hle28
        replace hx := hx.mono hle28
        replace hy := hy.mono hle28
        replace hz := hz.mono hle28
        replace na := na.mono hle28
        replace de := de.mono hle28
        conv => whnf
        have hde : (((x.den : Nat) : Int) : Rat).num.natAbs ≠ 0 := by rw [Rat.num_intCast, Int.natAbs_natCast]; exact den_ne x
        rw [if_neg hde]
        have hden0 : (0 : Rat) < (((x.den : Nat) : Int) : Rat) := by
          rw [Rat.intCast_natCast]; exact Rat.natCast_lt_natCast.2 (Nat.pos_of_ne_zero (den_ne x))
        refine CallsO.go (string_c hx (by decide)) ?_
        rintro v29 h29 hle29 rfl
        replace hG := hG.mono hle29
        replace hx := hx.mono hle29
        replace hy := hy.mono hle29
        replace hz := hz.mono hle29
        replace na := na.mono hle29
        replace de := de.mono hle29
        replace bk := bk.mono hle29
        conv => whnf
        have hlen := textQ_len hx.1
        refine CallsO.go (parse_x (textQ x) x (parse_text x (by omega)) hG (by omega) hx.1) ?_
        rintro _ h30 hle30 ⟨_, rfl, ag⟩
        obtain ⟨r_ag, rfl⟩ := ag.raw
        replace hG := hG.mono hle30
        replace hx := hx.mono hle30
        replace hy := hy.mono hle30
        replace hz := hz.mono hle30
        replace na := na.mono hle30
        replace de := de.mono hle30
        replace bk := bk.mono hle30
        conv => whnf
        refine pO_neq rfl rfl (false) (rfl) ?_
        conv => whnf
        refine pO_neq rfl rfl (false) (rfl) ?_
        conv => whnf
        refine CallsO.go (equal_c bk hx (by decide) (by decide) (num_den x)) ?_
        rintro v31 h31 hle31 rfl
        replace hG := hG.mono hle31
        replace hx := hx.mono hle31
        replace hy := hy.mono hle31
        replace hz := hz.mono hle31
        replace na := na.mono hle31
        replace de := de.mono hle31
        replace bk := bk.mono hle31
        replace ag := ag.mono hle31
        conv => whnf
        refine CallsO.go (equal_c ag hx (by decide) (by decide) rfl) ?_
        rintro v32 h32 hle32 rfl
        replace hG := hG.mono hle32
        replace hx := hx.mono hle32
        replace hy := hy.mono hle32
        replace hz := hz.mono hle32
        replace na := na.mono hle32
        replace de := de.mono hle32
        replace bk := bk.mono hle32
        replace ag := ag.mono hle32
        conv => whnf
        refine CallsO.go (sign_n de (by decide)) ?_
        rintro v33 h33 hle33 ⟨rfl, rfl⟩
        replace hG := hG.mono hle33
        replace hx := hx.mono hle33
        replace hy := hy.mono hle33
        replace hz := hz.mono hle33
        replace na := na.mono hle33
        replace de := de.mono hle33
        replace bk := bk.mono hle33
        replace ag := ag.mono hle33
        conv => whnf
        refine pO_leq rfl rfl (false) (decide_eq_false (fun e => sgnQ_pos.1 e hden0)) ?_
        conv => whnf
        refine CallsO.go (floor_n na (by decide)) ?_
        rintro _ h34 hle34 f4
        obtain ⟨r_f4, rfl⟩ := f4.raw
        replace hG := hG.mono hle34
        replace hx := hx.mono hle34
        replace hy := hy.mono hle34
        replace hz := hz.mono hle34
        replace na := na.mono hle34
        replace de := de.mono hle34
        replace bk := bk.mono hle34
        replace ag := ag.mono hle34
        conv => whnf
        refine CallsO.go (equal_c f4 na (by decide) (by decide) (flo_int _)) ?_
        rintro v35 h35 hle35 rfl
        replace hG := hG.mono hle35
        replace hx := hx.mono hle35
        replace hy := hy.mono hle35
        replace hz := hz.mono hle35
        replace na := na.mono hle35
        replace de := de.mono hle35
        replace bk := bk.mono hle35
        replace ag := ag.mono hle35
        replace f4 := f4.mono hle35
        conv => whnf
        refine CallsO.go (floor_n de (by decide)) ?_
        rintro _ h36 hle36 f5
        obtain ⟨r_f5, rfl⟩ := f5.raw
        replace hG := hG.mono hle36
        replace hx := hx.mono hle36
        replace hy := hy.mono hle36
        replace hz := hz.mono hle36
        replace na := na.mono hle36
        replace de := de.mono hle36
        replace bk := bk.mono hle36
        replace ag := ag.mono hle36
        replace f4 := f4.mono hle36
        conv => whnf
        refine CallsO.go (equal_c f5 de (by decide) (by decide) (flo_int _)) ?_
        rintro v37 h37 hle37 rfl
        replace hG := hG.mono hle37
        replace hx := hx.mono hle37
        replace hy := hy.mono hle37
        replace hz := hz.mono hle37
        replace na := na.mono hle37
        replace de := de.mono hle37
        replace bk := bk.mono hle37
        replace ag := ag.mono hle37
        replace f4 := f4.mono hle37
        replace f5 := f5.mono hle37
        conv => whnf
        refine CallsO.go (round_n hx hz (by decide)) ?_
        rintro _ h38 hle38 ⟨_, rfl, ro⟩
        obtain ⟨r_ro, rfl⟩ := ro.raw
        replace hG := hG.mono hle38
        replace hx := hx.mono hle38
        replace hy := hy.mono hle38
        replace hz := hz.mono hle38
        replace na := na.mono hle38
        replace de := de.mono hle38
        replace bk := bk.mono hle38
        replace ag := ag.mono hle38
        replace f4 := f4.mono hle38
        replace f5 := f5.mono hle38
        conv => whnf
        refine CallsO.go (sign_n hz (by decide)) ?_
        rintro v39 h39 hle39 ⟨rfl, rfl⟩
        replace hG := hG.mono hle39
        replace hx := hx.mono hle39
        replace hy := hy.mono hle39
        replace hz := hz.mono hle39
        replace na := na.mono hle39
        replace de := de.mono hle39
        replace bk := bk.mono hle39
        replace ag := ag.mono hle39
        replace f4 := f4.mono hle39
        replace f5 := f5.mono hle39
        replace ro := ro.mono hle39
        conv => whnf
        by_cases hz0 : sgnQ z ≤ 0
        · rw [if_pos hz0]
          refine pO_leq rfl rfl (true) (decide_eq_true hz0) ?_
          conv => whnf
          refine pO_eql rfl rfl (true) (rfl) ?_
          conv => whnf
          refine CallsO.go (known_c hG) ?_
          rintro v40 h40 hle40 rfl
          replace hG := hG.mono hle40
          conv => whnf
          exact EndO.go rfl
        · rw [if_neg hz0]
          rw [if_neg hz0] at ro
          have hzp : 0 < z := by
            rcases cmpQ_or z 0 with ⟨e1, e2⟩ | ⟨e1, e2⟩ | ⟨e1, e2⟩
            · exact absurd (show sgnQ z ≤ 0 by unfold sgnQ; omega) hz0
            · exact absurd (show sgnQ z ≤ 0 by unfold sgnQ; omega) hz0
            · exact e1
          refine pO_leq rfl rfl (false) (decide_eq_false hz0) ?_
          conv => whnf
          refine CallsO.go (div_n ro hz (by decide)) ?_
          rintro _ h41 hle41 ⟨_, rfl, ti⟩
          obtain ⟨r_ti, rfl⟩ := ti.raw
          replace hG := hG.mono hle41
          replace hx := hx.mono hle41
          replace hz := hz.mono hle41
          replace ro := ro.mono hle41
          conv => whnf
          have hza : z.num.natAbs ≠ 0 := fun e => by have := abs_zero e; grind
          rw [if_neg hza]
          refine CallsO.go (sub_n ro hx (by decide)) ?_
          rintro _ h42 hle42 d1
          obtain ⟨r_d1, rfl⟩ := d1.raw
          replace hG := hG.mono hle42
          replace hx := hx.mono hle42
          replace hz := hz.mono hle42
          replace ro := ro.mono hle42
          replace ti := ti.mono hle42
          conv => whnf
          refine CallsO.go (sub_n ro hx (by decide)) ?_
          rintro _ h43 hle43 d2
          obtain ⟨r_d2, rfl⟩ := d2.raw
          replace hG := hG.mono hle43
          replace hx := hx.mono hle43
          replace hz := hz.mono hle43
          replace ro := ro.mono hle43
          replace ti := ti.mono hle43
          replace d1 := d1.mono hle43
          conv => whnf
          refine CallsO.go (add_n d1 d2 (by decide)) ?_
          rintro _ h44 hle44 fa
          obtain ⟨r_fa, rfl⟩ := fa.raw
          replace hG := hG.mono hle44
          replace hx := hx.mono hle44
          replace hz := hz.mono hle44
          replace ro := ro.mono hle44
          replace ti := ti.mono hle44
          replace d1 := d1.mono hle44
          replace d2 := d2.mono hle44
          conv => whnf
          refine pO_eql rfl rfl (true) (rfl) ?_
          conv => whnf
          refine pO_eql rfl rfl (true) (rfl) ?_
          conv => whnf
          refine CallsO.go (floor_n ti (by decide)) ?_
          rintro _ h45 hle45 ft
          obtain ⟨r_ft, rfl⟩ := ft.raw
          replace hG := hG.mono hle45
          replace hx := hx.mono hle45
          replace hz := hz.mono hle45
          replace ro := ro.mono hle45
          replace ti := ti.mono hle45
          replace d1 := d1.mono hle45
          replace d2 := d2.mono hle45
          replace fa := fa.mono hle45
          conv => whnf
          have hti : flo (roundQ x z / z) = roundQ x z / z := by unfold roundQ; rw [div_cancel_r hzp, flo_flo]
          refine CallsO.go (equal_c ft ti (by decide) (by decide) hti) ?_
          rintro v46 h46 hle46 rfl
          replace hG := hG.mono hle46
          replace hx := hx.mono hle46
          replace hz := hz.mono hle46
          replace ro := ro.mono hle46
          replace ti := ti.mono hle46
          replace d1 := d1.mono hle46
          replace d2 := d2.mono hle46
          replace fa := fa.mono hle46
          replace ft := ft.mono hle46
          conv => whnf
          obtain ⟨far1, far2⟩ := round_far hzp (flo_le (x / z + 1 / 2)) (lt_flo (x / z + 1 / 2))
          refine CallsO.go (cmp_n fa hz (by decide)) ?_
          rintro v47 h47 hle47 rfl
          replace hG := hG.mono hle47
          replace hx := hx.mono hle47
          replace hz := hz.mono hle47
          replace ro := ro.mono hle47
          replace ti := ti.mono hle47
          replace d1 := d1.mono hle47
          replace d2 := d2.mono hle47
          replace fa := fa.mono hle47
          replace ft := ft.mono hle47
          conv => whnf
          refine pO_leq rfl rfl (true) (decide_eq_true ((cmpQ_le0 _ _).2 far1)) ?_
          conv => whnf
          refine CallsO.go (add_n fa hz (by decide)) ?_
          rintro _ h48 hle48 fb
          obtain ⟨r_fb, rfl⟩ := fb.raw
          replace hG := hG.mono hle48
          replace hx := hx.mono hle48
          replace hz := hz.mono hle48
          replace ro := ro.mono hle48
          replace ti := ti.mono hle48
          replace d1 := d1.mono hle48
          replace d2 := d2.mono hle48
          replace fa := fa.mono hle48
          replace ft := ft.mono hle48
          conv => whnf
          refine CallsO.go (sign_n fb (by decide)) ?_
          rintro v49 h49 hle49 ⟨rfl, rfl⟩
          replace hG := hG.mono hle49
          replace hx := hx.mono hle49
          replace hz := hz.mono hle49
          replace ro := ro.mono hle49
          replace ti := ti.mono hle49
          replace d1 := d1.mono hle49
          replace d2 := d2.mono hle49
          replace fa := fa.mono hle49
          replace ft := ft.mono hle49
          replace fb := fb.mono hle49
          conv => whnf
          refine pO_gtr rfl rfl (true) (decide_eq_true ((cmpQ_pos _ _).2 far2)) ?_
          conv => whnf
          refine CallsO.go (known_c hG) ?_
          rintro v50 h50 hle50 rfl
          replace hG := hG.mono hle50
          replace hx := hx.mono hle50
          replace hz := hz.mono hle50
          replace ro := ro.mono hle50
          replace ti := ti.mono hle50
          replace d1 := d1.mono hle50
          replace d2 := d2.mono hle50
          replace fa := fa.mono hle50
          replace ft := ft.mono hle50
          replace fb := fb.mono hle50
          conv => whnf
          exact EndO.go rfl
    · refine pO_leq rfl rfl (false) (decide_eq_false (fun e => hxy ((cmpQ_le0 _ _).1 e))) ?_
      conv => whnf
      refine CallsO.go (floor_n hx (by decide)) ?_
      rintro _ h20 hle20 f1
      obtain ⟨r_f1, rfl⟩ := f1.raw
      replace hG := hG.mono hle20
      replace hx := hx.mono hle20
      replace hy := hy.mono hle20
      replace hz := hz.mono hle20
      conv => whnf
      refine CallsO.go (cmp_n f1 hx (by decide)) ?_
      rintro v21 h21 hle21 rfl
      replace hG := hG.mono hle21
      replace hx := hx.mono hle21
      replace hy := hy.mono hle21
      replace hz := hz.mono hle21
      replace f1 := f1.mono hle21
      conv => whnf
      refine pO_gtr rfl rfl (false) (decide_eq_false (fun e => by have h1 := (cmpQ_pos _ _).1 e; have h2 := flo_le x; grind)) ?_
      conv => whnf
      refine CallsO.go (int_n (z := 1) (by decide) (by decide)) ?_
      rintro _ h22 hle22 i1
      obtain ⟨r_i1, rfl⟩ := i1.raw
      replace hG := hG.mono hle22
      replace hx := hx.mono hle22
      replace hy := hy.mono hle22
      replace hz := hz.mono hle22
      replace f1 := f1.mono hle22
      conv => whnf
      refine CallsO.go (add_n f1 i1 (by decide)) ?_
      rintro _ h23 hle23 f2
      obtain ⟨r_f2, rfl⟩ := f2.raw
      replace hG := hG.mono hle23
      replace hx := hx.mono hle23
      replace hy := hy.mono hle23
      replace hz := hz.mono hle23
      replace f1 := f1.mono hle23
      replace i1 := i1.mono hle23
      conv => whnf
      refine CallsO.go (cmp_n hx f2 (by decide)) ?_
      rintro v24 h24 hle24 rfl
      replace hG := hG.mono hle24
      replace hx := hx.mono hle24
      replace hy := hy.mono hle24
      replace hz := hz.mono hle24
      replace f1 := f1.mono hle24
      replace i1 := i1.mono hle24
      replace f2 := f2.mono hle24
      conv => whnf
      refine pO_geq rfl rfl (false) (decide_eq_false (fun e => by have h1 := lt_flo x; have h2 := (cmpQ_neg x (flo x + ((1 : Int) : Rat))).2 h1; omega)) ?_
      conv => whnf
      refine CallsO.go (floor_n f1 (by decide)) ?_
      rintro _ h25 hle25 f3
      obtain ⟨r_f3, rfl⟩ := f3.raw
      replace hG := hG.mono hle25
      replace hx := hx.mono hle25
      replace hy := hy.mono hle25
      replace hz := hz.mono hle25
      replace f1 := f1.mono hle25
      replace i1 := i1.mono hle25
      replace f2 := f2.mono hle25
      conv => whnf
      refine CallsO.go (equal_c f3 f1 (by decide) (by decide) (flo_flo x)) ?_
      rintro v26 h26 hle26 rfl
      replace hG := hG.mono hle26
      replace hx := hx.mono hle26
      replace hy := hy.mono hle26
      replace hz := hz.mono hle26
      replace f1 := f1.mono hle26
      replace i1 := i1.mono hle26
      replace f2 := f2.mono hle26
      replace f3 := f3.mono hle26
      conv => whnf
      refine CallsO.go (frac_n hx (by decide)) ?_
      rintro _ h27 hle27 ⟨_, _, rfl, na, de⟩
      obtain ⟨r_na, rfl⟩ := na.raw
      obtain ⟨r_de, rfl⟩ := de.raw
      replace hG := hG.mono hle27
      replace hx := hx.mono hle27
      replace hy := hy.mono hle27
      replace hz := hz.mono hle27
      conv => whnf
      refine CallsO.go (div_n na de (by decide)) ?_
      rintro _ h28 hle28 ⟨_, rfl, bk⟩
      obtain ⟨r_bk, rfl⟩ := bk.raw
      replace hG := hG.mono hle28
      replace hx := hx.mono hle28
      replace hy := hy.mono hle28
      replace hz := hz.mono hle28
      replace na := na.mono hle28
      replace de := de.mono hle28
      conv => whnf
      have hde : (((x.den : Nat) : Int) : Rat).num.natAbs ≠ 0 := by rw [Rat.num_intCast, Int.natAbs_natCast]; exact den_ne x
      rw [if_neg hde]
      have hden0 : (0 : Rat) < (((x.den : Nat) : Int) : Rat) := by
        rw [Rat.intCast_natCast]; exact Rat.natCast_lt_natCast.2 (Nat.pos_of_ne_zero (den_ne x))
      refine CallsO.go (string_c hx (by decide)) ?_
      rintro v29 h29 hle29 rfl
      replace hG := hG.mono hle29
      replace hx := hx.mono hle29
      replace hy := hy.mono hle29
      replace hz := hz.mono hle29
      replace na := na.mono hle29
      replace de := de.mono hle29
      replace bk := bk.mono hle29
      conv => whnf
      have hlen := textQ_len hx.1
      refine CallsO.go (parse_x (textQ x) x (parse_text x (by omega)) hG (by omega) hx.1) ?_
      rintro _ h30 hle30 ⟨_, rfl, ag⟩
      obtain ⟨r_ag, rfl⟩ := ag.raw
      replace hG := hG.mono hle30
      replace hx := hx.mono hle30
      replace hy := hy.mono hle30
      replace hz := hz.mono hle30
      replace na := na.mono hle30
      replace de := de.mono hle30
      replace bk := bk.mono hle30
      conv => whnf
      refine pO_neq rfl rfl (false) (rfl) ?_
      conv => whnf
      refine pO_neq rfl rfl (false) (rfl) ?_
      conv => whnf
      refine CallsO.go (equal_c bk hx (by decide) (by decide) (num_den x)) ?_
      rintro v31 h31 hle31 rfl
      replace hG := hG.mono hle31
      replace hx := hx.mono hle31
      replace hy := hy.mono hle31
      replace hz := hz.mono hle31
      replace na := na.mono hle31
      replace de := de.mono hle31
      replace bk := bk.mono hle31
      replace ag := ag.mono hle31
      conv => whnf
      refine CallsO.go (equal_c ag hx (by decide) (by decide) rfl) ?_
      rintro v32 h32 hle32 rfl
      replace hG := hG.mono hle32
      replace hx := hx.mono hle32
      replace hy := hy.mono hle32
      replace hz := hz.mono hle32
      replace na := na.mono hle32
      replace de := de.mono hle32
      replace bk := bk.mono hle32
      replace ag := ag.mono hle32
      conv => whnf
      refine CallsO.go (sign_n de (by decide)) ?_
      rintro v33 h33 hle33 ⟨rfl, rfl⟩
      replace hG := hG.mono hle33
      replace hx := hx.mono hle33
      replace hy := hy.mono hle33
      replace hz := hz.mono hle33
      replace na := na.mono hle33
      replace de := de.mono hle33
      replace bk := bk.mono hle33
      replace ag := ag.mono hle33
      conv => whnf
      refine pO_leq rfl rfl (false) (decide_eq_false (fun e => sgnQ_pos.1 e hden0)) ?_
      conv => whnf
      refine CallsO.go (floor_n na (by decide)) ?_
      rintro _ h34 hle34 f4
      obtain ⟨r_f4, rfl⟩ := f4.raw
      replace hG := hG.mono hle34
      replace hx := hx.mono hle34
      replace hy := hy.mono hle34
      replace hz := hz.mono hle34
      replace na := na.mono hle34
      replace de := de.mono hle34
      replace bk := bk.mono hle34
      replace ag := ag.mono hle34
      conv => whnf
      refine CallsO.go (equal_c f4 na (by decide) (by decide) (flo_int _)) ?_
      rintro v35 h35 hle35 rfl
      replace hG := hG.mono hle35
      replace hx := hx.mono hle35
      replace hy := hy.mono hle35
      replace hz := hz.mono hle35
      replace na := na.mono hle35
      replace de := de.mono hle35
      replace bk := bk.mono hle35
      replace ag := ag.mono hle35
      replace f4 := f4.mono hle35
      conv => whnf
      refine CallsO.go (floor_n de (by decide)) ?_
      rintro _ h36 hle36 f5
      obtain ⟨r_f5, rfl⟩ := f5.raw
      replace hG := hG.mono hle36
      replace hx := hx.mono hle36
      replace hy := hy.mono hle36
      replace hz := hz.mono hle36
      replace na := na.mono hle36
      replace de := de.mono hle36
      replace bk := bk.mono hle36
      replace ag := ag.mono hle36
      replace f4 := f4.mono hle36
      conv => whnf
      refine CallsO.go (equal_c f5 de (by decide) (by decide) (flo_int _)) ?_
      rintro v37 h37 hle37 rfl
      replace hG := hG.mono hle37
      replace hx := hx.mono hle37
      replace hy := hy.mono hle37
      replace hz := hz.mono hle37
      replace na := na.mono hle37
      replace de := de.mono hle37
      replace bk := bk.mono hle37
      replace ag := ag.mono hle37
      replace f4 := f4.mono hle37
      replace f5 := f5.mono hle37
      conv => whnf
      refine CallsO.go (round_n hx hz (by decide)) ?_
      rintro _ h38 hle38 ⟨_, rfl, ro⟩
      obtain ⟨r_ro, rfl⟩ := ro.raw
      replace hG := hG.mono hle38
      replace hx := hx.mono hle38
      replace hy := hy.mono hle38
      replace hz := hz.mono hle38
      replace na := na.mono hle38
      replace de := de.mono hle38
      replace bk := bk.mono hle38
      replace ag := ag.mono hle38
      replace f4 := f4.mono hle38
      replace f5 := f5.mono hle38
      conv => whnf
      refine CallsO.go (sign_n hz (by decide)) ?_
      rintro v39 h39 hle39 ⟨rfl, rfl⟩
      replace hG := hG.mono hle39
      replace hx := hx.mono hle39
      replace hy := hy.mono hle39
      replace hz := hz.mono hle39
      replace na := na.mono hle39
      replace de := de.mono hle39
      replace bk := bk.mono hle39
      replace ag := ag.mono hle39
      replace f4 := f4.mono hle39
      replace f5 := f5.mono hle39
      replace ro := ro.mono hle39
      conv => whnf
      by_cases hz0 : sgnQ z ≤ 0
      · rw [if_pos hz0]
        refine pO_leq rfl rfl (true) (decide_eq_true hz0) ?_
        conv => whnf
        refine pO_eql rfl rfl (true) (rfl) ?_
        conv => whnf
        refine CallsO.go (known_c hG) ?_
        rintro v40 h40 hle40 rfl
        replace hG := hG.mono hle40
        conv => whnf
        exact EndO.go rfl
      · rw [if_neg hz0]
        rw [if_neg hz0] at ro
        have hzp : 0 < z := by
          rcases cmpQ_or z 0 with ⟨e1, e2⟩ | ⟨e1, e2⟩ | ⟨e1, e2⟩
          · exact absurd (show sgnQ z ≤ 0 by unfold sgnQ; omega) hz0
          · exact absurd (show sgnQ z ≤ 0 by unfold sgnQ; omega) hz0
          · exact e1
        refine pO_leq rfl rfl (false) (decide_eq_false hz0) ?_
        conv => whnf
        refine CallsO.go (div_n ro hz (by decide)) ?_
        rintro _ h41 hle41 ⟨_, rfl, ti⟩
        obtain ⟨r_ti, rfl⟩ := ti.raw
        replace hG := hG.mono hle41
        replace hx := hx.mono hle41
        replace hz := hz.mono hle41
        replace ro := ro.mono hle41
        conv => whnf
        have hza : z.num.natAbs ≠ 0 := fun e => by have := abs_zero e; grind
        rw [if_neg hza]
        refine CallsO.go (sub_n ro hx (by decide)) ?_
        rintro _ h42 hle42 d1
        obtain ⟨r_d1, rfl⟩ := d1.raw
        replace hG := hG.mono hle42
        replace hx := hx.mono hle42
        replace hz := hz.mono hle42
        replace ro := ro.mono hle42
        replace ti := ti.mono hle42
        conv => whnf
        refine CallsO.go (sub_n ro hx (by decide)) ?_
        rintro _ h43 hle43 d2
        obtain ⟨r_d2, rfl⟩ := d2.raw
        replace hG := hG.mono hle43
        replace hx := hx.mono hle43
        replace hz := hz.mono hle43
        replace ro := ro.mono hle43
        replace ti := ti.mono hle43
        replace d1 := d1.mono hle43
        conv => whnf
        refine CallsO.go (add_n d1 d2 (by decide)) ?_
        rintro _ h44 hle44 fa
        obtain ⟨r_fa, rfl⟩ := fa.raw
        replace hG := hG.mono hle44
        replace hx := hx.mono hle44
        replace hz := hz.mono hle44
        replace ro := ro.mono hle44
        replace ti := ti.mono hle44
        replace d1 := d1.mono hle44
        replace d2 := d2.mono hle44
        conv => whnf
        refine pO_eql rfl rfl (true) (rfl) ?_
        conv => whnf
        refine pO_eql rfl rfl (true) (rfl) ?_
        conv => whnf
        refine CallsO.go (floor_n ti (by decide)) ?_
        rintro _ h45 hle45 ft
        obtain ⟨r_ft, rfl⟩ := ft.raw
        replace hG := hG.mono hle45
        replace hx := hx.mono hle45
        replace hz := hz.mono hle45
        replace ro := ro.mono hle45
        replace ti := ti.mono hle45
        replace d1 := d1.mono hle45
        replace d2 := d2.mono hle45
        replace fa := fa.mono hle45
        conv => whnf
        have hti : flo (roundQ x z / z) = roundQ x z / z := by unfold roundQ; rw [div_cancel_r hzp, flo_flo]
        refine CallsO.go (equal_c ft ti (by decide) (by decide) hti) ?_
        rintro v46 h46 hle46 rfl
        replace hG := hG.mono hle46
        replace hx := hx.mono hle46
        replace hz := hz.mono hle46
        replace ro := ro.mono hle46
        replace ti := ti.mono hle46
        replace d1 := d1.mono hle46
        replace d2 := d2.mono hle46
        replace fa := fa.mono hle46
        replace ft := ft.mono hle46
        conv => whnf
        obtain ⟨far1, far2⟩ := round_far hzp (flo_le (x / z + 1 / 2)) (lt_flo (x / z + 1 / 2))
        refine CallsO.go (cmp_n fa hz (by decide)) ?_
        rintro v47 h47 hle47 rfl
        replace hG := hG.mono hle47
        replace hx := hx.mono hle47
        replace hz := hz.mono hle47
        replace ro := ro.mono hle47
        replace ti := ti.mono hle47
        replace d1 := d1.mono hle47
        replace d2 := d2.mono hle47
        replace fa := fa.mono hle47
        replace ft := ft.mono hle47
        conv => whnf
        refine pO_leq rfl rfl (true) (decide_eq_true ((cmpQ_le0 _ _).2 far1)) ?_
        conv => whnf
        refine CallsO.go (add_n fa hz (by decide)) ?_
        rintro _ h48 hle48 fb
        obtain ⟨r_fb, rfl⟩ := fb.raw
        replace hG := hG.mono hle48
        replace hx := hx.mono hle48
        replace hz := hz.mono hle48
        replace ro := ro.mono hle48
        replace ti := ti.mono hle48
        replace d1 := d1.mono hle48
        replace d2 := d2.mono hle48
        replace fa := fa.mono hle48
        replace ft := ft.mono hle48
        conv => whnf
        refine CallsO.go (sign_n fb (by decide)) ?_
        rintro v49 h49 hle49 ⟨rfl, rfl⟩
        replace hG := hG.mono hle49
        replace hx := hx.mono hle49
        replace hz := hz.mono hle49
        replace ro := ro.mono hle49
        replace ti := ti.mono hle49
        replace d1 := d1.mono hle49
        replace d2 := d2.mono hle49
        replace fa := fa.mono hle49
        replace ft := ft.mono hle49
        replace fb := fb.mono hle49
        conv => whnf
        refine pO_gtr rfl rfl (true) (decide_eq_true ((cmpQ_pos _ _).2 far2)) ?_
        conv => whnf
        refine CallsO.go (known_c hG) ?_
        rintro v50 h50 hle50 rfl
        replace hG := hG.mono hle50
        replace hx := hx.mono hle50
        replace hz := hz.mono hle50
        replace ro := ro.mono hle50
        replace ti := ti.mono hle50
        replace d1 := d1.mono hle50
        replace d2 := d2.mono hle50
        replace fa := fa.mono hle50
        replace ft := ft.mono hle50
        replace fb := fb.mono hle50
        conv => whnf
        exact EndO.go rfl
  · conv => whnf
    refine CallsO.go (known_c hG) ?_
    rintro v1 h1 hle1 rfl
    replace hG := hG.mono hle1
    conv => whnf
    exact EndO.go rfl
end
end Go.Proofs.YtplaobhghfndgaaGreatDoor
