import Derived.Test.YtplaobhghfndgaaGreatDoorText
/-! Numerals are read. -/
set_option linter.unusedVariables false
set_option linter.unusedSimpArgs false
set_option maxRecDepth 100000
namespace Go.Proofs.YtplaobhghfndgaaGreatDoor
open Go Go.Proofs.Vc
attribute [local irreducible] CallsO EffO PureO LoadO StoreO EndO LoopV RoundO
section
variable {h : Heap}
theorem hasPrefix_c (l : List UInt8) (c : UInt8) (t : Bool) (ht : (l.head? == some c) = t) (hl : l.length < 1099511627776) : CallGo Tryz.prog 184 #[.string (bs l), .string (bs [c])] h NoX fun v h' => h' = h ∧ v = .bool t := by
  refine v_fn tb k184 [.string (bs l), .string (bs [c])] rfl ?_
  conv => whnf
  cases l with
  | nil =>
    refine pO_geq rfl rfl (false) (rfl) ?_
    conv => whnf
    exact EndO.go ⟨rfl, by rw [← ht]; rfl⟩
  | cons x l =>
    refine pO_geq rfl rfl (true) (decide_eq_true (by rw [bs_size, bs_size]; simp only [List.length_cons, List.length_nil]; omega)) ?_
    conv => whnf
    refine pO_sliceB 0 1 [x] u9 rfl rfl ⟨_, rfl⟩ (by decide) (by simp) rfl ?_
    conv => whnf
    refine pO_seqB t rfl rfl ?_ ?_
    · rw [← ht, Bool.eq_iff_iff]; simp
    · conv => whnf
      exact EndO.go ⟨rfl, rfl⟩
theorem cutPrefix_c (l : List UInt8) (c : UInt8) (t : Bool) (r : List UInt8) (ht : (l.head? == some c) = t) (hr : r = if t then l.tail else l) (hl : l.length < 1099511627776) : CallGo Tryz.prog 109 #[.string (bs l), .string (bs [c])] h NoX fun v h' => h' = h ∧ v = .tuple #[.string (bs r), .bool t] := by
  have h150 : CallGo Tryz.prog 150 #[.string (bs l), .string (bs [c])] h NoX fun v h' => h' = h ∧ v = .tuple #[.string (bs r), .bool t] := by
    refine v_fn tb k150 [.string (bs l), .string (bs [c])] rfl ?_
    conv => whnf
    refine CallsO.go (hasPrefix_c l c t ht hl) ?_
    rintro v1 h1 hle1 ⟨rfl, rfl⟩
    conv => whnf
    cases t
    · conv => whnf
      exact EndO.go ⟨rfl, by rw [hr]; rfl⟩
    · conv => whnf
      cases l with
      | nil => simp at ht
      | cons x l =>
        refine pO_sliceB 1 (l.length + 1) l u9 rfl ⟨_, rfl⟩ (by simp) (by omega) (by simp) (by simp) ?_
        conv => whnf
        exact EndO.go ⟨rfl, by rw [hr]; rfl⟩
  refine v_fn tb k109 [.string (bs l), .string (bs [c])] rfl ?_
  conv => whnf
  refine CallsO.go (h150) ?_
  rintro v1 h1 hle1 ⟨rfl, rfl⟩
  conv => whnf
  exact EndO.go ⟨rfl, rfl⟩
theorem cut_b (c : UInt8) (l f b : List UInt8) (t : Bool) (hr : cut3 c l = (f, b, t)) (hG : Glob h) (hl : l.length < 4294967281) : CallGo Tryz.prog 110 #[.string (bs l), .string (bs [c])] h NoX fun v h' => h' = h ∧ v = .tuple #[.string (bs f), .string (bs b), .bool t] := by
  have := cut_c c l hG hl
  rw [hr] at this; exact this
theorem isDigits_b (l : List UInt8) (hl : l.length < 1099511627776) (t : Bool) (ht : allDig l = t) : CallGo Tryz.prog 111 #[.string (bs l)] h NoX fun v h' => v = .bool t := by
  subst ht; exact isDigits_c l hl
theorem numT_pos {c : UInt8} {l : List UInt8} (hc : isDig c = true) (h0 : c ≠ 48) : numT (c :: l) ≠ 0 := by
  have h1 : numT (c :: l) = numF (10 * 0 + (c.toNat - 48)) l := rfl
  rw [h1, numF_add]
  simp only [isDig, Bool.and_eq_true, decide_eq_true_eq] at hc
  have h2 : c.toNat ≠ 48 := fun e => h0 (UInt8.toNat_inj.1 (by rw [e]; rfl))
  have := Nat.le_mul_of_pos_right (10 * 0 + (c.toNat - 48)) (Nat.pow_pos (n := l.length) (show 0 < 10 by decide))
  omega
theorem ten_le (n : Nat) : 10 ^ n ≤ 2 ^ (4 * n) := by
  rw [Nat.pow_mul]; exact Nat.pow_le_pow_left (by decide) n
theorem numT_two {l : List UInt8} (h : l.all isDig = true) {k : Nat} (hk : l.length ≤ k) : numT l ≤ 2 ^ (4 * k) :=
  Nat.le_trans (Nat.le_of_lt (numT_lt h)) (Nat.le_trans (ten_le _) (Nat.pow_le_pow_right (by decide) (by omega)))
theorem sz_numT {l : List UInt8} (h : l.all isDig = true) : sz (numT l) ≤ l.length :=
  sz_le (Nat.lt_of_lt_of_le (numT_lt h) (Nat.pow_le_pow_left (by decide) _))
theorem all_of_allDig {l : List UInt8} (h : allDig l = true) : l.all isDig = true ∧ l ≠ [] := by
  simp only [allDig, Bool.and_eq_true] at h
  exact ⟨h.1, fun e => by rw [e] at h; simp at h⟩
theorem parseQ_sign {l : List UInt8} (hl : l.length ≤ 2000) : parseQ l = parseF (l.head? == some 45) (if (l.head? == some 45) then l.tail else l) := by
  unfold parseQ
  rw [if_neg (by omega)]
  cases l with
  | nil => rfl
  | cons x l =>
    by_cases hx : x = 45
    · subst hx; rfl
    · have h1 : ((x :: l).head? == some 45) = false := beq_eq_false_iff_ne.2 (fun e => hx (by simpa using e))
      rw [h1]
      split
      · rename_i l' he
        exact absurd (List.cons.inj he).1 hx
      · rfl
set_option maxHeartbeats 4000000 in
theorem parse_c (l : List UInt8) (hG : Glob h) (hl : l.length < 4294967281) : CallGo Tryz.prog 20 #[.string (bs l)] h NoX fun v h' => ∃ z, v = .tuple #[z, .int .i64 ((parseQ l).2 : Nat)] ∧ NumV h' z (4 * l.length) (parseQ l).1 := by
  refine v_fn tb k20 [.string (bs l)] rfl ?_
  conv => whnf
  rcases Nat.lt_or_ge 2000 l.length with h2000 | h2000
  · refine pO_gtr rfl rfl (true) (decide_eq_true (by rw [bs_size]; omega)) ?_
    conv => whnf
    refine pO_b0 rfl ?_
    conv => whnf
    have hP : parseQ l = (0, 5) := by unfold parseQ; rw [if_pos h2000]
    refine EndO.go ?_
    rw [hP]
    exact ⟨_, rfl, NumV.zero _ _⟩
  · refine pO_gtr rfl rfl (false) (decide_eq_false (by rw [bs_size]; omega)) ?_
    conv => whnf
    have hP := parseQ_sign h2000
    obtain ⟨m, hm⟩ : ∃ m, (l.head? == some 45) = m := ⟨_, rfl⟩
    rw [hm] at hP
    obtain ⟨l', hl'⟩ : ∃ l', l' = if m then l.tail else l := ⟨_, rfl⟩
    have hll : l'.length ≤ l.length := by rw [hl']; split <;> simp
    refine CallsO.go (cutPrefix_c l 45 m l' hm hl' (by omega)) ?_
    rintro v1 h1 hle1 ⟨rfl, rfl⟩
    conv => whnf
    rw [← hl'] at hP
    unfold parseF at hP
    cases hcut : cutC 47 l' with
    | mk f ob =>
      cases ob with
      | some b =>
        rw [hcut] at hP
        dsimp only at hP
        have hs := cutC_some hcut
        have hsl : l'.length = f.length + (b.length + 1) := by rw [hs]; simp
        refine CallsO.go (cut_b 47 l' f b true (by unfold cut3; rw [hcut]) hG (by omega)) ?_
        rintro v2 h2 hle2 ⟨rfl, rfl⟩
        conv => whnf
        rcases Bool.eq_false_or_eq_true (allDig f) with hdf | hdf
        · refine CallsO.go (isDigits_b f (by omega) true hdf) ?_
          rintro v7 h7 hle7 rfl
          conv => whnf
          obtain ⟨hda, hdn⟩ := all_of_allDig hdf
          obtain ⟨c0, fr, hf0⟩ : ∃ c0 fr, f = c0 :: fr := by
            cases hf : f with
            | nil => exact absurd hf hdn
            | cons c0 fr => exact ⟨c0, fr, rfl⟩
          refine pO_idxB (l := f) (j := 0) c0 u9 rfl rfl (by rw [hf0]; rfl) ?_
          conv => whnf
          by_cases h48 : c0 = 48
          · refine pO_eql rfl rfl (true) (by rw [h48]; rfl) ?_
            conv => whnf
            rcases Nat.lt_or_ge 1 (List.length f) with hlf | hlf
            · refine pO_gtr rfl rfl (true) (decide_eq_true (by rw [bs_size]; omega)) ?_
              conv => whnf
              have hok : okFront f = false := by
                unfold okFront; rw [hdf, decide_eq_true hlf, hf0, h48]; rfl
              have hP' : parseQ l = (0, 4) := by rw [hP, hok]; rfl
              refine pO_b0 rfl ?_
              conv => whnf
              refine EndO.go ?_
              rw [hP']
              exact ⟨_, rfl, NumV.zero _ _⟩
            · refine pO_gtr rfl rfl (false) (decide_eq_false (by rw [bs_size]; omega)) ?_
              conv => whnf
              have hok : okFront f = true := by
                unfold okFront; rw [hdf, decide_eq_false (by omega), Bool.and_false]; rfl
              rw [hok, Bool.true_and] at hP
              rcases Bool.eq_false_or_eq_true (allDig b) with hdb | hdb
              · refine CallsO.go (isDigits_b b (by omega) true hdb) ?_
                rintro v8 h8 hle8 rfl
                conv => whnf
                obtain ⟨hba, hbn⟩ := all_of_allDig hdb
                obtain ⟨c1, br, rfl⟩ : ∃ c1 br, b = c1 :: br := by
                  cases b with
                  | nil => exact absurd rfl hbn
                  | cons c1 br => exact ⟨c1, br, rfl⟩
                refine pO_idxB (l := c1 :: br) (j := 0) c1 u9 rfl rfl rfl ?_
                conv => whnf
                by_cases h481 : c1 = 48
                · refine pO_eql rfl rfl (true) (by rw [h481]; rfl) ?_
                  conv => whnf
                  have hno : (allDig (c1 :: br) && !((c1 :: br).head? == some 48)) = false := by rw [h481, Bool.and_eq_false_iff]; exact .inr rfl
                  have hP' : parseQ l = (0, 4) := by rw [hP, hno]; rfl
                  refine pO_b0 rfl ?_
                  conv => whnf
                  refine EndO.go ?_
                  rw [hP']
                  exact ⟨_, rfl, NumV.zero _ _⟩
                · refine pO_eql rfl rfl (false) (beq_eq_false_iff_ne.2 (fun e => h481 (UInt8.toNat_inj.1 (by have : (48 : UInt8).toNat = 48 := rfl; omega)))) ?_
                  conv => whnf
                  have hyes : (allDig (c1 :: br) && !((c1 :: br).head? == some 48)) = true := by
                    rw [hdb, show ((c1 :: br).head? == some 48) = false from beq_eq_false_iff_ne.2 (fun e => h481 (by simpa using e))]; rfl
                  have hP' : parseQ l = (rat m (numT f) (numT (c1 :: br)), 0) := by rw [hP, hyes]; rfl
                  have hb0 : numT (c1 :: br) ≠ 0 := numT_pos (by simp only [List.all_cons, Bool.and_eq_true] at hba; exact hba.1) h481
                  have hs1 := sz_numT hda
                  have hs2 := sz_numT hba
                  refine CallsO.go (fromDigits_c f hda (by omega)) ?_
                  rintro t1 h9 hle9 ht1
                  conv => whnf
                  refine CallsO.go (fromDigits_c (c1 :: br) hba (by omega)) ?_
                  rintro t2 h10 hle10 ht2
                  conv => whnf
                  refine CallsO.go (reduced_c (m := m) (k := 4 * l.length) (ht1.mono hle10) ht2 hb0 (by omega) (rat_sm hb0 (numT_two hda (by omega)) (numT_two hba (by omega)))) ?_
                  rintro _ h11 hle11 hz
                  obtain ⟨r_hz, rfl⟩ := hz.raw
                  conv => whnf
                  refine EndO.go ?_
                  rw [hP']
                  exact ⟨_, rfl, hz⟩
              · refine CallsO.go (isDigits_b b (by omega) false hdb) ?_
                rintro v8 h8 hle8 rfl
                conv => whnf
                have hno : (allDig b && !(b.head? == some 48)) = false := by rw [hdb]; rfl
                have hP' : parseQ l = (0, 4) := by rw [hP, hno]; rfl
                refine pO_b0 rfl ?_
                conv => whnf
                refine EndO.go ?_
                rw [hP']
                exact ⟨_, rfl, NumV.zero _ _⟩
          · refine pO_eql rfl rfl (false) (beq_eq_false_iff_ne.2 (fun e => h48 (UInt8.toNat_inj.1 (by have : (48 : UInt8).toNat = 48 := rfl; omega)))) ?_
            conv => whnf
            have hok : okFront f = true := by
              unfold okFront
              rw [hdf, hf0, show ((c0 :: fr).head? == some 48) = false from beq_eq_false_iff_ne.2 (fun e => h48 (by simpa using e))]; rfl
            rw [hok, Bool.true_and] at hP
            rcases Bool.eq_false_or_eq_true (allDig b) with hdb | hdb
            · refine CallsO.go (isDigits_b b (by omega) true hdb) ?_
              rintro v8 h8 hle8 rfl
              conv => whnf
              obtain ⟨hba, hbn⟩ := all_of_allDig hdb
              obtain ⟨c1, br, rfl⟩ : ∃ c1 br, b = c1 :: br := by
                cases b with
                | nil => exact absurd rfl hbn
                | cons c1 br => exact ⟨c1, br, rfl⟩
              refine pO_idxB (l := c1 :: br) (j := 0) c1 u9 rfl rfl rfl ?_
              conv => whnf
              by_cases h481 : c1 = 48
              · refine pO_eql rfl rfl (true) (by rw [h481]; rfl) ?_
                conv => whnf
                have hno : (allDig (c1 :: br) && !((c1 :: br).head? == some 48)) = false := by rw [h481, Bool.and_eq_false_iff]; exact .inr rfl
                have hP' : parseQ l = (0, 4) := by rw [hP, hno]; rfl
                refine pO_b0 rfl ?_
                conv => whnf
                refine EndO.go ?_
                rw [hP']
                exact ⟨_, rfl, NumV.zero _ _⟩
              · refine pO_eql rfl rfl (false) (beq_eq_false_iff_ne.2 (fun e => h481 (UInt8.toNat_inj.1 (by have : (48 : UInt8).toNat = 48 := rfl; omega)))) ?_
                conv => whnf
                have hyes : (allDig (c1 :: br) && !((c1 :: br).head? == some 48)) = true := by
                  rw [hdb, show ((c1 :: br).head? == some 48) = false from beq_eq_false_iff_ne.2 (fun e => h481 (by simpa using e))]; rfl
                have hP' : parseQ l = (rat m (numT f) (numT (c1 :: br)), 0) := by rw [hP, hyes]; rfl
                have hb0 : numT (c1 :: br) ≠ 0 := numT_pos (by simp only [List.all_cons, Bool.and_eq_true] at hba; exact hba.1) h481
                have hs1 := sz_numT hda
                have hs2 := sz_numT hba
                refine CallsO.go (fromDigits_c f hda (by omega)) ?_
                rintro t1 h9 hle9 ht1
                conv => whnf
                refine CallsO.go (fromDigits_c (c1 :: br) hba (by omega)) ?_
                rintro t2 h10 hle10 ht2
                conv => whnf
                refine CallsO.go (reduced_c (m := m) (k := 4 * l.length) (ht1.mono hle10) ht2 hb0 (by omega) (rat_sm hb0 (numT_two hda (by omega)) (numT_two hba (by omega)))) ?_
                rintro _ h11 hle11 hz
                obtain ⟨r_hz, rfl⟩ := hz.raw
                conv => whnf
                refine EndO.go ?_
                rw [hP']
                exact ⟨_, rfl, hz⟩
            · refine CallsO.go (isDigits_b b (by omega) false hdb) ?_
              rintro v8 h8 hle8 rfl
              conv => whnf
              have hno : (allDig b && !(b.head? == some 48)) = false := by rw [hdb]; rfl
              have hP' : parseQ l = (0, 4) := by rw [hP, hno]; rfl
              refine pO_b0 rfl ?_
              conv => whnf
              refine EndO.go ?_
              rw [hP']
              exact ⟨_, rfl, NumV.zero _ _⟩
        · refine CallsO.go (isDigits_b f (by omega) false hdf) ?_
          rintro v7 h7 hle7 rfl
          conv => whnf
          have hok : okFront f = false := by unfold okFront; rw [hdf]; rfl
          have hP' : parseQ l = (0, 4) := by rw [hP, hok]; rfl
          refine pO_b0 rfl ?_
          conv => whnf
          refine EndO.go ?_
          rw [hP']
          exact ⟨_, rfl, NumV.zero _ _⟩
      | none =>
        rw [hcut] at hP
        dsimp only at hP
        obtain ⟨rfl, _⟩ := cutC_none hcut
        refine CallsO.go (cut_b 47 f f [] false (by unfold cut3; rw [hcut]) hG (by omega)) ?_
        rintro v2 h2 hle2 ⟨rfl, rfl⟩
        conv => whnf
        cases hcut2 : cutC 46 f with
        | mk f2 od =>
          cases od with
          | some d =>
            rw [hcut2] at hP
            dsimp only at hP
            have hs := cutC_some hcut2
            have hsl : f.length = f2.length + (d.length + 1) := by rw [hs]; simp
            refine CallsO.go (cut_b 46 f f2 d true (by unfold cut3; rw [hcut2]) hG (by omega)) ?_
            rintro v3 h3 hle3 ⟨rfl, rfl⟩
            conv => whnf
            rcases Bool.eq_false_or_eq_true (allDig f2) with hdf | hdf
            · refine CallsO.go (isDigits_b f2 (by omega) true hdf) ?_
              rintro v7 h7 hle7 rfl
              conv => whnf
              obtain ⟨hda, hdn⟩ := all_of_allDig hdf
              obtain ⟨c0, fr, hf0⟩ : ∃ c0 fr, f2 = c0 :: fr := by
                cases hf : f2 with
                | nil => exact absurd hf hdn
                | cons c0 fr => exact ⟨c0, fr, rfl⟩
              refine pO_idxB (l := f2) (j := 0) c0 u9 rfl rfl (by rw [hf0]; rfl) ?_
              conv => whnf
              by_cases h48 : c0 = 48
              · refine pO_eql rfl rfl (true) (by rw [h48]; rfl) ?_
                conv => whnf
                rcases Nat.lt_or_ge 1 (List.length f2) with hlf | hlf
                · refine pO_gtr rfl rfl (true) (decide_eq_true (by rw [bs_size]; omega)) ?_
                  conv => whnf
                  have hok : okFront f2 = false := by
                    unfold okFront; rw [hdf, decide_eq_true hlf, hf0, h48]; rfl
                  have hP' : parseQ l = (0, 4) := by rw [hP, hok]; rfl
                  refine pO_b0 rfl ?_
                  conv => whnf
                  refine EndO.go ?_
                  rw [hP']
                  exact ⟨_, rfl, NumV.zero _ _⟩
                · refine pO_gtr rfl rfl (false) (decide_eq_false (by rw [bs_size]; omega)) ?_
                  conv => whnf
                  have hok : okFront f2 = true := by
                    unfold okFront; rw [hdf, decide_eq_false (by omega), Bool.and_false]; rfl
                  rw [hok, Bool.true_and] at hP
                  rcases Bool.eq_false_or_eq_true (allDig d) with hdd | hdd
                  · refine CallsO.go (isDigits_b d (by omega) true hdd) ?_
                    rintro v8 h8 hle8 rfl
                    conv => whnf
                    have hP' : parseQ l = (rat m (numT (f2 ++ d)) (10 ^ d.length), 0) := by rw [hP, hdd]; rfl
                    have hfa : (f2 ++ d).all isDig = true := by rw [List.all_append, hda, (all_of_allDig hdd).1]; rfl
                    have hs1 := sz_numT hfa
                    have hfl : (f2 ++ d).length = f2.length + List.length d := List.length_append
                    have hs2 : sz (10 ^ List.length d) ≤ List.length d + 1 := sz_le (Nat.lt_of_lt_of_le (Nat.pow_lt_pow_right (by decide) (Nat.lt_succ_self _)) (Nat.pow_le_pow_left (by decide) _))
                    have ht0 : 10 ^ List.length d ≠ 0 := Nat.ne_of_gt (Nat.pow_pos (by decide))
                    refine pO_catB (f2 ++ d) rfl rfl (by omega) rfl ?_
                    conv => whnf
                    refine CallsO.go (fromDigits_c (f2 ++ d) hfa (by omega)) ?_
                    rintro t1 h9 hle9 ht1
                    conv => whnf
                    rw [bs_size]
                    refine CallsO.go (power_c (a := 10) (n := List.length d) (by decide) (by decide) (by omega)) ?_
                    rintro t2 h10 hle10 ht2
                    conv => whnf
                    refine CallsO.go (reduced_c (m := m) (k := 4 * l.length) (ht1.mono hle10) ht2 ht0 (by omega) (rat_sm ht0 (numT_two hfa (by omega)) (Nat.le_trans (ten_le _) (Nat.pow_le_pow_right (by decide) (by omega))))) ?_
                    rintro _ h11 hle11 hz
                    obtain ⟨r_hz, rfl⟩ := hz.raw
                    conv => whnf
                    refine EndO.go ?_
                    rw [hP']
                    exact ⟨_, rfl, hz⟩
                  · refine CallsO.go (isDigits_b d (by omega) false hdd) ?_
                    rintro v8 h8 hle8 rfl
                    conv => whnf
                    have hP' : parseQ l = (0, 4) := by rw [hP, hdd]; rfl
                    refine pO_b0 rfl ?_
                    conv => whnf
                    refine EndO.go ?_
                    rw [hP']
                    exact ⟨_, rfl, NumV.zero _ _⟩
              · refine pO_eql rfl rfl (false) (beq_eq_false_iff_ne.2 (fun e => h48 (UInt8.toNat_inj.1 (by have : (48 : UInt8).toNat = 48 := rfl; omega)))) ?_
                conv => whnf
                have hok : okFront f2 = true := by
                  unfold okFront
                  rw [hdf, hf0, show ((c0 :: fr).head? == some 48) = false from beq_eq_false_iff_ne.2 (fun e => h48 (by simpa using e))]; rfl
                rw [hok, Bool.true_and] at hP
                rcases Bool.eq_false_or_eq_true (allDig d) with hdd | hdd
                · refine CallsO.go (isDigits_b d (by omega) true hdd) ?_
                  rintro v8 h8 hle8 rfl
                  conv => whnf
                  have hP' : parseQ l = (rat m (numT (f2 ++ d)) (10 ^ d.length), 0) := by rw [hP, hdd]; rfl
                  have hfa : (f2 ++ d).all isDig = true := by rw [List.all_append, hda, (all_of_allDig hdd).1]; rfl
                  have hs1 := sz_numT hfa
                  have hfl : (f2 ++ d).length = f2.length + List.length d := List.length_append
                  have hs2 : sz (10 ^ List.length d) ≤ List.length d + 1 := sz_le (Nat.lt_of_lt_of_le (Nat.pow_lt_pow_right (by decide) (Nat.lt_succ_self _)) (Nat.pow_le_pow_left (by decide) _))
                  have ht0 : 10 ^ List.length d ≠ 0 := Nat.ne_of_gt (Nat.pow_pos (by decide))
                  refine pO_catB (f2 ++ d) rfl rfl (by omega) rfl ?_
                  conv => whnf
                  refine CallsO.go (fromDigits_c (f2 ++ d) hfa (by omega)) ?_
                  rintro t1 h9 hle9 ht1
                  conv => whnf
                  rw [bs_size]
                  refine CallsO.go (power_c (a := 10) (n := List.length d) (by decide) (by decide) (by omega)) ?_
                  rintro t2 h10 hle10 ht2
                  conv => whnf
                  refine CallsO.go (reduced_c (m := m) (k := 4 * l.length) (ht1.mono hle10) ht2 ht0 (by omega) (rat_sm ht0 (numT_two hfa (by omega)) (Nat.le_trans (ten_le _) (Nat.pow_le_pow_right (by decide) (by omega))))) ?_
                  rintro _ h11 hle11 hz
                  obtain ⟨r_hz, rfl⟩ := hz.raw
                  conv => whnf
                  refine EndO.go ?_
                  rw [hP']
                  exact ⟨_, rfl, hz⟩
                · refine CallsO.go (isDigits_b d (by omega) false hdd) ?_
                  rintro v8 h8 hle8 rfl
                  conv => whnf
                  have hP' : parseQ l = (0, 4) := by rw [hP, hdd]; rfl
                  refine pO_b0 rfl ?_
                  conv => whnf
                  refine EndO.go ?_
                  rw [hP']
                  exact ⟨_, rfl, NumV.zero _ _⟩
            · refine CallsO.go (isDigits_b f2 (by omega) false hdf) ?_
              rintro v7 h7 hle7 rfl
              conv => whnf
              have hok : okFront f2 = false := by unfold okFront; rw [hdf]; rfl
              have hP' : parseQ l = (0, 4) := by rw [hP, hok]; rfl
              refine pO_b0 rfl ?_
              conv => whnf
              refine EndO.go ?_
              rw [hP']
              exact ⟨_, rfl, NumV.zero _ _⟩
          | none =>
            rw [hcut2] at hP
            dsimp only at hP
            obtain ⟨rfl, _⟩ := cutC_none hcut2
            refine CallsO.go (cut_b 46 f2 f2 [] false (by unfold cut3; rw [hcut2]) hG (by omega)) ?_
            rintro v3 h3 hle3 ⟨rfl, rfl⟩
            conv => whnf
            rcases Bool.eq_false_or_eq_true (allDig f2) with hdf | hdf
            · refine CallsO.go (isDigits_b f2 (by omega) true hdf) ?_
              rintro v7 h7 hle7 rfl
              conv => whnf
              obtain ⟨hda, hdn⟩ := all_of_allDig hdf
              obtain ⟨c0, fr, hf0⟩ : ∃ c0 fr, f2 = c0 :: fr := by
                cases hf : f2 with
                | nil => exact absurd hf hdn
                | cons c0 fr => exact ⟨c0, fr, rfl⟩
              refine pO_idxB (l := f2) (j := 0) c0 u9 rfl rfl (by rw [hf0]; rfl) ?_
              conv => whnf
              by_cases h48 : c0 = 48
              · refine pO_eql rfl rfl (true) (by rw [h48]; rfl) ?_
                conv => whnf
                rcases Nat.lt_or_ge 1 (List.length f2) with hlf | hlf
                · refine pO_gtr rfl rfl (true) (decide_eq_true (by rw [bs_size]; omega)) ?_
                  conv => whnf
                  have hok : okFront f2 = false := by
                    unfold okFront; rw [hdf, decide_eq_true hlf, hf0, h48]; rfl
                  have hP' : parseQ l = (0, 4) := by rw [hP, hok]; rfl
                  refine pO_b0 rfl ?_
                  conv => whnf
                  refine EndO.go ?_
                  rw [hP']
                  exact ⟨_, rfl, NumV.zero _ _⟩
                · refine pO_gtr rfl rfl (false) (decide_eq_false (by rw [bs_size]; omega)) ?_
                  conv => whnf
                  have hok : okFront f2 = true := by
                    unfold okFront; rw [hdf, decide_eq_false (by omega), Bool.and_false]; rfl
                  have hd0 : List.length ([] : List UInt8) = 0 := rfl
                  have hP' : parseQ l = (rat m (numT (f2 ++ [])) (10 ^ List.length ([] : List UInt8)), 0) := by rw [hP, hok, List.append_nil]; rfl
                  have hfa : (f2 ++ ([] : List UInt8)).all isDig = true := by rw [List.all_append, hda, List.all_nil]; rfl
                  have hs1 := sz_numT hfa
                  have hfl : (f2 ++ ([] : List UInt8)).length = f2.length + List.length ([] : List UInt8) := List.length_append
                  have hs2 : sz (10 ^ List.length ([] : List UInt8)) ≤ List.length ([] : List UInt8) + 1 := sz_le (Nat.lt_of_lt_of_le (Nat.pow_lt_pow_right (by decide) (Nat.lt_succ_self _)) (Nat.pow_le_pow_left (by decide) _))
                  have ht0 : 10 ^ List.length ([] : List UInt8) ≠ 0 := Nat.ne_of_gt (Nat.pow_pos (by decide))
                  refine pO_catB (f2 ++ ([] : List UInt8)) rfl rfl (by omega) rfl ?_
                  conv => whnf
                  refine CallsO.go (fromDigits_c (f2 ++ ([] : List UInt8)) hfa (by omega)) ?_
                  rintro t1 h9 hle9 ht1
                  conv => whnf
                  rw [bs_size]
                  refine CallsO.go (power_c (a := 10) (n := List.length ([] : List UInt8)) (by decide) (by decide) (by omega)) ?_
                  rintro t2 h10 hle10 ht2
                  conv => whnf
                  refine CallsO.go (reduced_c (m := m) (k := 4 * l.length) (ht1.mono hle10) ht2 ht0 (by omega) (rat_sm ht0 (numT_two hfa (by omega)) (Nat.le_trans (ten_le _) (Nat.pow_le_pow_right (by decide) (by omega))))) ?_
                  rintro _ h11 hle11 hz
                  obtain ⟨r_hz, rfl⟩ := hz.raw
                  conv => whnf
                  refine EndO.go ?_
                  rw [hP']
                  exact ⟨_, rfl, hz⟩
              · refine pO_eql rfl rfl (false) (beq_eq_false_iff_ne.2 (fun e => h48 (UInt8.toNat_inj.1 (by have : (48 : UInt8).toNat = 48 := rfl; omega)))) ?_
                conv => whnf
                have hok : okFront f2 = true := by
                  unfold okFront
                  rw [hdf, hf0, show ((c0 :: fr).head? == some 48) = false from beq_eq_false_iff_ne.2 (fun e => h48 (by simpa using e))]; rfl
                have hd0 : List.length ([] : List UInt8) = 0 := rfl
                have hP' : parseQ l = (rat m (numT (f2 ++ [])) (10 ^ List.length ([] : List UInt8)), 0) := by rw [hP, hok, List.append_nil]; rfl
                have hfa : (f2 ++ ([] : List UInt8)).all isDig = true := by rw [List.all_append, hda, List.all_nil]; rfl
                have hs1 := sz_numT hfa
                have hfl : (f2 ++ ([] : List UInt8)).length = f2.length + List.length ([] : List UInt8) := List.length_append
                have hs2 : sz (10 ^ List.length ([] : List UInt8)) ≤ List.length ([] : List UInt8) + 1 := sz_le (Nat.lt_of_lt_of_le (Nat.pow_lt_pow_right (by decide) (Nat.lt_succ_self _)) (Nat.pow_le_pow_left (by decide) _))
                have ht0 : 10 ^ List.length ([] : List UInt8) ≠ 0 := Nat.ne_of_gt (Nat.pow_pos (by decide))
                refine pO_catB (f2 ++ ([] : List UInt8)) rfl rfl (by omega) rfl ?_
                conv => whnf
                refine CallsO.go (fromDigits_c (f2 ++ ([] : List UInt8)) hfa (by omega)) ?_
                rintro t1 h9 hle9 ht1
                conv => whnf
                rw [bs_size]
                refine CallsO.go (power_c (a := 10) (n := List.length ([] : List UInt8)) (by decide) (by decide) (by omega)) ?_
                rintro t2 h10 hle10 ht2
                conv => whnf
                refine CallsO.go (reduced_c (m := m) (k := 4 * l.length) (ht1.mono hle10) ht2 ht0 (by omega) (rat_sm ht0 (numT_two hfa (by omega)) (Nat.le_trans (ten_le _) (Nat.pow_le_pow_right (by decide) (by omega))))) ?_
                rintro _ h11 hle11 hz
                obtain ⟨r_hz, rfl⟩ := hz.raw
                conv => whnf
                refine EndO.go ?_
                rw [hP']
                exact ⟨_, rfl, hz⟩
            · refine CallsO.go (isDigits_b f2 (by omega) false hdf) ?_
              rintro v7 h7 hle7 rfl
              conv => whnf
              have hok : okFront f2 = false := by unfold okFront; rw [hdf]; rfl
              have hP' : parseQ l = (0, 4) := by rw [hP, hok]; rfl
              refine pO_b0 rfl ?_
              conv => whnf
              refine EndO.go ?_
              rw [hP']
              exact ⟨_, rfl, NumV.zero _ _⟩
end
end Go.Proofs.YtplaobhghfndgaaGreatDoor
