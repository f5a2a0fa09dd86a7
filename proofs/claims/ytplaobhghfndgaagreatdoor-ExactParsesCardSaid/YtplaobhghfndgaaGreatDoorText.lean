import Derived.Test.YtplaobhghfndgaaGreatDoorDgt
/-! The decimal text of limbs. -/
set_option linter.unusedVariables false
set_option linter.unusedSimpArgs false
set_option maxRecDepth 100000
namespace Go.Proofs.YtplaobhghfndgaaGreatDoor
open Go Go.Proofs.Vc
attribute [local irreducible] CallsO EffO PureO LoadO StoreO EndO LoopV RoundO
theorem u113 : Tryz.prog.underlying 113 = some (.slice 9) := by kernel_rfl
theorem u181 : Tryz.prog.underlying 181 = some (.array 19 5) := by kernel_rfl
theorem s9 : ∀ w, (sizeOf 9).run Tryz.prog w = .ok 1 w := fun w => by kernel_rfl
theorem z9 : ∀ w, (zeroValue 9).run Tryz.prog w = .ok (.string ⟨#[]⟩) w := fun w => by kernel_rfl
theorem e9 : Elem Tryz.prog 9 (.string ⟨#[]⟩) 1 := Elem.of (bytes := 16) (by kernel_rfl) (by kernel_rfl) (by kernel_rfl) (by decide)
theorem z181 : ∀ w, (zeroValue 181).run Tryz.prog w = .ok (.agg (us (List.replicate 19 0)).toArray) w := fun w => by kernel_rfl
theorem set_mid {α : Type} (a c : List α) (x y : α) (i : Nat) (hi : a.length = i) : (a ++ x :: c).set i y = a ++ y :: c := by
  subst hi; simp
theorem val_snoc (b : Nat) (l : List Nat) (d : Nat) : val b (l ++ [d]) = val b l + b ^ l.length * d := by
  rw [val_append]; simp [val]
section
variable {h : Heap}
theorem ss_get {xs : List (List UInt8)} {i : Nat} (hi : i < xs.length) : (ss xs)[i]? = some (.string (bs (xs.getD i []))) := by
  simp [ss, List.getD_eq_getElem?_getD, hi]
theorem ss_set (xs : List (List UInt8)) (i : Nat) (s : List UInt8) : ss (xs.set i s) = (ss xs).set i (.string (bs s)) := by simp [ss, List.map_set]
theorem ss_app_get {xs : List (List UInt8)} {r : List Value} {i : Nat} (hi : i < xs.length) : (ss xs ++ r)[i]? = some (.string (bs (xs.getD i []))) := by
  rw [List.getElem?_append_left (by simpa [ss] using hi)]; exact ss_get hi
theorem ss_app_set {xs : List (List UInt8)} {r : List Value} {i : Nat} (hi : i < xs.length) (s : List UInt8) : (ss xs ++ r).set i (.string (bs s)) = ss (xs.set i s) ++ r := by
  rw [List.set_append_left _ _ (by simpa [ss] using hi), ss_set]
theorem getD_set_sw {α : Type} (l : List α) (i k : Nat) (a d : α) (hi : i < l.length) : (l.set i a).getD k d = if k = i then a else l.getD k d := by
  rw [List.getD_eq_getElem?_getD, List.getD_eq_getElem?_getD, List.getElem?_set]
  by_cases h : i = k
  · subst h; simp [hi]
  · rw [if_neg h, if_neg (fun e => h e.symm)]
/-- slices.Reverse, in place. -/
theorem reverse_c {g n c : Nat} {xs : List (List UInt8)} {r : List Value} (hg : h g = some (.cells (ss xs ++ r).toArray 9 (0, 0))) (hn : xs.length = n) (hb : n < 2 ^ 62) :
    CallGo Tryz.prog 172 #[.slice (some ⟨g, 0, none⟩) n c] h (fun k => k = g) fun v h' => h' g = some (.cells (ss xs.reverse ++ r).toArray 9 (0, 0)) := by
  refine v_fnX tb k172 [.slice (some ⟨g, 0, none⟩) n c] rfl g (by rw [hg]; rfl) ?_
  conv => whnf
  refine pO_sub rfl rfl (((n : Int) - 1)) (wr64 rfl (by omega) (by omega)) ?_
  conv => whnf
  refine LoopV.by (α := List (List UInt8) × Nat) (fun y => [(0, .v (.slice (some ⟨g, 0, none⟩) n c)), (2, .v (.int .i64 (y.2 : Nat))), (3, .v (.int .i64 ((n : Int) - 1 - (y.2 : Nat))))]) (fun _ => [])
    (fun y h' => h' g = some (.cells (ss y.1 ++ r).toArray 9 (0, 0)) ∧ y.1.length = n ∧ 2 * y.2 ≤ n + 1 ∧ ∀ k, k < n → y.1.getD k [] = if k < y.2 ∨ n ≤ k + y.2 then xs.getD (n - 1 - k) [] else xs.getD k []) (fun y => n - y.2) (xs, 0)
    ⟨rfl, rfl, rfl, rfl, by dsimp only; show AV.v _ = AV.v _; simp, rfl, trivial⟩ trivial ⟨hg, hn, by dsimp only; omega, fun k hk => by dsimp only; rw [if_neg (by omega)]⟩ ?_
  rintro ⟨ys, i⟩ h1 ⟨hg1, hly, hi, hys⟩
  dsimp only at hg1 hly hi hys
  dsimp only
  conv => whnf
  rcases Nat.lt_or_ge (2 * i + 1) n with hlt | hge
  · refine pO_lss rfl rfl (true) (decide_eq_true (by omega)) ?_
    conv => whnf
    obtain ⟨j, hj⟩ : ∃ j, j + i + 1 = n := ⟨n - 1 - i, by omega⟩
    have hji : ((n : Int) - 1 - (i : Int)) = (j : Int) := by omega
    rw [hji]
    refine pO_own u113 s9 rfl rfl (show j < n by omega) ?_
    conv => whnf
    refine lO_v hg1 (Nat.zero_add _) (ss_app_get (by omega)) ?_
    conv => whnf
    refine pO_own u113 s9 rfl rfl (show i < n by omega) ?_
    conv => whnf
    refine lO_v hg1 (Nat.zero_add _) (ss_app_get (by omega)) ?_
    conv => whnf
    refine pO_own u113 s9 rfl rfl (show i < n by omega) ?_
    conv => whnf
    refine stO_v rfl hg1 (Heap.less_same _ _) (Nat.zero_add _) (by simp [ss]; omega) ?_
    conv => whnf
    rw [ss_app_set (by omega)]
    refine pO_own u113 s9 rfl rfl (show j < n by omega) ?_
    conv => whnf
    refine stO_v rfl (Heap.upd_same _ _ _) (Heap.less_same _ _) (Nat.zero_add _) (by simp [ss]; omega) ?_
    conv => whnf
    rw [ss_app_set (by simp; omega)]
    refine pO_add rfl rfl (((i + 1 : Nat) : Int)) (wr64 (by omega) (by omega) (by omega)) ?_
    conv => whnf
    refine pO_sub rfl rfl (((j : Int) - 1)) (wr64 rfl (by omega) (by omega)) ?_
    conv => whnf
    refine RoundO.go ⟨((ys.set i (ys.getD j [])).set j (ys.getD i []), i + 1), ⟨rfl, rfl, rfl, rfl, by dsimp only; show AV.v (.int .i64 _) = AV.v (.int .i64 _); congr 2; omega, rfl, trivial⟩, trivial, ⟨Heap.upd_same _ _ _, by simp [hly], by dsimp only; omega, fun k hk => ?_⟩, by dsimp only; omega⟩
    dsimp only
    rw [getD_set_sw _ _ _ _ _ (by simp; omega), getD_set_sw _ _ _ _ _ (by omega)]
    have e1 := hys k hk
    have e2 := hys i (by omega)
    have e3 := hys j (by omega)
    rw [if_neg (by omega)] at e2 e3
    by_cases hkj : k = j
    · subst hkj
      rw [if_pos rfl, e2, if_pos (by omega), show n - 1 - k = i from by omega]
    · rw [if_neg hkj]
      by_cases hki : k = i
      · subst hki
        rw [if_pos rfl, e3, if_pos (by omega), show n - 1 - k = j from by omega]
      · rw [if_neg hki, e1]
        by_cases hc : k < i ∨ n ≤ k + i
        · rw [if_pos hc, if_pos (by omega)]
        · rw [if_neg hc, if_neg (by omega)]
  · refine pO_lss rfl rfl (false) (decide_eq_false (by omega)) ?_
    conv => whnf
    refine EndO.go ?_
    have : ys = xs.reverse := by
      apply List.ext_getElem (by simp; omega)
      intro k h2 h3
      have e1 := hys k (by omega)
      have e4 : (if k < i ∨ n ≤ k + i then xs.getD (n - 1 - k) [] else xs.getD k []) = xs.getD (n - 1 - k) [] := by
        split
        · rfl
        · rw [show n - 1 - k = k from by omega]
      rw [e4] at e1
      rw [List.getElem_reverse]
      subst hn
      simpa [List.getD_eq_getElem?_getD, h2, show xs.length - 1 - k < xs.length by omega] using e1
    rw [this] at hg1
    exact hg1
theorem us_set (l : List UInt8) (i : Nat) (c : UInt8) : us (l.set i c) = (us l).set i (.int .u8 (c.toNat : Int)) := by simp [us, List.map_set]
theorem rep_set (n : Nat) (E : List UInt8) (c : UInt8) : (List.replicate (n + 1) 0 ++ E).set n c = List.replicate n 0 ++ c :: E := by
  rw [List.replicate_succ', List.append_assoc, List.singleton_append]
  exact set_mid _ _ _ _ _ (by simp)
theorem text_c {x : Value} {a : Nat} (hx : Lim h x a) (hb : sz a < 17179869184) : CallGo Tryz.prog 139 #[x] h NoX fun v h' => v = .string (bs (decT a)) := by
  have hx' := hx
  obtain ⟨A, ca, rfl, hca, hra⟩ := hx.open
  refine v_fn tb k139 [.slice A (sz a) ca] rfl ?_
  conv => whnf
  rcases Nat.eq_zero_or_pos a with rfl | ha
  · refine pO_eql rfl rfl (true) (by rw [sz_eq_zero.2 rfl]; rfl) ?_
    conv => whnf
    exact EndO.go rfl
  · have hs0 : sz a ≠ 0 := fun e => by have := sz_eq_zero.1 e; omega
    refine pO_eql rfl rfl (false) (beq_eq_false_iff_ne.2 (by omega)) ?_
    conv => whnf
    refine LoopV.by (α := Nat × (Option Addr × Nat) × List Nat × List (List UInt8) × Value) (fun y => [(0, .v (.slice y.2.1.1 (sz y.1) y.2.1.2)), (3, .v y.2.2.2.2)]) (fun _ => [])
      (fun y h' => (∃ hA, Le h hA ∧ Le hA h' ∧ Lim hA (.slice y.2.1.1 (sz y.1) y.2.1.2) y.1 ∧ Own hA h' 9 1 y.2.2.2.2 y.2.2.2.1.length (ss y.2.2.2.1)) ∧ Low 10 y.2.2.1 ∧ val 10 y.2.2.1 + 10 ^ y.2.2.1.length * y.1 = a ∧
        y.2.2.2.1.reverse.flatten = y.2.2.1.reverse.map ch ∧ y.2.2.1.length = 19 * y.2.2.2.1.length ∧ y.2.2.2.1.length + y.1 ≤ 64 * sz a + 1 + y.1 ∧ (y.1 ≠ a → 0 < y.2.2.2.1.length) ∧ y.1 * 2 ^ y.2.2.2.1.length ≤ a) (fun y => y.1) (a, (A, ca), [], [], .slice none 0 0)
      ⟨rfl, rfl, rfl, rfl, trivial⟩ trivial ⟨⟨h, Le.refl _, Le.refl _, hx', Own.nil _ _ _ _⟩, low_nil _, by simp [val], rfl, rfl, by simp, fun e => absurd rfl e, by simp⟩ ?_
    rintro ⟨y, ⟨B, cb⟩, ds, xs, pv⟩ h1 ⟨⟨hA, hleA, hleA1, hy, hown⟩, hlow, hval, hflat, hlen, hxl, hxp, hpow⟩
    dsimp only at hleA hleA1 hy hown hlow hval hflat hlen hxl hxp hpow
    dsimp only
    conv => whnf
    rcases Nat.eq_zero_or_pos y with rfl | hy0
    · refine pO_gtr rfl rfl (false) (by rw [sz_eq_zero.2 rfl]; rfl) ?_
      conv => whnf
      have hxp0 := hxp (by omega)
      obtain ⟨hol, ⟨rfl, hn0⟩ | ⟨g, cap, cur, rfl, hg1, hgA, hnc, hcm, hcs, htake⟩⟩ := hown
      · omega
      · have hcur : cur.toList = ss xs ++ cur.toList.drop xs.length := by
          conv => lhs; rw [← List.take_append_drop xs.length cur.toList]
          rw [Nat.mul_one] at htake; rw [htake]
        have hg2 : h1 g = some (.cells (ss xs ++ cur.toList.drop xs.length).toArray 9 (0, 0)) := by rw [← hcur]; exact hg1
        have hgh : h g = none := Le.absent hleA hgA
        refine CallsO.goX rfl (fun k hk => by subst hk; exact ⟨hgh, by rw [hg1]; rfl⟩) (reverse_c hg2 rfl (by omega)) ?_
        rintro v h2 hx2 hg3
        conv => whnf
        have hfl : xs.reverse.flatten = ds.reverse.map ch := hflat
        have hflen : xs.reverse.flatten.length = 19 * xs.length := by rw [hfl, List.length_map, List.length_reverse, hlen]
        refine CallsO.go (join_c (xs := xs.reverse) (n := xs.length) (c := cap) (row_v (n := xs.length) hg3 (List.take_left' (by simp [ss])) (by simp [ss])) (by simp) (by omega) (by intro e; simp at e; rw [e] at hxp0; exact absurd hxp0 (by decide)) (by omega) (by omega)) ?_
        rintro v2 h3 hle3 ⟨rfl, rfl⟩
        conv => whnf
        refine CallsO.go (trimLeft_c xs.reverse.flatten) ?_
        rintro v3 h4 hle4 ⟨rfl, rfl⟩
        conv => whnf
        refine EndO.go ?_
        rw [hfl, trim_dtx hlow]
        have hva : val 10 ds = a := by omega
        rw [hva]
        unfold decT
        rw [if_neg (by omega)]; rfl
    · have hxsb : xs.length < 1099511627776 := by
        have h3 : 2 ^ xs.length ≤ a := Nat.le_trans (Nat.le_mul_of_pos_left _ hy0) hpow
        have h4 : a < W ^ sz a := lt_sz a
        have h5 : W ^ sz a = 2 ^ (64 * sz a) := by rw [Nat.pow_mul]
        have h6 : 2 ^ xs.length < 2 ^ (64 * sz a) := by omega
        have := (Nat.pow_lt_pow_iff_right (by decide)).1 h6
        omega
      have hxsb2 : xs.length < 64 * sz a := by
        have h3 : 2 ^ xs.length ≤ a := Nat.le_trans (Nat.le_mul_of_pos_left _ hy0) hpow
        have h4 : a < W ^ sz a := lt_sz a
        have h5 : W ^ sz a = 2 ^ (64 * sz a) := by rw [Nat.pow_mul]
        have h6 : 2 ^ xs.length < 2 ^ (64 * sz a) := by omega
        exact (Nat.pow_lt_pow_iff_right (by decide)).1 h6
      have hs1 : sz y ≠ 0 := fun e => by have := sz_eq_zero.1 e; omega
      refine pO_gtr rfl rfl (true) (decide_eq_true (by omega)) ?_
      conv => whnf
      have hya : y ≤ a := Nat.le_trans (Nat.le_mul_of_pos_right _ (Nat.two_pow_pos _)) hpow
      have hsy := sz_mono hya
      refine CallsO.go (CallGo.frame hleA1 (divWord_c (d := 10000000000000000000) hy (by decide) (by decide) (by omega))) ?_
      rintro v h2 hle2 ⟨hB, ⟨q, hq, rfl⟩, hleB, hleB2, hnew⟩
      obtain ⟨C, cq, rfl, _⟩ := hq.open
      have hownB : Own hB h2 9 1 pv xs.length (ss xs) := hown.mono hle2 hnew
      conv => whnf
      refine eO_alloc z181 fun g hg => ?_
      conv => whnf
      obtain ⟨R0, hR0⟩ : ∃ r, y % 10000000000000000000 = r := ⟨_, rfl⟩
      have hR0lt : R0 < 10 ^ 19 := by rw [← hR0]; exact Nat.mod_lt _ (by decide)
      have hydm := Nat.div_add_mod y 10000000000000000000
      rw [hR0] at hydm ⊢
      have hgh : h g = none := Le.absent (hleA.trans (hleB.trans hleB2)) hg
      refine LoopV.by (α := Nat × List Nat × Nat) (fun z => [(0, .v (.slice C (sz (y / 10000000000000000000)) cq)), (3, .v pv), (4, .v (.int .u64 (z.1 : Nat))), (5, .v (.pointer (some ⟨g, 0, none⟩))), (18, .v (.int .i64 (z.2.2 : Nat)))]) (fun _ => [])
        (fun z h' => Le h2 h' ∧ h' g = some (.cells (us (List.replicate (19 - z.2.2) 0 ++ z.2.1.reverse.map ch)).toArray 181 (0, 0)) ∧ z.2.1.length = z.2.2 ∧ z.2.2 ≤ 19 ∧ Low 10 z.2.1 ∧ val 10 z.2.1 + 10 ^ z.2.2 * z.1 = R0) (fun z => 19 - z.2.2) (R0, [], 0)
        ⟨rfl, rfl, rfl, rfl, rfl, rfl, rfl, rfl, rfl, rfl, trivial⟩ trivial ⟨Le.upd hg, by rw [show List.replicate (19 - 0) (0 : UInt8) ++ (List.map ch ([] : List Nat).reverse) = List.replicate 19 0 from rfl]; exact Heap.upd_same _ _ _, rfl, by dsimp only; omega, low_nil _, by simp [val]⟩ ?_
      rintro ⟨rs, es, i⟩ h3 ⟨hle3, hg3, hel, hi, hlowe, hvale⟩
      dsimp only at hle3 hg3 hel hi hlowe hvale
      dsimp only
      conv => whnf
      have hrs : rs < 18446744073709551616 := by
        have := Nat.le_mul_of_pos_left rs (Nat.pow_pos (n := i) (show 0 < 10 by decide))
        omega
      rcases Nat.lt_or_ge i 19 with hin | hin
      · refine pO_lss rfl rfl (true) (decide_eq_true (by omega)) ?_
        conv => whnf
        refine pO_sub rfl rfl (((18 - i : Nat) : Int)) (wr64 (by omega) (by omega) (by omega)) ?_
        conv => whnf
        refine pO_rem rfl rfl (by decide) (((rs % 10 : Nat) : Int)) ((Int.ofNat_tmod rs 10).symm) ?_
        conv => whnf
        refine pO_add rfl rfl (((48 + rs % 10 : Nat) : Int)) (wru64 (by omega) (by omega) (by omega)) ?_
        conv => whnf
        have hd10 : rs % 10 < 10 := Nat.mod_lt _ (by decide)
        refine pO_conv (by rfl) u5 rfl (((ch (rs % 10)).toNat : Nat) : Int) (wru8 (by rw [ch_toNat hd10]) (by omega) (by rw [ch_toNat hd10]; omega)) ?_
        conv => whnf
        refine pO_idxA u181 s5 rfl rfl (show 18 - i < 19 by omega) ?_
        conv => whnf
        refine stO_v rfl hg3 hgh (Nat.zero_add _) (by rw [us_length]; simp; omega) ?_
        conv => whnf
        refine pO_quo rfl rfl (by decide) (((rs / 10 : Nat) : Int)) (wru64 (Int.ofNat_tdiv rs 10).symm (by omega) (by omega)) ?_
        conv => whnf
        refine pO_add rfl rfl (((i + 1 : Nat) : Int)) (wr64 (by omega) (by omega) (by omega)) ?_
        conv => whnf
        refine RoundO.go ⟨(rs / 10, es ++ [rs % 10], i + 1), ⟨rfl, rfl, rfl, rfl, rfl, rfl, rfl, rfl, rfl, rfl, trivial⟩, trivial, ⟨hle3.upd_out hg, ?_, by simp [hel], by dsimp only; omega, low_append.2 ⟨hlowe, fun x hx => by rw [List.mem_singleton.1 hx]; exact hd10⟩, ?_⟩, by dsimp only; omega⟩
        · dsimp only
          rw [Heap.upd_same, ← us_set]
          obtain ⟨m, hm⟩ : ∃ m, 18 - i = m := ⟨_, rfl⟩
          rw [show 19 - i = m + 1 from by omega, hm, rep_set, show 19 - (i + 1) = m from by omega]
          simp
        · dsimp only
          rw [val_snoc, hel, Nat.pow_succ]
          have h9 := Nat.div_add_mod rs 10
          generalize rs / 10 = q9 at *
          generalize rs % 10 = r9 at *
          subst h9
          rw [← hvale]
          generalize 10 ^ i = p9
          grind
      · refine pO_lss rfl rfl (false) (decide_eq_false (by omega)) ?_
        conv => whnf
        have hi19 : i = 19 := by omega
        subst hi19
        have hrs0 : rs = 0 := by
          rcases Nat.eq_zero_or_pos rs with h9 | h9
          · exact h9
          · have := Nat.le_mul_of_pos_right (10 ^ 19) h9
            omega
        subst hrs0
        rw [Nat.mul_zero, Nat.add_zero] at hvale
        rw [show List.replicate (19 - 19) (0 : UInt8) = [] from rfl, List.nil_append] at hg3
        obtain ⟨L, hL⟩ : ∃ L, es.reverse.map ch = L := ⟨_, rfl⟩
        rw [hL] at hg3
        have hLl : L.length = 19 := by rw [← hL]; simp [hel]
        refine pO_allA u181 s5 rfl ?_
        conv => whnf
        refine eO_byteB (l := L) u166 u5 u9 rfl hLl (by decide) (row_v (n := 19) hg3 (List.take_of_length_le (by rw [us_length]; omega)) (by rw [us_length]; omega)) ?_
        conv => whnf
        refine eO_lits [.string (bs L)] u113 s9 z9 (by decide) rfl rfl (fun v hv => by rw [List.mem_singleton.1 hv]; rfl) fun g2 hg2 => ?_
        conv => whnf
        have hownC := hownB.mono (hle3.trans (Le.upd (o := .cells (List.flatMap (fun v => v.cells.toList) [Value.string (bs L)]).toArray 9 (0, 0)) hg2)) (fun _ _ e => e)
        refine eO_append (hA := hB) (news := [.string (bs L)]) rfl (hleA.trans hleB) (hleB2.trans (hle3.trans (Le.upd hg2))) u113 e9 rfl (by decide) rfl hownC rfl (by decide) rfl (row_v (n := 1) (Heap.upd_same _ _ _) rfl (by simp [Value.cells])) (fun u hu => by rw [List.mem_singleton.1 hu]; rfl) (by omega) fun v' h5 hown5 hle5 => ?_
        conv => whnf
        refine RoundO.go ⟨(y / 10000000000000000000, (C, cq), ds ++ es, xs ++ [L], v'), ⟨rfl, rfl, rfl, rfl, trivial⟩, trivial, ⟨⟨hB, hleA.trans hleB, hle5, hq, ?_⟩, low_append.2 ⟨hlow, hlowe⟩, ?_, ?_, ?_, ?_, ?_, ?_⟩, ?_⟩
        all_goals dsimp only
        · have e1 : ss (xs ++ [L]) = ss xs ++ [.string (bs L)] := by simp [ss]
          rw [e1, List.length_append]; exact hown5
        · rw [val_append, List.length_append, hel, Nat.pow_add, hvale, ← hval]
          conv => rhs; rw [← hydm]
          generalize 10 ^ ds.length = p9
          generalize y / 10000000000000000000 = q9
          rw [show 10 ^ 19 = 10000000000000000000 from rfl]
          grind
        · rw [List.reverse_append, List.reverse_append, List.map_append, hL, ← hflat]
          simp
        · simp; omega
        · simp; omega
        · intro _; simp
        · rw [List.length_append, List.length_singleton, Nat.pow_succ]
          have h9 : y / 10000000000000000000 * 2 ≤ y := by omega
          have h10 := Nat.mul_le_mul_right (2 ^ xs.length) h9
          rw [Nat.mul_comm (2 ^ xs.length) 2, ← Nat.mul_assoc]
          omega
        · omega
end
end Go.Proofs.YtplaobhghfndgaaGreatDoor
