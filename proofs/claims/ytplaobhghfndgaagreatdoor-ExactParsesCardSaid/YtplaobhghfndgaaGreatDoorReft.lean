import Derived.Test.YtplaobhghfndgaaGreatDoorRef
import Derived.Test.YtplaobhghfndgaaGreatDoorStr
import Derived.Test.YtplaobhghfndgaaGreatDoorKnown
/-! The document's numbers: their texts; the program's numbers beside them. -/
set_option linter.unusedVariables false
set_option linter.unusedSimpArgs false
set_option maxRecDepth 100000
namespace Go.Proofs.YtplaobhghfndgaaGreatDoor
open Go Go.Proofs.Vc
attribute [local irreducible] CallsO EffO PureO LoadO StoreO EndO LoopV RoundO
theorem z5 : ∀ w, (zeroValue 5).run Tryz.prog w = .ok (.int .u8 0) w := fun w => by kernel_rfl
theorem dtx_pos {n : Nat} (h : 0 < n) : dtx n = dtx (n / 10) ++ [ch (n % 10)] := by
  unfold dtx; rw [dig_pos (by decide) h]; simp
theorem dtx_zero : dtx 0 = [] := by unfold dtx; rw [dig_zero]; rfl
theorem dtx_len {a k : Nat} (h : a < B ^ k) : (dtx a).length ≤ 16 * k := by
  unfold dtx; rw [List.length_map, List.length_reverse]
  apply dig_length_le (by decide)
  rw [show B = 2 ^ 16 from rfl, ← Nat.pow_mul] at h
  exact Nat.lt_of_lt_of_le h (Nat.pow_le_pow_left (by decide) _)
theorem drop_set_lt {l : List Nat} {i d : Nat} : (l.set i d).drop (i + 1) = l.drop (i + 1) := by
  rw [List.drop_set_of_lt (Nat.lt_succ_self i)]
theorem dec_step {D Z Z' x d r r' v w : Nat} (hD : D = x + B * v) (hZ : Z' = d + B * Z) (h : Z * 10 + r = v) (h2 : d * 10 + r' = r * B + x) : Z' * 10 + r' = D := by
  subst h hD hZ; simp only [B] at *; omega
theorem bz_10 {n : Nat} : bz (n * 10) ≤ bz n + 1 := by
  have := bz_mul n 10
  have h1 : bz 10 = 1 := by unfold bz; rw [dig_one (by decide) (by decide)]; rfl
  omega
theorem bz_numT {l : List UInt8} (h : l.all isDig = true) : bz (numT l) ≤ l.length :=
  bz_le (Nat.lt_of_lt_of_le (numT_lt h) (Nat.pow_le_pow_left (by decide) _))
theorem bg_ten {h : Heap} {g : Nat} : Bg (h.upd g (.cells (List.flatMap (fun v => v.cells.toList) [Value.int .i64 10]).toArray 3 (0, 0))) (.slice (some ⟨g, 0, none⟩) 1 1) 10 :=
  Bg.one (n := 10) (Heap.upd_same _ _ _) (by decide) (by decide) rfl
section
variable {h : Heap}
theorem digits_c (l : List UInt8) (hl : l.length < 100000) : CallGo Tryz.prog 115 #[.string (bs l)] h NoX fun v h' => ∃ x, v = .tuple #[x, .bool (allDig l)] ∧ (allDig l = true → Bg h' x (numT l)) := by
  refine v_fn tb k115 [.string (bs l)] rfl ?_
  conv => whnf
  refine eO_lits [] u31 s3 z3 (by decide) rfl rfl (fun v hv => by cases hv) fun g hg => ?_
  conv => whnf
  refine LoopV.by (α := Value × Nat) (fun x => [(0, .v (.string (bs l))), (2, .v (.slice none 0 0)), (3, .v (.bool false)), (4, .v x.1), (5, .v (.int .i64 (x.2 : Nat)))]) (fun _ => [])
    (fun x h' => Bg h' x.1 (numT (l.take x.2)) ∧ x.2 ≤ l.length ∧ (l.take x.2).all isDig = true) (fun x => l.length - x.2) (.slice (some ⟨g, 0, none⟩) 0 0, 0)
    ⟨rfl, rfl, rfl, rfl, rfl, rfl, rfl, rfl, rfl, rfl, trivial⟩ trivial ⟨Bg.nil _ _ _, Nat.zero_le _, rfl⟩ ?_
  rintro ⟨x, i⟩ h1 ⟨hx, hi, hall⟩
  dsimp only at hx hi hall
  dsimp only
  conv => whnf
  rcases Nat.lt_or_ge i l.length with hin | hin
  · refine pO_lss rfl rfl (true) (decide_eq_true (by rw [bs_size]; omega)) ?_
    conv => whnf
    have hts := all_take_succ hin
    rw [hall, Bool.true_and] at hts
    have hno : isDig (l.getD i 0) = false → allDig l = false := fun hd => by
      refine allDig_mem (c := l.getD i 0) ?_ hd
      rw [List.getD_eq_getElem?_getD, List.getElem?_eq_getElem hin]
      exact List.getElem_mem hin
    have hget : l[i]? = some (l.getD i 0) := by rw [List.getD_eq_getElem?_getD, List.getElem?_eq_getElem hin]; rfl
    have hnt := numT_take_succ hin
    have hdd : isDig (l.getD i 0) = (decide (48 ≤ (l.getD i 0).toNat) && decide ((l.getD i 0).toNat ≤ 57)) := rfl
    have hbz := bz_numT hall
    rw [List.length_take] at hbz
    generalize l.getD i 0 = c at *
    refine pO_idxB (l := l) (j := i) c u9 rfl rfl hget ?_
    conv => whnf
    rcases Nat.lt_or_ge c.toNat 48 with h48 | h48
    · refine pO_lss rfl rfl (true) (decide_eq_true (by omega)) ?_
      conv => whnf
      exact EndO.go ⟨_, by rw [hno (by rw [hdd, decide_eq_false (by omega)]; rfl)]; rfl, fun e => by rw [hno (by rw [hdd, decide_eq_false (by omega)]; rfl)] at e; cases e⟩
    · refine pO_lss rfl rfl (false) (decide_eq_false (by omega)) ?_
      conv => whnf
      refine pO_idxB (l := l) (j := i) c u9 rfl rfl hget ?_
      conv => whnf
      rcases Nat.lt_or_ge 57 c.toNat with h57 | h57
      · refine pO_gtr rfl rfl (true) (decide_eq_true (by omega)) ?_
        conv => whnf
        have hn2 := hno (by rw [hdd, Bool.and_eq_false_iff]; exact .inr (decide_eq_false (by omega)))
        exact EndO.go ⟨_, by rw [hn2]; rfl, fun e => by rw [hn2] at e; cases e⟩
      · refine pO_gtr rfl rfl (false) (decide_eq_false (by omega)) ?_
        conv => whnf
        refine pO_idxB (l := l) (j := i) c u9 rfl rfl hget ?_
        conv => whnf
        refine pO_sub rfl rfl (((c.toNat - 48 : Nat) : Int)) (wru8 (by omega) (by omega) (by omega)) ?_
        conv => whnf
        refine pO_conv (by rfl) u140 rfl ((c.toNat - 48 : Nat) : Int) (wru64 rfl (by omega) (by omega)) ?_
        conv => whnf
        refine eO_lits [.int .i64 10] u31 s3 z3 (by decide) rfl rfl (fun v hv => by rw [List.mem_singleton.1 hv]; rfl) fun g2 hg2 => ?_
        conv => whnf
        have hb10 : bz 10 = 1 := by unfold bz; rw [dig_one (by decide) (by decide)]; rfl
        refine CallsO.go (times_c (hx.mono (Le.upd hg2)) bg_ten (by omega)) ?_
        rintro v1 h2 hle2 hv1
        conv => whnf
        refine CallsO.go (of_c (n := c.toNat - 48) (by omega)) ?_
        rintro v2 h3 hle3 hv2
        conv => whnf
        have hb1 := bz_10 (n := numT (l.take i))
        have hb2 : bz (c.toNat - 48) ≤ 1 := bz_le (by simp only [B]; omega)
        refine CallsO.go (plus_c (hv1.mono hle3) hv2 (by omega)) ?_
        rintro v3 h4 hle4 hv3
        conv => whnf
        refine pO_add rfl rfl (((i + 1 : Nat) : Int)) (wr64 (by omega) (by omega) (by omega)) ?_
        conv => whnf
        exact RoundO.go ⟨(v3, i + 1), ⟨rfl, rfl, rfl, rfl, rfl, rfl, rfl, rfl, rfl, rfl, trivial⟩, trivial, ⟨by dsimp only; rw [hnt, Nat.mul_comm 10]; exact hv3, hin, by dsimp only; rw [hts, hdd, decide_eq_true h48, decide_eq_true h57]; rfl⟩, by dsimp only; omega⟩
  · refine pO_lss rfl rfl (false) (decide_eq_false (by rw [bs_size]; omega)) ?_
    conv => whnf
    rw [List.take_of_length_le hin] at hall hx
    refine pO_gtr rfl rfl ((allDig l)) (by unfold allDig; rw [hall, bs_size]; cases l <;> simp) ?_
    conv => whnf
    exact EndO.go ⟨_, rfl, fun _ => hx⟩
theorem decimal_c {x : Value} {a : Nat} (hx : Bg h x a) (hb : bz a < 10000000) : CallGo Tryz.prog 158 #[x] h NoX fun v h' => v = .string (bs (decT a)) := by
  have hx' := hx
  obtain ⟨A, ca, rfl, hca, hra⟩ := hx.open
  refine v_fn tb k158 [.slice A (bz a) ca] rfl ?_
  conv => whnf
  rcases Nat.eq_zero_or_pos a with rfl | h0
  · refine pO_eql rfl rfl (true) (by rw [bz_eq_zero.2 rfl]; rfl) ?_
    conv => whnf
    exact EndO.go rfl
  · refine pO_eql rfl rfl (false) (beq_eq_false_iff_ne.2 (by have := bz_pos h0; omega)) ?_
    conv => whnf
    have hdl := dtx_len (lt_bz a)
    refine LoopV.by (α := (Option Addr × Nat × Nat) × List UInt8) (fun x => [(0, .v (.slice x.1.1 (bz x.1.2.2) x.1.2.1)), (2, .v (.string ⟨#[]⟩)), (3, .v (.string (bs x.2)))]) (fun _ => [])
      (fun x h' => Bg h' (.slice x.1.1 (bz x.1.2.2) x.1.2.1) x.1.2.2 ∧ Le h h' ∧ dtx x.1.2.2 ++ x.2 = dtx a ∧ x.1.2.2 ≤ a) (fun x => x.1.2.2) ((A, ca, a), [])
      ⟨rfl, rfl, rfl, rfl, rfl, rfl, trivial⟩ trivial ⟨hx', Le.refl _, by simp, Nat.le_refl _⟩ ?_
    rintro ⟨⟨D, cd, n⟩, s⟩ h1 ⟨hn, hle1, hs, hna⟩
    dsimp only at hn hle1 hs hna
    dsimp only
    have hbn := bz_mono hna
    obtain ⟨_, _, e1, hcd, hrd⟩ := hn.open
    cases e1
    have hsl : s.length ≤ 16 * bz a := by
      have := congrArg List.length hs
      rw [List.length_append] at this
      omega
    conv => whnf
    rcases Nat.eq_zero_or_pos n with rfl | hn0
    · refine pO_gtr rfl rfl (false) (by rw [bz_eq_zero.2 rfl]; rfl) ?_
      conv => whnf
      rw [dtx_zero, List.nil_append] at hs
      exact EndO.go (by unfold decT; rw [if_neg (by omega), hs]; rfl)
    · have hnp := bz_pos hn0
      refine pO_gtr rfl rfl (true) (decide_eq_true (by omega)) ?_
      conv => whnf
      refine eO_make (bz n) u31 e3 rfl rfl rfl (by omega) fun g hg => ?_
      conv => whnf
      have h0g : h g = none := Le.absent hle1 hg
      have hdn : (dig B n).length = bz n := rfl
      have hvn := val_dig b2 n
      have hln := low_dig b2 n
      refine pO_sub rfl rfl (((bz n : Nat) : Int) - 1) (wr64 rfl (by omega) (by omega)) ?_
      conv => whnf
      refine LoopV.by (α := List Nat × Nat × Nat) (fun x => [(0, .v (.slice D (bz n) cd)), (2, .v (.string ⟨#[]⟩)), (3, .v (.string (bs s))), (4, .v (.slice (some ⟨g, 0, none⟩) (bz n) (bz n))), (5, .v (.int .i64 (x.2.1 : Nat))), (6, .v (.int .i64 ((x.2.2 : Nat) - 1)))]) (fun _ => [])
        (fun x h' => h' g = some (.cells (is x.1).toArray 3 (0, 0)) ∧ Le h1 h' ∧ x.1.length = bz n ∧ Low B x.1 ∧ x.2.2 ≤ bz n ∧ x.2.1 < 10 ∧ val B (x.1.drop x.2.2) * 10 + x.2.1 = val B ((dig B n).drop x.2.2)) (fun x => x.2.2) (List.replicate (bz n) 0, 0, bz n)
        ⟨rfl, rfl, rfl, rfl, rfl, rfl, rfl, rfl, rfl, rfl, rfl, rfl, trivial⟩ trivial ⟨by rw [show is (List.replicate (bz n) 0) = List.replicate (bz n) (.int .i64 0) by simp [is]]; exact Heap.upd_same _ _ _, Le.upd hg, by simp, low_zeros (by decide) _, Nat.le_refl _, (show (0 : Nat) < 10 by decide), by dsimp only; rw [List.drop_of_length_le (by simp), List.drop_of_length_le (by omega)]; simp [val]⟩ ?_
      rintro ⟨zs, r, k⟩ h2 ⟨hg2, hle2, hzl, hzlow, hk, hr, hval⟩
      dsimp only at hg2 hle2 hzl hzlow hk hr hval
      dsimp only
      conv => whnf
      rcases Nat.eq_zero_or_pos k with rfl | hk0
      · refine pO_geq rfl rfl (false) (rfl) ?_
        conv => whnf
        rw [List.drop_zero, List.drop_zero, hvn] at hval
        have e1 : n / 10 = val B zs := by omega
        have e2 : n % 10 = r := by omega
        have hc := ch_toNat (show r < 10 by omega)
        refine pO_add rfl rfl (((48 + r : Nat) : Int)) (wr64 (by omega) (by omega) (by omega)) ?_
        conv => whnf
        refine pO_conv (by rfl) u5 rfl ((48 + r : Nat) : Int) (wru8 rfl (by omega) (by omega)) ?_
        conv => whnf
        refine eO_lits [.int .u8 ((48 + r : Nat) : Int)] u166 s5 z5 (by decide) rfl rfl (fun v hv => by rw [List.mem_singleton.1 hv]; rfl) fun g3 hg3 => ?_
        conv => whnf
        refine eO_byteB (l := [ch r]) u166 u5 u9 rfl rfl (by decide) (row_v (n := 1) (Heap.upd_same _ _ _) (by simp [us, Value.cells, hc]) (by simp [Value.cells])) ?_
        conv => whnf
        refine pO_catB (a := [ch r]) ([ch r] ++ s) rfl rfl (by simp; omega) rfl ?_
        conv => whnf
        refine CallsO.go (bcut_c ((row_owni hg2).mono (Le.upd hg3)) hzl (Nat.le_refl _) (by omega)) ?_
        rintro v6 h6 hle6 hv
        conv => whnf
        have hv2 := Bg.of hzlow hv
        rw [← e1] at hv2
        obtain ⟨E, ce, rfl, _⟩ := hv2.open
        exact RoundO.go ⟨((E, ce, n / 10), [ch r] ++ s), ⟨rfl, rfl, rfl, rfl, rfl, rfl, trivial⟩, trivial, ⟨hv2, (hle1.trans hle2).trans ((Le.upd hg3).trans hle6), by dsimp only; rw [← hs, dtx_pos hn0, e2, List.append_assoc], by dsimp only; omega⟩, by dsimp only; omega⟩
      · obtain ⟨i, rfl⟩ : ∃ i, k = i + 1 := ⟨k - 1, by omega⟩
        rw [show ((i + 1 : Nat) : Int) - 1 = (i : Int) by omega]
        refine pO_geq rfl rfl (true) (decide_eq_true (by omega)) ?_
        conv => whnf
        refine pO_shl rfl rfl (by decide) (((r * 65536 : Nat) : Int)) (wr64 (by rw [show (2 : Int) ^ (min (Int.toNat 16) IntKind.i64.bits) = 65536 by decide]; omega) (by omega) (by omega)) ?_
        conv => whnf
        refine pO_atN u31 s3 rfl rfl (hrd.mono hle2) (is_length _) (is_get _ i (by omega)) fun pAt hAt => ?_
        conv => whnf
        refine lO_at hAt ?_
        conv => whnf
        have hai := low_getD (b := B) (by decide) hln i
        have hds := val_drop_succ B (dig B n) i (by omega)
        generalize (dig B n).getD i 0 = xi at *
        simp only [B] at hai
        refine pO_add rfl rfl (((r * 65536 + xi : Nat) : Int)) (wr64 (by omega) (by omega) (by omega)) ?_
        conv => whnf
        refine pO_quo rfl rfl (by decide) ((((r * 65536 + xi) / 10 : Nat) : Int)) (wr64 (by rw [Int.tdiv_eq_ediv_of_nonneg (by omega)]; omega) (by omega) (by omega)) ?_
        conv => whnf
        refine pO_own u31 s3 rfl rfl (by omega) ?_
        conv => whnf
        refine stO_i (hg2) (h0g) rfl (by omega) ?_
        conv => whnf
        refine pO_rem rfl rfl (by decide) ((((r * 65536 + xi) % 10 : Nat) : Int)) (by rw [Int.tmod_eq_emod_of_nonneg (by omega)]; omega) ?_
        conv => whnf
        refine pO_sub rfl rfl (((i : Nat) : Int) - 1) (wr64 rfl (by omega) (by omega)) ?_
        conv => whnf
        refine RoundO.go ⟨(zs.set (0 + i) ((r * 65536 + xi) / 10), (r * 65536 + xi) % 10, i), ⟨rfl, rfl, rfl, rfl, rfl, rfl, rfl, rfl, rfl, rfl, rfl, rfl, trivial⟩, trivial, ⟨Heap.upd_same _ _ _, hle2.upd_out hg, by simp [hzl], low_set hzlow _ (by simp only [B]; omega), by dsimp only; omega, Nat.mod_lt _ (by decide), ?_⟩, by dsimp only; omega⟩
        dsimp only
        rw [Nat.zero_add]
        have hzs := val_drop_succ B (zs.set i ((r * 65536 + xi) / 10)) i (by simp; omega)
        rw [drop_set_lt, show (zs.set i ((r * 65536 + xi) / 10)).getD i 0 = (r * 65536 + xi) / 10 by simp [List.getD_eq_getElem?_getD, show i < zs.length by omega]] at hzs
        exact dec_step (w := 0) hds hzs hval (by have := Nat.div_add_mod (r * 65536 + xi) 10; simp only [B]; omega)
end
theorem bg_five {h : Heap} {g : Nat} : Bg (h.upd g (.cells (List.flatMap (fun v => v.cells.toList) [Value.int .i64 5]).toArray 3 (0, 0))) (.slice (some ⟨g, 0, none⟩) 1 1) 5 :=
  Bg.one (n := 5) (Heap.upd_same _ _ _) (by decide) (by decide) rfl
theorem bz_5 : bz 5 = 1 := by unfold bz; rw [dig_one (by decide) (by decide)]; rfl
theorem bz_ten : bz 10 = 1 := by unfold bz; rw [dig_one (by decide) (by decide)]; rfl
theorem decT_blen (a : Nat) : (decT a).length ≤ 16 * bz a + 1 := by
  unfold decT; split
  · simp
  · have := dtx_len (lt_bz a); omega
theorem decT_ne (a : Nat) : 0 < (decT a).length := by
  unfold decT; split
  · simp
  · rename_i h
    unfold dtx; rw [List.length_map, List.length_reverse]
    rcases Nat.eq_zero_or_pos (dig 10 a).length with h1 | h1
    · exact absurd ((dig_eq_nil (by decide)).1 (List.eq_nil_of_length_eq_zero h1)) h
    · exact h1
theorem pow_lt_bz {a d t m : Nat} (hd : 2 ≤ d) (h : a = m * d ^ t) (hm : 0 < m) : t < 16 * bz a := by
  have h1 := lt_two_bz a
  have h2 : 2 ^ t ≤ d ^ t := Nat.pow_le_pow_left hd _
  have h3 := Nat.le_mul_of_pos_left (d ^ t) hm
  exact (Nat.pow_lt_pow_iff_right (by decide : 1 < 2)).1 (by omega)
theorem bz_tens (a i : Nat) : bz (a * 10 ^ i) ≤ bz a + i := by
  induction i with
  | zero => simp
  | succ i ih =>
    rw [Nat.pow_succ, ← Nat.mul_assoc]
    have := bz_10 (n := a * 10 ^ i)
    omega
/-- What the document writes behind the sign. -/
theorem textA_five {a b m f t n : Nat} (hb1 : b ≠ 1) (h2 : stripN 2 b = (m, t)) (h5 : stripN 5 m = (n, f)) (hn : n ≠ 1) : textA a b = decT a ++ [47] ++ decT b := by
  unfold textA; rw [if_neg hb1, h2]; dsimp only; rw [h5]; dsimp only; rw [if_neg hn]
theorem textA_dec {a b m f t : Nat} (hb1 : b ≠ 1) (h2 : stripN 2 b = (m, t)) (h5 : stripN 5 m = (1, f)) (hb : b = 2 ^ t * 5 ^ f) : textA a b = decPt (decT (a * 10 ^ max t f / b)) (max t f) := by
  unfold textA; rw [if_neg hb1, h2]; dsimp only; rw [h5]; dsimp only; rw [if_pos rfl, textA_k hb]
section
variable {h : Heap}
set_option maxHeartbeats 8000000 in
theorem text_r {x : Value} {k : Nat} {p : Rat} (hx : RfV h x k p) (hk : k < 100000) : CallGo Tryz.prog 119 #[x] h NoX fun v h' => v = .string (bs (textQ p)) := by
  have hx' := hx
  obtain ⟨mp, A, ca, C, cb, hmp, rfl, hA, hB, s1, s2⟩ := hx.open
  have hp0 := Nat.pos_of_ne_zero (den_ne p)
  refine v_fn tb k119 [.agg #[.bool mp, .slice A (bz p.num.natAbs) ca, .slice C (bz p.den) cb]] rfl ?_
  conv => whnf
  cases mp
  · conv => whnf
    have hneg : ¬ p.num < 0 := by simpa using hmp
    refine LoopV.by (α := (Option Addr × Nat × Nat) × Nat) (fun y => [(1, .p 1 0), (2, .v (.string ⟨#[]⟩)), (3, .v (.string (bs ([] : List UInt8)))), (4, .v (.int .i64 (y.2 : Nat))), (5, .v (.int .i64 0)), (6, .v (.slice y.1.1 (bz y.1.2.2) y.1.2.1))]) (fun _ => [(1, [.bool false, .slice A (bz p.num.natAbs) ca, .slice C (bz p.den) cb])])
      (fun y h' => Le h h' ∧ Bg h' (.slice y.1.1 (bz y.1.2.2) y.1.2.1) y.1.2.2 ∧ 0 < y.1.2.2 ∧ y.1.2.2 ≤ p.den ∧ stripN 2 p.den = ((stripN 2 y.1.2.2).1, (stripN 2 y.1.2.2).2 + y.2)) (fun y => y.1.2.2) ((C, cb, p.den), 0)
      ⟨rfl, rfl, rfl, rfl, rfl, rfl, rfl, rfl, rfl, rfl, rfl, rfl, trivial⟩ ⟨rfl, trivial⟩ ⟨Le.refl _, hB, hp0, Nat.le_refl _, rfl⟩ ?_
    rintro ⟨⟨D, cd, b⟩, t⟩ h1 ⟨hle1, hb, hb0, hbd, hst⟩
    dsimp only at hle1 hb hb0 hbd hst
    dsimp only
    have hbb := bz_mono hbd
    have hbp := bz_pos hb0
    obtain ⟨_, _, e1, hcb, hrb⟩ := hb.open
    cases e1
    have hpar := dig_par b
    have htb : t < 16 * bz p.den := by
      have h5 := stripN_eq (d := 2) (by decide) p.den hp0
      rw [hst] at h5
      have := pow_lt_bz (by decide) h5.1 h5.2.2
      dsimp only at this
      omega
    conv => whnf
    refine pO_atN u31 s3 rfl rfl (hrb) (is_length _) (is_get _ 0 (by unfold bz at hbp; omega)) fun pAt hAt => ?_
    conv => whnf
    refine lO_at hAt ?_
    conv => whnf
    refine pO_and rfl rfl (((b % 2 : Nat) : Int)) (and1 (by omega)) ?_
    conv => whnf
    rcases Nat.mod_two_eq_zero_or_one b with hb2 | hb2
    · rw [hb2]
      refine pO_eql rfl rfl (true) (rfl) ?_
      conv => whnf
      refine CallsO.go (half_c hb (by omega)) ?_
      rintro n1 h2 hle2 hn1
      conv => whnf
      refine pO_add rfl rfl (((t + 1 : Nat) : Int)) (wr64 (by omega) (by omega) (by omega)) ?_
      conv => whnf
      obtain ⟨E, ce, rfl, _, _⟩ := hn1.open
      refine RoundO.go ⟨((E, ce, b / 2), t + 1), ⟨rfl, rfl, rfl, rfl, rfl, rfl, rfl, rfl, rfl, rfl, rfl, rfl, trivial⟩, ⟨rfl, trivial⟩, ⟨hle1.trans hle2, hn1, by dsimp only; omega, by dsimp only; omega, ?_⟩, by dsimp only; omega⟩
      dsimp only
      rw [hst, stripN_go (by decide) hb0 hb2]
      dsimp only
      rw [Nat.add_assoc, Nat.add_comm 1 t]
    · rw [hb2]
      refine pO_eql rfl rfl (false) (rfl) ?_
      conv => whnf
      rw [stripN_stop (d := 2) (n := b) (by omega), Nat.zero_add] at hst
      dsimp only at hst
      have hpb := (stripN_eq (d := 2) (by decide) p.den hp0).1
      rw [hst] at hpb
      dsimp only at hpb
      refine LoopV.by (α := (Option Addr × Nat × Nat) × Nat) (fun y => [(1, .p 1 0), (2, .v (.string ⟨#[]⟩)), (3, .v (.string (bs ([] : List UInt8)))), (4, .v (.int .i64 (t : Nat))), (5, .v (.int .i64 (y.2 : Nat))), (6, .v (.slice y.1.1 (bz y.1.2.2) y.1.2.1))]) (fun _ => [(1, [.bool false, .slice A (bz p.num.natAbs) ca, .slice C (bz p.den) cb])])
        (fun y h' => Le h h' ∧ Bg h' (.slice y.1.1 (bz y.1.2.2) y.1.2.1) y.1.2.2 ∧ 0 < y.1.2.2 ∧ y.1.2.2 ≤ b ∧ stripN 5 b = ((stripN 5 y.1.2.2).1, (stripN 5 y.1.2.2).2 + y.2)) (fun y => y.1.2.2) ((D, cd, b), 0)
        ⟨rfl, rfl, rfl, rfl, rfl, rfl, rfl, rfl, rfl, rfl, rfl, rfl, trivial⟩ ⟨rfl, trivial⟩ ⟨hle1, hb, hb0, Nat.le_refl _, rfl⟩ ?_
      rintro ⟨⟨E, ce, c⟩, f⟩ h2 ⟨hle2, hc, hc0, hcb', hsf⟩
      dsimp only at hle2 hc hc0 hcb' hsf
      dsimp only
      have hbc := bz_mono hcb'
      have hfb : f < 16 * bz b := by
        have h5 := stripN_eq (d := 5) (by decide) b hb0
        rw [hsf] at h5
        have := pow_lt_bz (by decide) h5.1 h5.2.2
        dsimp only at this
        omega
      conv => whnf
      refine eO_lits [.int .i64 5] u31 s3 z3 (by decide) rfl rfl (fun v hv => by rw [List.mem_singleton.1 hv]; rfl) fun g2 hg2 => ?_
      conv => whnf
      refine CallsO.go (quot_c (hc.mono (Le.upd hg2)) bg_five (by decide) (by rw [bz_5]; omega)) ?_
      rintro v3 h3 hle3 ⟨q1, r1, rfl, hq1, hr1⟩
      conv => whnf
      obtain ⟨F, cf, rfl, hcf, _⟩ := hq1.open
      obtain ⟨G, cg, rfl, hcg, _⟩ := hr1.open
      rcases Nat.eq_zero_or_pos (c % 5) with hc5 | hc5
      · rw [hc5]
        refine pO_gtr rfl rfl (false) (by rw [bz_eq_zero.2 rfl]; rfl) ?_
        conv => whnf
        refine pO_add rfl rfl (((f + 1 : Nat) : Int)) (wr64 (by omega) (by omega) (by omega)) ?_
        conv => whnf
        refine RoundO.go ⟨((F, cf, c / 5), f + 1), ⟨rfl, rfl, rfl, rfl, rfl, rfl, rfl, rfl, rfl, rfl, rfl, rfl, trivial⟩, ⟨rfl, trivial⟩, ⟨hle2.trans ((Le.upd hg2).trans hle3), hq1, by dsimp only; omega, by dsimp only; omega, ?_⟩, by dsimp only; omega⟩
        dsimp only
        rw [hsf, stripN_go (by decide) hc0 hc5]
        dsimp only
        rw [Nat.add_assoc, Nat.add_comm 1 f]
      · have hb9 := bz_pos hc5
        refine pO_gtr rfl rfl (true) (decide_eq_true (by omega)) ?_
        conv => whnf
        rw [stripN_stop (d := 5) (n := c) (by omega), Nat.zero_add] at hsf
        dsimp only at hsf
        have hbf := (stripN_eq (d := 5) (by decide) b hb0).1
        rw [hsf] at hbf
        dsimp only at hbf
        refine eO_lits [.int .i64 1] u31 s3 z3 (by decide) rfl rfl (fun v hv => by rw [List.mem_singleton.1 hv]; rfl) fun g3 hg3 => ?_
        conv => whnf
        have hle3' := (hle2.trans ((Le.upd hg2).trans hle3)).trans (Le.upd (o := .cells (List.flatMap (fun v => v.cells.toList) [Value.int .i64 1]).toArray 3 (0, 0)) hg3)
        refine CallsO.go (compare_c ((hc.mono ((Le.upd hg2).trans hle3)).mono (Le.upd hg3)) bg_one (by rw [bz_1]; omega)) ?_
        rintro v4 h4 hle4 ⟨rfl, rfl⟩
        conv => whnf
        by_cases hc1 : c = 1
        · subst hc1
          rw [cmpN_eq rfl]
          refine pO_neq rfl rfl (false) (rfl) ?_
          conv => whnf
          rw [Nat.one_mul] at hbf
          have hden : p.den = 2 ^ t * 5 ^ f := by rw [hpb, hbf, Nat.mul_comm]
          obtain ⟨k', hk'⟩ : ∃ k', max t f = k' := ⟨_, rfl⟩
          have hk16 : k' < 16 * bz p.den := by omega
          refine pO_max rfl rfl ((k' : Int)) (by split <;> omega) ?_
          conv => whnf
          refine LoopV.by (α := Value × Nat) (fun y => [(1, .p 1 0), (2, .v (.string ⟨#[]⟩)), (3, .v (.string (bs ([] : List UInt8)))), (9, .v (.int .i64 (k' : Nat))), (10, .v y.1), (11, .v (.int .i64 (y.2 : Nat)))]) (fun _ => [(1, [.bool false, .slice A (bz p.num.natAbs) ca, .slice C (bz p.den) cb])])
            (fun y h' => Le h h' ∧ Bg h' y.1 (p.num.natAbs * 10 ^ y.2) ∧ y.2 ≤ k') (fun y => k' - y.2) (.slice A (bz p.num.natAbs) ca, 0)
            ⟨rfl, rfl, rfl, rfl, rfl, rfl, rfl, rfl, rfl, rfl, rfl, rfl, trivial⟩ ⟨rfl, trivial⟩ ⟨hle3', by dsimp only; rw [Nat.pow_zero, Nat.mul_one]; exact hA.mono hle3', Nat.zero_le _⟩ ?_
          rintro ⟨tv, i⟩ h5 ⟨hle5, ht, hi⟩
          dsimp only at hle5 ht hi
          dsimp only
          have hbt := bz_tens p.num.natAbs i
          conv => whnf
          rcases Nat.lt_or_ge i k' with hik | hik
          · refine pO_lss rfl rfl (true) (decide_eq_true (by omega)) ?_
            conv => whnf
            refine eO_lits [.int .i64 10] u31 s3 z3 (by decide) rfl rfl (fun v hv => by rw [List.mem_singleton.1 hv]; rfl) fun g4 hg4 => ?_
            conv => whnf
            refine CallsO.go (times_c (ht.mono (Le.upd hg4)) bg_ten (by rw [bz_ten]; omega)) ?_
            rintro v5 h6 hle6 hv5
            conv => whnf
            refine pO_add rfl rfl (((i + 1 : Nat) : Int)) (wr64 (by omega) (by omega) (by omega)) ?_
            conv => whnf
            exact RoundO.go ⟨(v5, i + 1), ⟨rfl, rfl, rfl, rfl, rfl, rfl, rfl, rfl, rfl, rfl, rfl, rfl, trivial⟩, ⟨rfl, trivial⟩, ⟨hle5.trans ((Le.upd hg4).trans hle6), by dsimp only; rw [Nat.pow_succ, ← Nat.mul_assoc]; exact hv5, hik⟩, by dsimp only; omega⟩
          · refine pO_lss rfl rfl (false) (decide_eq_false (by omega)) ?_
            conv => whnf
            obtain rfl : i = k' := by omega
            refine CallsO.go (quot_c ht (hB.mono hle5) hp0 (by omega)) ?_
            rintro v6 h6 hle6 ⟨q2, r2, rfl, hq2, hr2⟩
            conv => whnf
            have hbq : bz (p.num.natAbs * 10 ^ i / p.den) ≤ bz p.num.natAbs + i := Nat.le_trans (bz_mono (Nat.div_le_self _ _)) hbt
            refine CallsO.go (decimal_c hq2 (by omega)) ?_
            rintro v7 h7 hle7 rfl
            conv => whnf
            obtain ⟨d, hd⟩ : ∃ d, decT (p.num.natAbs * 10 ^ i / p.den) = d := ⟨_, rfl⟩
            have hdl := decT_blen (p.num.natAbs * 10 ^ i / p.den)
            have hdn := decT_ne (p.num.natAbs * 10 ^ i / p.den)
            rw [hd] at hdl hdn
            rw [hd]
            refine LoopV.by (α := Nat) (fun j => [(1, .p 1 0), (2, .v (.string ⟨#[]⟩)), (3, .v (.string (bs ([] : List UInt8)))), (9, .v (.int .i64 (i : Nat))), (12, .v (.string (bs (List.replicate j 48 ++ d))))]) (fun _ => [(1, [.bool false, .slice A (bz p.num.natAbs) ca, .slice C (bz p.den) cb])])
              (fun j h' => j ≤ i + 1 - d.length) (fun j => i + 1 - d.length - j) 0
              ⟨rfl, rfl, rfl, rfl, rfl, rfl, rfl, rfl, rfl, rfl, trivial⟩ ⟨rfl, trivial⟩ (Nat.zero_le _) ?_
            rintro j h8 hj
            dsimp only
            have hjl : (List.replicate j (48 : UInt8) ++ d).length = j + d.length := by simp
            conv => whnf
            rcases Nat.lt_or_ge j (i + 1 - d.length) with hjk | hjk
            · refine pO_leq rfl rfl (true) (decide_eq_true (by rw [bs_size]; omega)) ?_
              conv => whnf
              refine pO_catB (a := [48]) (b := List.replicate j 48 ++ d) (List.replicate (j + 1) 48 ++ d) rfl rfl (by rw [hjl]; simp only [List.length_cons, List.length_nil]; omega) (by rw [List.replicate_succ]; rfl) ?_
              conv => whnf
              exact RoundO.go ⟨j + 1, ⟨rfl, rfl, rfl, rfl, rfl, rfl, rfl, rfl, rfl, rfl, trivial⟩, ⟨rfl, trivial⟩, (show j + 1 ≤ i + 1 - d.length by omega), (show i + 1 - d.length - (j + 1) < i + 1 - d.length - j by omega)⟩
            · obtain rfl : j = i + 1 - d.length := by omega
              refine pO_leq rfl rfl (false) (decide_eq_false (by rw [bs_size]; omega)) ?_
              conv => whnf
              rcases Nat.eq_zero_or_pos i with hi0 | hi0
              · refine pO_eql rfl rfl (true) (by rw [hi0]; rfl) ?_
                conv => whnf
                have hd1 : p.den = 1 := by
                  have h7 : t = 0 := by omega
                  have h8 : f = 0 := by omega
                  rw [hden, h7, h8]
                have hrep : List.replicate (i + 1 - d.length) (48 : UInt8) ++ d = d := by
                  have : i + 1 - d.length = 0 := by omega
                  rw [this]; rfl
                rw [hrep]
                refine pO_catB (a := ([] : List UInt8)) (([] : List UInt8) ++ d) rfl rfl (by simp only [List.length_cons, List.length_nil]; omega) rfl ?_
                conv => whnf
                refine EndO.go ?_
                have htx : textQ p = ([] : List UInt8) ++ d := by
                  unfold textQ textA
                  rw [if_pos hd1, ← hd, hi0, hd1, Nat.pow_zero, Nat.mul_one, Nat.div_one]
                  congr 1
                  simp [hneg]
                rw [htx]; rfl
              · refine pO_eql rfl rfl (false) (beq_eq_false_iff_ne.2 (by omega)) ?_
                conv => whnf
                have hd1 : p.den ≠ 1 := fun e => by
                  rw [e] at hden
                  have h7 : 2 ^ t = 1 := Nat.eq_one_of_mul_eq_one_right hden.symm
                  have h8 : 5 ^ f = 1 := Nat.eq_one_of_mul_eq_one_left hden.symm
                  have h9 : t = 0 := by
                    rcases Nat.eq_zero_or_pos t with h | h
                    · exact h
                    · have := Nat.one_lt_two_pow (Nat.pos_iff_ne_zero.1 h); omega
                  have h10 : f = 0 := by
                    rcases Nat.eq_zero_or_pos f with h | h
                    · exact h
                    · have := Nat.one_lt_pow (Nat.pos_iff_ne_zero.1 h) (show 1 < 5 by decide); omega
                  omega
                have hta := textA_dec (a := p.num.natAbs) hd1 hst hsf hden
                rw [hk', hd] at hta
                unfold decPt at hta
                dsimp only at hta
                have htx : textQ p = ([] : List UInt8) ++ textA p.num.natAbs p.den := by
                  unfold textQ; congr 1
                  simp [hneg]
                rw [hta] at htx
                have hsg : List.length (([] : List UInt8) : List UInt8) ≤ 1 := by decide
                obtain ⟨d', hd'⟩ : ∃ d', List.replicate (i + 1 - d.length) 48 ++ d = d' := ⟨_, rfl⟩
                rw [hd'] at htx hjl ⊢
                refine pO_sub rfl rfl (((d'.length - i : Nat) : Int)) (wr64 (by rw [bs_size]; omega) (by omega) (by omega)) ?_
                conv => whnf
                refine pO_sliceB 0 (d'.length - i) (d'.take (d'.length - i)) u9 rfl rfl ⟨_, rfl⟩ (Nat.zero_le _) (by omega) rfl ?_
                conv => whnf
                have hl2 : (d'.take (d'.length - i)).length ≤ d'.length := by rw [List.length_take]; omega
                have hl4 : (d'.drop (d'.length - i)).length ≤ d'.length := by rw [List.length_drop]; omega
                refine pO_catB (a := ([] : List UInt8)) (([] : List UInt8) ++ d'.take (d'.length - i)) rfl rfl (by omega) rfl ?_
                conv => whnf
                refine pO_catB (b := [46]) (([] : List UInt8) ++ d'.take (d'.length - i) ++ [46]) rfl rfl (by rw [List.length_append]; simp only [List.length_cons, List.length_nil] at *; omega) rfl ?_
                conv => whnf
                refine pO_sub rfl rfl (((d'.length - i : Nat) : Int)) (wr64 (by rw [bs_size]; omega) (by omega) (by omega)) ?_
                conv => whnf
                refine pO_sliceB (d'.length - i) d'.length (d'.drop (d'.length - i)) u9 rfl ⟨_, rfl⟩ rfl (by omega) (Nat.le_refl _) (by rw [List.take_of_length_le (Nat.le_refl _)]) ?_
                conv => whnf
                refine pO_catB (a := ([] : List UInt8) ++ d'.take (d'.length - i) ++ [46]) (([] : List UInt8) ++ d'.take (d'.length - i) ++ [46] ++ d'.drop (d'.length - i)) rfl rfl (by rw [List.length_append, List.length_append]; simp only [List.length_cons, List.length_nil] at *; omega) rfl ?_
                conv => whnf
                refine EndO.go ?_
                rw [htx]; simp only [List.append_assoc]; rfl
        · rw [cmpN_gt (by omega)]
          refine pO_neq rfl rfl (true) (rfl) ?_
          conv => whnf
          have hd1 : p.den ≠ 1 := fun e => by
            rw [e] at hpb hbd
            have : c ≤ b := hcb'
            omega
          have hta := textA_five (a := p.num.natAbs) hd1 hst hsf hc1
          have htx : textQ p = ([] : List UInt8) ++ textA p.num.natAbs p.den := by
            unfold textQ; congr 1
            simp [hneg]
          rw [hta] at htx
          have hl1 := decT_blen p.num.natAbs
          have hl2 := decT_blen p.den
          have hsg : List.length (([] : List UInt8) : List UInt8) ≤ 1 := by decide
          refine CallsO.go (decimal_c (hA.mono hle3') (by omega)) ?_
          rintro v5 h5 hle5 rfl
          conv => whnf
          refine pO_catB (a := ([] : List UInt8)) (([] : List UInt8) ++ decT p.num.natAbs) rfl rfl (by omega) rfl ?_
          conv => whnf
          refine pO_catB (b := [47]) (([] : List UInt8) ++ decT p.num.natAbs ++ [47]) rfl rfl (by rw [List.length_append]; simp only [List.length_cons, List.length_nil] at *; omega) rfl ?_
          conv => whnf
          refine CallsO.go (decimal_c ((hB.mono hle3').mono hle5) (by omega)) ?_
          rintro v6 h6 hle6 rfl
          conv => whnf
          refine pO_catB (a := ([] : List UInt8) ++ decT p.num.natAbs ++ [47]) (([] : List UInt8) ++ decT p.num.natAbs ++ [47] ++ decT p.den) rfl rfl (by rw [List.length_append, List.length_append]; simp only [List.length_cons, List.length_nil] at *; omega) rfl ?_
          conv => whnf
          refine EndO.go ?_
          rw [htx]; simp only [List.append_assoc]; rfl
  · conv => whnf
    have hneg : p.num < 0 := by simpa using hmp
    refine LoopV.by (α := (Option Addr × Nat × Nat) × Nat) (fun y => [(1, .p 1 0), (2, .v (.string ⟨#[]⟩)), (3, .v (.string (bs ([45] : List UInt8)))), (4, .v (.int .i64 (y.2 : Nat))), (5, .v (.int .i64 0)), (6, .v (.slice y.1.1 (bz y.1.2.2) y.1.2.1))]) (fun _ => [(1, [.bool true, .slice A (bz p.num.natAbs) ca, .slice C (bz p.den) cb])])
      (fun y h' => Le h h' ∧ Bg h' (.slice y.1.1 (bz y.1.2.2) y.1.2.1) y.1.2.2 ∧ 0 < y.1.2.2 ∧ y.1.2.2 ≤ p.den ∧ stripN 2 p.den = ((stripN 2 y.1.2.2).1, (stripN 2 y.1.2.2).2 + y.2)) (fun y => y.1.2.2) ((C, cb, p.den), 0)
      ⟨rfl, rfl, rfl, rfl, rfl, rfl, rfl, rfl, rfl, rfl, rfl, rfl, trivial⟩ ⟨rfl, trivial⟩ ⟨Le.refl _, hB, hp0, Nat.le_refl _, rfl⟩ ?_
    rintro ⟨⟨D, cd, b⟩, t⟩ h1 ⟨hle1, hb, hb0, hbd, hst⟩
    dsimp only at hle1 hb hb0 hbd hst
    dsimp only
    have hbb := bz_mono hbd
    have hbp := bz_pos hb0
    obtain ⟨_, _, e1, hcb, hrb⟩ := hb.open
    cases e1
    have hpar := dig_par b
    have htb : t < 16 * bz p.den := by
      have h5 := stripN_eq (d := 2) (by decide) p.den hp0
      rw [hst] at h5
      have := pow_lt_bz (by decide) h5.1 h5.2.2
      dsimp only at this
      omega
    conv => whnf
    refine pO_atN u31 s3 rfl rfl (hrb) (is_length _) (is_get _ 0 (by unfold bz at hbp; omega)) fun pAt hAt => ?_
    conv => whnf
    refine lO_at hAt ?_
    conv => whnf
    refine pO_and rfl rfl (((b % 2 : Nat) : Int)) (and1 (by omega)) ?_
    conv => whnf
    rcases Nat.mod_two_eq_zero_or_one b with hb2 | hb2
    · rw [hb2]
      refine pO_eql rfl rfl (true) (rfl) ?_
      conv => whnf
      refine CallsO.go (half_c hb (by omega)) ?_
      rintro n1 h2 hle2 hn1
      conv => whnf
      refine pO_add rfl rfl (((t + 1 : Nat) : Int)) (wr64 (by omega) (by omega) (by omega)) ?_
      conv => whnf
      obtain ⟨E, ce, rfl, _, _⟩ := hn1.open
      refine RoundO.go ⟨((E, ce, b / 2), t + 1), ⟨rfl, rfl, rfl, rfl, rfl, rfl, rfl, rfl, rfl, rfl, rfl, rfl, trivial⟩, ⟨rfl, trivial⟩, ⟨hle1.trans hle2, hn1, by dsimp only; omega, by dsimp only; omega, ?_⟩, by dsimp only; omega⟩
      dsimp only
      rw [hst, stripN_go (by decide) hb0 hb2]
      dsimp only
      rw [Nat.add_assoc, Nat.add_comm 1 t]
    · rw [hb2]
      refine pO_eql rfl rfl (false) (rfl) ?_
      conv => whnf
      rw [stripN_stop (d := 2) (n := b) (by omega), Nat.zero_add] at hst
      dsimp only at hst
      have hpb := (stripN_eq (d := 2) (by decide) p.den hp0).1
      rw [hst] at hpb
      dsimp only at hpb
      refine LoopV.by (α := (Option Addr × Nat × Nat) × Nat) (fun y => [(1, .p 1 0), (2, .v (.string ⟨#[]⟩)), (3, .v (.string (bs ([45] : List UInt8)))), (4, .v (.int .i64 (t : Nat))), (5, .v (.int .i64 (y.2 : Nat))), (6, .v (.slice y.1.1 (bz y.1.2.2) y.1.2.1))]) (fun _ => [(1, [.bool true, .slice A (bz p.num.natAbs) ca, .slice C (bz p.den) cb])])
        (fun y h' => Le h h' ∧ Bg h' (.slice y.1.1 (bz y.1.2.2) y.1.2.1) y.1.2.2 ∧ 0 < y.1.2.2 ∧ y.1.2.2 ≤ b ∧ stripN 5 b = ((stripN 5 y.1.2.2).1, (stripN 5 y.1.2.2).2 + y.2)) (fun y => y.1.2.2) ((D, cd, b), 0)
        ⟨rfl, rfl, rfl, rfl, rfl, rfl, rfl, rfl, rfl, rfl, rfl, rfl, trivial⟩ ⟨rfl, trivial⟩ ⟨hle1, hb, hb0, Nat.le_refl _, rfl⟩ ?_
      rintro ⟨⟨E, ce, c⟩, f⟩ h2 ⟨hle2, hc, hc0, hcb', hsf⟩
      dsimp only at hle2 hc hc0 hcb' hsf
      dsimp only
      have hbc := bz_mono hcb'
      have hfb : f < 16 * bz b := by
        have h5 := stripN_eq (d := 5) (by decide) b hb0
        rw [hsf] at h5
        have := pow_lt_bz (by decide) h5.1 h5.2.2
        dsimp only at this
        omega
      conv => whnf
      refine eO_lits [.int .i64 5] u31 s3 z3 (by decide) rfl rfl (fun v hv => by rw [List.mem_singleton.1 hv]; rfl) fun g2 hg2 => ?_
      conv => whnf
      refine CallsO.go (quot_c (hc.mono (Le.upd hg2)) bg_five (by decide) (by rw [bz_5]; omega)) ?_
      rintro v3 h3 hle3 ⟨q1, r1, rfl, hq1, hr1⟩
      conv => whnf
      obtain ⟨F, cf, rfl, hcf, _⟩ := hq1.open
      obtain ⟨G, cg, rfl, hcg, _⟩ := hr1.open
      rcases Nat.eq_zero_or_pos (c % 5) with hc5 | hc5
      · rw [hc5]
        refine pO_gtr rfl rfl (false) (by rw [bz_eq_zero.2 rfl]; rfl) ?_
        conv => whnf
        refine pO_add rfl rfl (((f + 1 : Nat) : Int)) (wr64 (by omega) (by omega) (by omega)) ?_
        conv => whnf
        refine RoundO.go ⟨((F, cf, c / 5), f + 1), ⟨rfl, rfl, rfl, rfl, rfl, rfl, rfl, rfl, rfl, rfl, rfl, rfl, trivial⟩, ⟨rfl, trivial⟩, ⟨hle2.trans ((Le.upd hg2).trans hle3), hq1, by dsimp only; omega, by dsimp only; omega, ?_⟩, by dsimp only; omega⟩
        dsimp only
        rw [hsf, stripN_go (by decide) hc0 hc5]
        dsimp only
        rw [Nat.add_assoc, Nat.add_comm 1 f]
      · have hb9 := bz_pos hc5
        refine pO_gtr rfl rfl (true) (decide_eq_true (by omega)) ?_
        conv => whnf
        rw [stripN_stop (d := 5) (n := c) (by omega), Nat.zero_add] at hsf
        dsimp only at hsf
        have hbf := (stripN_eq (d := 5) (by decide) b hb0).1
        rw [hsf] at hbf
        dsimp only at hbf
        refine eO_lits [.int .i64 1] u31 s3 z3 (by decide) rfl rfl (fun v hv => by rw [List.mem_singleton.1 hv]; rfl) fun g3 hg3 => ?_
        conv => whnf
        have hle3' := (hle2.trans ((Le.upd hg2).trans hle3)).trans (Le.upd (o := .cells (List.flatMap (fun v => v.cells.toList) [Value.int .i64 1]).toArray 3 (0, 0)) hg3)
        refine CallsO.go (compare_c ((hc.mono ((Le.upd hg2).trans hle3)).mono (Le.upd hg3)) bg_one (by rw [bz_1]; omega)) ?_
        rintro v4 h4 hle4 ⟨rfl, rfl⟩
        conv => whnf
        by_cases hc1 : c = 1
        · subst hc1
          rw [cmpN_eq rfl]
          refine pO_neq rfl rfl (false) (rfl) ?_
          conv => whnf
          rw [Nat.one_mul] at hbf
          have hden : p.den = 2 ^ t * 5 ^ f := by rw [hpb, hbf, Nat.mul_comm]
          obtain ⟨k', hk'⟩ : ∃ k', max t f = k' := ⟨_, rfl⟩
          have hk16 : k' < 16 * bz p.den := by omega
          refine pO_max rfl rfl ((k' : Int)) (by split <;> omega) ?_
          conv => whnf
          refine LoopV.by (α := Value × Nat) (fun y => [(1, .p 1 0), (2, .v (.string ⟨#[]⟩)), (3, .v (.string (bs ([45] : List UInt8)))), (9, .v (.int .i64 (k' : Nat))), (10, .v y.1), (11, .v (.int .i64 (y.2 : Nat)))]) (fun _ => [(1, [.bool true, .slice A (bz p.num.natAbs) ca, .slice C (bz p.den) cb])])
            (fun y h' => Le h h' ∧ Bg h' y.1 (p.num.natAbs * 10 ^ y.2) ∧ y.2 ≤ k') (fun y => k' - y.2) (.slice A (bz p.num.natAbs) ca, 0)
            ⟨rfl, rfl, rfl, rfl, rfl, rfl, rfl, rfl, rfl, rfl, rfl, rfl, trivial⟩ ⟨rfl, trivial⟩ ⟨hle3', by dsimp only; rw [Nat.pow_zero, Nat.mul_one]; exact hA.mono hle3', Nat.zero_le _⟩ ?_
          rintro ⟨tv, i⟩ h5 ⟨hle5, ht, hi⟩
          dsimp only at hle5 ht hi
          dsimp only
          have hbt := bz_tens p.num.natAbs i
          conv => whnf
          rcases Nat.lt_or_ge i k' with hik | hik
          · refine pO_lss rfl rfl (true) (decide_eq_true (by omega)) ?_
            conv => whnf
            refine eO_lits [.int .i64 10] u31 s3 z3 (by decide) rfl rfl (fun v hv => by rw [List.mem_singleton.1 hv]; rfl) fun g4 hg4 => ?_
            conv => whnf
            refine CallsO.go (times_c (ht.mono (Le.upd hg4)) bg_ten (by rw [bz_ten]; omega)) ?_
            rintro v5 h6 hle6 hv5
            conv => whnf
            refine pO_add rfl rfl (((i + 1 : Nat) : Int)) (wr64 (by omega) (by omega) (by omega)) ?_
            conv => whnf
            exact RoundO.go ⟨(v5, i + 1), ⟨rfl, rfl, rfl, rfl, rfl, rfl, rfl, rfl, rfl, rfl, rfl, rfl, trivial⟩, ⟨rfl, trivial⟩, ⟨hle5.trans ((Le.upd hg4).trans hle6), by dsimp only; rw [Nat.pow_succ, ← Nat.mul_assoc]; exact hv5, hik⟩, by dsimp only; omega⟩
          · refine pO_lss rfl rfl (false) (decide_eq_false (by omega)) ?_
            conv => whnf
            obtain rfl : i = k' := by omega
            refine CallsO.go (quot_c ht (hB.mono hle5) hp0 (by omega)) ?_
            rintro v6 h6 hle6 ⟨q2, r2, rfl, hq2, hr2⟩
            conv => whnf
            have hbq : bz (p.num.natAbs * 10 ^ i / p.den) ≤ bz p.num.natAbs + i := Nat.le_trans (bz_mono (Nat.div_le_self _ _)) hbt
            refine CallsO.go (decimal_c hq2 (by omega)) ?_
            rintro v7 h7 hle7 rfl
            conv => whnf
            obtain ⟨d, hd⟩ : ∃ d, decT (p.num.natAbs * 10 ^ i / p.den) = d := ⟨_, rfl⟩
            have hdl := decT_blen (p.num.natAbs * 10 ^ i / p.den)
            have hdn := decT_ne (p.num.natAbs * 10 ^ i / p.den)
            rw [hd] at hdl hdn
            rw [hd]
            refine LoopV.by (α := Nat) (fun j => [(1, .p 1 0), (2, .v (.string ⟨#[]⟩)), (3, .v (.string (bs ([45] : List UInt8)))), (9, .v (.int .i64 (i : Nat))), (12, .v (.string (bs (List.replicate j 48 ++ d))))]) (fun _ => [(1, [.bool true, .slice A (bz p.num.natAbs) ca, .slice C (bz p.den) cb])])
              (fun j h' => j ≤ i + 1 - d.length) (fun j => i + 1 - d.length - j) 0
              ⟨rfl, rfl, rfl, rfl, rfl, rfl, rfl, rfl, rfl, rfl, trivial⟩ ⟨rfl, trivial⟩ (Nat.zero_le _) ?_
            rintro j h8 hj
            dsimp only
            have hjl : (List.replicate j (48 : UInt8) ++ d).length = j + d.length := by simp
            conv => whnf
            rcases Nat.lt_or_ge j (i + 1 - d.length) with hjk | hjk
            · refine pO_leq rfl rfl (true) (decide_eq_true (by rw [bs_size]; omega)) ?_
              conv => whnf
              refine pO_catB (a := [48]) (b := List.replicate j 48 ++ d) (List.replicate (j + 1) 48 ++ d) rfl rfl (by rw [hjl]; simp only [List.length_cons, List.length_nil]; omega) (by rw [List.replicate_succ]; rfl) ?_
              conv => whnf
              exact RoundO.go ⟨j + 1, ⟨rfl, rfl, rfl, rfl, rfl, rfl, rfl, rfl, rfl, rfl, trivial⟩, ⟨rfl, trivial⟩, (show j + 1 ≤ i + 1 - d.length by omega), (show i + 1 - d.length - (j + 1) < i + 1 - d.length - j by omega)⟩
            · obtain rfl : j = i + 1 - d.length := by omega
              refine pO_leq rfl rfl (false) (decide_eq_false (by rw [bs_size]; omega)) ?_
              conv => whnf
              rcases Nat.eq_zero_or_pos i with hi0 | hi0
              · refine pO_eql rfl rfl (true) (by rw [hi0]; rfl) ?_
                conv => whnf
                have hd1 : p.den = 1 := by
                  have h7 : t = 0 := by omega
                  have h8 : f = 0 := by omega
                  rw [hden, h7, h8]
                have hrep : List.replicate (i + 1 - d.length) (48 : UInt8) ++ d = d := by
                  have : i + 1 - d.length = 0 := by omega
                  rw [this]; rfl
                rw [hrep]
                refine pO_catB (a := ([45] : List UInt8)) (([45] : List UInt8) ++ d) rfl rfl (by simp only [List.length_cons, List.length_nil]; omega) rfl ?_
                conv => whnf
                refine EndO.go ?_
                have htx : textQ p = ([45] : List UInt8) ++ d := by
                  unfold textQ textA
                  rw [if_pos hd1, ← hd, hi0, hd1, Nat.pow_zero, Nat.mul_one, Nat.div_one]
                  congr 1
                  simp [hneg]
                rw [htx]; rfl
              · refine pO_eql rfl rfl (false) (beq_eq_false_iff_ne.2 (by omega)) ?_
                conv => whnf
                have hd1 : p.den ≠ 1 := fun e => by
                  rw [e] at hden
                  have h7 : 2 ^ t = 1 := Nat.eq_one_of_mul_eq_one_right hden.symm
                  have h8 : 5 ^ f = 1 := Nat.eq_one_of_mul_eq_one_left hden.symm
                  have h9 : t = 0 := by
                    rcases Nat.eq_zero_or_pos t with h | h
                    · exact h
                    · have := Nat.one_lt_two_pow (Nat.pos_iff_ne_zero.1 h); omega
                  have h10 : f = 0 := by
                    rcases Nat.eq_zero_or_pos f with h | h
                    · exact h
                    · have := Nat.one_lt_pow (Nat.pos_iff_ne_zero.1 h) (show 1 < 5 by decide); omega
                  omega
                have hta := textA_dec (a := p.num.natAbs) hd1 hst hsf hden
                rw [hk', hd] at hta
                unfold decPt at hta
                dsimp only at hta
                have htx : textQ p = ([45] : List UInt8) ++ textA p.num.natAbs p.den := by
                  unfold textQ; congr 1
                  simp [hneg]
                rw [hta] at htx
                have hsg : List.length (([45] : List UInt8) : List UInt8) ≤ 1 := by decide
                obtain ⟨d', hd'⟩ : ∃ d', List.replicate (i + 1 - d.length) 48 ++ d = d' := ⟨_, rfl⟩
                rw [hd'] at htx hjl ⊢
                refine pO_sub rfl rfl (((d'.length - i : Nat) : Int)) (wr64 (by rw [bs_size]; omega) (by omega) (by omega)) ?_
                conv => whnf
                refine pO_sliceB 0 (d'.length - i) (d'.take (d'.length - i)) u9 rfl rfl ⟨_, rfl⟩ (Nat.zero_le _) (by omega) rfl ?_
                conv => whnf
                have hl2 : (d'.take (d'.length - i)).length ≤ d'.length := by rw [List.length_take]; omega
                have hl4 : (d'.drop (d'.length - i)).length ≤ d'.length := by rw [List.length_drop]; omega
                refine pO_catB (a := ([45] : List UInt8)) (([45] : List UInt8) ++ d'.take (d'.length - i)) rfl rfl (by omega) rfl ?_
                conv => whnf
                refine pO_catB (b := [46]) (([45] : List UInt8) ++ d'.take (d'.length - i) ++ [46]) rfl rfl (by rw [List.length_append]; simp only [List.length_cons, List.length_nil] at *; omega) rfl ?_
                conv => whnf
                refine pO_sub rfl rfl (((d'.length - i : Nat) : Int)) (wr64 (by rw [bs_size]; omega) (by omega) (by omega)) ?_
                conv => whnf
                refine pO_sliceB (d'.length - i) d'.length (d'.drop (d'.length - i)) u9 rfl ⟨_, rfl⟩ rfl (by omega) (Nat.le_refl _) (by rw [List.take_of_length_le (Nat.le_refl _)]) ?_
                conv => whnf
                refine pO_catB (a := ([45] : List UInt8) ++ d'.take (d'.length - i) ++ [46]) (([45] : List UInt8) ++ d'.take (d'.length - i) ++ [46] ++ d'.drop (d'.length - i)) rfl rfl (by rw [List.length_append, List.length_append]; simp only [List.length_cons, List.length_nil] at *; omega) rfl ?_
                conv => whnf
                refine EndO.go ?_
                rw [htx]; simp only [List.append_assoc]; rfl
        · rw [cmpN_gt (by omega)]
          refine pO_neq rfl rfl (true) (rfl) ?_
          conv => whnf
          have hd1 : p.den ≠ 1 := fun e => by
            rw [e] at hpb hbd
            have : c ≤ b := hcb'
            omega
          have hta := textA_five (a := p.num.natAbs) hd1 hst hsf hc1
          have htx : textQ p = ([45] : List UInt8) ++ textA p.num.natAbs p.den := by
            unfold textQ; congr 1
            simp [hneg]
          rw [hta] at htx
          have hl1 := decT_blen p.num.natAbs
          have hl2 := decT_blen p.den
          have hsg : List.length (([45] : List UInt8) : List UInt8) ≤ 1 := by decide
          refine CallsO.go (decimal_c (hA.mono hle3') (by omega)) ?_
          rintro v5 h5 hle5 rfl
          conv => whnf
          refine pO_catB (a := ([45] : List UInt8)) (([45] : List UInt8) ++ decT p.num.natAbs) rfl rfl (by omega) rfl ?_
          conv => whnf
          refine pO_catB (b := [47]) (([45] : List UInt8) ++ decT p.num.natAbs ++ [47]) rfl rfl (by rw [List.length_append]; simp only [List.length_cons, List.length_nil] at *; omega) rfl ?_
          conv => whnf
          refine CallsO.go (decimal_c ((hB.mono hle3').mono hle5) (by omega)) ?_
          rintro v6 h6 hle6 rfl
          conv => whnf
          refine pO_catB (a := ([45] : List UInt8) ++ decT p.num.natAbs ++ [47]) (([45] : List UInt8) ++ decT p.num.natAbs ++ [47] ++ decT p.den) rfl rfl (by rw [List.length_append, List.length_append]; simp only [List.length_cons, List.length_nil] at *; omega) rfl ?_
          conv => whnf
          refine EndO.go ?_
          rw [htx]; simp only [List.append_assoc]; rfl
end
theorem tw_of {p : UInt8 → Bool} {l : List UInt8} {i : Nat} (hi : i ≤ l.length) (hall : (l.take i).all p = true) (hs : i = l.length ∨ i < l.length ∧ p (l.getD i 0) = false) : l.takeWhile p = l.take i ∧ l.dropWhile p = l.drop i := by
  have h1 : ∀ a ∈ l.take i, p a = true := fun a ha => List.all_eq_true.1 hall a ha
  have h2 : (l.drop i).takeWhile p = [] ∧ (l.drop i).dropWhile p = l.drop i := by
    rcases hs with rfl | ⟨hi2, hp⟩
    · rw [List.drop_of_length_le (Nat.le_refl _)]; exact ⟨rfl, rfl⟩
    · rw [List.drop_eq_getElem_cons hi2]
      have h3 : p l[i] = false := by rw [List.getD_eq_getElem?_getD, List.getElem?_eq_getElem hi2] at hp; exact hp
      rw [List.takeWhile_cons, List.dropWhile_cons, h3]; exact ⟨rfl, rfl⟩
  constructor
  · conv => lhs; rw [← List.take_append_drop i l, List.takeWhile_append_of_pos h1, h2.1, List.append_nil]
  · conv => lhs; rw [← List.take_append_drop i l, List.dropWhile_append_of_pos h1, h2.2]
theorem RfV.zero {h : Heap} {v : Value} {k l : Nat} (H : RfV h v k ((0 : Int) : Rat)) : RfV h v l 0 := ⟨⟨Nat.zero_le _, Nat.one_le_two_pow⟩, H.2⟩
theorem u8_ne {c d : UInt8} (h : c ≠ d) : (((c.toNat : Nat) : Int) == (d.toNat : Int)) = false := beq_eq_false_iff_ne.2 (fun e => h (UInt8.toNat_inj.1 (by omega)))
theorem u8_bne {c d : UInt8} (h : c ≠ d) : (((c.toNat : Nat) : Int) != (d.toNat : Int)) = true := by unfold bne; rw [u8_ne h]; rfl
theorem all_snoc {p : UInt8 → Bool} {l : List UInt8} {i : Nat} (hi : i < l.length) (h : (l.take i).all p = true) (hp : p (l.getD i 0) = true) : (l.take (i + 1)).all p = true := by
  rw [List.take_succ_eq_append_getElem hi, List.all_append, h]
  simpa [List.getD_eq_getElem?_getD, hi] using hp
section
variable {h : Heap}
theorem digits_t (l : List UInt8) (t : Bool) (ht : allDig l = t) (hl : l.length < 100000) : CallGo Tryz.prog 115 #[.string (bs l)] h NoX fun v h' => ∃ x, v = .tuple #[x, .bool t] ∧ (t = true → Bg h' x (numT l)) := by
  subst ht; exact digits_c l hl
set_option maxHeartbeats 8000000 in
theorem parse_r (l : List UInt8) (hl : l.length < 10000) : CallGo Tryz.prog 21 #[.string (bs l)] h NoX fun v h' => ∃ z, v = .tuple #[z, .int .i64 ((parseQ l).2 : Nat)] ∧ RfV h' z (4 * l.length) (parseQ l).1 := by
  refine v_fn tb k21 [.string (bs l)] rfl ?_
  conv => whnf
  rcases Nat.lt_or_ge 2000 l.length with h2000 | h2000
  · refine pO_gtr rfl rfl (true) (decide_eq_true (by rw [bs_size]; omega)) ?_
    conv => whnf
    have hP : parseQ l = (0, 5) := by unfold parseQ; rw [if_pos h2000]
    refine CallsO.go (rint_n (z := 0) (by decide) (by decide)) ?_
    rintro _ h90 hle90 nz
    obtain ⟨r_nz, rfl⟩ := nz.raw
    conv => whnf
    refine EndO.go ?_
    rw [hP]
    exact ⟨_, rfl, nz.zero⟩
  · refine pO_gtr rfl rfl (false) (decide_eq_false (by rw [bs_size]; omega)) ?_
    conv => whnf
    have hP := parseQ_sign h2000
    rw [← parseR_eq] at hP
    cases l with
    | nil =>
      refine pO_gtr rfl rfl (false) (rfl) ?_
      conv => whnf
      have hP' : parseQ [] = (0, 4) := hP
      refine LoopV.by (α := Unit) (fun _ => [(0, .v (.string (bs []))), (2, .p 2 0), (3, .v (.int .i64 0)), (5, .v (.int .i64 0))]) (fun _ => [(2, [.bool false, .slice none 0 0, .slice none 0 0])]) (fun _ _ => True) (fun _ => 0) ()
        ⟨rfl, rfl, rfl, rfl, rfl, rfl, rfl, rfl, trivial⟩ ⟨rfl, trivial⟩ trivial ?_
      rintro _ h1 _
      dsimp only
      conv => whnf
      refine pO_lss rfl rfl (false) (rfl) ?_
      conv => whnf
      refine pO_sliceB 0 0 [] u9 rfl rfl ⟨_, rfl⟩ (Nat.zero_le _) (Nat.zero_le _) rfl ?_
      conv => whnf
      refine CallsO.go (digits_t [] false rfl (by decide)) ?_
      rintro _ h2 hle2 ⟨xv, rfl, hxv⟩
      conv => whnf
      refine CallsO.go (rint_n (z := 0) (by decide) (by decide)) ?_
      rintro _ h90 hle90 nz
      obtain ⟨r_nz, rfl⟩ := nz.raw
      conv => whnf
      refine EndO.go ?_
      rw [hP']
      exact ⟨_, rfl, nz.zero⟩
    | cons c r =>
      refine pO_gtr rfl rfl (true) (decide_eq_true (by rw [bs_size, List.length_cons]; omega)) ?_
      conv => whnf
      refine pO_idxB (l := c :: r) (j := 0) c u9 rfl rfl rfl ?_
      conv => whnf
      by_cases h45 : c = 45
      · subst h45
        refine pO_eql rfl rfl (true) (rfl) ?_
        conv => whnf
        refine pO_sliceB 1 (r.length + 1) r u9 rfl ⟨_, rfl⟩ (by simp) (by omega) (by simp) (by simp) ?_
        conv => whnf
        replace hP : parseQ (45 :: r) = parseR true r := hP
        obtain ⟨l, hl0⟩ : ∃ l : List UInt8, l = 45 :: r := ⟨_, rfl⟩
        rw [← hl0] at hP h2000 ⊢
        have hrl : r.length ≤ l.length := by rw [hl0, List.length_cons]; omega
        refine LoopV.cut (α := Nat) (β := Nat) (fun i => [(0, .v (.string (bs r))), (2, .p 2 0), (3, .v (.int .i64 0)), (4, .v (.bool true)), (5, .v (.int .i64 (i : Nat)))]) (fun _ => [(2, [.bool false, .slice none 0 0, .slice none 0 0])])
          (fun i h' => i ≤ List.length r ∧ (List.take i r).all stopC = true) (fun i => List.length r - i) 0 0 (fun i => [(0, .v (.string (bs r))), (2, .p 2 0), (3, .v (.int .i64 0)), (4, .v (.bool true)), (5, .v (.int .i64 (i : Nat)))]) (fun _ => [(2, [.bool false, .slice none 0 0, .slice none 0 0])])
          (fun i h' => i ≤ List.length r ∧ List.takeWhile stopC r = List.take i r ∧ List.dropWhile stopC r = List.drop i r)
          ⟨rfl, rfl, rfl, rfl, rfl, rfl, rfl, rfl, rfl, rfl, trivial⟩ ⟨rfl, trivial⟩ ⟨Nat.zero_le _, rfl⟩ ?_ ?_
        · rintro i h1 ⟨hi, hall⟩
          dsimp only
          conv => whnf
          rcases Nat.lt_or_ge i (List.length r) with hin | hin
          · refine pO_lss rfl rfl (true) (decide_eq_true (by rw [bs_size]; omega)) ?_
            conv => whnf
            obtain ⟨c, hc⟩ : ∃ c, List.getD r i 0 = c := ⟨_, rfl⟩
            have hget : (r)[i]? = some c := by rw [← hc, List.getD_eq_getElem?_getD, List.getElem?_eq_getElem hin]; rfl
            refine pO_idxB (l := r) (j := i) c u9 rfl rfl hget ?_
            conv => whnf
            by_cases h46 : c = 46
            · refine pO_neq rfl rfl (false) (by rw [h46]; rfl) ?_
              conv => whnf
              obtain ⟨e1, e2⟩ := tw_of hi hall (.inr ⟨hin, by rw [hc, h46]; rfl⟩)
              exact RoundO.go ⟨i, ⟨rfl, rfl, rfl, rfl, rfl, rfl, rfl, rfl, rfl, rfl, trivial⟩, ⟨rfl, trivial⟩, ⟨hi, e1, e2⟩⟩
            · refine pO_neq rfl rfl (true) (u8_bne (d := 46) h46) ?_
              conv => whnf
              refine pO_idxB (l := r) (j := i) c u9 rfl rfl hget ?_
              conv => whnf
              by_cases h47 : c = 47
              · refine pO_neq rfl rfl (false) (by rw [h47]; rfl) ?_
                conv => whnf
                obtain ⟨e1, e2⟩ := tw_of hi hall (.inr ⟨hin, by rw [hc, h47]; rfl⟩)
                exact RoundO.go ⟨i, ⟨rfl, rfl, rfl, rfl, rfl, rfl, rfl, rfl, rfl, rfl, trivial⟩, ⟨rfl, trivial⟩, ⟨hi, e1, e2⟩⟩
              · refine pO_neq rfl rfl (true) (u8_bne (d := 47) h47) ?_
                conv => whnf
                refine pO_add rfl rfl (((i + 1 : Nat) : Int)) (wr64 (by omega) (by omega) (by omega)) ?_
                conv => whnf
                exact RoundO.go ⟨i + 1, ⟨rfl, rfl, rfl, rfl, rfl, rfl, rfl, rfl, rfl, rfl, trivial⟩, ⟨rfl, trivial⟩, ⟨hin, all_snoc hin hall (by rw [hc]; unfold stopC; simp [h46, h47])⟩, by omega⟩
          · refine pO_lss rfl rfl (false) (decide_eq_false (by rw [bs_size]; omega)) ?_
            conv => whnf
            obtain ⟨e1, e2⟩ := tw_of hi hall (.inl (by omega))
            exact RoundO.go ⟨i, ⟨rfl, rfl, rfl, rfl, rfl, rfl, rfl, rfl, rfl, rfl, trivial⟩, ⟨rfl, trivial⟩, ⟨hi, e1, e2⟩⟩
        · rintro i h1 ⟨hi, htw, hdw⟩
          dsimp only
          conv => whnf
          unfold parseR at hP
          rw [htw, hdw] at hP
          have hfl : (List.take i r).length = i := by rw [List.length_take]; omega
          refine pO_sliceB 0 i (List.take i r) u9 rfl rfl ⟨_, rfl⟩ (Nat.zero_le _) hi rfl ?_
          conv => whnf
          rcases Bool.eq_false_or_eq_true (allDig (List.take i r)) with hdf | hdf
          · refine CallsO.go (digits_t (List.take i r) true hdf (by omega)) ?_
            rintro _ h2 hle2 ⟨xv, rfl, hxv⟩
            conv => whnf
            replace hxv := hxv rfl
            obtain ⟨hda, hdn⟩ := all_of_allDig hdf
            have hsx := bz_numT hda
            obtain ⟨D, cd, rfl, _, _⟩ := hxv.open
            obtain ⟨xv, hxv0⟩ : ∃ xv : Value, xv = .slice D (bz (numT (List.take i r))) cd := ⟨_, rfl⟩
            rw [← hxv0] at hxv
            rcases Nat.lt_or_ge 1 i with hi1 | hi1
            · refine pO_gtr rfl rfl (true) (decide_eq_true (by omega)) ?_
              conv => whnf
              obtain ⟨c0, hc0⟩ : ∃ c0, List.getD r 0 0 = c0 := ⟨_, rfl⟩
              have hg0 : (r)[0]? = some c0 := by rw [← hc0, List.getD_eq_getElem?_getD, List.getElem?_eq_getElem (by omega)]; rfl
              have hh0 : (List.take i r).head? = some c0 := by
                rw [List.head?_eq_getElem?, List.getElem?_take, if_pos (by omega)]; exact hg0
              refine pO_idxB (l := r) (j := 0) c0 u9 rfl rfl hg0 ?_
              conv => whnf
              by_cases h48 : c0 = 48
              · refine pO_eql rfl rfl (true) (by rw [h48]; rfl) ?_
                conv => whnf
                have hok : okFront (List.take i r) = false := by
                  unfold okFront; rw [hdf, hh0, h48, hfl, decide_eq_true hi1]; rfl
                rw [hok] at hP
                have hP' : parseQ l = (0, 4) := by rw [hP, if_neg Bool.false_ne_true]; try rfl
                refine CallsO.go (rint_n (z := 0) (by decide) (by decide)) ?_
                rintro _ h90 hle90 nz
                obtain ⟨r_nz, rfl⟩ := nz.raw
                conv => whnf
                refine EndO.go ?_
                rw [hP']
                exact ⟨_, rfl, nz.zero⟩
              · refine pO_eql rfl rfl (false) (u8_ne (d := 48) h48) ?_
                conv => whnf
                have hok : okFront (List.take i r) = true := by
                  unfold okFront; rw [hdf, hh0, show (some c0 == some (48 : UInt8)) = false from beq_eq_false_iff_ne.2 (fun e => h48 (by simpa using e))]; rfl
                subst hxv0
                obtain ⟨xv, hxv0⟩ : ∃ xv : Value, xv = .slice D (bz (numT (List.take i r))) cd := ⟨_, rfl⟩
                rw [← hxv0] at hxv ⊢
                rw [hok, if_pos rfl] at hP
                rcases Nat.lt_or_ge i (List.length r) with hil | hil
                · refine pO_eql rfl rfl (false) (beq_eq_false_iff_ne.2 (by rw [bs_size]; omega)) ?_
                  conv => whnf
                  obtain ⟨c, hc⟩ : ∃ c, List.getD r i 0 = c := ⟨_, rfl⟩
                  obtain ⟨d, hd⟩ : ∃ d, List.drop (i + 1) r = d := ⟨_, rfl⟩
                  have hget : (r)[i]? = some c := by rw [← hc, List.getD_eq_getElem?_getD, List.getElem?_eq_getElem hil]; rfl
                  have hcd : List.drop i r = c :: d := by
                    rw [List.drop_eq_getElem_cons hil, hd]; congr 1
                    rw [List.getElem?_eq_getElem hil] at hget; exact Option.some.inj hget
                  have hdl : d.length = List.length r - (i + 1) := by rw [← hd, List.length_drop]
                  rw [hcd] at hP
                  dsimp only at hP
                  refine pO_add rfl rfl (((i + 1 : Nat) : Int)) (wr64 (by omega) (by omega) (by omega)) ?_
                  conv => whnf
                  refine pO_sliceB (i + 1) (List.length r) d u9 rfl ⟨_, rfl⟩ rfl (by omega) (Nat.le_refl _) (by rw [List.take_of_length_le (Nat.le_refl _)]; exact hd) ?_
                  conv => whnf
                  rcases Bool.eq_false_or_eq_true (allDig d) with hdd | hdd
                  · refine CallsO.go (digits_t d true hdd (by omega)) ?_
                    rintro _ h3 hle3 ⟨yv, rfl, hyv⟩
                    conv => whnf
                    replace hyv := hyv rfl
                    obtain ⟨hba, hbn⟩ := all_of_allDig hdd
                    have hsd := bz_numT hba
                    refine pO_idxB (l := r) (j := i) c u9 rfl rfl hget ?_
                    conv => whnf
                    by_cases h47 : c = 47
                    · subst h47
                      refine pO_eql rfl rfl (true) (rfl) ?_
                      conv => whnf
                      obtain ⟨c1, br, hd1⟩ : ∃ c1 br, d = c1 :: br := by
                        cases hd0 : d with
                        | nil => exact absurd hd0 hbn
                        | cons c1 br => exact ⟨c1, br, rfl⟩
                      have hg1 : (r)[i + 1]? = some c1 := by
                        have h1 : d[0]? = some c1 := by rw [hd1]; rfl
                        rw [← hd, List.getElem?_drop] at h1; exact h1
                      refine pO_add rfl rfl (((i + 1 : Nat) : Int)) (wr64 (by omega) (by omega) (by omega)) ?_
                      conv => whnf
                      refine pO_idxB (l := r) (j := i + 1) c1 u9 rfl rfl hg1 ?_
                      conv => whnf
                      by_cases h48 : c1 = 48
                      · subst h48
                        refine pO_eql rfl rfl (true) (rfl) ?_
                        conv => whnf
                        have hno : (allDig d && !((47 : UInt8) == 47 && d.head? == some 48)) = false := by rw [hd1]; simp
                        rw [hno] at hP
                        have hP' : parseQ l = (0, 4) := by rw [hP, if_neg Bool.false_ne_true]; try rfl
                        refine CallsO.go (rint_n (z := 0) (by decide) (by decide)) ?_
                        rintro _ h90 hle90 nz
                        obtain ⟨r_nz, rfl⟩ := nz.raw
                        conv => whnf
                        refine EndO.go ?_
                        rw [hP']
                        exact ⟨_, rfl, nz.zero⟩
                      · refine pO_eql rfl rfl (false) (u8_ne (d := 48) h48) ?_
                        conv => whnf
                        have hyes : (allDig d && !((47 : UInt8) == 47 && d.head? == some 48)) = true := by
                          rw [hdd, hd1, show ((c1 :: br).head? == some 48) = false from beq_eq_false_iff_ne.2 (fun e => h48 (by simpa using e))]; rfl
                        rw [hyes, if_pos rfl] at hP
                        have hP' : parseQ l = (rat true (numT (List.take i r)) (numT d), 0) := by rw [hP]; rfl
                        have hb0 : numT d ≠ 0 := by
                          rw [hd1] at hba ⊢
                          exact numT_pos (by simp only [List.all_cons, Bool.and_eq_true] at hba; exact hba.1) h48
                        refine pO_idxB (l := r) (j := i) 47 u9 rfl rfl hget ?_
                        conv => whnf
                        refine pO_eql rfl rfl (true) (rfl) ?_
                        conv => whnf
                        obtain ⟨E, ce, rfl, _, _⟩ := hyv.open
                        refine CallsO.go (make_c (m := true) (k := 4 * l.length) (hxv.mono hle3) hyv hb0 (by omega) (rat_sm hb0 (numT_two hda (by omega)) (numT_two hba (by omega)))) ?_
                        rintro _ h80 hle80 nz
                        obtain ⟨r_nz, rfl⟩ := nz.raw
                        conv => whnf
                        refine EndO.go ?_
                        rw [hP']
                        exact ⟨_, rfl, nz⟩
                    · refine pO_eql rfl rfl (false) (u8_ne (d := 47) h47) ?_
                      conv => whnf
                      have hyes : (allDig d && !(c == 47 && d.head? == some 48)) = true := by
                        rw [hdd, beq_eq_false_iff_ne.2 h47]; rfl
                      rw [hyes, if_pos rfl, beq_eq_false_iff_ne.2 h47, if_neg Bool.false_ne_true] at hP
                      refine pO_idxB (l := r) (j := i) c u9 rfl rfl hget ?_
                      conv => whnf
                      refine pO_eql rfl rfl (false) (u8_ne (d := 47) h47) ?_
                      conv => whnf
                      refine eO_lits [.int .i64 1] u31 s3 z3 (by decide) rfl rfl (fun v hv => by rw [List.mem_singleton.1 hv]; rfl) fun g2 hg2 => ?_
                      conv => whnf
                      refine pO_add rfl rfl (((i + 1 : Nat) : Int)) (wr64 (by omega) (by omega) (by omega)) ?_
                      conv => whnf
                      refine LoopV.by (α := Value × Nat) (fun y => [(0, .v (.string (bs r))), (2, .p 2 0), (3, .v (.int .i64 0)), (4, .v (.bool true)), (6, .v xv), (8, .v yv), (9, .v y.1), (10, .v (.int .i64 ((i + 1 + y.2 : Nat) : Int)))]) (fun _ => [(2, [.bool false, .slice none 0 0, .slice none 0 0])])
                        (fun y h' => Bg h' xv (numT (List.take i r)) ∧ Bg h' yv (numT d) ∧ Bg h' y.1 (10 ^ y.2) ∧ y.2 ≤ d.length) (fun y => d.length - y.2) (.slice (some ⟨g2, 0, none⟩) 1 1, 0)
                        ⟨rfl, rfl, rfl, rfl, rfl, rfl, rfl, rfl, rfl, rfl, rfl, rfl, rfl, rfl, rfl, rfl, trivial⟩ ⟨rfl, trivial⟩ ⟨(hxv.mono hle3).mono (Le.upd hg2), hyv.mono (Le.upd hg2), bg_one, Nat.zero_le _⟩ ?_
                      rintro ⟨tv, j⟩ h5 ⟨hxv, hyv, htv, hj⟩
                      dsimp only at hxv hyv htv hj
                      dsimp only
                      have hbt := bz_tens 1 j
                      rw [Nat.one_mul, bz_1] at hbt
                      conv => whnf
                      rcases Nat.lt_or_ge j d.length with hjd | hjd
                      · refine pO_lss rfl rfl (true) (decide_eq_true (by rw [bs_size]; omega)) ?_
                        conv => whnf
                        refine eO_lits [.int .i64 10] u31 s3 z3 (by decide) rfl rfl (fun v hv => by rw [List.mem_singleton.1 hv]; rfl) fun g4 hg4 => ?_
                        conv => whnf
                        refine CallsO.go (times_c (htv.mono (Le.upd hg4)) bg_ten (by rw [bz_ten]; omega)) ?_
                        rintro v5 h6 hle6 hv5
                        conv => whnf
                        have hle9 := (Le.upd (o := .cells (List.flatMap (fun v => v.cells.toList) [Value.int .i64 10]).toArray 3 (0, 0)) hg4).trans hle6
                        refine pO_add rfl rfl (((i + 1 + (j + 1) : Nat) : Int)) (wr64 (by omega) (by omega) (by omega)) ?_
                        conv => whnf
                        exact RoundO.go ⟨(v5, j + 1), ⟨rfl, rfl, rfl, rfl, rfl, rfl, rfl, rfl, rfl, rfl, rfl, rfl, rfl, rfl, rfl, rfl, trivial⟩, ⟨rfl, trivial⟩, ⟨hxv.mono hle9, hyv.mono hle9, by dsimp only; rw [Nat.pow_succ]; exact hv5, hjd⟩, by dsimp only; omega⟩
                      · refine pO_lss rfl rfl (false) (decide_eq_false (by rw [bs_size]; omega)) ?_
                        conv => whnf
                        obtain rfl : j = d.length := by omega
                        have hbm := bz_mul (numT (List.take i r)) (10 ^ d.length)
                        have hfa : (List.take i r ++ d).all isDig = true := by rw [List.all_append, hda, hba]; rfl
                        have hfl : (List.take i r ++ d).length ≤ l.length := by rw [List.length_append]; omega
                        have hnn : numT (List.take i r) * 10 ^ d.length + numT d = numT (List.take i r ++ d) := (numT_append _ _).symm
                        have ht0 : 10 ^ d.length ≠ 0 := Nat.ne_of_gt (Nat.pow_pos (by decide))
                        have hbs := bz_numT hfa
                        have hP' : parseQ l = (rat true (numT (List.take i r) * 10 ^ d.length + numT d) (10 ^ d.length), 0) := by rw [hP]
                        refine CallsO.go (times_c hxv htv (by omega)) ?_
                        rintro v5 h6 hle6 hv5
                        conv => whnf
                        refine CallsO.go (plus_c hv5 (hyv.mono hle6) (by omega)) ?_
                        rintro v6 h7 hle7 hv6
                        conv => whnf
                        refine CallsO.go (make_c (m := true) (k := 4 * l.length) hv6 ((htv.mono hle6).mono hle7) ht0 (by rw [hnn]; omega) (rat_sm ht0 (by rw [hnn]; exact numT_two hfa hfl) (Nat.le_trans (ten_le _) (Nat.pow_le_pow_right (by decide) (by omega))))) ?_
                        rintro _ h80 hle80 nz
                        obtain ⟨r_nz, rfl⟩ := nz.raw
                        conv => whnf
                        refine EndO.go ?_
                        rw [hP']
                        exact ⟨_, rfl, nz⟩
                  · refine CallsO.go (digits_t d false hdd (by omega)) ?_
                    rintro _ h3 hle3 ⟨yv, rfl, hyv⟩
                    conv => whnf
                    rw [hdd, Bool.false_and, if_neg Bool.false_ne_true] at hP
                    have hP' : parseQ l = (0, 4) := hP
                    refine CallsO.go (rint_n (z := 0) (by decide) (by decide)) ?_
                    rintro _ h90 hle90 nz
                    obtain ⟨r_nz, rfl⟩ := nz.raw
                    conv => whnf
                    refine EndO.go ?_
                    rw [hP']
                    exact ⟨_, rfl, nz.zero⟩
                · obtain rfl : i = List.length r := by omega
                  refine pO_eql rfl rfl (true) (beq_iff_eq.2 (by rw [bs_size])) ?_
                  conv => whnf
                  rw [List.drop_of_length_le (Nat.le_refl _)] at hP
                  dsimp only at hP
                  refine eO_lits [.int .i64 1] u31 s3 z3 (by decide) rfl rfl (fun v hv => by rw [List.mem_singleton.1 hv]; rfl) fun g2 hg2 => ?_
                  conv => whnf
                  refine CallsO.go (make_c (m := true) (k := 4 * l.length) (hxv.mono (Le.upd hg2)) bg_one (by decide) (by rw [bz_1]; omega) (rat_sm (by decide) (numT_two hda (by omega)) Nat.one_le_two_pow)) ?_
                  rintro _ h80 hle80 nz
                  obtain ⟨r_nz, rfl⟩ := nz.raw
                  conv => whnf
                  refine EndO.go ?_
                  rw [hP]
                  exact ⟨_, rfl, nz⟩
            · refine pO_gtr rfl rfl (false) (decide_eq_false (by omega)) ?_
              conv => whnf
              have hok : okFront (List.take i r) = true := by
                unfold okFront; rw [hdf, hfl, decide_eq_false (by omega), Bool.and_false]; rfl
              rw [← hxv0]
              rw [hok, if_pos rfl] at hP
              rcases Nat.lt_or_ge i (List.length r) with hil | hil
              · refine pO_eql rfl rfl (false) (beq_eq_false_iff_ne.2 (by rw [bs_size]; omega)) ?_
                conv => whnf
                obtain ⟨c, hc⟩ : ∃ c, List.getD r i 0 = c := ⟨_, rfl⟩
                obtain ⟨d, hd⟩ : ∃ d, List.drop (i + 1) r = d := ⟨_, rfl⟩
                have hget : (r)[i]? = some c := by rw [← hc, List.getD_eq_getElem?_getD, List.getElem?_eq_getElem hil]; rfl
                have hcd : List.drop i r = c :: d := by
                  rw [List.drop_eq_getElem_cons hil, hd]; congr 1
                  rw [List.getElem?_eq_getElem hil] at hget; exact Option.some.inj hget
                have hdl : d.length = List.length r - (i + 1) := by rw [← hd, List.length_drop]
                rw [hcd] at hP
                dsimp only at hP
                refine pO_add rfl rfl (((i + 1 : Nat) : Int)) (wr64 (by omega) (by omega) (by omega)) ?_
                conv => whnf
                refine pO_sliceB (i + 1) (List.length r) d u9 rfl ⟨_, rfl⟩ rfl (by omega) (Nat.le_refl _) (by rw [List.take_of_length_le (Nat.le_refl _)]; exact hd) ?_
                conv => whnf
                rcases Bool.eq_false_or_eq_true (allDig d) with hdd | hdd
                · refine CallsO.go (digits_t d true hdd (by omega)) ?_
                  rintro _ h3 hle3 ⟨yv, rfl, hyv⟩
                  conv => whnf
                  replace hyv := hyv rfl
                  obtain ⟨hba, hbn⟩ := all_of_allDig hdd
                  have hsd := bz_numT hba
                  refine pO_idxB (l := r) (j := i) c u9 rfl rfl hget ?_
                  conv => whnf
                  by_cases h47 : c = 47
                  · subst h47
                    refine pO_eql rfl rfl (true) (rfl) ?_
                    conv => whnf
                    obtain ⟨c1, br, hd1⟩ : ∃ c1 br, d = c1 :: br := by
                      cases hd0 : d with
                      | nil => exact absurd hd0 hbn
                      | cons c1 br => exact ⟨c1, br, rfl⟩
                    have hg1 : (r)[i + 1]? = some c1 := by
                      have h1 : d[0]? = some c1 := by rw [hd1]; rfl
                      rw [← hd, List.getElem?_drop] at h1; exact h1
                    refine pO_add rfl rfl (((i + 1 : Nat) : Int)) (wr64 (by omega) (by omega) (by omega)) ?_
                    conv => whnf
                    refine pO_idxB (l := r) (j := i + 1) c1 u9 rfl rfl hg1 ?_
                    conv => whnf
                    by_cases h48 : c1 = 48
                    · subst h48
                      refine pO_eql rfl rfl (true) (rfl) ?_
                      conv => whnf
                      have hno : (allDig d && !((47 : UInt8) == 47 && d.head? == some 48)) = false := by rw [hd1]; simp
                      rw [hno] at hP
                      have hP' : parseQ l = (0, 4) := by rw [hP, if_neg Bool.false_ne_true]; try rfl
                      refine CallsO.go (rint_n (z := 0) (by decide) (by decide)) ?_
                      rintro _ h90 hle90 nz
                      obtain ⟨r_nz, rfl⟩ := nz.raw
                      conv => whnf
                      refine EndO.go ?_
                      rw [hP']
                      exact ⟨_, rfl, nz.zero⟩
                    · refine pO_eql rfl rfl (false) (u8_ne (d := 48) h48) ?_
                      conv => whnf
                      have hyes : (allDig d && !((47 : UInt8) == 47 && d.head? == some 48)) = true := by
                        rw [hdd, hd1, show ((c1 :: br).head? == some 48) = false from beq_eq_false_iff_ne.2 (fun e => h48 (by simpa using e))]; rfl
                      rw [hyes, if_pos rfl] at hP
                      have hP' : parseQ l = (rat true (numT (List.take i r)) (numT d), 0) := by rw [hP]; rfl
                      have hb0 : numT d ≠ 0 := by
                        rw [hd1] at hba ⊢
                        exact numT_pos (by simp only [List.all_cons, Bool.and_eq_true] at hba; exact hba.1) h48
                      refine pO_idxB (l := r) (j := i) 47 u9 rfl rfl hget ?_
                      conv => whnf
                      refine pO_eql rfl rfl (true) (rfl) ?_
                      conv => whnf
                      obtain ⟨E, ce, rfl, _, _⟩ := hyv.open
                      refine CallsO.go (make_c (m := true) (k := 4 * l.length) (hxv.mono hle3) hyv hb0 (by omega) (rat_sm hb0 (numT_two hda (by omega)) (numT_two hba (by omega)))) ?_
                      rintro _ h80 hle80 nz
                      obtain ⟨r_nz, rfl⟩ := nz.raw
                      conv => whnf
                      refine EndO.go ?_
                      rw [hP']
                      exact ⟨_, rfl, nz⟩
                  · refine pO_eql rfl rfl (false) (u8_ne (d := 47) h47) ?_
                    conv => whnf
                    have hyes : (allDig d && !(c == 47 && d.head? == some 48)) = true := by
                      rw [hdd, beq_eq_false_iff_ne.2 h47]; rfl
                    rw [hyes, if_pos rfl, beq_eq_false_iff_ne.2 h47, if_neg Bool.false_ne_true] at hP
                    refine pO_idxB (l := r) (j := i) c u9 rfl rfl hget ?_
                    conv => whnf
                    refine pO_eql rfl rfl (false) (u8_ne (d := 47) h47) ?_
                    conv => whnf
                    refine eO_lits [.int .i64 1] u31 s3 z3 (by decide) rfl rfl (fun v hv => by rw [List.mem_singleton.1 hv]; rfl) fun g2 hg2 => ?_
                    conv => whnf
                    refine pO_add rfl rfl (((i + 1 : Nat) : Int)) (wr64 (by omega) (by omega) (by omega)) ?_
                    conv => whnf
                    refine LoopV.by (α := Value × Nat) (fun y => [(0, .v (.string (bs r))), (2, .p 2 0), (3, .v (.int .i64 0)), (4, .v (.bool true)), (6, .v xv), (8, .v yv), (9, .v y.1), (10, .v (.int .i64 ((i + 1 + y.2 : Nat) : Int)))]) (fun _ => [(2, [.bool false, .slice none 0 0, .slice none 0 0])])
                      (fun y h' => Bg h' xv (numT (List.take i r)) ∧ Bg h' yv (numT d) ∧ Bg h' y.1 (10 ^ y.2) ∧ y.2 ≤ d.length) (fun y => d.length - y.2) (.slice (some ⟨g2, 0, none⟩) 1 1, 0)
                      ⟨rfl, rfl, rfl, rfl, rfl, rfl, rfl, rfl, rfl, rfl, rfl, rfl, rfl, rfl, rfl, rfl, trivial⟩ ⟨rfl, trivial⟩ ⟨(hxv.mono hle3).mono (Le.upd hg2), hyv.mono (Le.upd hg2), bg_one, Nat.zero_le _⟩ ?_
                    rintro ⟨tv, j⟩ h5 ⟨hxv, hyv, htv, hj⟩
                    dsimp only at hxv hyv htv hj
                    dsimp only
                    have hbt := bz_tens 1 j
                    rw [Nat.one_mul, bz_1] at hbt
                    conv => whnf
                    rcases Nat.lt_or_ge j d.length with hjd | hjd
                    · refine pO_lss rfl rfl (true) (decide_eq_true (by rw [bs_size]; omega)) ?_
                      conv => whnf
                      refine eO_lits [.int .i64 10] u31 s3 z3 (by decide) rfl rfl (fun v hv => by rw [List.mem_singleton.1 hv]; rfl) fun g4 hg4 => ?_
                      conv => whnf
                      refine CallsO.go (times_c (htv.mono (Le.upd hg4)) bg_ten (by rw [bz_ten]; omega)) ?_
                      rintro v5 h6 hle6 hv5
                      conv => whnf
                      have hle9 := (Le.upd (o := .cells (List.flatMap (fun v => v.cells.toList) [Value.int .i64 10]).toArray 3 (0, 0)) hg4).trans hle6
                      refine pO_add rfl rfl (((i + 1 + (j + 1) : Nat) : Int)) (wr64 (by omega) (by omega) (by omega)) ?_
                      conv => whnf
                      exact RoundO.go ⟨(v5, j + 1), ⟨rfl, rfl, rfl, rfl, rfl, rfl, rfl, rfl, rfl, rfl, rfl, rfl, rfl, rfl, rfl, rfl, trivial⟩, ⟨rfl, trivial⟩, ⟨hxv.mono hle9, hyv.mono hle9, by dsimp only; rw [Nat.pow_succ]; exact hv5, hjd⟩, by dsimp only; omega⟩
                    · refine pO_lss rfl rfl (false) (decide_eq_false (by rw [bs_size]; omega)) ?_
                      conv => whnf
                      obtain rfl : j = d.length := by omega
                      have hbm := bz_mul (numT (List.take i r)) (10 ^ d.length)
                      have hfa : (List.take i r ++ d).all isDig = true := by rw [List.all_append, hda, hba]; rfl
                      have hfl : (List.take i r ++ d).length ≤ l.length := by rw [List.length_append]; omega
                      have hnn : numT (List.take i r) * 10 ^ d.length + numT d = numT (List.take i r ++ d) := (numT_append _ _).symm
                      have ht0 : 10 ^ d.length ≠ 0 := Nat.ne_of_gt (Nat.pow_pos (by decide))
                      have hbs := bz_numT hfa
                      have hP' : parseQ l = (rat true (numT (List.take i r) * 10 ^ d.length + numT d) (10 ^ d.length), 0) := by rw [hP]
                      refine CallsO.go (times_c hxv htv (by omega)) ?_
                      rintro v5 h6 hle6 hv5
                      conv => whnf
                      refine CallsO.go (plus_c hv5 (hyv.mono hle6) (by omega)) ?_
                      rintro v6 h7 hle7 hv6
                      conv => whnf
                      refine CallsO.go (make_c (m := true) (k := 4 * l.length) hv6 ((htv.mono hle6).mono hle7) ht0 (by rw [hnn]; omega) (rat_sm ht0 (by rw [hnn]; exact numT_two hfa hfl) (Nat.le_trans (ten_le _) (Nat.pow_le_pow_right (by decide) (by omega))))) ?_
                      rintro _ h80 hle80 nz
                      obtain ⟨r_nz, rfl⟩ := nz.raw
                      conv => whnf
                      refine EndO.go ?_
                      rw [hP']
                      exact ⟨_, rfl, nz⟩
                · refine CallsO.go (digits_t d false hdd (by omega)) ?_
                  rintro _ h3 hle3 ⟨yv, rfl, hyv⟩
                  conv => whnf
                  rw [hdd, Bool.false_and, if_neg Bool.false_ne_true] at hP
                  have hP' : parseQ l = (0, 4) := hP
                  refine CallsO.go (rint_n (z := 0) (by decide) (by decide)) ?_
                  rintro _ h90 hle90 nz
                  obtain ⟨r_nz, rfl⟩ := nz.raw
                  conv => whnf
                  refine EndO.go ?_
                  rw [hP']
                  exact ⟨_, rfl, nz.zero⟩
              · obtain rfl : i = List.length r := by omega
                refine pO_eql rfl rfl (true) (beq_iff_eq.2 (by rw [bs_size])) ?_
                conv => whnf
                rw [List.drop_of_length_le (Nat.le_refl _)] at hP
                dsimp only at hP
                refine eO_lits [.int .i64 1] u31 s3 z3 (by decide) rfl rfl (fun v hv => by rw [List.mem_singleton.1 hv]; rfl) fun g2 hg2 => ?_
                conv => whnf
                refine CallsO.go (make_c (m := true) (k := 4 * l.length) (hxv.mono (Le.upd hg2)) bg_one (by decide) (by rw [bz_1]; omega) (rat_sm (by decide) (numT_two hda (by omega)) Nat.one_le_two_pow)) ?_
                rintro _ h80 hle80 nz
                obtain ⟨r_nz, rfl⟩ := nz.raw
                conv => whnf
                refine EndO.go ?_
                rw [hP]
                exact ⟨_, rfl, nz⟩
          · refine CallsO.go (digits_t (List.take i r) false hdf (by omega)) ?_
            rintro _ h2 hle2 ⟨xv, rfl, hxv⟩
            conv => whnf
            have hok : okFront (List.take i r) = false := by unfold okFront; rw [hdf]; rfl
            rw [hok] at hP
            have hP' : parseQ l = (0, 4) := by rw [hP, if_neg Bool.false_ne_true]; try rfl
            refine CallsO.go (rint_n (z := 0) (by decide) (by decide)) ?_
            rintro _ h90 hle90 nz
            obtain ⟨r_nz, rfl⟩ := nz.raw
            conv => whnf
            refine EndO.go ?_
            rw [hP']
            exact ⟨_, rfl, nz.zero⟩
      · refine pO_eql rfl rfl (false) (u8_ne (d := 45) h45) ?_
        conv => whnf
        have hh : ((c :: r).head? == some 45) = false := beq_eq_false_iff_ne.2 (fun e => h45 (by simpa using e))
        rw [hh, if_neg Bool.false_ne_true] at hP
        obtain ⟨l, hl0⟩ : ∃ l : List UInt8, l = c :: r := ⟨_, rfl⟩
        rw [← hl0] at hP h2000 ⊢
        have hrl : l.length ≤ l.length := Nat.le_refl _
        refine LoopV.cut (α := Nat) (β := Nat) (fun i => [(0, .v (.string (bs l))), (2, .p 2 0), (3, .v (.int .i64 0)), (4, .v (.bool false)), (5, .v (.int .i64 (i : Nat)))]) (fun _ => [(2, [.bool false, .slice none 0 0, .slice none 0 0])])
          (fun i h' => i ≤ List.length l ∧ (List.take i l).all stopC = true) (fun i => List.length l - i) 0 0 (fun i => [(0, .v (.string (bs l))), (2, .p 2 0), (3, .v (.int .i64 0)), (4, .v (.bool false)), (5, .v (.int .i64 (i : Nat)))]) (fun _ => [(2, [.bool false, .slice none 0 0, .slice none 0 0])])
          (fun i h' => i ≤ List.length l ∧ List.takeWhile stopC l = List.take i l ∧ List.dropWhile stopC l = List.drop i l)
          ⟨rfl, rfl, rfl, rfl, rfl, rfl, rfl, rfl, rfl, rfl, trivial⟩ ⟨rfl, trivial⟩ ⟨Nat.zero_le _, rfl⟩ ?_ ?_
        · rintro i h1 ⟨hi, hall⟩
          dsimp only
          conv => whnf
          rcases Nat.lt_or_ge i (List.length l) with hin | hin
          · refine pO_lss rfl rfl (true) (decide_eq_true (by rw [bs_size]; omega)) ?_
            conv => whnf
            obtain ⟨c, hc⟩ : ∃ c, List.getD l i 0 = c := ⟨_, rfl⟩
            have hget : (l)[i]? = some c := by rw [← hc, List.getD_eq_getElem?_getD, List.getElem?_eq_getElem hin]; rfl
            refine pO_idxB (l := l) (j := i) c u9 rfl rfl hget ?_
            conv => whnf
            by_cases h46 : c = 46
            · refine pO_neq rfl rfl (false) (by rw [h46]; rfl) ?_
              conv => whnf
              obtain ⟨e1, e2⟩ := tw_of hi hall (.inr ⟨hin, by rw [hc, h46]; rfl⟩)
              exact RoundO.go ⟨i, ⟨rfl, rfl, rfl, rfl, rfl, rfl, rfl, rfl, rfl, rfl, trivial⟩, ⟨rfl, trivial⟩, ⟨hi, e1, e2⟩⟩
            · refine pO_neq rfl rfl (true) (u8_bne (d := 46) h46) ?_
              conv => whnf
              refine pO_idxB (l := l) (j := i) c u9 rfl rfl hget ?_
              conv => whnf
              by_cases h47 : c = 47
              · refine pO_neq rfl rfl (false) (by rw [h47]; rfl) ?_
                conv => whnf
                obtain ⟨e1, e2⟩ := tw_of hi hall (.inr ⟨hin, by rw [hc, h47]; rfl⟩)
                exact RoundO.go ⟨i, ⟨rfl, rfl, rfl, rfl, rfl, rfl, rfl, rfl, rfl, rfl, trivial⟩, ⟨rfl, trivial⟩, ⟨hi, e1, e2⟩⟩
              · refine pO_neq rfl rfl (true) (u8_bne (d := 47) h47) ?_
                conv => whnf
                refine pO_add rfl rfl (((i + 1 : Nat) : Int)) (wr64 (by omega) (by omega) (by omega)) ?_
                conv => whnf
                exact RoundO.go ⟨i + 1, ⟨rfl, rfl, rfl, rfl, rfl, rfl, rfl, rfl, rfl, rfl, trivial⟩, ⟨rfl, trivial⟩, ⟨hin, all_snoc hin hall (by rw [hc]; unfold stopC; simp [h46, h47])⟩, by omega⟩
          · refine pO_lss rfl rfl (false) (decide_eq_false (by rw [bs_size]; omega)) ?_
            conv => whnf
            obtain ⟨e1, e2⟩ := tw_of hi hall (.inl (by omega))
            exact RoundO.go ⟨i, ⟨rfl, rfl, rfl, rfl, rfl, rfl, rfl, rfl, rfl, rfl, trivial⟩, ⟨rfl, trivial⟩, ⟨hi, e1, e2⟩⟩
        · rintro i h1 ⟨hi, htw, hdw⟩
          dsimp only
          conv => whnf
          unfold parseR at hP
          rw [htw, hdw] at hP
          have hfl : (List.take i l).length = i := by rw [List.length_take]; omega
          refine pO_sliceB 0 i (List.take i l) u9 rfl rfl ⟨_, rfl⟩ (Nat.zero_le _) hi rfl ?_
          conv => whnf
          rcases Bool.eq_false_or_eq_true (allDig (List.take i l)) with hdf | hdf
          · refine CallsO.go (digits_t (List.take i l) true hdf (by omega)) ?_
            rintro _ h2 hle2 ⟨xv, rfl, hxv⟩
            conv => whnf
            replace hxv := hxv rfl
            obtain ⟨hda, hdn⟩ := all_of_allDig hdf
            have hsx := bz_numT hda
            obtain ⟨D, cd, rfl, _, _⟩ := hxv.open
            obtain ⟨xv, hxv0⟩ : ∃ xv : Value, xv = .slice D (bz (numT (List.take i l))) cd := ⟨_, rfl⟩
            rw [← hxv0] at hxv
            rcases Nat.lt_or_ge 1 i with hi1 | hi1
            · refine pO_gtr rfl rfl (true) (decide_eq_true (by omega)) ?_
              conv => whnf
              obtain ⟨c0, hc0⟩ : ∃ c0, List.getD l 0 0 = c0 := ⟨_, rfl⟩
              have hg0 : (l)[0]? = some c0 := by rw [← hc0, List.getD_eq_getElem?_getD, List.getElem?_eq_getElem (by omega)]; rfl
              have hh0 : (List.take i l).head? = some c0 := by
                rw [List.head?_eq_getElem?, List.getElem?_take, if_pos (by omega)]; exact hg0
              refine pO_idxB (l := l) (j := 0) c0 u9 rfl rfl hg0 ?_
              conv => whnf
              by_cases h48 : c0 = 48
              · refine pO_eql rfl rfl (true) (by rw [h48]; rfl) ?_
                conv => whnf
                have hok : okFront (List.take i l) = false := by
                  unfold okFront; rw [hdf, hh0, h48, hfl, decide_eq_true hi1]; rfl
                rw [hok] at hP
                have hP' : parseQ l = (0, 4) := by rw [hP, if_neg Bool.false_ne_true]; try rfl
                refine CallsO.go (rint_n (z := 0) (by decide) (by decide)) ?_
                rintro _ h90 hle90 nz
                obtain ⟨r_nz, rfl⟩ := nz.raw
                conv => whnf
                refine EndO.go ?_
                rw [hP']
                exact ⟨_, rfl, nz.zero⟩
              · refine pO_eql rfl rfl (false) (u8_ne (d := 48) h48) ?_
                conv => whnf
                have hok : okFront (List.take i l) = true := by
                  unfold okFront; rw [hdf, hh0, show (some c0 == some (48 : UInt8)) = false from beq_eq_false_iff_ne.2 (fun e => h48 (by simpa using e))]; rfl
                subst hxv0
                obtain ⟨xv, hxv0⟩ : ∃ xv : Value, xv = .slice D (bz (numT (List.take i l))) cd := ⟨_, rfl⟩
                rw [← hxv0] at hxv ⊢
                rw [hok, if_pos rfl] at hP
                rcases Nat.lt_or_ge i (List.length l) with hil | hil
                · refine pO_eql rfl rfl (false) (beq_eq_false_iff_ne.2 (by rw [bs_size]; omega)) ?_
                  conv => whnf
                  obtain ⟨c, hc⟩ : ∃ c, List.getD l i 0 = c := ⟨_, rfl⟩
                  obtain ⟨d, hd⟩ : ∃ d, List.drop (i + 1) l = d := ⟨_, rfl⟩
                  have hget : (l)[i]? = some c := by rw [← hc, List.getD_eq_getElem?_getD, List.getElem?_eq_getElem hil]; rfl
                  have hcd : List.drop i l = c :: d := by
                    rw [List.drop_eq_getElem_cons hil, hd]; congr 1
                    rw [List.getElem?_eq_getElem hil] at hget; exact Option.some.inj hget
                  have hdl : d.length = List.length l - (i + 1) := by rw [← hd, List.length_drop]
                  rw [hcd] at hP
                  dsimp only at hP
                  refine pO_add rfl rfl (((i + 1 : Nat) : Int)) (wr64 (by omega) (by omega) (by omega)) ?_
                  conv => whnf
                  refine pO_sliceB (i + 1) (List.length l) d u9 rfl ⟨_, rfl⟩ rfl (by omega) (Nat.le_refl _) (by rw [List.take_of_length_le (Nat.le_refl _)]; exact hd) ?_
                  conv => whnf
                  rcases Bool.eq_false_or_eq_true (allDig d) with hdd | hdd
                  · refine CallsO.go (digits_t d true hdd (by omega)) ?_
                    rintro _ h3 hle3 ⟨yv, rfl, hyv⟩
                    conv => whnf
                    replace hyv := hyv rfl
                    obtain ⟨hba, hbn⟩ := all_of_allDig hdd
                    have hsd := bz_numT hba
                    refine pO_idxB (l := l) (j := i) c u9 rfl rfl hget ?_
                    conv => whnf
                    by_cases h47 : c = 47
                    · subst h47
                      refine pO_eql rfl rfl (true) (rfl) ?_
                      conv => whnf
                      obtain ⟨c1, br, hd1⟩ : ∃ c1 br, d = c1 :: br := by
                        cases hd0 : d with
                        | nil => exact absurd hd0 hbn
                        | cons c1 br => exact ⟨c1, br, rfl⟩
                      have hg1 : (l)[i + 1]? = some c1 := by
                        have h1 : d[0]? = some c1 := by rw [hd1]; rfl
                        rw [← hd, List.getElem?_drop] at h1; exact h1
                      refine pO_add rfl rfl (((i + 1 : Nat) : Int)) (wr64 (by omega) (by omega) (by omega)) ?_
                      conv => whnf
                      refine pO_idxB (l := l) (j := i + 1) c1 u9 rfl rfl hg1 ?_
                      conv => whnf
                      by_cases h48 : c1 = 48
                      · subst h48
                        refine pO_eql rfl rfl (true) (rfl) ?_
                        conv => whnf
                        have hno : (allDig d && !((47 : UInt8) == 47 && d.head? == some 48)) = false := by rw [hd1]; simp
                        rw [hno] at hP
                        have hP' : parseQ l = (0, 4) := by rw [hP, if_neg Bool.false_ne_true]; try rfl
                        refine CallsO.go (rint_n (z := 0) (by decide) (by decide)) ?_
                        rintro _ h90 hle90 nz
                        obtain ⟨r_nz, rfl⟩ := nz.raw
                        conv => whnf
                        refine EndO.go ?_
                        rw [hP']
                        exact ⟨_, rfl, nz.zero⟩
                      · refine pO_eql rfl rfl (false) (u8_ne (d := 48) h48) ?_
                        conv => whnf
                        have hyes : (allDig d && !((47 : UInt8) == 47 && d.head? == some 48)) = true := by
                          rw [hdd, hd1, show ((c1 :: br).head? == some 48) = false from beq_eq_false_iff_ne.2 (fun e => h48 (by simpa using e))]; rfl
                        rw [hyes, if_pos rfl] at hP
                        have hP' : parseQ l = (rat false (numT (List.take i l)) (numT d), 0) := by rw [hP]; rfl
                        have hb0 : numT d ≠ 0 := by
                          rw [hd1] at hba ⊢
                          exact numT_pos (by simp only [List.all_cons, Bool.and_eq_true] at hba; exact hba.1) h48
                        refine pO_idxB (l := l) (j := i) 47 u9 rfl rfl hget ?_
                        conv => whnf
                        refine pO_eql rfl rfl (true) (rfl) ?_
                        conv => whnf
                        obtain ⟨E, ce, rfl, _, _⟩ := hyv.open
                        refine CallsO.go (make_c (m := false) (k := 4 * l.length) (hxv.mono hle3) hyv hb0 (by omega) (rat_sm hb0 (numT_two hda (by omega)) (numT_two hba (by omega)))) ?_
                        rintro _ h80 hle80 nz
                        obtain ⟨r_nz, rfl⟩ := nz.raw
                        conv => whnf
                        refine EndO.go ?_
                        rw [hP']
                        exact ⟨_, rfl, nz⟩
                    · refine pO_eql rfl rfl (false) (u8_ne (d := 47) h47) ?_
                      conv => whnf
                      have hyes : (allDig d && !(c == 47 && d.head? == some 48)) = true := by
                        rw [hdd, beq_eq_false_iff_ne.2 h47]; rfl
                      rw [hyes, if_pos rfl, beq_eq_false_iff_ne.2 h47, if_neg Bool.false_ne_true] at hP
                      refine pO_idxB (l := l) (j := i) c u9 rfl rfl hget ?_
                      conv => whnf
                      refine pO_eql rfl rfl (false) (u8_ne (d := 47) h47) ?_
                      conv => whnf
                      refine eO_lits [.int .i64 1] u31 s3 z3 (by decide) rfl rfl (fun v hv => by rw [List.mem_singleton.1 hv]; rfl) fun g2 hg2 => ?_
                      conv => whnf
                      refine pO_add rfl rfl (((i + 1 : Nat) : Int)) (wr64 (by omega) (by omega) (by omega)) ?_
                      conv => whnf
                      refine LoopV.by (α := Value × Nat) (fun y => [(0, .v (.string (bs l))), (2, .p 2 0), (3, .v (.int .i64 0)), (4, .v (.bool false)), (6, .v xv), (8, .v yv), (9, .v y.1), (10, .v (.int .i64 ((i + 1 + y.2 : Nat) : Int)))]) (fun _ => [(2, [.bool false, .slice none 0 0, .slice none 0 0])])
                        (fun y h' => Bg h' xv (numT (List.take i l)) ∧ Bg h' yv (numT d) ∧ Bg h' y.1 (10 ^ y.2) ∧ y.2 ≤ d.length) (fun y => d.length - y.2) (.slice (some ⟨g2, 0, none⟩) 1 1, 0)
                        ⟨rfl, rfl, rfl, rfl, rfl, rfl, rfl, rfl, rfl, rfl, rfl, rfl, rfl, rfl, rfl, rfl, trivial⟩ ⟨rfl, trivial⟩ ⟨(hxv.mono hle3).mono (Le.upd hg2), hyv.mono (Le.upd hg2), bg_one, Nat.zero_le _⟩ ?_
                      rintro ⟨tv, j⟩ h5 ⟨hxv, hyv, htv, hj⟩
                      dsimp only at hxv hyv htv hj
                      dsimp only
                      have hbt := bz_tens 1 j
                      rw [Nat.one_mul, bz_1] at hbt
                      conv => whnf
                      rcases Nat.lt_or_ge j d.length with hjd | hjd
                      · refine pO_lss rfl rfl (true) (decide_eq_true (by rw [bs_size]; omega)) ?_
                        conv => whnf
                        refine eO_lits [.int .i64 10] u31 s3 z3 (by decide) rfl rfl (fun v hv => by rw [List.mem_singleton.1 hv]; rfl) fun g4 hg4 => ?_
                        conv => whnf
                        refine CallsO.go (times_c (htv.mono (Le.upd hg4)) bg_ten (by rw [bz_ten]; omega)) ?_
                        rintro v5 h6 hle6 hv5
                        conv => whnf
                        have hle9 := (Le.upd (o := .cells (List.flatMap (fun v => v.cells.toList) [Value.int .i64 10]).toArray 3 (0, 0)) hg4).trans hle6
                        refine pO_add rfl rfl (((i + 1 + (j + 1) : Nat) : Int)) (wr64 (by omega) (by omega) (by omega)) ?_
                        conv => whnf
                        exact RoundO.go ⟨(v5, j + 1), ⟨rfl, rfl, rfl, rfl, rfl, rfl, rfl, rfl, rfl, rfl, rfl, rfl, rfl, rfl, rfl, rfl, trivial⟩, ⟨rfl, trivial⟩, ⟨hxv.mono hle9, hyv.mono hle9, by dsimp only; rw [Nat.pow_succ]; exact hv5, hjd⟩, by dsimp only; omega⟩
                      · refine pO_lss rfl rfl (false) (decide_eq_false (by rw [bs_size]; omega)) ?_
                        conv => whnf
                        obtain rfl : j = d.length := by omega
                        have hbm := bz_mul (numT (List.take i l)) (10 ^ d.length)
                        have hfa : (List.take i l ++ d).all isDig = true := by rw [List.all_append, hda, hba]; rfl
                        have hfl : (List.take i l ++ d).length ≤ l.length := by rw [List.length_append]; omega
                        have hnn : numT (List.take i l) * 10 ^ d.length + numT d = numT (List.take i l ++ d) := (numT_append _ _).symm
                        have ht0 : 10 ^ d.length ≠ 0 := Nat.ne_of_gt (Nat.pow_pos (by decide))
                        have hbs := bz_numT hfa
                        have hP' : parseQ l = (rat false (numT (List.take i l) * 10 ^ d.length + numT d) (10 ^ d.length), 0) := by rw [hP]
                        refine CallsO.go (times_c hxv htv (by omega)) ?_
                        rintro v5 h6 hle6 hv5
                        conv => whnf
                        refine CallsO.go (plus_c hv5 (hyv.mono hle6) (by omega)) ?_
                        rintro v6 h7 hle7 hv6
                        conv => whnf
                        refine CallsO.go (make_c (m := false) (k := 4 * l.length) hv6 ((htv.mono hle6).mono hle7) ht0 (by rw [hnn]; omega) (rat_sm ht0 (by rw [hnn]; exact numT_two hfa hfl) (Nat.le_trans (ten_le _) (Nat.pow_le_pow_right (by decide) (by omega))))) ?_
                        rintro _ h80 hle80 nz
                        obtain ⟨r_nz, rfl⟩ := nz.raw
                        conv => whnf
                        refine EndO.go ?_
                        rw [hP']
                        exact ⟨_, rfl, nz⟩
                  · refine CallsO.go (digits_t d false hdd (by omega)) ?_
                    rintro _ h3 hle3 ⟨yv, rfl, hyv⟩
                    conv => whnf
                    rw [hdd, Bool.false_and, if_neg Bool.false_ne_true] at hP
                    have hP' : parseQ l = (0, 4) := hP
                    refine CallsO.go (rint_n (z := 0) (by decide) (by decide)) ?_
                    rintro _ h90 hle90 nz
                    obtain ⟨r_nz, rfl⟩ := nz.raw
                    conv => whnf
                    refine EndO.go ?_
                    rw [hP']
                    exact ⟨_, rfl, nz.zero⟩
                · obtain rfl : i = List.length l := by omega
                  refine pO_eql rfl rfl (true) (beq_iff_eq.2 (by rw [bs_size])) ?_
                  conv => whnf
                  rw [List.drop_of_length_le (Nat.le_refl _)] at hP
                  dsimp only at hP
                  refine eO_lits [.int .i64 1] u31 s3 z3 (by decide) rfl rfl (fun v hv => by rw [List.mem_singleton.1 hv]; rfl) fun g2 hg2 => ?_
                  conv => whnf
                  refine CallsO.go (make_c (m := false) (k := 4 * l.length) (hxv.mono (Le.upd hg2)) bg_one (by decide) (by rw [bz_1]; omega) (rat_sm (by decide) (numT_two hda (by omega)) Nat.one_le_two_pow)) ?_
                  rintro _ h80 hle80 nz
                  obtain ⟨r_nz, rfl⟩ := nz.raw
                  conv => whnf
                  refine EndO.go ?_
                  rw [hP]
                  exact ⟨_, rfl, nz⟩
            · refine pO_gtr rfl rfl (false) (decide_eq_false (by omega)) ?_
              conv => whnf
              have hok : okFront (List.take i l) = true := by
                unfold okFront; rw [hdf, hfl, decide_eq_false (by omega), Bool.and_false]; rfl
              rw [← hxv0]
              rw [hok, if_pos rfl] at hP
              rcases Nat.lt_or_ge i (List.length l) with hil | hil
              · refine pO_eql rfl rfl (false) (beq_eq_false_iff_ne.2 (by rw [bs_size]; omega)) ?_
                conv => whnf
                obtain ⟨c, hc⟩ : ∃ c, List.getD l i 0 = c := ⟨_, rfl⟩
                obtain ⟨d, hd⟩ : ∃ d, List.drop (i + 1) l = d := ⟨_, rfl⟩
                have hget : (l)[i]? = some c := by rw [← hc, List.getD_eq_getElem?_getD, List.getElem?_eq_getElem hil]; rfl
                have hcd : List.drop i l = c :: d := by
                  rw [List.drop_eq_getElem_cons hil, hd]; congr 1
                  rw [List.getElem?_eq_getElem hil] at hget; exact Option.some.inj hget
                have hdl : d.length = List.length l - (i + 1) := by rw [← hd, List.length_drop]
                rw [hcd] at hP
                dsimp only at hP
                refine pO_add rfl rfl (((i + 1 : Nat) : Int)) (wr64 (by omega) (by omega) (by omega)) ?_
                conv => whnf
                refine pO_sliceB (i + 1) (List.length l) d u9 rfl ⟨_, rfl⟩ rfl (by omega) (Nat.le_refl _) (by rw [List.take_of_length_le (Nat.le_refl _)]; exact hd) ?_
                conv => whnf
                rcases Bool.eq_false_or_eq_true (allDig d) with hdd | hdd
                · refine CallsO.go (digits_t d true hdd (by omega)) ?_
                  rintro _ h3 hle3 ⟨yv, rfl, hyv⟩
                  conv => whnf
                  replace hyv := hyv rfl
                  obtain ⟨hba, hbn⟩ := all_of_allDig hdd
                  have hsd := bz_numT hba
                  refine pO_idxB (l := l) (j := i) c u9 rfl rfl hget ?_
                  conv => whnf
                  by_cases h47 : c = 47
                  · subst h47
                    refine pO_eql rfl rfl (true) (rfl) ?_
                    conv => whnf
                    obtain ⟨c1, br, hd1⟩ : ∃ c1 br, d = c1 :: br := by
                      cases hd0 : d with
                      | nil => exact absurd hd0 hbn
                      | cons c1 br => exact ⟨c1, br, rfl⟩
                    have hg1 : (l)[i + 1]? = some c1 := by
                      have h1 : d[0]? = some c1 := by rw [hd1]; rfl
                      rw [← hd, List.getElem?_drop] at h1; exact h1
                    refine pO_add rfl rfl (((i + 1 : Nat) : Int)) (wr64 (by omega) (by omega) (by omega)) ?_
                    conv => whnf
                    refine pO_idxB (l := l) (j := i + 1) c1 u9 rfl rfl hg1 ?_
                    conv => whnf
                    by_cases h48 : c1 = 48
                    · subst h48
                      refine pO_eql rfl rfl (true) (rfl) ?_
                      conv => whnf
                      have hno : (allDig d && !((47 : UInt8) == 47 && d.head? == some 48)) = false := by rw [hd1]; simp
                      rw [hno] at hP
                      have hP' : parseQ l = (0, 4) := by rw [hP, if_neg Bool.false_ne_true]; try rfl
                      refine CallsO.go (rint_n (z := 0) (by decide) (by decide)) ?_
                      rintro _ h90 hle90 nz
                      obtain ⟨r_nz, rfl⟩ := nz.raw
                      conv => whnf
                      refine EndO.go ?_
                      rw [hP']
                      exact ⟨_, rfl, nz.zero⟩
                    · refine pO_eql rfl rfl (false) (u8_ne (d := 48) h48) ?_
                      conv => whnf
                      have hyes : (allDig d && !((47 : UInt8) == 47 && d.head? == some 48)) = true := by
                        rw [hdd, hd1, show ((c1 :: br).head? == some 48) = false from beq_eq_false_iff_ne.2 (fun e => h48 (by simpa using e))]; rfl
                      rw [hyes, if_pos rfl] at hP
                      have hP' : parseQ l = (rat false (numT (List.take i l)) (numT d), 0) := by rw [hP]; rfl
                      have hb0 : numT d ≠ 0 := by
                        rw [hd1] at hba ⊢
                        exact numT_pos (by simp only [List.all_cons, Bool.and_eq_true] at hba; exact hba.1) h48
                      refine pO_idxB (l := l) (j := i) 47 u9 rfl rfl hget ?_
                      conv => whnf
                      refine pO_eql rfl rfl (true) (rfl) ?_
                      conv => whnf
                      obtain ⟨E, ce, rfl, _, _⟩ := hyv.open
                      refine CallsO.go (make_c (m := false) (k := 4 * l.length) (hxv.mono hle3) hyv hb0 (by omega) (rat_sm hb0 (numT_two hda (by omega)) (numT_two hba (by omega)))) ?_
                      rintro _ h80 hle80 nz
                      obtain ⟨r_nz, rfl⟩ := nz.raw
                      conv => whnf
                      refine EndO.go ?_
                      rw [hP']
                      exact ⟨_, rfl, nz⟩
                  · refine pO_eql rfl rfl (false) (u8_ne (d := 47) h47) ?_
                    conv => whnf
                    have hyes : (allDig d && !(c == 47 && d.head? == some 48)) = true := by
                      rw [hdd, beq_eq_false_iff_ne.2 h47]; rfl
                    rw [hyes, if_pos rfl, beq_eq_false_iff_ne.2 h47, if_neg Bool.false_ne_true] at hP
                    refine pO_idxB (l := l) (j := i) c u9 rfl rfl hget ?_
                    conv => whnf
                    refine pO_eql rfl rfl (false) (u8_ne (d := 47) h47) ?_
                    conv => whnf
                    refine eO_lits [.int .i64 1] u31 s3 z3 (by decide) rfl rfl (fun v hv => by rw [List.mem_singleton.1 hv]; rfl) fun g2 hg2 => ?_
                    conv => whnf
                    refine pO_add rfl rfl (((i + 1 : Nat) : Int)) (wr64 (by omega) (by omega) (by omega)) ?_
                    conv => whnf
                    refine LoopV.by (α := Value × Nat) (fun y => [(0, .v (.string (bs l))), (2, .p 2 0), (3, .v (.int .i64 0)), (4, .v (.bool false)), (6, .v xv), (8, .v yv), (9, .v y.1), (10, .v (.int .i64 ((i + 1 + y.2 : Nat) : Int)))]) (fun _ => [(2, [.bool false, .slice none 0 0, .slice none 0 0])])
                      (fun y h' => Bg h' xv (numT (List.take i l)) ∧ Bg h' yv (numT d) ∧ Bg h' y.1 (10 ^ y.2) ∧ y.2 ≤ d.length) (fun y => d.length - y.2) (.slice (some ⟨g2, 0, none⟩) 1 1, 0)
                      ⟨rfl, rfl, rfl, rfl, rfl, rfl, rfl, rfl, rfl, rfl, rfl, rfl, rfl, rfl, rfl, rfl, trivial⟩ ⟨rfl, trivial⟩ ⟨(hxv.mono hle3).mono (Le.upd hg2), hyv.mono (Le.upd hg2), bg_one, Nat.zero_le _⟩ ?_
                    rintro ⟨tv, j⟩ h5 ⟨hxv, hyv, htv, hj⟩
                    dsimp only at hxv hyv htv hj
                    dsimp only
                    have hbt := bz_tens 1 j
                    rw [Nat.one_mul, bz_1] at hbt
                    conv => whnf
                    rcases Nat.lt_or_ge j d.length with hjd | hjd
                    · refine pO_lss rfl rfl (true) (decide_eq_true (by rw [bs_size]; omega)) ?_
                      conv => whnf
                      refine eO_lits [.int .i64 10] u31 s3 z3 (by decide) rfl rfl (fun v hv => by rw [List.mem_singleton.1 hv]; rfl) fun g4 hg4 => ?_
                      conv => whnf
                      refine CallsO.go (times_c (htv.mono (Le.upd hg4)) bg_ten (by rw [bz_ten]; omega)) ?_
                      rintro v5 h6 hle6 hv5
                      conv => whnf
                      have hle9 := (Le.upd (o := .cells (List.flatMap (fun v => v.cells.toList) [Value.int .i64 10]).toArray 3 (0, 0)) hg4).trans hle6
                      refine pO_add rfl rfl (((i + 1 + (j + 1) : Nat) : Int)) (wr64 (by omega) (by omega) (by omega)) ?_
                      conv => whnf
                      exact RoundO.go ⟨(v5, j + 1), ⟨rfl, rfl, rfl, rfl, rfl, rfl, rfl, rfl, rfl, rfl, rfl, rfl, rfl, rfl, rfl, rfl, trivial⟩, ⟨rfl, trivial⟩, ⟨hxv.mono hle9, hyv.mono hle9, by dsimp only; rw [Nat.pow_succ]; exact hv5, hjd⟩, by dsimp only; omega⟩
                    · refine pO_lss rfl rfl (false) (decide_eq_false (by rw [bs_size]; omega)) ?_
                      conv => whnf
                      obtain rfl : j = d.length := by omega
                      have hbm := bz_mul (numT (List.take i l)) (10 ^ d.length)
                      have hfa : (List.take i l ++ d).all isDig = true := by rw [List.all_append, hda, hba]; rfl
                      have hfl : (List.take i l ++ d).length ≤ l.length := by rw [List.length_append]; omega
                      have hnn : numT (List.take i l) * 10 ^ d.length + numT d = numT (List.take i l ++ d) := (numT_append _ _).symm
                      have ht0 : 10 ^ d.length ≠ 0 := Nat.ne_of_gt (Nat.pow_pos (by decide))
                      have hbs := bz_numT hfa
                      have hP' : parseQ l = (rat false (numT (List.take i l) * 10 ^ d.length + numT d) (10 ^ d.length), 0) := by rw [hP]
                      refine CallsO.go (times_c hxv htv (by omega)) ?_
                      rintro v5 h6 hle6 hv5
                      conv => whnf
                      refine CallsO.go (plus_c hv5 (hyv.mono hle6) (by omega)) ?_
                      rintro v6 h7 hle7 hv6
                      conv => whnf
                      refine CallsO.go (make_c (m := false) (k := 4 * l.length) hv6 ((htv.mono hle6).mono hle7) ht0 (by rw [hnn]; omega) (rat_sm ht0 (by rw [hnn]; exact numT_two hfa hfl) (Nat.le_trans (ten_le _) (Nat.pow_le_pow_right (by decide) (by omega))))) ?_
                      rintro _ h80 hle80 nz
                      obtain ⟨r_nz, rfl⟩ := nz.raw
                      conv => whnf
                      refine EndO.go ?_
                      rw [hP']
                      exact ⟨_, rfl, nz⟩
                · refine CallsO.go (digits_t d false hdd (by omega)) ?_
                  rintro _ h3 hle3 ⟨yv, rfl, hyv⟩
                  conv => whnf
                  rw [hdd, Bool.false_and, if_neg Bool.false_ne_true] at hP
                  have hP' : parseQ l = (0, 4) := hP
                  refine CallsO.go (rint_n (z := 0) (by decide) (by decide)) ?_
                  rintro _ h90 hle90 nz
                  obtain ⟨r_nz, rfl⟩ := nz.raw
                  conv => whnf
                  refine EndO.go ?_
                  rw [hP']
                  exact ⟨_, rfl, nz.zero⟩
              · obtain rfl : i = List.length l := by omega
                refine pO_eql rfl rfl (true) (beq_iff_eq.2 (by rw [bs_size])) ?_
                conv => whnf
                rw [List.drop_of_length_le (Nat.le_refl _)] at hP
                dsimp only at hP
                refine eO_lits [.int .i64 1] u31 s3 z3 (by decide) rfl rfl (fun v hv => by rw [List.mem_singleton.1 hv]; rfl) fun g2 hg2 => ?_
                conv => whnf
                refine CallsO.go (make_c (m := false) (k := 4 * l.length) (hxv.mono (Le.upd hg2)) bg_one (by decide) (by rw [bz_1]; omega) (rat_sm (by decide) (numT_two hda (by omega)) Nat.one_le_two_pow)) ?_
                rintro _ h80 hle80 nz
                obtain ⟨r_nz, rfl⟩ := nz.raw
                conv => whnf
                refine EndO.go ?_
                rw [hP]
                exact ⟨_, rfl, nz⟩
          · refine CallsO.go (digits_t (List.take i l) false hdf (by omega)) ?_
            rintro _ h2 hle2 ⟨xv, rfl, hxv⟩
            conv => whnf
            have hok : okFront (List.take i l) = false := by unfold okFront; rw [hdf]; rfl
            rw [hok] at hP
            have hP' : parseQ l = (0, 4) := by rw [hP, if_neg Bool.false_ne_true]; try rfl
            refine CallsO.go (rint_n (z := 0) (by decide) (by decide)) ?_
            rintro _ h90 hle90 nz
            obtain ⟨r_nz, rfl⟩ := nz.raw
            conv => whnf
            refine EndO.go ?_
            rw [hP']
            exact ⟨_, rfl, nz.zero⟩
end
section
variable {h : Heap}
theorem same_ok {x y : Value} {k l : Nat} {p q : Rat} (hx : NumV h x k p) (hy : RfV h y l q) (hk : k < 100000) (hl : l < 100000) (hpq : p = q) : CallGo Tryz.prog 22 #[x, y] h NoX fun v h' => v = .bool true := by
  subst hpq
  have hx' := hx
  have hy' := hy
  obtain ⟨r, rfl⟩ := hx.raw
  obtain ⟨s, rfl⟩ := hy.raw
  refine v_fn tb k22 [r.val, s.val] rfl ?_
  conv => whnf
  refine CallsO.go (string_c hx' (by omega)) ?_
  rintro v1 h1 hle1 rfl
  conv => whnf
  refine CallsO.go (text_r (hy'.mono hle1) hl) ?_
  rintro v2 h2 hle2 rfl
  conv => whnf
  refine pO_seqB true rfl rfl (decide_eq_true rfl) ?_
  conv => whnf
  exact EndO.go rfl
theorem both_c (l : List UInt8) (hG : Glob h) (hl : l.length < 10000) : CallGo Tryz.prog 28 #[.string (bs l)] h NoX fun v h' => ∃ r s : RN, v = .tuple #[r.val, s.val] ∧ NumV h' r.val (4 * l.length) (parseQ l).1 ∧ RfV h' s.val (4 * l.length) (parseQ l).1 := by
  refine v_fn tb k28 [.string (bs l)] rfl ?_
  conv => whnf
  refine CallsO.go (parse_c l hG (by omega)) ?_
  rintro _ h1 hle1 ⟨_, rfl, n1⟩
  obtain ⟨r_n1, rfl⟩ := n1.raw
  conv => whnf
  refine CallsO.go (parse_r l hl) ?_
  rintro _ h2 hle2 ⟨_, rfl, n2⟩
  obtain ⟨r_n2, rfl⟩ := n2.raw
  conv => whnf
  exact EndO.go ⟨_, _, rfl, n1.mono hle2, n2⟩
end
end Go.Proofs.YtplaobhghfndgaaGreatDoor
