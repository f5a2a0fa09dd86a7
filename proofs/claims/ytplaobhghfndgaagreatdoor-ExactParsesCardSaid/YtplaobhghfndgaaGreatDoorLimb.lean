import Derived.Test.YtplaobhghfndgaaGreatDoorGain
/-! Limbs, part 2: sums, differences, products. -/
set_option linter.unusedVariables false
set_option linter.unusedSimpArgs false
set_option maxRecDepth 100000
namespace Go.Proofs.YtplaobhghfndgaaGreatDoor
open Go Go.Proofs.Vc
attribute [local irreducible] CallsO EffO PureO LoadO StoreO EndO LoopV RoundO
/-- How many words a number takes. -/
def sz (n : Nat) : Nat := (dig W n).length
/-- A slice of words and its number. -/
def Lim (h : Heap) (v : Value) (n : Nat) : Prop := Sl h v (ws (dig W n))
theorem Lim.mono {h h' : Heap} (hle : Le h h') {v : Value} {n : Nat} (H : Lim h v n) : Lim h' v n := Sl.mono hle H
theorem Lim.open {h : Heap} {v : Value} {n : Nat} (H : Lim h v n) : ∃ A c, v = .slice A (sz n) c ∧ sz n ≤ c ∧ Row h A (ws (dig W n)) := by
  obtain ⟨A, c, h1, h2, h3⟩ := H
  rw [ws_length] at h1 h2
  exact ⟨A, c, h1, h2, h3⟩
theorem w2 : 2 ≤ W := by decide
theorem Lim.of {h : Heap} {v : Value} {l : List Nat} (hl : Low W l) (H : Sl h v (ws (cutz l))) : Lim h v (val W l) := by
  unfold Lim
  rw [← cutz_eq w2 hl]; exact H
theorem Lim.nil (h : Heap) (A : Option Addr) (c : Nat) : Lim h (.slice A 0 c) 0 := ⟨A, c, by rw [dig_zero]; rfl, by rw [dig_zero]; exact Nat.zero_le _, by rw [dig_zero]; exact Row.nil _ _⟩
section
variable {h : Heap}
theorem mul_c {x y : Value} {a b : Nat} (hx : Lim h x a) (hy : Lim h y b) (hb : sz a + sz b ≤ 1099511627776) : CallGo Tryz.prog 120 #[x, y] h NoX fun v h' => Lim h' v (a * b) := by
  obtain ⟨A, ca, rfl, hca, hra⟩ := hx.open
  obtain ⟨B, cb, rfl, hcb, hrb⟩ := hy.open
  have hla := low_dig w2 a
  have hlb := low_dig w2 b
  have hda : (dig W a).length = sz a := rfl
  have hdb : (dig W b).length = sz b := rfl
  have hva := val_dig w2 a
  have hvb := val_dig w2 b
  generalize sz a = m at *
  generalize sz b = n at *
  refine v_fn tb k120 [.slice A m ca, .slice B n cb] rfl ?_
  conv => whnf
  refine pO_add rfl rfl (((m + n : Nat) : Int)) (wr64 (by omega) (by omega) (by omega)) ?_
  conv => whnf
  refine eO_make (m + n) u24 e140 rfl rfl rfl hb fun g hg => ?_
  conv => whnf
  refine LoopV.by (α := List Nat × Nat) (fun x => [(1, .v (.slice B n cb)), (5, .v (.slice (some ⟨g, 0, none⟩) (m + n) (m + n))), (14, .v (.slice A m ca)), (15, .v (.int .i64 m)), (16, .v (.int .i64 (x.2 : Nat)))]) (fun _ => [])
    (fun x h' => h' g = some (.cells (ws x.1).toArray 140 (0, 0)) ∧ Le h h' ∧ x.1.length = m + n ∧ Low W x.1 ∧ x.2 ≤ m ∧ val W x.1 = val W ((dig W a).take x.2) * b ∧ (∀ j, x.2 + n ≤ j → x.1.getD j 0 = 0)) (fun x => m - x.2) (List.replicate (m + n) 0, 0)
    ⟨rfl, rfl, rfl, rfl, rfl, rfl, rfl, rfl, rfl, rfl, trivial⟩ trivial ⟨by rw [ws_replicate]; exact Heap.upd_same _ _ _, Le.upd hg, by simp, low_zeros (by decide) _, Nat.zero_le _, by simp [val, val_zeros], fun j _ => by simp [List.getD_eq_getElem?_getD, List.getElem?_replicate]; split <;> rfl⟩ ?_
  rintro ⟨cur, i⟩ h1 ⟨hg1, hle1, hlen, hlow, hi, hval, hzero⟩
  dsimp only at hg1 hle1 hlen hlow hi hval hzero
  dsimp only
  conv => whnf
  rcases Nat.lt_or_ge i m with hin | hin
  · refine pO_lss rfl rfl (true) (by simpa using hin) ?_
    conv => whnf
    have hai : (ws (dig W a))[i]? = some (.int .u64 (((dig W a).getD i 0 : Nat) : Int)) := ws_get _ i (by omega)
    have hbi := low_getD (b := W) (by decide) hla i
    refine pO_atN u24 s140 rfl rfl (hra.mono hle1) ((ws_length _).trans hda) (hai) fun pAt hAt => ?_
    conv => whnf
    refine lO_at hAt ?_
    conv => whnf
    refine pO_add rfl rfl (((i + n : Nat) : Int)) (wr64 (by omega) (by omega) (by omega)) ?_
    conv => whnf
    refine pO_tail i u24 s140 rfl rfl (by omega) (Nat.le_refl _) (Nat.zero_add _) ?_
    conv => whnf
    refine CallsO.goX rfl (fun k hk => by subst hk; exact ⟨hg, by rw [hg1]; rfl⟩) (gain_c hg1 hlow hlb hdb (by omega) (by omega) (by omega) (hrb.mono (hle1.to_less hg)) hbi) ?_
    rintro v h2 hx2 ⟨zs, ov, rfl, hg2, hlen2, hlow2, hov, hv2, hs2⟩
    conv => whnf
    have hle2 : Le h h2 := Le.less hx2 hle1 hg
    refine pO_own u24 s140 rfl rfl (by omega) ?_
    conv => whnf
    refine stO_w (hg2) (hg) rfl (by omega) ?_
    conv => whnf
    refine pO_add rfl rfl (((i + 1 : Nat) : Int)) (wr64 (by omega) (by omega) (by omega)) ?_
    conv => whnf
    refine RoundO.go ⟨(zs.set (0 + (i + n)) ov, i + 1), ⟨rfl, rfl, rfl, rfl, rfl, rfl, rfl, rfl, rfl, rfl, trivial⟩, trivial, ⟨Heap.upd_same _ _ _, hle2.upd_out hg, by simp [hlen2, hlen], low_set hlow2 _ hov, hin, ?_, ?_⟩, ?_⟩
    all_goals dsimp only
    · have h5 := val_set W zs (0 + (i + n)) ov (by omega)
      rw [hs2 _ (by omega), hzero _ (by omega), Nat.zero_add] at h5
      rw [Nat.zero_add, val_take_succ, Nat.add_mul, ← hval]
      rw [hvb] at hv2
      have : W ^ i * (dig W a).getD i 0 * b = W ^ i * ((dig W a).getD i 0 * b) := Nat.mul_assoc _ _ _
      omega
    · intro j hj
      rw [List.getD_eq_getElem?_getD, List.getElem?_set_ne (by omega), ← List.getD_eq_getElem?_getD, hs2 _ (by omega)]
      exact hzero j (by omega)
    · omega
  · refine pO_lss rfl rfl (false) (by simpa using hin) ?_
    conv => whnf
    have hi2 : i = m := by omega
    subst hi2
    rw [List.take_of_length_le (by omega), hva] at hval
    refine CallsO.go (trim_c (Or.inr ⟨g, 0, _, _, _, rfl, hg1, fun j hj => by simp [ws]⟩) hlen (Nat.le_refl _) (by omega)) ?_
    rintro v h2 hle2 hv2
    conv => whnf
    refine EndO.go ?_
    rw [← hval]
    exact Lim.of hlow hv2
theorem getD_len {l : List Nat} {i : Nat} (h : l.length ≤ i) : l.getD i 0 = 0 := by rw [List.getD_eq_getElem?_getD, List.getElem?_eq_none h]; rfl
theorem row_own {h : Heap} {g e : Nat} {cur : List Nat} (hg : h g = some (.cells (ws cur).toArray e (0, 0))) : Row h (some ⟨g, 0, none⟩) (ws cur) :=
  .inr ⟨g, 0, _, e, _, rfl, hg, fun j hj => by simp [ws]⟩
theorem getD_set_ne {l : List Nat} {i j d : Nat} (h : i ≠ j) : (l.set i d).getD j 0 = l.getD j 0 := by
  rw [List.getD_eq_getElem?_getD, List.getElem?_set_ne h, ← List.getD_eq_getElem?_getD]
theorem add_step {vc vc' q w s d x y cy ta tb : Nat} (h5 : vc' + q * 0 = vc + q * s) (e2 : s + w * d = x + y + cy) (hval : vc + q * cy = ta + tb) : vc' + q * w * d = ta + q * x + (tb + q * y) := by
  have h7 : q * (s + w * d) = q * (x + y + cy) := by rw [e2]
  grind
theorem add_c {x y : Value} {a b : Nat} (hx : Lim h x a) (hy : Lim h y b) (hb : sz a + sz b < 1099511627776) : CallGo Tryz.prog 123 #[x, y] h NoX fun v h' => Lim h' v (a + b) := by
  obtain ⟨A, ca, rfl, hca, hra⟩ := hx.open
  obtain ⟨B, cb, rfl, hcb, hrb⟩ := hy.open
  have hla := low_dig w2 a
  have hlb := low_dig w2 b
  have hda : (dig W a).length = sz a := rfl
  have hdb : (dig W b).length = sz b := rfl
  have hva := val_dig w2 a
  have hvb := val_dig w2 b
  generalize sz a = m at *
  generalize sz b = n at *
  refine v_fn tb k123 [.slice A m ca, .slice B n cb] rfl ?_
  conv => whnf
  rcases Nat.lt_or_ge m n with hmn | hmn
  · refine pO_lss rfl rfl (true) (by simpa using hmn) ?_
    conv => whnf
    refine pO_add rfl rfl (((n + 1 : Nat) : Int)) (wr64 (by omega) (by omega) (by omega)) ?_
    conv => whnf
    refine eO_make (n + 1) u24 e140 rfl rfl rfl (by omega) fun g hg => ?_
    conv => whnf
    refine LoopV.by (α := List Nat × Nat × Nat) (fun x => [(0, .v (.slice B n cb)), (1, .v (.slice A m ca)), (5, .v (.slice (some ⟨g, 0, none⟩) (n + 1) (n + 1))), (21, .v (.slice B n cb)), (22, .v (.int .i64 n)), (6, .v (.int .u64 (x.2.2 : Nat))), (23, .v (.int .i64 (x.2.1 : Nat)))]) (fun _ => [])
      (fun x h' => h' g = some (.cells (ws x.1).toArray 140 (0, 0)) ∧ Le h h' ∧ x.1.length = n + 1 ∧ Low W x.1 ∧ x.2.1 ≤ n ∧ x.2.2 ≤ 1 ∧ val W x.1 + W ^ x.2.1 * x.2.2 = val W ((dig W b).take x.2.1) + val W ((dig W a).take x.2.1) ∧ (∀ j, x.2.1 ≤ j → x.1.getD j 0 = 0)) (fun x => n - x.2.1) (List.replicate (n + 1) 0, 0, 0)
      ⟨rfl, rfl, rfl, rfl, rfl, rfl, rfl, rfl, rfl, rfl, rfl, rfl, rfl, rfl, trivial⟩ trivial ⟨by rw [ws_replicate]; exact Heap.upd_same _ _ _, Le.upd hg, by simp, low_zeros (by decide) _, Nat.zero_le _, Nat.zero_le _, by simp [val, val_zeros], fun j _ => by simp [List.getD_eq_getElem?_getD, List.getElem?_replicate]; split <;> rfl⟩ ?_
    rintro ⟨cur, i, cy⟩ h1 ⟨hg1, hle1, hlen, hlow, hi, hcy, hval, hzero⟩
    dsimp only at hg1 hle1 hlen hlow hi hcy hval hzero
    dsimp only
    conv => whnf
    have hai0 := low_getD (b := W) (by decide) hlb i
    have hbi0 := low_getD (b := W) (by decide) hla i
    rcases Nat.lt_or_ge i n with hin | hin
    · refine pO_lss rfl rfl (true) (by simpa using hin) ?_
      conv => whnf
      refine pO_atN u24 s140 rfl rfl (hrb.mono hle1) ((ws_length _).trans hdb) (ws_get _ i (by omega)) fun pAt hAt => ?_
      conv => whnf
      refine lO_at hAt ?_
      conv => whnf
      rcases Nat.lt_or_ge i m with hib | hib
      · refine pO_lss rfl rfl (true) (by simpa using hib) ?_
        conv => whnf
        refine pO_atN u24 s140 rfl rfl (hra.mono hle1) ((ws_length _).trans hda) (ws_get _ i (by omega)) fun pAt hAt => ?_
        conv => whnf
        refine lO_at hAt ?_
        conv => whnf
        refine CallsO.go (add64_e _ ((dig W a).getD i 0) cy hcy hai0 hbi0) ?_
        rintro v h2 hle2 ⟨rfl, s1, d1, rfl, e1, l1, b1⟩
        conv => whnf
        refine pO_own u24 s140 rfl rfl (by omega) ?_
        conv => whnf
        refine stO_w (hg1) (hg) rfl (by omega) ?_
        conv => whnf
        refine pO_add rfl rfl (((i + 1 : Nat) : Int)) (wr64 (by omega) (by omega) (by omega)) ?_
        conv => whnf
        refine RoundO.go ⟨(cur.set (0 + i) s1, i + 1, d1), ⟨rfl, rfl, rfl, rfl, rfl, rfl, rfl, rfl, rfl, rfl, rfl, rfl, rfl, rfl, trivial⟩, trivial, ⟨Heap.upd_same _ _ _, hle1.upd_out hg, by simp [hlen], low_set hlow _ l1, hin, b1, ?_, ?_⟩, ?_⟩
        all_goals dsimp only
        · have h5 := val_set W cur (0 + i) s1 (by omega)
          have h6 := val_take_succ W (dig W b) i
          have h7 := val_take_succ W (dig W a) i
          rw [Nat.zero_add] at h5 ⊢
          rw [hzero i (Nat.le_refl _)] at h5
          rw [h6, h7, Nat.pow_succ]
          have e2 : s1 + W * d1 = (dig W b).getD i 0 + (dig W a).getD i 0 + cy := by first | exact e1 | (rw [hb0]; exact e1)
          exact add_step h5 e2 hval
        · intro j hj
          rw [getD_set_ne (by omega)]
          exact hzero j (by omega)
        · omega
      · refine pO_lss rfl rfl (false) (by simpa using hib) ?_
        conv => whnf
        have hb0 : (dig W a).getD i 0 = 0 := getD_len (by omega)
        rw [hb0] at hbi0
        refine CallsO.go (add64_e _ 0 cy hcy hai0 hbi0) ?_
        rintro v h2 hle2 ⟨rfl, s1, d1, rfl, e1, l1, b1⟩
        conv => whnf
        refine pO_own u24 s140 rfl rfl (by omega) ?_
        conv => whnf
        refine stO_w (hg1) (hg) rfl (by omega) ?_
        conv => whnf
        refine pO_add rfl rfl (((i + 1 : Nat) : Int)) (wr64 (by omega) (by omega) (by omega)) ?_
        conv => whnf
        refine RoundO.go ⟨(cur.set (0 + i) s1, i + 1, d1), ⟨rfl, rfl, rfl, rfl, rfl, rfl, rfl, rfl, rfl, rfl, rfl, rfl, rfl, rfl, trivial⟩, trivial, ⟨Heap.upd_same _ _ _, hle1.upd_out hg, by simp [hlen], low_set hlow _ l1, hin, b1, ?_, ?_⟩, ?_⟩
        all_goals dsimp only
        · have h5 := val_set W cur (0 + i) s1 (by omega)
          have h6 := val_take_succ W (dig W b) i
          have h7 := val_take_succ W (dig W a) i
          rw [Nat.zero_add] at h5 ⊢
          rw [hzero i (Nat.le_refl _)] at h5
          rw [h6, h7, Nat.pow_succ]
          have e2 : s1 + W * d1 = (dig W b).getD i 0 + (dig W a).getD i 0 + cy := by first | exact e1 | (rw [hb0]; exact e1)
          exact add_step h5 e2 hval
        · intro j hj
          rw [getD_set_ne (by omega)]
          exact hzero j (by omega)
        · omega
    · refine pO_lss rfl rfl (false) (by simpa using hin) ?_
      conv => whnf
      have hi2 : i = n := by omega
      subst hi2
      rw [List.take_of_length_le (by omega), List.take_of_length_le (by omega), hvb, hva] at hval
      refine pO_own u24 s140 rfl rfl (by omega) ?_
      conv => whnf
      refine stO_w (hg1) (hg) rfl (by omega) ?_
      conv => whnf
      have hl2 : Low W (cur.set (0 + i) cy) := low_set hlow _ (by simp only [W]; omega)
      have h5 := val_set W cur (0 + i) cy (by omega)
      rw [hzero _ (by omega)] at h5
      simp only [Nat.zero_add, Nat.mul_zero, Nat.add_zero] at h5
      refine CallsO.go (trim_c (row_own (Heap.upd_same _ _ _)) (by simp [hlen]) (Nat.le_refl _) (by omega)) ?_
      rintro v h2 hle2 hv2
      conv => whnf
      refine EndO.go ?_
      have := Lim.of hl2 hv2
      rw [Nat.zero_add, h5, hval] at this
      rw [Nat.add_comm] at this
      exact this
  · refine pO_lss rfl rfl (false) (by simpa using hmn) ?_
    conv => whnf
    refine pO_add rfl rfl (((m + 1 : Nat) : Int)) (wr64 (by omega) (by omega) (by omega)) ?_
    conv => whnf
    refine eO_make (m + 1) u24 e140 rfl rfl rfl (by omega) fun g hg => ?_
    conv => whnf
    refine LoopV.by (α := List Nat × Nat × Nat) (fun x => [(0, .v (.slice A m ca)), (1, .v (.slice B n cb)), (5, .v (.slice (some ⟨g, 0, none⟩) (m + 1) (m + 1))), (21, .v (.slice A m ca)), (22, .v (.int .i64 m)), (6, .v (.int .u64 (x.2.2 : Nat))), (23, .v (.int .i64 (x.2.1 : Nat)))]) (fun _ => [])
      (fun x h' => h' g = some (.cells (ws x.1).toArray 140 (0, 0)) ∧ Le h h' ∧ x.1.length = m + 1 ∧ Low W x.1 ∧ x.2.1 ≤ m ∧ x.2.2 ≤ 1 ∧ val W x.1 + W ^ x.2.1 * x.2.2 = val W ((dig W a).take x.2.1) + val W ((dig W b).take x.2.1) ∧ (∀ j, x.2.1 ≤ j → x.1.getD j 0 = 0)) (fun x => m - x.2.1) (List.replicate (m + 1) 0, 0, 0)
      ⟨rfl, rfl, rfl, rfl, rfl, rfl, rfl, rfl, rfl, rfl, rfl, rfl, rfl, rfl, trivial⟩ trivial ⟨by rw [ws_replicate]; exact Heap.upd_same _ _ _, Le.upd hg, by simp, low_zeros (by decide) _, Nat.zero_le _, Nat.zero_le _, by simp [val, val_zeros], fun j _ => by simp [List.getD_eq_getElem?_getD, List.getElem?_replicate]; split <;> rfl⟩ ?_
    rintro ⟨cur, i, cy⟩ h1 ⟨hg1, hle1, hlen, hlow, hi, hcy, hval, hzero⟩
    dsimp only at hg1 hle1 hlen hlow hi hcy hval hzero
    dsimp only
    conv => whnf
    have hai0 := low_getD (b := W) (by decide) hla i
    have hbi0 := low_getD (b := W) (by decide) hlb i
    rcases Nat.lt_or_ge i m with hin | hin
    · refine pO_lss rfl rfl (true) (by simpa using hin) ?_
      conv => whnf
      refine pO_atN u24 s140 rfl rfl (hra.mono hle1) ((ws_length _).trans hda) (ws_get _ i (by omega)) fun pAt hAt => ?_
      conv => whnf
      refine lO_at hAt ?_
      conv => whnf
      rcases Nat.lt_or_ge i n with hib | hib
      · refine pO_lss rfl rfl (true) (by simpa using hib) ?_
        conv => whnf
        refine pO_atN u24 s140 rfl rfl (hrb.mono hle1) ((ws_length _).trans hdb) (ws_get _ i (by omega)) fun pAt hAt => ?_
        conv => whnf
        refine lO_at hAt ?_
        conv => whnf
        refine CallsO.go (add64_e _ ((dig W b).getD i 0) cy hcy hai0 hbi0) ?_
        rintro v h2 hle2 ⟨rfl, s1, d1, rfl, e1, l1, b1⟩
        conv => whnf
        refine pO_own u24 s140 rfl rfl (by omega) ?_
        conv => whnf
        refine stO_w (hg1) (hg) rfl (by omega) ?_
        conv => whnf
        refine pO_add rfl rfl (((i + 1 : Nat) : Int)) (wr64 (by omega) (by omega) (by omega)) ?_
        conv => whnf
        refine RoundO.go ⟨(cur.set (0 + i) s1, i + 1, d1), ⟨rfl, rfl, rfl, rfl, rfl, rfl, rfl, rfl, rfl, rfl, rfl, rfl, rfl, rfl, trivial⟩, trivial, ⟨Heap.upd_same _ _ _, hle1.upd_out hg, by simp [hlen], low_set hlow _ l1, hin, b1, ?_, ?_⟩, ?_⟩
        all_goals dsimp only
        · have h5 := val_set W cur (0 + i) s1 (by omega)
          have h6 := val_take_succ W (dig W a) i
          have h7 := val_take_succ W (dig W b) i
          rw [Nat.zero_add] at h5 ⊢
          rw [hzero i (Nat.le_refl _)] at h5
          rw [h6, h7, Nat.pow_succ]
          have e2 : s1 + W * d1 = (dig W a).getD i 0 + (dig W b).getD i 0 + cy := by first | exact e1 | (rw [hb0]; exact e1)
          exact add_step h5 e2 hval
        · intro j hj
          rw [getD_set_ne (by omega)]
          exact hzero j (by omega)
        · omega
      · refine pO_lss rfl rfl (false) (by simpa using hib) ?_
        conv => whnf
        have hb0 : (dig W b).getD i 0 = 0 := getD_len (by omega)
        rw [hb0] at hbi0
        refine CallsO.go (add64_e _ 0 cy hcy hai0 hbi0) ?_
        rintro v h2 hle2 ⟨rfl, s1, d1, rfl, e1, l1, b1⟩
        conv => whnf
        refine pO_own u24 s140 rfl rfl (by omega) ?_
        conv => whnf
        refine stO_w (hg1) (hg) rfl (by omega) ?_
        conv => whnf
        refine pO_add rfl rfl (((i + 1 : Nat) : Int)) (wr64 (by omega) (by omega) (by omega)) ?_
        conv => whnf
        refine RoundO.go ⟨(cur.set (0 + i) s1, i + 1, d1), ⟨rfl, rfl, rfl, rfl, rfl, rfl, rfl, rfl, rfl, rfl, rfl, rfl, rfl, rfl, trivial⟩, trivial, ⟨Heap.upd_same _ _ _, hle1.upd_out hg, by simp [hlen], low_set hlow _ l1, hin, b1, ?_, ?_⟩, ?_⟩
        all_goals dsimp only
        · have h5 := val_set W cur (0 + i) s1 (by omega)
          have h6 := val_take_succ W (dig W a) i
          have h7 := val_take_succ W (dig W b) i
          rw [Nat.zero_add] at h5 ⊢
          rw [hzero i (Nat.le_refl _)] at h5
          rw [h6, h7, Nat.pow_succ]
          have e2 : s1 + W * d1 = (dig W a).getD i 0 + (dig W b).getD i 0 + cy := by first | exact e1 | (rw [hb0]; exact e1)
          exact add_step h5 e2 hval
        · intro j hj
          rw [getD_set_ne (by omega)]
          exact hzero j (by omega)
        · omega
    · refine pO_lss rfl rfl (false) (by simpa using hin) ?_
      conv => whnf
      have hi2 : i = m := by omega
      subst hi2
      rw [List.take_of_length_le (by omega), List.take_of_length_le (by omega), hva, hvb] at hval
      refine pO_own u24 s140 rfl rfl (by omega) ?_
      conv => whnf
      refine stO_w (hg1) (hg) rfl (by omega) ?_
      conv => whnf
      have hl2 : Low W (cur.set (0 + i) cy) := low_set hlow _ (by simp only [W]; omega)
      have h5 := val_set W cur (0 + i) cy (by omega)
      rw [hzero _ (by omega)] at h5
      simp only [Nat.zero_add, Nat.mul_zero, Nat.add_zero] at h5
      refine CallsO.go (trim_c (row_own (Heap.upd_same _ _ _)) (by simp [hlen]) (Nat.le_refl _) (by omega)) ?_
      rintro v h2 hle2 hv2
      conv => whnf
      refine EndO.go ?_
      have := Lim.of hl2 hv2
      rw [Nat.zero_add, h5, hval] at this
      exact this
theorem sub_step {vc vc' q w s d x y cy ta tb : Nat} (h5 : vc' + q * 0 = vc + q * s) (e2 : s + y + cy = x + w * d) (hval : vc + tb = ta + q * cy) : vc' + (tb + q * y) = ta + q * x + q * w * d := by
  have h7 : q * (s + y + cy) = q * (x + w * d) := by rw [e2]
  grind
theorem sub_c {x y : Value} {a b : Nat} (hx : Lim h x a) (hy : Lim h y b) (hba : b ≤ a) (hb : sz a + sz b < 1099511627776) : CallGo Tryz.prog 125 #[x, y] h NoX fun v h' => Lim h' v (a - b) := by
  obtain ⟨A, ca, rfl, hca, hra⟩ := hx.open
  obtain ⟨B, cb, rfl, hcb, hrb⟩ := hy.open
  have hla := low_dig w2 a
  have hlb := low_dig w2 b
  have hda : (dig W a).length = sz a := rfl
  have hdb : (dig W b).length = sz b := rfl
  have hva := val_dig w2 a
  have hvb := val_dig w2 b
  have hnm : sz b ≤ sz a := dig_length_mono w2 hba
  generalize sz a = m at *
  generalize sz b = n at *
  refine v_fn tb k125 [.slice A m ca, .slice B n cb] rfl ?_
  conv => whnf
  refine eO_make m u24 e140 rfl rfl rfl (by omega) fun g hg => ?_
  conv => whnf
  refine LoopV.by (α := List Nat × Nat × Nat) (fun x => [(1, .v (.slice B n cb)), (5, .v (.slice (some ⟨g, 0, none⟩) m m)), (13, .v (.slice A m ca)), (14, .v (.int .i64 m)), (6, .v (.int .u64 (x.2.2 : Nat))), (15, .v (.int .i64 (x.2.1 : Nat)))]) (fun _ => [])
    (fun x h' => h' g = some (.cells (ws x.1).toArray 140 (0, 0)) ∧ Le h h' ∧ x.1.length = m ∧ Low W x.1 ∧ x.2.1 ≤ m ∧ x.2.2 ≤ 1 ∧ val W x.1 + val W ((dig W b).take x.2.1) = val W ((dig W a).take x.2.1) + W ^ x.2.1 * x.2.2 ∧ (∀ j, x.2.1 ≤ j → x.1.getD j 0 = 0)) (fun x => m - x.2.1) (List.replicate m 0, 0, 0)
    ⟨rfl, rfl, rfl, rfl, rfl, rfl, rfl, rfl, rfl, rfl, rfl, rfl, trivial⟩ trivial ⟨by rw [ws_replicate]; exact Heap.upd_same _ _ _, Le.upd hg, by simp, low_zeros (by decide) _, Nat.zero_le _, Nat.zero_le _, by simp [val, val_zeros], fun j _ => by simp [List.getD_eq_getElem?_getD, List.getElem?_replicate]; split <;> rfl⟩ ?_
  rintro ⟨cur, i, cy⟩ h1 ⟨hg1, hle1, hlen, hlow, hi, hcy, hval, hzero⟩
  dsimp only at hg1 hle1 hlen hlow hi hcy hval hzero
  dsimp only
  conv => whnf
  have hai0 := low_getD (b := W) (by decide) hla i
  have hbi0 := low_getD (b := W) (by decide) hlb i
  rcases Nat.lt_or_ge i m with hin | hin
  · refine pO_lss rfl rfl (true) (by simpa using hin) ?_
    conv => whnf
    refine pO_atN u24 s140 rfl rfl (hra.mono hle1) ((ws_length _).trans hda) (ws_get _ i (by omega)) fun pAt hAt => ?_
    conv => whnf
    refine lO_at hAt ?_
    conv => whnf
    rcases Nat.lt_or_ge i n with hib | hib
    · refine pO_lss rfl rfl (true) (by simpa using hib) ?_
      conv => whnf
      refine pO_atN u24 s140 rfl rfl (hrb.mono hle1) ((ws_length _).trans hdb) (ws_get _ i (by omega)) fun pAt hAt => ?_
      conv => whnf
      refine lO_at hAt ?_
      conv => whnf
      refine CallsO.go (sub64_e _ ((dig W b).getD i 0) cy hcy hai0 hbi0) ?_
      rintro v h2 hle2 ⟨rfl, s1, d1, rfl, e1, l1, b1⟩
      conv => whnf
      refine pO_own u24 s140 rfl rfl (by omega) ?_
      conv => whnf
      refine stO_w (hg1) (hg) rfl (by omega) ?_
      conv => whnf
      refine pO_add rfl rfl (((i + 1 : Nat) : Int)) (wr64 (by omega) (by omega) (by omega)) ?_
      conv => whnf
      refine RoundO.go ⟨(cur.set (0 + i) s1, i + 1, d1), ⟨rfl, rfl, rfl, rfl, rfl, rfl, rfl, rfl, rfl, rfl, rfl, rfl, trivial⟩, trivial, ⟨Heap.upd_same _ _ _, hle1.upd_out hg, by simp [hlen], low_set hlow _ l1, hin, b1, ?_, ?_⟩, ?_⟩
      all_goals dsimp only
      · have h5 := val_set W cur (0 + i) s1 (by omega)
        have h6 := val_take_succ W (dig W a) i
        have h7 := val_take_succ W (dig W b) i
        rw [Nat.zero_add] at h5 ⊢
        rw [hzero i (Nat.le_refl _)] at h5
        rw [h6, h7, Nat.pow_succ]
        have e2 : s1 + (dig W b).getD i 0 + cy = (dig W a).getD i 0 + W * d1 := by first | exact e1 | (rw [hb0]; exact e1)
        exact sub_step h5 e2 hval
      · intro j hj
        rw [getD_set_ne (by omega)]
        exact hzero j (by omega)
      · omega
    · refine pO_lss rfl rfl (false) (by simpa using hib) ?_
      conv => whnf
      have hb0 : (dig W b).getD i 0 = 0 := getD_len (by omega)
      rw [hb0] at hbi0
      refine CallsO.go (sub64_e _ 0 cy hcy hai0 hbi0) ?_
      rintro v h2 hle2 ⟨rfl, s1, d1, rfl, e1, l1, b1⟩
      conv => whnf
      refine pO_own u24 s140 rfl rfl (by omega) ?_
      conv => whnf
      refine stO_w (hg1) (hg) rfl (by omega) ?_
      conv => whnf
      refine pO_add rfl rfl (((i + 1 : Nat) : Int)) (wr64 (by omega) (by omega) (by omega)) ?_
      conv => whnf
      refine RoundO.go ⟨(cur.set (0 + i) s1, i + 1, d1), ⟨rfl, rfl, rfl, rfl, rfl, rfl, rfl, rfl, rfl, rfl, rfl, rfl, trivial⟩, trivial, ⟨Heap.upd_same _ _ _, hle1.upd_out hg, by simp [hlen], low_set hlow _ l1, hin, b1, ?_, ?_⟩, ?_⟩
      all_goals dsimp only
      · have h5 := val_set W cur (0 + i) s1 (by omega)
        have h6 := val_take_succ W (dig W a) i
        have h7 := val_take_succ W (dig W b) i
        rw [Nat.zero_add] at h5 ⊢
        rw [hzero i (Nat.le_refl _)] at h5
        rw [h6, h7, Nat.pow_succ]
        have e2 : s1 + (dig W b).getD i 0 + cy = (dig W a).getD i 0 + W * d1 := by first | exact e1 | (rw [hb0]; exact e1)
        exact sub_step h5 e2 hval
      · intro j hj
        rw [getD_set_ne (by omega)]
        exact hzero j (by omega)
      · omega
  · refine pO_lss rfl rfl (false) (by simpa using hin) ?_
    conv => whnf
    have hi2 : i = m := by omega
    subst hi2
    rw [List.take_of_length_le (by omega), List.take_of_length_le (by omega), hva, hvb] at hval
    have hlt := val_lt hlow
    rw [hlen] at hlt
    have hcy0 : cy = 0 := by
      rcases Nat.eq_zero_or_pos cy with h0 | h0
      · exact h0
      · have : cy = 1 := by omega
        subst this
        omega
    subst hcy0
    refine CallsO.go (trim_c (row_own hg1) hlen (Nat.le_refl _) (by omega)) ?_
    rintro v h2 hle2 hv2
    conv => whnf
    refine EndO.go ?_
    have := Lim.of hlow hv2
    rw [show val W cur = a - b from by omega] at this
    exact this
/-- -1, 0 or 1 -/
def cmpN (a b : Nat) : Int := if a < b then -1 else if b < a then 1 else 0
theorem cmpN_lt {a b : Nat} (h : a < b) : cmpN a b = -1 := if_pos h
theorem cmpN_gt {a b : Nat} (h : b < a) : cmpN a b = 1 := by unfold cmpN; rw [if_neg (by omega), if_pos h]
theorem cmpN_eq {a b : Nat} (h : a = b) : cmpN a b = 0 := by unfold cmpN; rw [if_neg (by omega), if_neg (by omega)]
theorem cmp_c {x y : Value} {a b : Nat} (hx : Lim h x a) (hy : Lim h y b) (hb : sz a + sz b < 1099511627776) : CallGo Tryz.prog 124 #[x, y] h NoX fun v h' => h' = h ∧ v = .int .i64 (cmpN a b) := by
  obtain ⟨A, ca, rfl, hca, hra⟩ := hx.open
  obtain ⟨B, cb, rfl, hcb, hrb⟩ := hy.open
  have hla := low_dig w2 a
  have hlb := low_dig w2 b
  have hda : (dig W a).length = sz a := rfl
  have hdb : (dig W b).length = sz b := rfl
  have hva := val_dig w2 a
  have hvb := val_dig w2 b
  have hlt : sz a < sz b → a < b := fun hh => val_lt_of_length w2 hh
  have hgt : sz b < sz a → b < a := fun hh => val_lt_of_length w2 hh
  generalize sz a = m at *
  generalize sz b = n at *
  refine v_fn tb k124 [.slice A m ca, .slice B n cb] rfl ?_
  conv => whnf
  refine pO_sub rfl rfl ((m : Int) - (n : Int)) (wr64 rfl (by omega) (by omega)) ?_
  conv => whnf
  rcases Nat.lt_trichotomy m n with hmn | hmn | hmn
  · have h1 := hlt hmn
    refine pO_neq rfl rfl (true) (by simp; omega) ?_
    conv => whnf
    refine pO_min rfl rfl ((m : Int) - (n : Int)) (by rw [if_pos (by omega)]) ?_
    conv => whnf
    refine pO_max rfl rfl (-1) (by rw [if_neg (by omega)]) ?_
    conv => whnf
    exact EndO.go ⟨rfl, congrArg _ (cmpN_lt h1).symm⟩
  · subst hmn
    refine pO_neq rfl rfl (false) (by simp) ?_
    conv => whnf
    refine pO_sub rfl rfl ((m : Int) - 1) (wr64 rfl (by omega) (by omega)) ?_
    conv => whnf
    refine LoopV.by (α := Nat) (fun k => [(0, .v (.slice A m ca)), (1, .v (.slice B m cb)), (6, .v (.int .i64 ((k : Int) - 1)))]) (fun _ => []) (fun k h' => h' = h ∧ k ≤ m ∧ (dig W a).drop k = (dig W b).drop k) (fun k => k) m
      ⟨rfl, rfl, rfl, rfl, rfl, rfl, trivial⟩ trivial ⟨rfl, Nat.le_refl _, by rw [List.drop_of_length_le (by omega), List.drop_of_length_le (by omega)]⟩ ?_
    rintro k h1 ⟨rfl, hk, hdrop⟩
    dsimp only
    conv => whnf
    rcases Nat.eq_zero_or_pos k with rfl | hk0
    · refine pO_geq rfl rfl (false) (by simp) ?_
      conv => whnf
      have : a = b := by rw [← hva, ← hvb]; simpa using congrArg (val W) hdrop
      exact EndO.go ⟨rfl, congrArg _ (cmpN_eq this).symm⟩
    · obtain ⟨i, rfl⟩ : ∃ i, k = i + 1 := ⟨k - 1, by omega⟩
      have hii : ((i + 1 : Nat) : Int) - 1 = (i : Int) := by omega
      rw [hii]
      refine pO_geq rfl rfl (true) (by simp) ?_
      conv => whnf
      refine pO_atN u24 s140 rfl rfl (hra) ((ws_length _).trans hda) (ws_get _ i (by omega)) fun pAt hAt => ?_
      conv => whnf
      refine lO_at hAt ?_
      conv => whnf
      refine pO_atN u24 s140 rfl rfl (hrb) ((ws_length _).trans hdb) (ws_get _ i (by omega)) fun pAt hAt => ?_
      conv => whnf
      refine lO_at hAt ?_
      conv => whnf
      rcases Nat.lt_trichotomy ((dig W a).getD i 0) ((dig W b).getD i 0) with hc | hc | hc
      · refine pO_lss rfl rfl (true) (decide_eq_true (by omega)) ?_
        conv => whnf
        have := val_lt_of_getD hla (by omega) i (by omega) hdrop hc
        rw [hva, hvb] at this
        exact EndO.go ⟨rfl, congrArg _ (cmpN_lt this).symm⟩
      · refine pO_lss rfl rfl (false) (decide_eq_false (by omega)) ?_
        conv => whnf
        refine pO_atN u24 s140 rfl rfl (hra) ((ws_length _).trans hda) (ws_get _ i (by omega)) fun pAt hAt => ?_
        conv => whnf
        refine lO_at hAt ?_
        conv => whnf
        refine pO_atN u24 s140 rfl rfl (hrb) ((ws_length _).trans hdb) (ws_get _ i (by omega)) fun pAt hAt => ?_
        conv => whnf
        refine lO_at hAt ?_
        conv => whnf
        refine pO_gtr rfl rfl (false) (decide_eq_false (by omega)) ?_
        conv => whnf
        refine pO_sub rfl rfl ((i : Int) - 1) (wr64 rfl (by omega) (by omega)) ?_
        conv => whnf
        exact RoundO.go ⟨i, ⟨rfl, rfl, rfl, rfl, rfl, rfl, trivial⟩, trivial, ⟨rfl, by omega, drop_eq_of_getD (by omega) i (by omega) hdrop hc⟩, Nat.lt_succ_self i⟩
      · refine pO_lss rfl rfl (false) (decide_eq_false (by omega)) ?_
        conv => whnf
        refine pO_atN u24 s140 rfl rfl (hra) ((ws_length _).trans hda) (ws_get _ i (by omega)) fun pAt hAt => ?_
        conv => whnf
        refine lO_at hAt ?_
        conv => whnf
        refine pO_atN u24 s140 rfl rfl (hrb) ((ws_length _).trans hdb) (ws_get _ i (by omega)) fun pAt hAt => ?_
        conv => whnf
        refine lO_at hAt ?_
        conv => whnf
        refine pO_gtr rfl rfl (true) (decide_eq_true (by omega)) ?_
        conv => whnf
        have := val_lt_of_getD hlb (by omega) i (by omega) hdrop.symm hc
        rw [hva, hvb] at this
        exact EndO.go ⟨rfl, congrArg _ (cmpN_gt this).symm⟩
  · have h1 := hgt hmn
    refine pO_neq rfl rfl (true) (by simp; omega) ?_
    conv => whnf
    refine pO_min rfl rfl (1) (by rw [if_neg (by omega)]) ?_
    conv => whnf
    refine pO_max rfl rfl (1) (by rw [if_pos (by omega)]) ?_
    conv => whnf
    exact EndO.go ⟨rfl, congrArg _ (cmpN_gt h1).symm⟩
theorem lim_one {g n : Nat} {cs : Array Value} (hg : h g = some (.cells cs 140 (0, 0))) (hn : n ≠ 0) (hlt : n < W) (hc : cs = #[.int .u64 (n : Int)]) : Lim h (.slice (some ⟨g, 0, none⟩) 1 1) n := by
  have hd : dig W n = [n] := by rw [dig_pos w2 (by omega), Nat.mod_eq_of_lt hlt, Nat.div_eq_of_lt hlt, dig_zero]
  subst hc
  refine ⟨_, 1, by rw [hd]; rfl, by rw [hd]; exact Nat.le_refl _, .inr ⟨g, 0, _, _, _, rfl, hg, fun j hj => ?_⟩⟩
  rw [hd] at hj ⊢
  have : j = 0 := by simpa [ws] using hj
  subst this
  rfl
theorem z140 : ∀ w, (zeroValue 140).run Tryz.prog w = .ok (.int .u64 0) w := fun w => by kernel_rfl
theorem limbsOf_c {n : Nat} (hn : n < W) : CallGo Tryz.prog 153 #[.int .u64 n] h NoX fun v h' => Lim h' v n := by
  refine v_fn tb k153 [.int .u64 n] rfl ?_
  conv => whnf
  rcases Nat.eq_zero_or_pos n with rfl | h0
  · refine pO_eql rfl rfl (true) (rfl) ?_
    conv => whnf
    exact EndO.go (Lim.nil _ _ _)
  · refine pO_eql rfl rfl (false) (by simp; omega) ?_
    conv => whnf
    refine eO_lits [.int .u64 (n : Int)] u24 s140 z140 (by decide) rfl rfl (fun v hv => by rw [List.mem_singleton.1 hv]; rfl) fun g hg => ?_
    conv => whnf
    exact EndO.go (lim_one (Heap.upd_same _ _ _) (by omega) hn rfl)
theorem ones_c : CallGo Tryz.prog 129 #[] h NoX fun v h' => Lim h' v 1 := by
  refine v_fn tb k129 [] rfl ?_
  conv => whnf
  refine eO_lits [.int .u64 ((1 : Nat) : Int)] u24 s140 z140 (by decide) rfl rfl (fun v hv => by rw [List.mem_singleton.1 hv]; rfl) fun g hg => ?_
  conv => whnf
  exact EndO.go (lim_one (Heap.upd_same _ _ _) (by decide) (by decide) rfl)
theorem isOne_c {x : Value} {a : Nat} (hx : Lim h x a) (hb : sz a < 1099511627776) : CallGo Tryz.prog 141 #[x] h NoX fun v h' => h' = h ∧ v = .bool (a == 1) := by
  obtain ⟨A, ca, rfl, hca, hra⟩ := hx.open
  have hla := low_dig w2 a
  have hda : (dig W a).length = sz a := rfl
  have hva := val_dig w2 a
  generalize sz a = m at *
  refine v_fn tb k141 [.slice A m ca] rfl ?_
  conv => whnf
  rcases Nat.decEq m 1 with hm | hm
  · refine pO_eql rfl rfl (false) (by simp; omega) ?_
    conv => whnf
    have h1 : (a == 1) = false := by
      rw [beq_eq_false_iff_ne]
      intro ha
      have h2 : dig W 1 = [1] := by
        have h3 : dig W (1 / W) = [] := dig_zero W
        rw [dig_pos w2 (by decide), h3]; rfl
      rw [ha, h2] at hda
      exact hm hda.symm
    exact EndO.go ⟨rfl, congrArg _ h1.symm⟩
  · subst hm
    refine pO_eql rfl rfl (true) (rfl) ?_
    conv => whnf
    refine pO_at1 u24 s140 rfl rfl (hra) ((ws_length _).trans hda) (by decide) (ws_get _ 0 (by omega)) fun pAt hAt => ?_
    conv => whnf
    refine lO_at hAt ?_
    conv => whnf
    have h1 : (((dig W a).getD 0 0 : Nat) : Int) = 1 ↔ a = 1 := by
      obtain ⟨d, hd⟩ := List.length_eq_one_iff.1 hda
      rw [hd] at hva ⊢
      simp [val] at hva
      subst hva
      simp
      omega
    refine pO_eql rfl rfl ((a == 1)) (by rw [Bool.eq_iff_iff, beq_iff_eq, beq_iff_eq]; exact h1) ?_
    conv => whnf
    exact EndO.go ⟨rfl, rfl⟩
end
end Go.Proofs.YtplaobhghfndgaaGreatDoor
