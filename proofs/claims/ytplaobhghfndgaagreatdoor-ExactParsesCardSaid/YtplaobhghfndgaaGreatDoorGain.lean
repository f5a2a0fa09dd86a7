import Derived.Test.YtplaobhghfndgaaGreatDoorBits
import Derived.Test.YtplaobhghfndgaaGreatDoorScE0
import Derived.Test.YtplaobhghfndgaaGreatDoorScE1
import Derived.Test.YtplaobhghfndgaaGreatDoorScB0
/-! Limbs, part 1: trim, and what is written in place. -/
set_option linter.unusedVariables false
set_option linter.unusedSimpArgs false
set_option maxRecDepth 100000
namespace Go.Proofs.YtplaobhghfndgaaGreatDoor
open Go Go.Proofs.Vc
attribute [local irreducible] CallsO EffO PureO LoadO StoreO EndO LoopV RoundO
abbrev W : Nat := 18446744073709551616
section
variable {h : Heap}
theorem clip_c {A : Option Addr} {vs : List Value} {n c : Nat} (hr : Row h A vs) (hn : vs.length = n) (hc : n ≤ c) : CallGo Tryz.prog 186 #[.slice A n c] h NoX fun v h' => Sl h' v vs := by
  subst hn
  refine v_fn tb k186 [.slice A vs.length c] rfl ?_
  conv => whnf
  refine pO_clip u24 s140 rfl rfl rfl hc ?_
  conv => whnf
  exact EndO.go ⟨_, _, rfl, Nat.le_refl _, hr.add0 _⟩
theorem trim_c {A : Option Addr} {ds : List Nat} {n c : Nat} (hr : Row h A (ws ds)) (hn : ds.length = n) (hc : n ≤ c) (hb : n < 2 ^ 62) : CallGo Tryz.prog 160 #[.slice A n c] h NoX fun v h' => Sl h' v (ws (cutz ds)) := by
  subst hn
  refine v_fn tb k160 [.slice A ds.length c] rfl ?_
  conv => whnf
  refine LoopV.by (fun x : List Nat × Option Addr => [(0, .v (.slice x.2 x.1.length c))]) (fun _ => []) (fun x h' => h' = h ∧ Row h x.2 (ws x.1) ∧ cutz x.1 = cutz ds ∧ x.1.length ≤ c ∧ x.1.length < 2 ^ 62) (fun x => x.1.length) (ds, A) ⟨rfl, rfl, trivial⟩ trivial ⟨rfl, hr, rfl, hc, hb⟩ ?_
  rintro ⟨l, B⟩ h1 ⟨rfl, hr1, hz, hl, hb1⟩
  dsimp only at hr1 hz hl hb1
  conv => whnf
  rcases List.eq_nil_or_concat l with rfl | ⟨m, d, rfl⟩
  · refine pO_gtr rfl rfl (false) (rfl) ?_
    conv => whnf
    refine CallsO.go (clip_c (Row.nil _ _) rfl (Nat.zero_le _)) ?_
    rintro v h2 hle hs
    conv => whnf
    exact EndO.go (by rw [← hz]; exact hs)
  · simp only [List.concat_eq_append] at *
    have hl1 : (m ++ [d]).length = m.length + 1 := by simp
    have hget : (ws (m ++ [d]))[m.length]? = some (.int .u64 (d : Int)) := by simp [ws]
    refine pO_gtr rfl rfl (true) (by simp) ?_
    conv => whnf
    refine pO_sub rfl rfl (m.length) (wr64 (by omega) (by omega) (by omega)) ?_
    conv => whnf
    refine pO_at1 u24 s140 rfl rfl (hr1) (by simp [ws]) (by omega) (by simpa using hget) fun pAt hAt => ?_
    conv => whnf
    refine lO_at hAt ?_
    conv => whnf
    by_cases hd : d = 0
    · subst hd
      refine pO_eql rfl rfl (true) (rfl) ?_
      conv => whnf
      refine pO_sub rfl rfl (m.length) (wr64 (by omega) (by omega) (by omega)) ?_
      conv => whnf
      refine pO_part 0 m.length u24 s140 rfl hr1 (by simp [ws]) hl rfl ⟨_, rfl⟩ (Nat.zero_le _) (by omega) fun A' hr2 => ?_
      conv => whnf
      refine RoundO.go ⟨(m, A'), ⟨rfl, rfl, trivial⟩, trivial, ⟨rfl, by simpa [ws] using hr2, by rw [← hz, cutz_append_zero], by dsimp only; omega, by dsimp only; omega⟩, by dsimp only; omega⟩
    · refine pO_eql rfl rfl (false) (by simp; omega) ?_
      conv => whnf
      refine CallsO.go (clip_c hr1 (ws_length _) hl) ?_
      rintro v h2 hle hs
      conv => whnf
      exact EndO.go (by rw [← hz, cutz_last _ _ hd]; exact hs)
theorem gain_step {vc vc' p q w z lo ov' a y ov vz t : Nat} (h5 : vc' + p * q * z = vc + p * q * lo) (e4 : lo + w * ov' = a * y + z + ov) (hval : vc + p * q * ov = vz + p * (a * t)) : vc' + p * q * w * ov' = vz + p * (a * (t + q * y)) := by
  have h7 : p * q * (lo + w * ov') = p * q * (a * y + z + ov) := by rw [e4]
  grind
theorem gain_c {g o l c n : Nat} {zs ys : List Nat} {a : Nat} {B : Option Addr} {cy : Nat} (hg : h g = some (.cells (ws zs).toArray 140 (0, 0))) (hz : Low W zs) (hy : Low W ys) (hn : ys.length = n) (hfit : o + n ≤ zs.length) (hl : n ≤ l) (hlb : n < 2 ^ 62)
    (hr : Row (h.less g) B (ws ys)) (ha : a < W) :
    CallGo Tryz.prog 159 #[.slice (some ⟨g, o, none⟩) l c, .slice B n cy, .int .u64 a] h (fun k => k = g) fun v h' => ∃ zs' over, v = .int .u64 (over : Nat) ∧ h' g = some (.cells (ws zs').toArray 140 (0, 0)) ∧ zs'.length = zs.length ∧ Low W zs' ∧ over < W ∧
      val W zs' + W ^ (o + n) * over = val W zs + W ^ o * (a * val W ys) ∧ (∀ j, j < o ∨ o + n ≤ j → zs'.getD j 0 = zs.getD j 0) := by
  refine v_fnX tb k159 [.slice (some ⟨g, o, none⟩) l c, .slice B n cy, .int .u64 a] rfl g (by rw [hg]; rfl) ?_
  conv => whnf
  refine LoopV.by (α := List Nat × Nat × Nat) (fun x => [(0, .v (.slice (some ⟨g, o, none⟩) l c)), (2, .v (.int .u64 a)), (13, .v (.slice B n cy)), (14, .v (.int .i64 n)), (7, .v (.int .u64 (x.2.2 : Nat))), (15, .v (.int .i64 (x.2.1 : Nat)))]) (fun _ => [])
    (fun x h' => h' g = some (.cells (ws x.1).toArray 140 (0, 0)) ∧ Le (h.less g) h' ∧ x.1.length = zs.length ∧ Low W x.1 ∧ x.2.1 ≤ n ∧ x.2.2 < W ∧
      val W x.1 + W ^ (o + x.2.1) * x.2.2 = val W zs + W ^ o * (a * val W (ys.take x.2.1)) ∧ (∀ j, j < o ∨ o + x.2.1 ≤ j → x.1.getD j 0 = zs.getD j 0)) (fun x => n - x.2.1) (zs, 0, 0)
    ⟨rfl, rfl, rfl, rfl, rfl, rfl, rfl, rfl, rfl, rfl, rfl, rfl, trivial⟩ trivial ⟨hg, Heap.less_le h g, rfl, hz, Nat.zero_le _, Nat.zero_lt_succ _, by simp [val], fun _ _ => rfl⟩ ?_
  rintro ⟨cur, i, ov⟩ h1 ⟨hg1, hle1, hlen, hlow, hi, hov, hval, hsame⟩
  dsimp only at hg1 hle1 hlen hlow hi hov hval hsame
  dsimp only
  conv => whnf
  rcases Nat.lt_or_ge i n with hin | hin
  · refine pO_lss rfl rfl (true) (by simpa using hin) ?_
    conv => whnf
    have hyi : (ws ys)[i]? = some (.int .u64 ((ys.getD i 0 : Nat) : Int)) := ws_get ys i (by omega)
    have hbi := low_getD (b := W) (by decide) hy i
    have hzi := low_getD (b := W) (by decide) hlow (o + i)
    refine pO_atN u24 s140 rfl rfl (hr.mono hle1) ((ws_length _).trans hn) (hyi) fun pAt hAt => ?_
    conv => whnf
    refine lO_at hAt ?_
    conv => whnf
    refine CallsO.go (mul64_e a (ys.getD i 0) ha hbi) ?_
    rintro v h2 hle2 ⟨rfl, hi0, lo0, rfl, e1, l1, b1⟩
    conv => whnf
    refine pO_own u24 s140 rfl rfl (by omega) ?_
    conv => whnf
    refine lO_own (hg1) rfl (by omega) ?_
    conv => whnf
    refine CallsO.go (add64_0 lo0 (cur.getD (o + i) 0) l1 hzi) ?_
    rintro v h3 hle3 ⟨rfl, lo1, c1, rfl, e2, l2, b2⟩
    conv => whnf
    refine pO_add rfl rfl (((hi0 + c1 : Nat) : Int)) (wru64 (by omega) (by omega) (by omega)) ?_
    conv => whnf
    refine CallsO.go (add64_0 lo1 ov l2 hov) ?_
    rintro v h4 hle4 ⟨rfl, lo2, c2, rfl, e3, l3, b3⟩
    conv => whnf
    have hab : a * ys.getD i 0 ≤ 18446744073709551615 * 18446744073709551615 := Nat.mul_le_mul (by simp only [W] at ha; omega) (by simp only [W] at hbi; omega)
    have htot : hi0 + c1 + c2 < 18446744073709551616 := by simp only [W] at hzi hov; omega
    refine pO_add rfl rfl (((hi0 + c1 + c2 : Nat) : Int)) (wru64 (by omega) (by omega) (by have := htot; omega)) ?_
    conv => whnf
    refine pO_own u24 s140 rfl rfl (by omega) ?_
    conv => whnf
    refine stO_w hg1 (Heap.less_same _ _) rfl (by omega) ?_
    conv => whnf
    refine pO_add rfl rfl (((i + 1 : Nat) : Int)) (wr64 (by omega) (by omega) (by omega)) ?_
    conv => whnf
    refine RoundO.go ⟨(cur.set (o + i) lo2, i + 1, hi0 + c1 + c2), ⟨rfl, rfl, rfl, rfl, rfl, rfl, rfl, rfl, rfl, rfl, rfl, rfl, trivial⟩, trivial, ⟨Heap.upd_same _ _ _, hle1.upd_out (Heap.less_same _ _), by simpa using hlen, low_set hlow _ l3, hin, ?_, ?_, ?_⟩, ?_⟩
    all_goals dsimp only
    · exact htot
    · have h5 := val_set W cur (o + i) lo2 (by omega)
      have h6 := val_take_succ W ys i
      have e4 : lo2 + W * (hi0 + c1 + c2) = a * ys.getD i 0 + cur.getD (o + i) 0 + ov := by simp only [W]; omega
      rw [h6, show o + (i + 1) = (o + i) + 1 from by omega, Nat.pow_succ]
      rw [Nat.pow_add] at h5 hval ⊢
      exact gain_step h5 e4 hval
    · intro j hj
      have hne : o + i ≠ j := by omega
      rw [List.getD_eq_getElem?_getD, List.getElem?_set_ne hne, ← List.getD_eq_getElem?_getD]
      exact hsame j (by omega)
    · omega
  · refine pO_lss rfl rfl (false) (by simpa using hin) ?_
    conv => whnf
    have hi2 : i = n := by omega
    subst hi2
    rw [List.take_of_length_le (by omega)] at hval
    exact EndO.go ⟨cur, ov, rfl, hg1, hlen, hlow, hov, hval, hsame⟩
theorem lose_step {vc vc' p q w z lo ov' a y ov vz t : Nat} (h5 : vc' + p * q * z = vc + p * q * lo) (e4 : lo + a * y + ov = z + w * ov') (hval : vc + p * (a * t) = vz + p * q * ov) : vc' + p * (a * (t + q * y)) = vz + p * q * w * ov' := by
  have h7 : p * q * (lo + a * y + ov) = p * q * (z + w * ov') := by rw [e4]
  grind
theorem lose_c {g o l c n : Nat} {zs ys : List Nat} {a : Nat} {B : Option Addr} {cy : Nat} (hg : h g = some (.cells (ws zs).toArray 140 (0, 0))) (hz : Low W zs) (hy : Low W ys) (hn : ys.length = n) (hfit : o + n ≤ zs.length) (hl : n ≤ l) (hlb : n < 2 ^ 62)
    (hr : Row (h.less g) B (ws ys)) (ha : a < W) :
    CallGo Tryz.prog 168 #[.slice (some ⟨g, o, none⟩) l c, .slice B n cy, .int .u64 a] h (fun k => k = g) fun v h' => ∃ zs' over, v = .int .u64 (over : Nat) ∧ h' g = some (.cells (ws zs').toArray 140 (0, 0)) ∧ zs'.length = zs.length ∧ Low W zs' ∧ over < W ∧
      val W zs' + W ^ o * (a * val W ys) = val W zs + W ^ (o + n) * over ∧ (∀ j, j < o ∨ o + n ≤ j → zs'.getD j 0 = zs.getD j 0) := by
  refine v_fnX tb k168 [.slice (some ⟨g, o, none⟩) l c, .slice B n cy, .int .u64 a] rfl g (by rw [hg]; rfl) ?_
  conv => whnf
  refine LoopV.by (α := List Nat × Nat × Nat) (fun x => [(0, .v (.slice (some ⟨g, o, none⟩) l c)), (2, .v (.int .u64 a)), (13, .v (.slice B n cy)), (14, .v (.int .i64 n)), (7, .v (.int .u64 (x.2.2 : Nat))), (15, .v (.int .i64 (x.2.1 : Nat)))]) (fun _ => [])
    (fun x h' => h' g = some (.cells (ws x.1).toArray 140 (0, 0)) ∧ Le (h.less g) h' ∧ x.1.length = zs.length ∧ Low W x.1 ∧ x.2.1 ≤ n ∧ x.2.2 < W ∧
      val W x.1 + W ^ o * (a * val W (ys.take x.2.1)) = val W zs + W ^ (o + x.2.1) * x.2.2 ∧ (∀ j, j < o ∨ o + x.2.1 ≤ j → x.1.getD j 0 = zs.getD j 0)) (fun x => n - x.2.1) (zs, 0, 0)
    ⟨rfl, rfl, rfl, rfl, rfl, rfl, rfl, rfl, rfl, rfl, rfl, rfl, trivial⟩ trivial ⟨hg, Heap.less_le h g, rfl, hz, Nat.zero_le _, Nat.zero_lt_succ _, by simp [val], fun _ _ => rfl⟩ ?_
  rintro ⟨cur, i, ov⟩ h1 ⟨hg1, hle1, hlen, hlow, hi, hov, hval, hsame⟩
  dsimp only at hg1 hle1 hlen hlow hi hov hval hsame
  dsimp only
  conv => whnf
  rcases Nat.lt_or_ge i n with hin | hin
  · refine pO_lss rfl rfl (true) (by simpa using hin) ?_
    conv => whnf
    have hyi : (ws ys)[i]? = some (.int .u64 ((ys.getD i 0 : Nat) : Int)) := ws_get ys i (by omega)
    have hbi := low_getD (b := W) (by decide) hy i
    have hzi := low_getD (b := W) (by decide) hlow (o + i)
    refine pO_atN u24 s140 rfl rfl (hr.mono hle1) ((ws_length _).trans hn) (hyi) fun pAt hAt => ?_
    conv => whnf
    refine lO_at hAt ?_
    conv => whnf
    refine CallsO.go (mul64_e a (ys.getD i 0) ha hbi) ?_
    rintro v h2 hle2 ⟨rfl, hi0, lo0, rfl, e1, l1, b1⟩
    conv => whnf
    refine CallsO.go (add64_0 lo0 ov l1 hov) ?_
    rintro v h3 hle3 ⟨rfl, lo1, c1, rfl, e2, l2, b2⟩
    conv => whnf
    refine pO_add rfl rfl (((hi0 + c1 : Nat) : Int)) (wru64 (by omega) (by omega) (by omega)) ?_
    conv => whnf
    refine pO_own u24 s140 rfl rfl (by omega) ?_
    conv => whnf
    refine lO_own (hg1) rfl (by omega) ?_
    conv => whnf
    refine CallsO.go (sub64_0 (cur.getD (o + i) 0) lo1 hzi l2) ?_
    rintro v h4 hle4 ⟨rfl, lo2, c2, rfl, e3, l3, b3⟩
    conv => whnf
    have hab : a * ys.getD i 0 ≤ 18446744073709551615 * 18446744073709551615 := Nat.mul_le_mul (by simp only [W] at ha; omega) (by simp only [W] at hbi; omega)
    have htot : hi0 + c1 + c2 < 18446744073709551616 := by simp only [W] at hzi hov; omega
    refine pO_own u24 s140 rfl rfl (by omega) ?_
    conv => whnf
    refine stO_w hg1 (Heap.less_same _ _) rfl (by omega) ?_
    conv => whnf
    refine pO_add rfl rfl (((hi0 + c1 + c2 : Nat) : Int)) (wru64 (by omega) (by omega) (by have := htot; omega)) ?_
    conv => whnf
    refine pO_add rfl rfl (((i + 1 : Nat) : Int)) (wr64 (by omega) (by omega) (by omega)) ?_
    conv => whnf
    refine RoundO.go ⟨(cur.set (o + i) lo2, i + 1, hi0 + c1 + c2), ⟨rfl, rfl, rfl, rfl, rfl, rfl, rfl, rfl, rfl, rfl, rfl, rfl, trivial⟩, trivial, ⟨Heap.upd_same _ _ _, hle1.upd_out (Heap.less_same _ _), by simpa using hlen, low_set hlow _ l3, hin, ?_, ?_, ?_⟩, ?_⟩
    all_goals dsimp only
    · exact htot
    · have h5 := val_set W cur (o + i) lo2 (by omega)
      have h6 := val_take_succ W ys i
      have e4 : lo2 + a * ys.getD i 0 + ov = cur.getD (o + i) 0 + W * (hi0 + c1 + c2) := by simp only [W]; omega
      rw [h6, show o + (i + 1) = (o + i) + 1 from by omega, Nat.pow_succ]
      rw [Nat.pow_add] at h5 hval ⊢
      exact lose_step h5 e4 hval
    · intro j hj
      have hne : o + i ≠ j := by omega
      rw [List.getD_eq_getElem?_getD, List.getElem?_set_ne hne, ← List.getD_eq_getElem?_getD]
      exact hsame j (by omega)
    · omega
  · refine pO_lss rfl rfl (false) (by simpa using hin) ?_
    conv => whnf
    have hi2 : i = n := by omega
    subst hi2
    rw [List.take_of_length_le (by omega)] at hval
    exact EndO.go ⟨cur, ov, rfl, hg1, hlen, hlow, hov, hval, hsame⟩
end
end Go.Proofs.YtplaobhghfndgaaGreatDoor
