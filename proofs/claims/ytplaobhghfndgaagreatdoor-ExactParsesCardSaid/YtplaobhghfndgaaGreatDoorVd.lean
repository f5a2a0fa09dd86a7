import Derived.Test.YtplaobhghfndgaaGreatDoorVc
import Derived.Laws.AppendOwn
import Derived.Laws.MakeOwn
import Derived.Laws.OwnMore
import Derived.Laws.IdiomStrings
import Derived.Laws.Concat
/-! Symbolic execution over heaplets, part 10: the walk in the form in which it is reckoned: each condition on numbers is a Bool that 'whnf' decides, each stop has a name. -/
set_option linter.unusedVariables false
set_option linter.unusedSimpArgs false
namespace Go.Proofs.Vc
open Go Go.RowKit

def gd (b : Bool) (p : Prop) : Prop := match b with | true => p | false => False
theorem gd_iff {b : Bool} {p : Prop} : gd b p ↔ b = true ∧ p := by cases b <;> simp [gd]
/-- A stop: a pure operation. -/
def PureO (P : Program) (s : Sem Next) (K : Value → Prop) : Prop := ∃ y, PN P s y ∧ K y
/-- A stop: cells of the heaplet are read. -/
def LoadO (h : Heap) (agg : Bool) (n : Nat) (z : Value) (K : Value → Prop) : Prop := ∃ y, HLoad h agg n z y ∧ K y
/-- A stop: a store into the heaplet. -/
def StoreO (h0 h : Heap) (n : Nat) (ptr z : Value) (K : Heap → Prop) : Prop :=
  ∃ g off c e, ptr = .pointer (some ⟨g, off, none⟩) ∧ h g = some (.cells c e (0, 0)) ∧ h0 g = none ∧ off + n ≤ c.size ∧ K (h.upd g (.cells (splice c.toList off z.cells.toList).toArray e (0, 0)))
/-- A stop: a test. -/
def TestO (b : Bool) (A B : Prop) : Prop := match b with | true => A | false => B


/-- What is laid by is reckoned first. -/
def fz (a : AV) (K : AV → Prop) : Prop := match a with | .v y => K (.v y) | .p k o => K (.p k o) | .bad => K .bad
theorem fz_iff {a : AV} {K : AV → Prop} : fz a K ↔ K a := by cases a <;> rfl
def fzV (v : Value) (K : Value → Prop) : Prop :=
  match v with
  | .int k n => K (.int k n)
  | .agg cs => K (.agg cs)
  | .slice a l c => K (.slice a l c)
  | .bool b => K (.bool b)
  | .string t => K (.string t)
  | .pointer q => K (.pointer q)
  | .tuple vs => K (.tuple vs)
  | v => K v
theorem fzV_iff {v : Value} {K : Value → Prop} : fzV v K ↔ K v := by cases v <;> rfl

def eZ (P : Program) (T : Tab) (h : Heap) (ρ : Operand → AV) (b : Nat → Option (List Value)) (d : Nat) (ty : Nat) (op : Op) (K : AV → Option (List Value) → Prop) : Prop :=
  match op with
  | .move x | .assign x => fz (ρ x) fun a => K a none
  | .pick c x y => match ρ c with
    | .v (.bool t) => fz (bif t then ρ x else ρ y) fun a => K a none
    | _ => False
  | .alloc e => match T.zero e with
    | some z => K (.p d 0) (some z)
    | none => False
  | .box e x => match ρ x with
    | .v y => K (.p d 0) (some y.cells.toList)
    | _ => False
  | .load t x => match T.zero t with
    | none => False
    | some _ => match ρ x with
      | .p k o => match b k with
        | some cs => gd (Nat.ble (o + T.size t) cs.length) (fz (.v (ldv (T.agg t) (T.size t) cs o)) fun a => K a none)
        | none => False
      | .v z => LoadO h (T.agg t) (T.size t) z fun y => K (.v y) none
      | .bad => False
  | .fieldAddr s x f => match ρ x with
    | .p k o => match T.fld s f with
      | some off => K (.p k (o + off)) none
      | none => False
    | .v (.pointer (some ⟨g, o, none⟩)) => match T.fld s f with
      | some off => K (.v (.pointer (some ⟨g, o + off, none⟩))) none
      | none => False
    | _ => False
  | op => gd (isPure op && op.operands.toList.all fun x => isV (ρ x)) <| match pureF T op ρ with
    | some y => K (.v y) none
    | none => PureO P (execOp (valOf ρ) { dst := some d, op := op, type := ty, pos := "", after := #[], guard := none }) fun y => K (.v y) none

theorem eZ_imp {P : Program} {T : Tab} {h : Heap} {ρ : Operand → AV} {b : Nat → Option (List Value)} {d ty : Nat} {op : Op} {K K' : AV → Option (List Value) → Prop}
    (hk : ∀ av bx, K av bx → K' av bx) (H : eZ P T h ρ b d ty op K) : ez P T h ρ b d ty op K' := by
  unfold eZ at H
  unfold ez
  split at H
  · exact hk _ _ (fz_iff.1 H)
  · exact hk _ _ (fz_iff.1 H)
  · dsimp only
    split at H
    · rename_i t ht; rw [ht]; exact hk _ _ (fz_iff.1 H)
    · exact H.elim
  · dsimp only
    split at H
    · rename_i z hz; rw [hz]; exact hk _ _ H
    · exact H.elim
  · dsimp only
    split at H
    · rename_i z hz; rw [hz]; exact hk _ _ H
    · exact H.elim
  · dsimp only
    split at H
    · exact H.elim
    · rename_i z hz
      rw [hz]
      dsimp only
      split at H
      · rename_i k o hx
        rw [hx]
        dsimp only
        split at H
        · rename_i cs hb
          rw [hb]
          obtain ⟨h1, h2⟩ := gd_iff.1 H
          exact ⟨Nat.le_of_ble_eq_true h1, hk _ _ (fz_iff.1 h2)⟩
        · exact H.elim
      · rename_i z' hx
        rw [hx]
        obtain ⟨y, h1, h2⟩ := H; exact ⟨y, h1, hk _ _ h2⟩
      · exact H.elim
  · dsimp only
    split at H
    · rename_i k o hx
      rw [hx]
      dsimp only
      split at H
      · rename_i off ho; rw [ho]; exact hk _ _ H
      · exact H.elim
    · rename_i g o hx
      rw [hx]
      dsimp only
      split at H
      · rename_i off ho; rw [ho]; exact hk _ _ H
      · exact H.elim
    · exact H.elim
  · rename_i o1 o2 o3 o4 o5 o6 o7
    obtain ⟨h1, h2⟩ := gd_iff.1 H
    rw [Bool.and_eq_true] at h1
    have h5 : isPure op = true ∧ (∀ x ∈ op.operands.toList, isV (ρ x) = true) ∧
        match pureF T op ρ with
        | some y => K' (.v y) none
        | none => ∃ y, PN P (execOp (valOf ρ) { dst := some d, op := op, type := ty, pos := "", after := #[], guard := none }) y ∧ K' (.v y) none := by
      refine ⟨h1.1, fun x hx => List.all_eq_true.1 h1.2 x hx, ?_⟩
      split at h2
      · exact hk _ _ h2
      · obtain ⟨y, h3, h4⟩ := h2; exact ⟨y, h3, hk _ _ h4⟩
    split
    · rename_i x; exact absurd rfl (o1 x)
    · rename_i x; exact absurd rfl (o2 x)
    · rename_i c x y; exact absurd rfl (o3 c x y)
    · rename_i x; exact absurd rfl (o4 x)
    · rename_i x y; exact absurd rfl (o5 x y)
    · rename_i x y; exact absurd rfl (o6 x y)
    · rename_i x y z; exact absurd rfl (o7 x y z)
    · exact h5

def isNoneB {α : Type} : Option α → Bool | none => true | some _ => false
def isStNone : Option Nat → Bool | none => true | some _ => false
def notBoxB (k : Nat) : AV → Bool | .p k' _ => !(k' == k) | _ => true
def freshB (st : St) (d : Nat) : Option (List Value) → Bool | none => true | some _ => isNoneB (st.b d)
def valL (st : St) : List Operand → List Value
  | [] => []
  | x :: l => valOf st.ev x :: valL st l
theorem valL_eq (st : St) (l : List Operand) : valL st l = l.map (valOf st.ev) := by induction l <;> simp_all [valL]

/-! ### A loop -/
def lookT : List (Nat × AV) → Nat → AV
  | [], _ => .bad
  | (j, v) :: l, i => bif i == j then v else lookT l i
def lookB : List (Nat × List Value) → Nat → Option (List Value)
  | [], _ => none
  | (j, v) :: l, i => bif i == j then some v else lookB l i
def St.ofL (l : List (Nat × AV)) (bl : List (Nat × List Value)) : St := ⟨lookT l, lookB bl⟩
def ptrOk (bl : List (Nat × List Value)) : AV → Bool
  | .p k _ => !isNoneB (lookB bl k)
  | _ => true
def FitsT (st : St) (bl : List (Nat × List Value)) : List (Nat × AV) → Prop
  | [] => True
  | (i, v) :: l => st.t i = v ∧ ptrOk bl v = true ∧ FitsT st bl l
def FitsB (st : St) : List (Nat × List Value) → Prop
  | [] => True
  | (i, v) :: l => st.b i = some v ∧ FitsB st l
theorem fits_look {st : St} {bl : List (Nat × List Value)} (l : List (Nat × AV)) : FitsT st bl l → ∀ i, (lookT l i = st.t i ∨ lookT l i = .bad) ∧ ptrOk bl (lookT l i) = true := by
  induction l with
  | nil => intro _ i; exact ⟨.inr rfl, rfl⟩
  | cons p l ih =>
    intro h i
    obtain ⟨j, v⟩ := p
    obtain ⟨h1, h2, h3⟩ := h
    unfold lookT
    cases hc : (i == j) with
    | true => rw [beq_iff_eq] at hc; subst hc; exact ⟨.inl h1.symm, h2⟩
    | false => exact ih h3 i
theorem fits_lookB {st : St} (l : List (Nat × List Value)) : FitsB st l → ∀ i, lookB l i = st.b i ∨ lookB l i = none := by
  induction l with
  | nil => intro _ i; exact .inr rfl
  | cons p l ih =>
    intro h i
    obtain ⟨j, v⟩ := p
    unfold lookB
    cases hc : (i == j) with
    | true => rw [beq_iff_eq] at hc; subst hc; exact .inl h.1.symm
    | false => exact ih h.2 i
theorem forget_of {st : St} {l : List (Nat × AV)} {bl : List (Nat × List Value)} (h1 : FitsT st bl l) (h2 : FitsB st bl) : Forget st (St.ofL l bl) := by
  refine ⟨fun i => (fits_look l h1 i).1, fits_lookB bl h2, fun i k o he => ?_⟩
  have := (fits_look l h1 i).2
  have he' : lookT l i = .p k o := he
  rw [he'] at this
  intro hn
  have hn' : lookB bl k = none := hn
  simp [ptrOk, hn', isNoneB] at this
/-- A stop: the end of a round. -/
def RoundO (p : Prop) : Prop := p
/-- A stop: a loop, by what a few slots hold at each round's head; Q' is what its ends are shown to be. -/
def LoopV (body : (Exit → St → Heap → Prop) → St → Heap → Prop) (Q : Exit → St → Heap → Prop) (st : St) (h : Heap) : Prop :=
  ∃ Q' : Exit → St → Heap → Prop, (∀ e st h, Q' e st h → Q e st h ∨ ∃ st1, Forget st st1 ∧ Q e st1 h) ∧
  ∃ (α : Type) (L : α → List (Nat × AV)) (Bx : α → List (Nat × List Value)) (Inv : α → Heap → Prop) (μ : α → Nat) (x0 : α), FitsT st (Bx x0) (L x0) ∧ FitsB st (Bx x0) ∧ Inv x0 h ∧
    ∀ x h', Inv x h' → body (fun e => match e with | .normal => fun st2 h2 => RoundO (∃ y, FitsT st2 (Bx y) (L y) ∧ FitsB st2 (Bx y) ∧ Inv y h2 ∧ μ y < μ x) | e => Q' e) (St.ofL (L x) (Bx x)) h'
theorem LoopV.by {α : Type} {body : (Exit → St → Heap → Prop) → St → Heap → Prop} {Q : Exit → St → Heap → Prop} {st : St} {h : Heap} (L : α → List (Nat × AV)) (Bx : α → List (Nat × List Value)) (Inv : α → Heap → Prop) (μ : α → Nat)
    (x0 : α) (hT : FitsT st (Bx x0) (L x0)) (hB : FitsB st (Bx x0)) (hI : Inv x0 h)
    (step : ∀ x h', Inv x h' → body (fun e => match e with | .normal => fun st2 h2 => RoundO (∃ y, FitsT st2 (Bx y) (L y) ∧ FitsB st2 (Bx y) ∧ Inv y h2 ∧ μ y < μ x) | e => Q e) (St.ofL (L x) (Bx x)) h') : LoopV body Q st h :=
  ⟨Q, fun _ _ _ hq => .inl hq, α, L, Bx, Inv, μ, x0, hT, hB, hI, step⟩
/-- What a loop's break is shown to be. -/
def cutQ {β : Type} (k : Nat) (L' : β → List (Nat × AV)) (Bx' : β → List (Nat × List Value)) (Inv' : β → Heap → Prop) (Q : Exit → St → Heap → Prop) : Exit → St → Heap → Prop
  | .exit id => match Nat.beq id k with
    | true => fun st2 h2 => RoundO (∃ y, FitsT st2 (Bx' y) (L' y) ∧ FitsB st2 (Bx' y) ∧ Inv' y h2)
    | false => Q (.exit id)
  | e => Q e
/-- The same, if all ways out of the loop by 'break' are to be walked on as one. -/
theorem LoopV.cut {α β : Type} {body : (Exit → St → Heap → Prop) → St → Heap → Prop} {Q : Exit → St → Heap → Prop} {st : St} {h : Heap} (L : α → List (Nat × AV)) (Bx : α → List (Nat × List Value)) (Inv : α → Heap → Prop) (μ : α → Nat)
    (x0 : α) (k : Nat) (L' : β → List (Nat × AV)) (Bx' : β → List (Nat × List Value)) (Inv' : β → Heap → Prop) (hT : FitsT st (Bx x0) (L x0)) (hB : FitsB st (Bx x0)) (hI : Inv x0 h)
    (step : ∀ x h', Inv x h' → body (fun e => match e with | .normal => fun st2 h2 => RoundO (∃ y, FitsT st2 (Bx y) (L y) ∧ FitsB st2 (Bx y) ∧ Inv y h2 ∧ μ y < μ x) | e => cutQ k L' Bx' Inv' Q e) (St.ofL (L x) (Bx x)) h')
    (post : ∀ y h', Inv' y h' → Q (.exit k) (St.ofL (L' y) (Bx' y)) h') : LoopV body Q st h := by
  refine ⟨cutQ k L' Bx' Inv' Q, fun e st h hq => ?_, α, L, Bx, Inv, μ, x0, hT, hB, hI, step⟩
  cases e with
  | exit id =>
    have hq' : (match Nat.beq id k with | true => fun st2 h2 => RoundO (∃ y, FitsT st2 (Bx' y) (L' y) ∧ FitsB st2 (Bx' y) ∧ Inv' y h2) | false => Q (.exit id) : St → Heap → Prop) st h := hq
    cases hb : Nat.beq id k with
    | true =>
      rw [hb] at hq'
      have hid : id = k := Nat.eq_of_beq_eq_true hb
      subst hid
      obtain ⟨y, h1, h2, h3⟩ := hq'
      exact .inr ⟨_, forget_of h1 h2, post y h h3⟩
    | false => rw [hb] at hq'; exact .inl hq'
  | _ => exact .inl hq

section
variable (P : Program) (T : Tab) (n : Nat) (h0 : Heap)
def sY (o : SOp) (K : St → Heap → Prop) (st : St) (h : Heap) : Prop :=
  match o.op with
  | .assign x => match o.dst with
    | some d => gd (Nat.blt d n) (fz (st.ev x) fun a => K (st.put d a) h)
    | none => False
  | .store t x y => gd (isStNone o.dst) <| match T.zero t with
    | none => False
    | some _ => match st.ev y with
      | .v z => gd (Nat.beq z.cells.size (T.size t) && z.cells.toList.all fun u => u.oneCell') <| match st.ev x with
        | .p k off => match st.b k with
          | some cs => gd (Nat.ble (off + T.size t) cs.length && o.conf.all fun c => notBoxB k (st.ev c)) (K (st.setB k (splice cs off z.cells.toList)) h)
          | none => False
        | .v ptr => gd (!o.pend) (StoreO h0 h (T.size t) ptr z fun h' => K st h')
        | .bad => False
      | _ => False
  | .call { callee := .value f, args := args, argTypes := _ } => match o.dst with
    | none => False
    | some d => match st.ev f with
      | .v (.func (.func g) first cap) => gd (Nat.blt d n && args.toList.all fun x => isV (st.ev x))
          (CallsO P h0 o.pend g (first ++ (valL st args.toList).toArray ++ cap) h fun v h' => K (st.put d (.v v)) h')
      | _ => False
  | .select .. => False
  | op => match o.dst with
    | none => False
    | some d => gd (Nat.blt d n && op.operands.toList.all fun x => isV (st.ev x))
        (EffO P h0 o.pend (execOp (valOf st.ev) { dst := some d, op := op, type := o.ty, pos := "", after := #[], guard := none }) h fun v h' => K (st.put d (.v v)) h')

def vBody (o : SOp) (K : St → Heap → Prop) (st : St) (h : Heap) : Prop :=
  match o.sync with
  | false => match o.dst with
    | some d => gd (Nat.blt d n) (eZ P T h st.ev st.b d o.ty o.op fun av bx => gd (freshB st d bx) (K (st.easy d av bx) h))
    | none => False
  | true => sY P T n h0 o K st h
def dstB (n : Nat) : Option Nat → Bool | some d => Nat.blt d n | none => true
def vOp (o : SOp) (K : St → Heap → Prop) (st : St) (h : Heap) : Prop :=
  match o.guard with
  | none => vBody P T n h0 o K st h
  | some (tg, want) => match st.t tg with
    | .v x => TestO (boolIs x want) (vBody P T n h0 o K st h) (gd (dstB n o.dst) (K (skipT st o.dst) h))
    | _ => False
def vOps : List SOp → (St → Heap → Prop) → St → Heap → Prop
  | [], K => K
  | o :: l, K => vOp P T n h0 o (vOps l K)
def vC : SC → (Exit → St → Heap → Prop) → St → Heap → Prop
  | .skip, Q => Q .normal
  | .ret, Q => Q .ret
  | .exit id, Q => Q (.exit id)
  | .ops l, Q => vOps P T n h0 l (Q .normal)
  | .seq a b, Q => vC a fun e => match e with | .normal => vC b Q | e => Q e
  | .cond c a b, Q => fun st h => match st.ev c with
    | .v (.bool t) => TestO t (vC a Q st h) (vC b Q st h)
    | _ => False
  | .block id a, Q => vC a fun e => match e with | .exit id' => (match Nat.beq id' id with | true => Q .normal | false => Q (.exit id')) | e => Q e
  | .loop a, Q => LoopV (vC a) Q
end

section
variable {P : Program} {T : Tab} {n : Nat} {h0 : Heap}
theorem blt_iff {a b : Nat} (h : Nat.blt a b = true) : a < b := Nat.le_of_ble_eq_true h
theorem CallsO.mono {pend : Bool} {g : FuncId} {args : Array Value} {h : Heap} {Φ Ψ : Value → Heap → Prop} (H : CallsO P h0 pend g args h Φ) (k : ∀ v h', Φ v h' → Ψ v h') : CallsO P h0 pend g args h Ψ := by
  obtain ⟨X, h1, h2, h3⟩ := H
  refine ⟨X, h1, h2, ?_⟩
  rcases h3 with ⟨h3, h4⟩ | ⟨v, h3, h4⟩
  · exact .inl ⟨h3, h4.mono fun v h' _ hp => k v h' hp⟩
  · exact .inr ⟨v, h3, k v h h4⟩
theorem EffO.mono {pend : Bool} {s : Sem Next} {h : Heap} {Φ Ψ : Value → Heap → Prop} (H : EffO P h0 pend s h Φ) (k : ∀ v h', Φ v h' → Ψ v h') : EffO P h0 pend s h Ψ := by
  obtain ⟨X, h1, h2, h3⟩ := H
  refine ⟨X, h1, h2, fun w hw => ?_⟩
  obtain ⟨v, h', w', h4, h5, h6⟩ := h3 w hw
  exact ⟨v, h', w', h4, h5, k v h' h6⟩

theorem sY_imp {o : SOp} {K K' : St → Heap → Prop} (hk : ∀ st h, K st h → K' st h) {st : St} {h : Heap} (H : sY P T n h0 o K st h) : sy P T n h0 o K' st h := by
  unfold sY at H
  unfold sy
  split at H
  · rename_i x hop
    rw [hop]
    dsimp only
    split at H
    · rename_i d hd
      rw [hd]
      obtain ⟨h1, h2⟩ := gd_iff.1 H
      exact ⟨blt_iff h1, hk _ _ (fz_iff.1 h2)⟩
    · exact H.elim
  · rename_i t x y hop
    rw [hop]
    dsimp only
    obtain ⟨h1, H⟩ := gd_iff.1 H
    refine ⟨?_, ?_⟩
    · cases hd : o.dst with
      | none => rfl
      | some d => rw [hd] at h1; cases h1
    split at H
    · exact H.elim
    · rename_i zz hz
      rw [hz]
      dsimp only
      split at H
      · rename_i z hy
        rw [hy]
        dsimp only
        obtain ⟨h2, H⟩ := gd_iff.1 H
        rw [Bool.and_eq_true] at h2
        refine ⟨Nat.eq_of_beq_eq_true h2.1, fun u hu => List.all_eq_true.1 h2.2 u hu, ?_⟩
        split at H
        · rename_i k off hx
          rw [hx]
          dsimp only
          split at H
          · rename_i cs hb
            rw [hb]
            obtain ⟨h3, H⟩ := gd_iff.1 H
            rw [Bool.and_eq_true] at h3
            refine ⟨Nat.le_of_ble_eq_true h3.1, fun c hc => ?_, hk _ _ H⟩
            have h4 := List.all_eq_true.1 h3.2 c hc
            unfold notBoxB at h4
            unfold notBox
            split at h4
            · rename_i k' o' he; rw [he]; simpa using h4
            · split <;> first | trivial | (rename_i hne _ _ _ he; exact absurd he (hne _ _))
          · exact H.elim
        · rename_i ptr hx
          rw [hx]
          obtain ⟨h3, g, off, c, e, h4, h5, h6, h7, h8⟩ := gd_iff.1 H
          exact ⟨by simpa using h3, g, off, c, e, h4, h5, h6, h7, hk _ _ h8⟩
        · exact H.elim
      · exact H.elim
  · rename_i f args at_ hop
    rw [hop]
    dsimp only
    split at H
    · exact H.elim
    · rename_i d hd
      rw [hd]
      dsimp only
      split at H
      · rename_i g first cap hf
        rw [hf]
        obtain ⟨h1, H⟩ := gd_iff.1 H
        rw [Bool.and_eq_true] at h1
        rw [valL_eq] at H
        exact ⟨blt_iff h1.1, fun x hx => List.all_eq_true.1 h1.2 x hx, H.mono fun v h' hp => hk _ _ hp⟩
      · exact H.elim
  · exact H.elim
  · rename_i op hop1 hop2 hop3 hop4
    split at H
    · exact H.elim
    · rename_i d hd
      rw [hd]
      obtain ⟨h1, H⟩ := gd_iff.1 H
      rw [Bool.and_eq_true] at h1
      have h5 : d < n ∧ (∀ x ∈ o.op.operands.toList, isV (st.ev x) = true) ∧ EffO P h0 o.pend (execOp (valOf st.ev) { dst := some d, op := o.op, type := o.ty, pos := "", after := #[], guard := none }) h (fun v h' => K' (st.put d (.v v)) h') :=
        ⟨blt_iff h1.1, fun x hx => List.all_eq_true.1 h1.2 x hx, H.mono fun v h' hp => hk _ _ hp⟩
      split
      · rename_i x hx; exact absurd hx (hop1 x)
      · rename_i t x y hx; exact absurd hx (hop2 t x y)
      · rename_i f args at_ hx; exact absurd hx (hop3 f args at_)
      · rename_i cs b hx; exact absurd hx (hop4 cs b)
      · exact h5

theorem vOp_imp {o : SOp} {K K' : St → Heap → Prop} (hk : ∀ st h, K st h → K' st h) {st : St} {h : Heap} (H : vOp P T n h0 o K st h) : vcOp P T n h0 o K' st h := by
  have body : vBody P T n h0 o K st h → vcBody P T n h0 o K' st h := fun H => by
    unfold vBody at H
    unfold vcBody
    split at H
    · rename_i hs
      rw [hs]
      split at H
      · rename_i d hd
        rw [hd]
        obtain ⟨h1, h2⟩ := gd_iff.1 H
        refine ⟨blt_iff h1, eZ_imp (fun av bx hh => ?_) h2⟩
        obtain ⟨h3, h4⟩ := gd_iff.1 hh
        refine ⟨?_, hk _ _ h4⟩
        cases bx with
        | none => trivial
        | some cs =>
          unfold freshB isNoneB at h3
          unfold freshOk
          dsimp only at h3 ⊢
          split at h3
          · assumption
          · cases h3
      · exact H.elim
    · rename_i hs
      rw [hs]
      exact sY_imp hk H
  unfold vOp at H
  unfold vcOp
  split at H
  · rename_i hg; rw [hg]; exact body H
  · rename_i tg want hg
    rw [hg]
    dsimp only
    split at H
    · rename_i x hx
      rw [hx]
      dsimp only
      unfold TestO at H
      split at H
      · rename_i hb; rw [hb]; exact body H
      · rename_i hb
        rw [hb]
        obtain ⟨h1, h2⟩ := gd_iff.1 H
        refine ⟨fun d hd => ?_, hk _ _ h2⟩
        rw [hd] at h1
        exact blt_iff h1
    · exact H.elim
theorem vOps_imp (l : List SOp) : ∀ {K K' : St → Heap → Prop}, (∀ st h, K st h → K' st h) → ∀ {st : St} {h : Heap}, vOps P T n h0 l K st h → vcOps P T n h0 l K' st h := by
  induction l with
  | nil => intro K K' hk st h H; exact hk _ _ H
  | cons o l ih => intro K K' hk st h H; exact vOp_imp (fun st h => ih hk) H
theorem vC_imp (sc : SC) : ∀ {Q Q' : Exit → St → Heap → Prop}, (∀ e st h, Q e st h → Q' e st h) → ∀ {st : St} {h : Heap}, vC P T n h0 sc Q st h → vcC P T n h0 sc Q' st h := by
  induction sc with
  | skip => intro Q Q' hq st h H; exact hq _ _ _ H
  | ret => intro Q Q' hq st h H; exact hq _ _ _ H
  | exit id => intro Q Q' hq st h H; exact hq _ _ _ H
  | ops l => intro Q Q' hq st h H; exact vOps_imp l (hq .normal) H
  | seq a b iha ihb =>
    intro Q Q' hq st h H
    refine iha (Q := fun e => match e with | .normal => vC P T n h0 b Q | e => Q e) (fun e st h he => ?_) H
    cases e with
    | normal => exact ihb hq he
    | _ => exact hq _ _ _ he
  | cond c a b iha ihb =>
    intro Q Q' hq st h H
    unfold vC at H
    unfold vcC
    split at H
    · rename_i t ht
      rw [ht]
      dsimp only
      unfold TestO at H
      split at H
      · exact iha hq H
      · exact ihb hq H
    · exact H.elim
  | block id a ih =>
    intro Q Q' hq st h H
    refine ih (Q := fun e => match e with | .exit id' => (match Nat.beq id' id with | true => Q .normal | false => Q (.exit id')) | e => Q e) (fun e st h he => ?_) H
    cases e with
    | exit id' =>
      dsimp only at he ⊢
      have hb : Nat.beq id' id = (id' == id) := by rw [Bool.eq_iff_iff, beq_iff_eq]; exact ⟨Nat.eq_of_beq_eq_true, fun e => by rw [e]; exact Nat.beq_refl id⟩
      rw [hb] at he
      cases hc : (id' == id) with
      | true => rw [hc] at he; exact hq _ _ _ he
      | false => rw [hc] at he; exact hq _ _ _ he
    | _ => exact hq _ _ _ he
  | loop a ih =>
    intro Q Q' hq st h H
    obtain ⟨Q1, hQ1, α, L, Bx, Inv, μ, x0, hT, hB, hI, step⟩ := H
    refine ⟨fun st h m => ∃ x, st = St.ofL (L x) (Bx x) ∧ Inv x h ∧ μ x = m, μ x0, ⟨_, forget_of hT hB, x0, rfl, hI, rfl⟩, ?_⟩
    rintro st' h' m' ⟨x, rfl, hi, rfl⟩
    refine ih (fun e st2 h2 he => ?_) (step x h' hi)
    cases e with
    | normal =>
      obtain ⟨y, f1, f2, hy, hm⟩ := he
      exact ⟨μ y, _, hm, forget_of f1 f2, y, rfl, hy, rfl⟩
    | _ =>
      rcases hQ1 _ _ _ he with h3 | ⟨st1, F, h3⟩
      · exact .inl (hq _ _ _ h3)
      · exact .inr ⟨st1, F, hq _ _ _ h3⟩

def resG (T : Tab) (st : St) : List ResultVar → (List Value → Prop) → Prop
  | [], K => K []
  | .tmp t :: l, K => match st.t t with
    | .v x => resG T st l fun vs => K (x :: vs)
    | _ => False
  | .cell a t :: l, K => match T.zero t with
    | none => False
    | some _ => match st.t a with
      | .p k o => match st.b k with
        | some cs => gd (Nat.ble (o + T.size t) cs.length) (resG T st l fun vs => K (ldv (T.agg t) (T.size t) cs o :: vs))
        | none => False
      | _ => False
theorem resG_imp {st : St} (rs : List ResultVar) : ∀ {K : List Value → Prop}, resG T st rs K → resK T st rs K := by
  induction rs with
  | nil => intro K h; exact h
  | cons r l ih =>
    intro K h
    cases r with
    | tmp t =>
      unfold resG at h
      unfold resK
      split at h
      · rename_i x hx; rw [hx]; exact ih h
      · exact h.elim
    | cell a t =>
      unfold resG at h
      unfold resK
      split at h
      · exact h.elim
      · rename_i z hz
        rw [hz]
        dsimp only
        split at h
        · rename_i k o hx
          rw [hx]
          dsimp only
          split at h
          · rename_i cs hb
            rw [hb]
            obtain ⟨h1, h2⟩ := gd_iff.1 h
            exact ⟨Nat.le_of_ble_eq_true h1, ih h2⟩
          · exact h.elim
        · exact h.elim
/-- A stop: the end. -/
def EndO (p : Prop) : Prop := p
def retG (T : Tab) (rs : List ResultVar) (Φ : Value → Heap → Prop) : Exit → St → Heap → Prop
  | .normal, st, h | .ret, st, h => resG T st rs fun vs => EndO (Φ (mkRes vs) h)
  | _, _, _ => False
theorem v_fn {f : FuncId} {sc : SC} {rs : List ResultVar} {Φ : Value → Heap → Prop} (hT : TabOk P T) (hk : FnOk P f n rs sc) (args : List Value)
    (hlen : Nat.ble args.length n = true) (H : vC P T n h0 sc (retG T rs Φ) (St.init args) h0) : CallGo P f args.toArray h0 NoX Φ :=
  vc_fn hT hk args (Nat.le_of_ble_eq_true hlen) (vC_imp sc (fun e st h he => by cases e <;> first | exact resG_imp rs he | exact he) H)
/-- The heaplet without some blocks. -/
def Heap.less (h : Heap) (g : Nat) : Heap := fun k => bif k == g then none else h k
theorem v_fnX {hi : Heap} {f : FuncId} {sc : SC} {rs : List ResultVar} {Φ : Value → Heap → Prop} (hT : TabOk P T) (hk : FnOk P f n rs sc) (args : List Value)
    (hlen : Nat.ble args.length n = true) (g : Nat) (hg : (hi g).isSome = true) (H : vC P T n (hi.less g) sc (retG T rs Φ) (St.init args) hi) : CallGo P f args.toArray hi (fun k => k = g) Φ :=
  vc_fnX hT hk args (Nat.le_of_ble_eq_true hlen) (fun k => k = g) (fun k hk => by subst hk; simp [Heap.less]) (fun k hk => by simp [Heap.less, beq_eq_false_iff_ne.2 hk]) (fun k hk => by subst hk; exact hg)
    (vC_imp sc (fun e st h he => by cases e <;> first | exact resG_imp rs he | exact he) H)
end

/-! ### The stops, met -/
section
variable {P : Program} {h0 h : Heap}
theorem CallsO.go {pend : Bool} {g : FuncId} {args : Array Value} {Φ Ψ : Value → Heap → Prop} (H : CallGo P g args h NoX Φ) (k : ∀ v h', Le h h' → Φ v h' → Ψ v h') : CallsO P h0 pend g args h Ψ := by
  refine ⟨NoX, fun _ _ hx => hx, fun _ hx => hx.elim, ?_⟩
  rcases H with ⟨h1, h2⟩ | ⟨v, h1, h2⟩
  · exact .inl ⟨h1, CallsH.mono h2 k⟩
  · exact .inr ⟨v, h1, k v h (Le.refl h) h2⟩
theorem CallGo.mono {g : FuncId} {args : Array Value} {Φ Ψ : Value → Heap → Prop} (H : CallGo P g args h NoX Φ) (k : ∀ v h', Le h h' → Φ v h' → Ψ v h') : CallGo P g args h NoX Ψ := by
  rcases H with ⟨h1, h2⟩ | ⟨v, h1, h2⟩
  · exact .inl ⟨h1, CallsH.mono h2 k⟩
  · exact .inr ⟨v, h1, k v h (Le.refl h) h2⟩
theorem PureO.go {s : Sem Next} {K : Value → Prop} (y : Value) (H : ∀ w, s.run P w = .ok (.value y) w) (k : K y) : PureO P s K := ⟨y, H, k⟩
end
end Go.Proofs.Vc

/-! Symbolic execution over heaplets, part 11: the stops at pure operations, one lemma a kind; and what reads and makes rows of the heaplet. -/
set_option linter.unusedVariables false
set_option linter.unusedSimpArgs false
namespace Go.Proofs.Vc
open Go Go.RowKit

section
variable {P : Program} {ρ : Operand → Value} {dst : Option Nat} {ty : Nat} {pos : String} {af : Array Edge} {gu : Option (Nat × Bool)} {K : Value → Prop}
theorem pO_add {t t' : Nat} {x y : Operand} {k : IntKind} {a b : Int} (hx : ρ x = .int k a) (hy : ρ y = .int k b) (c : Int) (hc : k.wrap (a + b) = c) (hK : K (.int k c)) :
    PureO P (execOp ρ ⟨dst, .binOp .add t x y t', ty, pos, af, gu⟩) K := by
  subst hc; exact ⟨_, fun w => by simp [execOp, hx, hy, binOp, eqGuard, Op.intArith], hK⟩
theorem pO_sub {t t' : Nat} {x y : Operand} {k : IntKind} {a b : Int} (hx : ρ x = .int k a) (hy : ρ y = .int k b) (c : Int) (hc : k.wrap (a - b) = c) (hK : K (.int k c)) :
    PureO P (execOp ρ ⟨dst, .binOp .sub t x y t', ty, pos, af, gu⟩) K := by
  subst hc; exact ⟨_, fun w => by simp [execOp, hx, hy, binOp, eqGuard, Op.intArith], hK⟩
theorem pO_mul {t t' : Nat} {x y : Operand} {k : IntKind} {a b : Int} (hx : ρ x = .int k a) (hy : ρ y = .int k b) (c : Int) (hc : k.wrap (a * b) = c) (hK : K (.int k c)) :
    PureO P (execOp ρ ⟨dst, .binOp .mul t x y t', ty, pos, af, gu⟩) K := by
  subst hc; exact ⟨_, fun w => by simp [execOp, hx, hy, binOp, eqGuard, Op.intArith], hK⟩
theorem pO_quo {t t' : Nat} {x y : Operand} {k : IntKind} {a b : Int} (hx : ρ x = .int k a) (hy : ρ y = .int k b) (hb : b ≠ 0) (c : Int) (hc : k.wrap (a.tdiv b) = c) (hK : K (.int k c)) :
    PureO P (execOp ρ ⟨dst, .binOp .quo t x y t', ty, pos, af, gu⟩) K := by
  subst hc; exact ⟨_, fun w => by simp [execOp, hx, hy, binOp, eqGuard, Op.intDiv, hb], hK⟩
theorem pO_rem {t t' : Nat} {x y : Operand} {k : IntKind} {a b : Int} (hx : ρ x = .int k a) (hy : ρ y = .int k b) (hb : b ≠ 0) (c : Int) (hc : a.tmod b = c) (hK : K (.int k c)) :
    PureO P (execOp ρ ⟨dst, .binOp .rem t x y t', ty, pos, af, gu⟩) K := by
  subst hc; exact ⟨_, fun w => by simp [execOp, hx, hy, binOp, eqGuard, Op.intDiv, hb], hK⟩
theorem pO_eql {t t' : Nat} {x y : Operand} {k : IntKind} {a b : Int} (hx : ρ x = .int k a) (hy : ρ y = .int k b) (c : Bool) (hc : (a == b) = c) (hK : K (.bool c)) :
    PureO P (execOp ρ ⟨dst, .binOp .eql t x y t', ty, pos, af, gu⟩) K := by
  subst hc; exact ⟨_, fun w => by simp [execOp, hx, hy, binOp, eqGuard, Op.intCmp], hK⟩
theorem pO_neq {t t' : Nat} {x y : Operand} {k : IntKind} {a b : Int} (hx : ρ x = .int k a) (hy : ρ y = .int k b) (c : Bool) (hc : (a != b) = c) (hK : K (.bool c)) :
    PureO P (execOp ρ ⟨dst, .binOp .neq t x y t', ty, pos, af, gu⟩) K := by
  subst hc; exact ⟨_, fun w => by simp [execOp, hx, hy, binOp, eqGuard, Op.intCmp], hK⟩
theorem pO_lss {t t' : Nat} {x y : Operand} {k : IntKind} {a b : Int} (hx : ρ x = .int k a) (hy : ρ y = .int k b) (c : Bool) (hc : decide (a < b) = c) (hK : K (.bool c)) :
    PureO P (execOp ρ ⟨dst, .binOp .lss t x y t', ty, pos, af, gu⟩) K := by
  subst hc; exact ⟨_, fun w => by simp [execOp, hx, hy, binOp, eqGuard, Op.intCmp], hK⟩
theorem pO_leq {t t' : Nat} {x y : Operand} {k : IntKind} {a b : Int} (hx : ρ x = .int k a) (hy : ρ y = .int k b) (c : Bool) (hc : decide (a ≤ b) = c) (hK : K (.bool c)) :
    PureO P (execOp ρ ⟨dst, .binOp .leq t x y t', ty, pos, af, gu⟩) K := by
  subst hc; exact ⟨_, fun w => by simp [execOp, hx, hy, binOp, eqGuard, Op.intCmp], hK⟩
theorem pO_gtr {t t' : Nat} {x y : Operand} {k : IntKind} {a b : Int} (hx : ρ x = .int k a) (hy : ρ y = .int k b) (c : Bool) (hc : decide (b < a) = c) (hK : K (.bool c)) :
    PureO P (execOp ρ ⟨dst, .binOp .gtr t x y t', ty, pos, af, gu⟩) K := by
  subst hc; exact ⟨_, fun w => by simp [execOp, hx, hy, binOp, eqGuard, Op.intCmp], hK⟩
theorem pO_geq {t t' : Nat} {x y : Operand} {k : IntKind} {a b : Int} (hx : ρ x = .int k a) (hy : ρ y = .int k b) (c : Bool) (hc : decide (b ≤ a) = c) (hK : K (.bool c)) :
    PureO P (execOp ρ ⟨dst, .binOp .geq t x y t', ty, pos, af, gu⟩) K := by
  subst hc; exact ⟨_, fun w => by simp [execOp, hx, hy, binOp, eqGuard, Op.intCmp], hK⟩
theorem pO_shl {t t' : Nat} {x y : Operand} {k k' : IntKind} {a b : Int} (hx : ρ x = .int k a) (hy : ρ y = .int k' b) (hb : 0 ≤ b) (c : Int) (hc : k.wrap (a * 2 ^ (min b.toNat k.bits)) = c) (hK : K (.int k c)) :
    PureO P (execOp ρ ⟨dst, .binOp .shl t x y t', ty, pos, af, gu⟩) K := by
  subst hc; exact ⟨_, fun w => by simp [execOp, hx, hy, binOp, eqGuard, Op.shift, Int.not_lt.2 hb], hK⟩
theorem pO_shr {t t' : Nat} {x y : Operand} {k k' : IntKind} {a b : Int} (hx : ρ x = .int k a) (hy : ρ y = .int k' b) (hb : 0 ≤ b) (c : Int) (hc : a.fdiv (2 ^ (min b.toNat k.bits)) = c) (hK : K (.int k c)) :
    PureO P (execOp ρ ⟨dst, .binOp .shr t x y t', ty, pos, af, gu⟩) K := by
  subst hc; exact ⟨_, fun w => by simp [execOp, hx, hy, binOp, eqGuard, Op.shift, Int.not_lt.2 hb], hK⟩
theorem pO_or {t t' : Nat} {x y : Operand} {k : IntKind} {a b : Int} (hx : ρ x = .int k a) (hy : ρ y = .int k b) (c : Int) (hc : k.wrap (BitVec.ofInt k.bits a ||| BitVec.ofInt k.bits b).toNat = c) (hK : K (.int k c)) :
    PureO P (execOp ρ ⟨dst, .binOp .or t x y t', ty, pos, af, gu⟩) K := by
  subst hc; exact ⟨_, fun w => by simp [execOp, hx, hy, binOp, eqGuard, Op.intBits], hK⟩
theorem pO_and {t t' : Nat} {x y : Operand} {k : IntKind} {a b : Int} (hx : ρ x = .int k a) (hy : ρ y = .int k b) (c : Int) (hc : k.wrap (BitVec.ofInt k.bits a &&& BitVec.ofInt k.bits b).toNat = c) (hK : K (.int k c)) :
    PureO P (execOp ρ ⟨dst, .binOp .and t x y t', ty, pos, af, gu⟩) K := by
  subst hc; exact ⟨_, fun w => by simp [execOp, hx, hy, binOp, eqGuard, Op.intBits], hK⟩
theorem pO_beql {t t' : Nat} {x y : Operand} {a b : Bool} (ht : P.underlying t = some .bool) (hx : ρ x = .bool a) (hy : ρ y = .bool b) (c : Bool) (hc : (a == b) = c) (hK : K (.bool c)) :
    PureO P (execOp ρ ⟨dst, .binOp .eql t x y t', ty, pos, af, gu⟩) K := by
  subst hc; exact ⟨_, fun w => by simp [execOp, hx, hy, eqGuard, run_eql_bool w t a b ht], hK⟩
theorem pO_bneq {t t' : Nat} {x y : Operand} {a b : Bool} (ht : P.underlying t = some .bool) (hx : ρ x = .bool a) (hy : ρ y = .bool b) (c : Bool) (hc : (!(a == b)) = c) (hK : K (.bool c)) :
    PureO P (execOp ρ ⟨dst, .binOp .neq t x y t', ty, pos, af, gu⟩) K := by
  subst hc; exact ⟨_, fun w => by simp [execOp, hx, hy, eqGuard, run_neq_bool w t a b ht], hK⟩
theorem pO_seql {t t' : Nat} {x y : Operand} {a b : ByteArray} (hx : ρ x = .string a) (hy : ρ y = .string b) (c : Bool) (hc : (a.toList == b.toList) = c) (hK : K (.bool c)) :
    PureO P (execOp ρ ⟨dst, .binOp .eql t x y t', ty, pos, af, gu⟩) K := by
  subst hc; exact ⟨_, fun w => by simp [execOp, hx, hy, eqGuard, binOp_string_eql], hK⟩
theorem pO_sneq {t t' : Nat} {x y : Operand} {a b : ByteArray} (hx : ρ x = .string a) (hy : ρ y = .string b) (c : Bool) (hc : (!(a.toList == b.toList)) = c) (hK : K (.bool c)) :
    PureO P (execOp ρ ⟨dst, .binOp .neq t x y t', ty, pos, af, gu⟩) K := by
  subst hc; exact ⟨_, fun w => by simp [execOp, hx, hy, eqGuard, binOp_string_neq], hK⟩
theorem pO_neg {t : Nat} {x : Operand} {k : IntKind} {a : Int} (hx : ρ x = .int k a) (c : Int) (hc : k.wrap (-a) = c) (hK : K (.int k c)) :
    PureO P (execOp ρ ⟨dst, .unOp .neg t x, ty, pos, af, gu⟩) K := by
  subst hc; exact ⟨_, fun w => by simp [execOp, hx, Op.unary, Op.intArith], hK⟩
theorem pO_len {x : Operand} {t e : Nat} {A : Option Addr} {l c : Nat} (ht : P.underlying t = some (.slice e)) (hx : ρ x = .slice A l c) (hK : K (.int .i64 l)) :
    PureO P (execOp ρ ⟨dst, .call { callee := .builtin .len, args := #[x], argTypes := #[t] }, ty, pos, af, gu⟩) K :=
  ⟨_, fun w => by simp [execOp, resolve, hx, invoke, builtin, Builtin.len_, goInt, underlying, ht], hK⟩
theorem pO_lenS {x : Operand} {t : Nat} {s : ByteArray} (ht : P.underlying t = some .string) (hx : ρ x = .string s) (hK : K (.int .i64 s.size)) :
    PureO P (execOp ρ ⟨dst, .call { callee := .builtin .len, args := #[x], argTypes := #[t] }, ty, pos, af, gu⟩) K :=
  ⟨_, fun w => by simp [execOp, resolve, hx, invoke, builtin, Builtin.len_, goInt, underlying, ht], hK⟩
/-- The address of a slice's element. -/
theorem pO_idx {t e sz : Nat} {x i : Operand} {g o n c : Nat} {k : IntKind} {j : Int} (ht : P.underlying t = some (.slice e)) (hs : ∀ w, (sizeOf e).run P w = .ok sz w) (hx : ρ x = .slice (some ⟨g, o, none⟩) n c) (hi : ρ i = .int k j)
    (h0 : 0 ≤ j) (h1 : j < n) (hK : K (.pointer (some ⟨g, o + j.toNat * sz, none⟩))) :
    PureO P (execOp ρ ⟨dst, .indexAddr t x i, ty, pos, af, gu⟩) K :=
  ⟨_, fun w => by
    have : (Instr.indexAt t (.slice (some ⟨g, o, none⟩) n c) (.int k j)).run P w = .ok (.pointer (some ⟨g, o + j.toNat * sz, none⟩)) w := by
      simp [Instr.indexAt, asIntOf, underlying, ht, h0, h1, hs w, add_off]
    simp [execOp, hx, hi, this], hK⟩
/-- A byte of a string. -/
theorem pO_idxS {t : Nat} {x i : Operand} {s : ByteArray} {k : IntKind} {j : Int} {b : UInt8} (ht : P.underlying t = some .string) (hx : ρ x = .string s) (hi : ρ i = .int k j)
    (h0 : 0 ≤ j) (h1 : s[j.toNat]? = some b) (hK : K (.int .u8 b.toNat)) :
    PureO P (execOp ρ ⟨dst, .index t x i, ty, pos, af, gu⟩) K := by
  refine ⟨_, fun w => ?_, hK⟩
  have : (Instr.index t (.string s) (.int k j)).run P w = .ok (.int .u8 b.toNat) w := by
    simp [Instr.index, asIntOf, underlying, ht, h0, h1]
  simp [execOp, hx, hi, this]
/-- A part of a slice, by its bounds. -/
theorem pO_slice {t e sz : Nat} {x : Operand} {lo hi : Option Operand} {A : Option Addr} {n c : Nat} (l m : Nat) (ht : P.underlying t = some (.slice e)) (hs : ∀ w, (sizeOf e).run P w = .ok sz w)
    (hx : ρ x = .slice A n c) (hlo : match lo with | none => l = 0 | some i => ∃ k, ρ i = .int k l) (hhi : match hi with | none => m = n | some i => ∃ k, ρ i = .int k m) (hlm : l ≤ m) (hmc : m ≤ c)
    (hK : K (.slice (if c = l then A else A.map (·.add (l * sz))) (m - l) (c - l))) :
    PureO P (execOp ρ ⟨dst, .slice t x lo hi none, ty, pos, af, gu⟩) K := by
  refine ⟨_, fun w => ?_, hK⟩
  have : (Instr.sliceAt t (.slice A n c) (lo.map ρ) (hi.map ρ) none).run P w = .ok (.slice (if c = l then A else A.map (·.add (l * sz))) (m - l) (c - l)) w := by
    cases lo with
    | none =>
      cases hi with
      | none =>
        dsimp only at hlo hhi
        subst hlo hhi
        simp [Instr.sliceAt, Instr.slice, underlying, ht, Instr.sliceBounds, hs w]
      | some i =>
        dsimp only at hlo hhi
        subst hlo
        obtain ⟨k, hi⟩ := hhi
        simp [Instr.sliceAt, Instr.slice, underlying, ht, Instr.sliceBounds, Instr.sliceBound, hs w, hi, asIntOf, hmc]
    | some j =>
      obtain ⟨kj, hj⟩ := hlo
      cases hi with
      | none =>
        dsimp only at hhi
        subst hhi
        simp [Instr.sliceAt, Instr.slice, underlying, ht, Instr.sliceBounds, Instr.sliceBound, hs w, hj, asIntOf, hlm]
      | some i =>
        obtain ⟨k, hi⟩ := hhi
        simp [Instr.sliceAt, Instr.slice, underlying, ht, Instr.sliceBounds, Instr.sliceBound, hs w, hi, hj, asIntOf, hmc, hlm]
  simp [execOp, hx, this]
end
end Go.Proofs.Vc

/-! Symbolic execution over heaplets, part 12: rows of the heaplet, how they are read and made. -/
set_option linter.unusedVariables false
set_option linter.unusedSimpArgs false
namespace Go.Proofs.Vc
open Go Go.RowKit

theorem wr64 {x y : Int} (e : x = y) (h0 : -9223372036854775808 ≤ y) (h1 : y < 9223372036854775808) : IntKind.i64.wrap x = y := by subst e; rw [IntKind.wrap_i64]; omega
theorem wru64 {x y : Int} (e : x = y) (h0 : 0 ≤ y) (h1 : y < 18446744073709551616) : IntKind.u64.wrap x = y := by subst e; rw [IntKind.wrap_u64]; omega
theorem EndO.go {p : Prop} (h : p) : EndO p := h
theorem RoundO.go {p : Prop} (h : p) : RoundO p := h
/-! ### Rows -/
/-- The cells from an address on. -/
def Row (h : Heap) (A : Option Addr) (vs : List Value) : Prop :=
  vs = [] ∨ ∃ g o c e fr, A = some ⟨g, o, none⟩ ∧ h g = some (.cells c e fr) ∧ ∀ j, j < vs.length → c[o + j]? = vs[j]?
theorem Row.mono {h h' : Heap} (hle : Le h h') {A : Option Addr} {vs : List Value} (H : Row h A vs) : Row h' A vs := by
  rcases H with H | ⟨g, o, c, e, fr, h1, h2, h3⟩
  · exact .inl H
  · exact .inr ⟨g, o, c, e, fr, h1, hle _ _ h2, h3⟩
theorem Row.add0 {h : Heap} {A : Option Addr} {vs : List Value} (H : Row h A vs) (c : Prop) [Decidable c] : Row h (if c then A else A.map (·.add 0)) vs := by
  split
  · exact H
  · rcases H with H | ⟨g, o, c, e, fr, rfl, h2⟩
    · exact .inl H
    · exact .inr ⟨g, o, c, e, fr, by simp [add_off], h2⟩
theorem Row.nil (h : Heap) (A : Option Addr) : Row h A [] := .inl rfl
theorem Row.part {h : Heap} {A : Option Addr} {vs : List Value} (H : Row h A vs) (l m : Nat) (hl : l ≤ vs.length) : Row h (if l = 0 then A else A.map (·.add l)) ((vs.take m).drop l) := by
  rcases H with rfl | ⟨g, o, c, e, fr, rfl, h2, h3⟩
  · exact .inl (by simp)
  · refine .inr ⟨g, o + l, c, e, fr, ?_, h2, fun j hj => ?_⟩
    · split
      · subst l; simp
      · simp [add_off]
    · simp only [List.length_drop, List.length_take] at hj
      rw [Nat.add_assoc, h3 (l + j) (by omega), List.getElem?_drop, List.getElem?_take, if_pos (by omega)]
/-- A slice value and its values, one cell each. -/
def Sl (h : Heap) (v : Value) (vs : List Value) : Prop := ∃ A c, v = .slice A vs.length c ∧ vs.length ≤ c ∧ Row h A vs
theorem Sl.mono {h h' : Heap} (hle : Le h h') {v : Value} {vs : List Value} (H : Sl h v vs) : Sl h' v vs := by
  obtain ⟨A, c, h1, h2, h3⟩ := H
  exact ⟨A, c, h1, h2, h3.mono hle⟩
theorem Sl.nil (h : Heap) : Sl h (.slice none 0 0) [] := ⟨none, 0, rfl, Nat.le_refl _, Row.nil _ _⟩
/-- A pointer and the cells behind it. -/
def At (h : Heap) (p : Value) (cs : List Value) : Prop := ∃ g o c e fr, p = .pointer (some ⟨g, o, none⟩) ∧ h g = some (.cells c e fr) ∧ ∀ j, j < cs.length → c[o + j]? = cs[j]?
theorem At.mono {h h' : Heap} (hle : Le h h') {p : Value} {cs : List Value} (H : At h p cs) : At h' p cs := by
  obtain ⟨g, o, c, e, fr, h1, h2, h3⟩ := H
  exact ⟨g, o, c, e, fr, h1, hle _ _ h2, h3⟩
theorem lO_at {h : Heap} {p y : Value} {K : Value → Prop} (H : At h p [y]) (hK : K y) : LoadO h false 1 p K := by
  obtain ⟨g, o, c, e, fr, rfl, h2, h3⟩ := H
  exact ⟨y, ⟨g, o, [y], rfl, ⟨c, e, fr, h2, h3⟩, rfl, rfl⟩, hK⟩
theorem lO_agg {h : Heap} {p : Value} {cs : List Value} {n : Nat} {K : Value → Prop} (H : At h p cs) (hn : cs.length = n) (hK : K (.agg cs.toArray)) : LoadO h true n p K := by
  obtain ⟨g, o, c, e, fr, rfl, h2, h3⟩ := H
  exact ⟨_, ⟨g, o, cs, rfl, ⟨c, e, fr, h2, h3⟩, hn, rfl⟩, hK⟩

section
variable {P : Program} {ρ : Operand → Value} {dst : Option Nat} {ty : Nat} {pos : String} {af : Array Edge} {gu : Option (Nat × Bool)} {K : Value → Prop}
/-- The address of an element that is read. -/
theorem pO_at {h : Heap} {t e sz : Nat} {x i : Operand} {A : Option Addr} {n c : Nat} {k : IntKind} {j : Int} {vs : List Value} (ht : P.underlying t = some (.slice e)) (hs : ∀ w, (sizeOf e).run P w = .ok sz w)
    (hx : ρ x = .slice A n c) (hi : ρ i = .int k j) (hr : Row h A vs) (hn : vs.length = n * sz) (h0 : 0 ≤ j) (h1 : j < n) (hsz : 0 < sz) (hK : ∀ p, At h p ((vs.drop (j.toNat * sz)).take sz) → K p) :
    PureO P (execOp ρ ⟨dst, .indexAddr t x i, ty, pos, af, gu⟩) K := by
  have hlt : j.toNat * sz + sz ≤ vs.length := by
    rw [hn, ← Nat.succ_mul]
    exact Nat.mul_le_mul_right _ (by omega)
  rcases hr with rfl | ⟨g, o, cc, ee, fr, rfl, h2, h3⟩
  · simp at hlt; omega
  · refine pO_idx ht hs hx hi h0 h1 (hK _ ⟨g, _, cc, ee, fr, rfl, h2, fun q hq => ?_⟩)
    simp only [List.length_take, List.length_drop] at hq
    rw [Nat.add_assoc, h3 _ (by omega), List.getElem?_take, if_pos (by omega), List.getElem?_drop]
/-- The address of an element of one cell that is read. -/
theorem pO_at1 {h : Heap} {t e : Nat} {x i : Operand} {A : Option Addr} {n c : Nat} {k : IntKind} {j : Int} {vs : List Value} {y : Value} (ht : P.underlying t = some (.slice e)) (hs : ∀ w, (sizeOf e).run P w = .ok 1 w)
    (hx : ρ x = .slice A n c) (hi : ρ i = .int k j) (hr : Row h A vs) (hn : vs.length = n) (h0 : 0 ≤ j) (hy : vs[j.toNat]? = some y) (hK : ∀ p, At h p [y] → K p) :
    PureO P (execOp ρ ⟨dst, .indexAddr t x i, ty, pos, af, gu⟩) K := by
  obtain ⟨hlt, hy'⟩ := List.getElem?_eq_some_iff.1 hy
  refine pO_at ht hs hx hi hr (by omega) h0 (by omega) (by omega) (fun p hp => hK p ?_)
  rw [Nat.mul_one, List.drop_eq_getElem_cons hlt, List.take_succ_cons, List.take_zero, hy'] at hp
  exact hp
theorem pO_atN {h : Heap} {t e : Nat} {x i : Operand} {A : Option Addr} {n c : Nat} {k : IntKind} {j : Nat} {vs : List Value} {y : Value} (ht : P.underlying t = some (.slice e)) (hs : ∀ w, (sizeOf e).run P w = .ok 1 w)
    (hx : ρ x = .slice A n c) (hi : ρ i = .int k (j : Int)) (hr : Row h A vs) (hn : vs.length = n) (hy : vs[j]? = some y) (hK : ∀ p, At h p [y] → K p) :
    PureO P (execOp ρ ⟨dst, .indexAddr t x i, ty, pos, af, gu⟩) K := pO_at1 ht hs hx hi hr hn (by omega) (by rw [Int.toNat_natCast]; exact hy) hK
/-- The address of an element of one cell, at a known block. -/
theorem pO_own {t e : Nat} {x i : Operand} {g o n c : Nat} {k : IntKind} {j : Nat} (ht : P.underlying t = some (.slice e)) (hs : ∀ w, (sizeOf e).run P w = .ok 1 w) (hx : ρ x = .slice (some ⟨g, o, none⟩) n c) (hi : ρ i = .int k (j : Int))
    (h1 : j < n) (hK : K (.pointer (some ⟨g, o + j, none⟩))) : PureO P (execOp ρ ⟨dst, .indexAddr t x i, ty, pos, af, gu⟩) K :=
  pO_idx ht hs hx hi (by omega) (by omega) (by rw [Int.toNat_natCast, Nat.mul_one]; exact hK)
/-- A part of a slice of one-cell values. -/
theorem pO_part {h : Heap} {t e : Nat} {x : Operand} {lo hi : Option Operand} {A : Option Addr} {n c : Nat} {vs : List Value} (l m : Nat) (ht : P.underlying t = some (.slice e)) (hs : ∀ w, (sizeOf e).run P w = .ok 1 w)
    (hx : ρ x = .slice A n c) (hr : Row h A vs) (hn : vs.length = n) (hnc : n ≤ c) (hlo : match lo with | none => l = 0 | some i => ∃ k, ρ i = .int k l) (hhi : match hi with | none => m = n | some i => ∃ k, ρ i = .int k m) (hlm : l ≤ m) (hmc : m ≤ n)
    (hK : ∀ A', Row h A' ((vs.take m).drop l) → K (.slice A' (m - l) (c - l))) : PureO P (execOp ρ ⟨dst, .slice t x lo hi none, ty, pos, af, gu⟩) K := by
  refine pO_slice l m ht hs hx hlo hhi hlm (by omega) (hK _ ?_)
  by_cases hc : c = l
  · have : (vs.take m).drop l = [] := List.drop_eq_nil_of_le (by simp; omega)
    rw [this]; exact Row.nil _ _
  · rw [if_neg hc, Nat.mul_one]
    have := hr.part l m (by omega)
    by_cases h0 : l = 0
    · subst h0
      simpa [Option.map] using (by simpa using this : Row h A (vs.take m)).elim (fun h => .inl h) (fun ⟨g, o, cc, e, fr, h1, h2⟩ => .inr ⟨g, o, cc, e, fr, by subst h1; simp [add_off], h2⟩)
    · rw [if_neg h0] at this; exact this
/-- 's[l:]' of a row at a known block. -/
theorem pO_tail {t e : Nat} {x i : Operand} {g o n c : Nat} {k : IntKind} {l : Nat} (o' : Nat) (ht : P.underlying t = some (.slice e)) (hs : ∀ w, (sizeOf e).run P w = .ok 1 w) (hx : ρ x = .slice (some ⟨g, o, none⟩) n c) (hi : ρ i = .int k (l : Int))
    (h1 : l < n) (hc : n ≤ c) (ho : o + l = o') (hK : K (.slice (some ⟨g, o', none⟩) (n - l) (c - l))) : PureO P (execOp ρ ⟨dst, .slice t x (some i) none none, ty, pos, af, gu⟩) K := by
  subst ho
  refine pO_slice l n ht hs hx ⟨k, hi⟩ rfl (by omega) hc ?_
  rw [if_neg (by omega), Nat.mul_one]
  simpa [add_off] using hK
/-- 's[:n:n]' -/
theorem pO_clip {t e sz : Nat} {x : Operand} {i j : Operand} {A : Option Addr} {n c : Nat} {k k' : IntKind} (ht : P.underlying t = some (.slice e)) (hs : ∀ w, (sizeOf e).run P w = .ok sz w)
    (hx : ρ x = .slice A n c) (hi : ρ i = .int k n) (hj : ρ j = .int k' n) (hnc : n ≤ c) (hK : K (.slice (if n = 0 then A else A.map (·.add 0)) n n)) :
    PureO P (execOp ρ ⟨dst, .slice t x none (some i) (some j), ty, pos, af, gu⟩) K := by
  refine ⟨_, fun w => ?_, hK⟩
  simp [execOp, hx, hi, hj, Instr.sliceAt, Instr.slice, underlying, ht, Instr.sliceBounds, Instr.sliceBound, hs w, asIntOf, hnc]
theorem pO_sliceS {t : Nat} {x : Operand} {lo hi : Option Operand} {s : ByteArray} (l m : Nat) (ht : P.underlying t = some .string)
    (hx : ρ x = .string s) (hlo : match lo with | none => l = 0 | some i => ∃ k, ρ i = .int k l) (hhi : match hi with | none => m = s.size | some i => ∃ k, ρ i = .int k m) (hlm : l ≤ m) (hmc : m ≤ s.size)
    (hK : K (.string (s.extract l m))) : PureO P (execOp ρ ⟨dst, .slice t x lo hi none, ty, pos, af, gu⟩) K := by
  refine ⟨_, fun w => ?_, hK⟩
  cases lo with
  | none =>
    cases hi with
    | none =>
      dsimp only at hlo hhi
      subst hlo hhi
      simp [execOp, hx, Instr.sliceAt, Instr.slice, underlying, ht, Instr.sliceBounds]
    | some i =>
      dsimp only at hlo hhi
      subst hlo
      obtain ⟨k, hi⟩ := hhi
      simp [execOp, hx, Instr.sliceAt, Instr.slice, underlying, ht, Instr.sliceBounds, Instr.sliceBound, hi, asIntOf, hmc]
  | some j =>
    obtain ⟨kj, hj⟩ := hlo
    cases hi with
    | none =>
      dsimp only at hhi
      subst hhi
      simp [execOp, hx, Instr.sliceAt, Instr.slice, underlying, ht, Instr.sliceBounds, Instr.sliceBound, hj, asIntOf, hlm]
    | some i =>
      obtain ⟨k, hi⟩ := hhi
      simp [execOp, hx, Instr.sliceAt, Instr.slice, underlying, ht, Instr.sliceBounds, Instr.sliceBound, hi, hj, asIntOf, hmc, hlm]
theorem pO_cat {t t' : Nat} {x y : Operand} {a b : ByteArray} (hx : ρ x = .string a) (hy : ρ y = .string b) (hs : a.size + b.size ≤ 9223372036854775807) (hK : K (.string (a ++ b))) :
    PureO P (execOp ρ ⟨dst, .binOp .add t x y t', ty, pos, af, gu⟩) K :=
  ⟨_, fun w => by simp [execOp, hx, hy, binOp, eqGuard, run_string_add_sum w a b hs], hK⟩
theorem pO_conv {t t' : Nat} {x : Operand} {k k' : IntKind} {a : Int} (hs : (P.underlying t).isSome = true) (hd : P.underlying t' = some (.int k')) (hx : ρ x = .int k a) (c : Int) (hc : k'.wrap a = c) (hK : K (.int k' c)) :
    PureO P (execOp ρ ⟨dst, .convert t t' x, ty, pos, af, gu⟩) K := by
  subst hc
  refine ⟨_, fun w => ?_, hK⟩
  obtain ⟨d, hd'⟩ := Option.isSome_iff_exists.mp hs
  simp [execOp, hx, convert, run_underlying hd', run_underlying hd, Conv.intToInt]
theorem pO_min {x y : Operand} {ts : Array Nat} {k : IntKind} {a b : Int} (hx : ρ x = .int k a) (hy : ρ y = .int k b) (c : Int) (hc : (if b < a then b else a) = c) (hK : K (.int k c)) :
    PureO P (execOp ρ ⟨dst, .call { callee := .builtin .min, args := #[x, y], argTypes := ts }, ty, pos, af, gu⟩) K := by
  subst hc; exact ⟨_, fun w => by simp [execOp, resolve, hx, hy, invoke, builtin, Builtin.min_, Builtin.min2], hK⟩
theorem pO_max {x y : Operand} {ts : Array Nat} {k : IntKind} {a b : Int} (hx : ρ x = .int k a) (hy : ρ y = .int k b) (c : Int) (hc : (if a < b then b else a) = c) (hK : K (.int k c)) :
    PureO P (execOp ρ ⟨dst, .call { callee := .builtin .max, args := #[x, y], argTypes := ts }, ty, pos, af, gu⟩) K := by
  subst hc; exact ⟨_, fun w => by simp [execOp, resolve, hx, hy, invoke, builtin, Builtin.max_, Builtin.max2], hK⟩
/-- A struct or an array out of its parts. -/
theorem pO_build {t : Nat} {ps : Array (Nat × Operand)} (y : Value) (H : ∀ w, (Instr.build t (ps.map fun p => (p.1, ρ p.2))).run P w = .ok y w) (hK : K y) : PureO P (execOp ρ ⟨dst, .build t ps, ty, pos, af, gu⟩) K :=
  ⟨y, fun w => by simp only [execOp]; simp only [Sem.run_bind, H w, Result.andThen_ok, Sem.run_pure], hK⟩
end

/-- Words as values. -/
def ws (l : List Nat) : List Value := l.map fun d : Nat => Value.int .u64 (d : Int)
theorem ws_length (l : List Nat) : (ws l).length = l.length := by simp [ws]
theorem ws_get (l : List Nat) (i : Nat) (hi : i < l.length) : (ws l)[i]? = some (.int .u64 ((l.getD i 0 : Nat) : Int)) := by
  simp [ws, List.getD_eq_getElem?_getD, hi]

theorem low_get {b : Nat} {l : List Nat} (h : ∀ x ∈ l, x < b) (hb : 0 < b) (i : Nat) : l.getD i 0 < b := by
  by_cases hi : i < l.length
  · rw [List.getD_eq_getElem?_getD, List.getElem?_eq_getElem hi]; exact h _ (List.getElem_mem hi)
  · rw [List.getD_eq_getElem?_getD, List.getElem?_eq_none (by omega)]; exact hb
theorem splice_ws (l : List Nat) (j : Nat) (d : Nat) (hj : j < l.length) : splice (ws l) j [.int .u64 (d : Int)] = ws (l.set j d) := by
  unfold splice ws
  rw [List.set_eq_take_append_cons_drop, if_pos hj]
  simp
/-- A word of a row of one's own is read. -/
theorem lO_own {h : Heap} {g off j : Nat} {cur : List Nat} {e : Nat} {fr : Nat × Nat} {K : Value → Prop} (hg : h g = some (.cells (ws cur).toArray e fr)) (ho : off = j) (hj : j < cur.length)
    (hK : K (.int .u64 ((cur.getD j 0 : Nat) : Int))) : LoadO h false 1 (.pointer (some ⟨g, off, none⟩)) K := by
  subst ho
  refine lO_at (y := .int .u64 ((cur.getD off 0 : Nat) : Int)) ⟨g, off, _, e, fr, rfl, hg, fun q hq => ?_⟩ hK
  have : q = 0 := by simpa using hq
  subst this
  simpa using ws_get cur off hj
/-- A word of a row of one's own is written. -/
theorem stO_w {h0 h : Heap} {g off j d : Nat} {cur : List Nat} {e : Nat} {K : Heap → Prop} (hg : h g = some (.cells (ws cur).toArray e (0, 0))) (h0g : h0 g = none) (ho : off = j) (hj : j < cur.length)
    (hK : K (h.upd g (.cells (ws (cur.set j d)).toArray e (0, 0)))) : StoreO h0 h 1 (.pointer (some ⟨g, off, none⟩)) (.int .u64 (d : Int)) K := by
  subst ho
  refine ⟨g, off, _, e, rfl, hg, h0g, by simp [ws]; omega, ?_⟩
  have := splice_ws cur off d hj
  simpa [Value.cells, this] using hK
theorem Le.upd_out {hA h : Heap} {g : Nat} {o : Obj} (H : Le hA h) (hg : hA g = none) : Le hA (h.upd g o) := fun k p hk => by
  have hne : k ≠ g := fun e => by rw [e, hg] at hk; cases hk
  rw [Heap.upd_ne _ _ hne]; exact H _ _ hk
theorem Heap.less_same (h : Heap) (g : Nat) : h.less g g = none := by simp [Heap.less]
theorem Heap.less_le (h : Heap) (g : Nat) : Le (h.less g) h := fun k o hk => by
  unfold Heap.less at hk
  cases hc : (k == g) with
  | true => rw [hc] at hk; cases hk
  | false => rw [hc] at hk; exact hk
theorem Le.to_less {hA h : Heap} {g : Nat} (H : Le hA h) (hg : hA g = none) : Le hA (h.less g) := fun k o hk => by
  have hne : k ≠ g := fun e => by rw [e, hg] at hk; cases hk
  unfold Heap.less
  rw [beq_eq_false_iff_ne.2 hne]
  exact H k o hk
theorem Le.absent {hA h : Heap} (H : Le hA h) {g : Nat} (hg : h g = none) : hA g = none := by
  cases e : hA g with
  | none => rfl
  | some o => rw [H g o e] at hg; cases hg
/-- What a call that may write block g leaves of the others. -/
theorem Le.less {h h' : Heap} {g : Nat} (H : ∀ k o, ¬ (k = g) → h k = some o → h' k = some o) {hA : Heap} (hle : Le hA h) (hg : hA g = none) : Le hA h' := fun k o hk => by
  have hne : k ≠ g := fun e => by rw [e, hg] at hk; cases hk
  exact H k o hne (hle k o hk)

theorem ws_replicate (n : Nat) : ws (List.replicate n 0) = List.replicate n (.int .u64 0) := by simp [ws]

/-! ### What makes memory -/
section
variable {P : Program} {h0 h : Heap} {pend : Bool} {ρ : Operand → Value} {dst : Option Nat} {ty : Nat} {pos : String} {af : Array Edge} {gu : Option (Nat × Bool)} {Φ : Value → Heap → Prop}
theorem grows_alloc {w : World} (hs : Sat h w) (c : Array Value) (e : Nat) (fr : Nat × Nat) : GrowsX NoX h (h.upd w.heap.size (.cells c e fr)) w (w.alloc (.cells c e fr)) := by
  refine ⟨fun g o _ hg => Le.upd hs.fresh g o hg, fun g o hg => ?_, fun g o hg => ?_, rfl, rfl, rfl, by simp, fun k hk _ => Below.heap_alloc _ _ _ hk⟩
  · by_cases e1 : g = w.heap.size
    · subst e1
      rw [Heap.upd_same] at hg
      cases hg
      exact heap_alloc_new w _
    · rw [Heap.upd_ne _ _ e1] at hg
      exact hs.alloc _ g o hg
  · by_cases e1 : g = w.heap.size
    · subst e1; exact .inr (Nat.le_refl _)
    · rw [Heap.upd_ne _ _ e1] at hg
      exact .inl (by rw [hg]; rfl)
theorem grows_drew {X : Nat → Prop} {w w' : World} {h' : Heap} (G : GrowsX X h h' (w.drew) w') : GrowsX X h h' w w' :=
  ⟨G.le, G.sat, G.new, G.os, G.tape, G.output, G.size, G.block⟩
theorem eO_new {s : Sem Next} (c : Array Value) (e : Nat) (fr : Nat × Nat) (v : Nat → Value) (H : ∀ w, s.run P w = .ok (.value (v w.heap.size)) (w.alloc (.cells c e fr)))
    (hK : ∀ g, h g = none → Φ (v g) (h.upd g (.cells c e fr))) : EffO P h0 pend s h Φ :=
  ⟨NoX, fun _ _ hx => hx, fun _ hx => hx.elim, fun w hw => ⟨_, _, _, H w, grows_alloc hw c e fr, hK _ hw.fresh⟩⟩
/-- What is known of a type's elements. -/
structure Elem (P : Program) (e : Nat) (z : Value) (size : Nat) : Prop where
  is : ∃ i, P.info? e = some i ∧ i.zero = some z ∧ i.size = size ∧ i.bytes ≤ 128
theorem Elem.of {P : Program} {e : Nat} {z : Value} {size bytes : Nat} (h1 : (P.info? e).map (·.zero) = some (some z)) (h2 : (P.info? e).map (·.size) = some size) (h3 : (P.info? e).map (·.bytes) = some bytes) (hb : bytes ≤ 128) : Elem P e z size := by
  obtain ⟨i, hi, h1⟩ := Option.map_eq_some_iff.1 h1
  rw [hi] at h2 h3
  simp only [Option.map_some, Option.some.injEq] at h2 h3
  exact ⟨i, hi, h1, h2, by omega⟩
/-- 'make' of one-cell values. -/
theorem eO_make {t e : Nat} {z : Value} {x y : Operand} {k k' : IntKind} (n : Nat) (ht : P.underlying t = some (.slice e)) (he : Elem P e z 1) (hz1 : z.cells = #[z])
    (hx : ρ x = .int k n) (hy : ρ y = .int k' n) (hn : n ≤ 1099511627776) (hK : ∀ g, h g = none → Φ (.slice (some ⟨g, 0, none⟩) n n) (h.upd g (.cells (List.replicate n z).toArray e (0, 0)))) :
    EffO P h0 pend (execOp ρ ⟨dst, .makeSlice t x y, ty, pos, af, gu⟩) h Φ := by
  obtain ⟨i, hi, hz, hsz, hby⟩ := he.is
  refine eO_new (List.replicate n z).toArray e (0, 0) (fun g => .slice (some ⟨g, 0, none⟩) n n) (fun w => ?_) hK
  have hb : (i.bytes : Int) * (n : Int) ≤ 281474976710656 := by
    have h1 : i.bytes * n ≤ 128 * 1099511627776 := Nat.mul_le_mul hby hn
    have h2 : ((i.bytes * n : Nat) : Int) ≤ 281474976710656 := by omega
    rwa [Int.natCast_mul] at h2
  have hr := run_make (P := P) w t e i z ht hi hz k k' n n (by omega) (Int.le_refl _) hb (by omega)
  simp only [Int.toNat_natCast, hz1, hsz, Nat.mul_one] at hr
  have hc : madeCells #[z] n = (List.replicate n z).toArray := by
    rw [← toList_madeCells_one]
  rw [hc] at hr
  simp only [execOp, hx, hy, Sem.run_bind, hr, Result.andThen_ok, Sem.run_pure]
/-- A slice literal. -/
theorem eO_lit {t e : Nat} {len : Nat} {ps : Array (Nat × Operand)} (cs : Array Value) (H : ∀ w, (Instr.buildSlice t len (ps.map fun p => (p.1, ρ p.2))).run P w = .ok (.slice (some ⟨w.heap.size, 0, none⟩) len len) (w.alloc (.cells cs e)))
    (hK : ∀ g, h g = none → Φ (.slice (some ⟨g, 0, none⟩) len len) (h.upd g (.cells cs e (0, 0)))) : EffO P h0 pend (execOp ρ ⟨dst, .buildSlice t len ps, ty, pos, af, gu⟩) h Φ := by
  refine eO_new cs e (0, 0) (fun g => .slice (some ⟨g, 0, none⟩) len len) (fun w => ?_) hK
  simp only [execOp, Sem.run_bind, H w, Result.andThen_ok, Sem.run_pure]
theorem run_lit {t e sz : Nat} {len : Nat} {ps : Array (Nat × Value)} {z : Value} {cs : Array Value} (ht : P.underlying t = some (.slice e)) (hs : ∀ w, (sizeOf e).run P w = .ok sz w) (hz : ∀ w, (zeroValue e).run P w = .ok z w)
    (hl : len * sz ≤ 16777216) (hf : Instr.fill (fun i => some (i * sz, sz)) (if len * sz = 0 then #[] else (Array.range (len * sz)).map (z.cells[· % z.cells.size]!)) ps.toList = some cs) (w : World) :
    (Instr.buildSlice t len ps).run P w = .ok (.slice (some ⟨w.heap.size, 0, none⟩) len len) (w.alloc (.cells cs e)) := by
  have hl' : ¬ (16777216 < len * sz) := by omega
  unfold Instr.buildSlice
  by_cases h0 : len * sz = 0
  · rw [if_pos h0] at hf
    simp only [Sem.run_bind, run_underlying ht, Result.andThen_ok, hs w]
    simp [h0, hf, newRow, Array.range_zero']
  · rw [if_neg h0] at hf
    simp only [Sem.run_bind, run_underlying ht, Result.andThen_ok, hs w]
    simp [h0, hl', hz w, hf, newRow]
theorem fill_one (c : List Value) : ∀ (pre rest : List Value) (k off : Nat), c.length ≤ rest.length → pre.length = off + k →
    (c.zipIdx k).foldl (fun (cs : Array Value) (p : Value × Nat) => cs.setIfInBounds (off + p.2) p.1) (pre ++ rest).toArray = (pre ++ c ++ rest.drop c.length).toArray := by
  induction c with
  | nil => intro pre rest k off _ _; simp
  | cons x c ih =>
    intro pre rest k off hl hp
    cases rest with
    | nil => simp at hl
    | cons y rest =>
      rw [List.zipIdx_cons, List.foldl_cons]
      have h1 : (pre ++ y :: rest).toArray.setIfInBounds (off + k) x = ((pre ++ [x]) ++ rest).toArray := by
        rw [← hp]
        simp
      dsimp only
      rw [h1, ih (pre ++ [x]) rest (k + 1) off (by simpa using hl) (by simp; omega)]
      simp
def numbered : Nat → List Value → List (Nat × Value)
  | _, [] => []
  | k, v :: l => (k, v) :: numbered (k + 1) l
theorem fill_all (sz : Nat) (vs : List Value) : ∀ (k : Nat) (pre rest : List Value), (∀ v ∈ vs, v.cells.size = sz) → pre.length = k * sz → rest.length = vs.length * sz →
    Instr.fill (fun i => some (i * sz, sz)) (pre ++ rest).toArray (numbered k vs) = some (pre ++ vs.flatMap fun v => v.cells.toList).toArray := by
  induction vs with
  | nil =>
    intro k pre rest _ _ hr
    have : rest = [] := List.eq_nil_of_length_eq_zero (by simpa using hr)
    subst this
    simp [numbered, Instr.fill]
  | cons v vs ih =>
    intro k pre rest hv hp hr
    have h1 := hv v (by simp)
    have h2 : v.cells.toList.length = sz := by simpa using h1
    have h3 : (vs.length + 1) * sz = vs.length * sz + sz := Nat.succ_mul _ _
    simp only [List.length_cons] at hr
    rw [numbered, Instr.fill]
    have h4 : ¬ (v.cells.size ≠ sz ∨ k * sz + v.cells.size > (pre ++ rest).toArray.size) := by
      simp only [h1, List.size_toArray, List.length_append, not_or, Decidable.not_not, true_and]
      omega
    simp only [Bool.or_eq_true, decide_eq_true_eq]
    rw [if_neg h4]
    have h5 := fill_one v.cells.toList pre rest 0 (k * sz) (by omega) (by simpa using hp)
    have h6 : v.cells.zipIdx.foldl (fun (cs : Array Value) (p : Value × Nat) => cs.setIfInBounds (k * sz + p.2) p.1) (pre ++ rest).toArray = (pre ++ v.cells.toList ++ rest.drop v.cells.toList.length).toArray := by
      rw [← h5, ← Array.foldl_toList, Array.toList_zipIdx]
    have h7 := ih (k + 1) (pre ++ v.cells.toList) (rest.drop v.cells.toList.length) (fun u hu => hv u (by simp [hu])) (by simp only [List.length_append, h2, hp]; rw [Nat.succ_mul]) (by simp only [List.length_drop, h2]; omega)
    rw [h6, h7]
    simp
/-- A slice literal whose elements are all given. -/
theorem eO_lits {t e sz : Nat} {len : Nat} {ps : Array (Nat × Operand)} {z : Value} (vs : List Value) (ht : P.underlying t = some (.slice e)) (hs : ∀ w, (sizeOf e).run P w = .ok sz w) (hz : ∀ w, (zeroValue e).run P w = .ok z w) (hl : len * sz ≤ 16777216)
    (hv : (ps.toList.map fun p => (p.1, ρ p.2)) = numbered 0 vs) (hlen : vs.length = len) (hsz : ∀ v ∈ vs, v.cells.size = sz)
    (hK : ∀ g, h g = none → Φ (.slice (some ⟨g, 0, none⟩) len len) (h.upd g (.cells (vs.flatMap fun v => v.cells.toList).toArray e (0, 0)))) : EffO P h0 pend (execOp ρ ⟨dst, .buildSlice t len ps, ty, pos, af, gu⟩) h Φ := by
  refine eO_lit _ (run_lit ht hs hz hl ?_) hK
  rw [Array.toList_map, hv]
  have key : ∀ cs : Array Value, cs.size = len * sz → Instr.fill (fun i => some (i * sz, sz)) cs (numbered 0 vs) = some (vs.flatMap fun v => v.cells.toList).toArray := fun cs hcs => by
    have := fill_all sz vs 0 [] cs.toList hsz (by simp) (by rw [hlen]; simpa using hcs)
    simpa using this
  refine key _ ?_
  split
  · rename_i h0; simp [h0]
  · simp
/-- '[]byte(s)' -/
theorem eO_bytes {t t' e : Nat} {x : Operand} {s : ByteArray} (hs : P.underlying t = some .string) (hd : P.underlying t' = some (.slice e)) (he : P.underlying e = some (.int .u8)) (hx : ρ x = .string s)
    (hK : ∀ A c h', Le h h' → s.size ≤ c → Row h' A (s.data.toList.map fun b => .int .u8 (b.toNat : Int)) → Φ (.slice A s.size c) h') : EffO P h0 pend (execOp ρ ⟨dst, .convert t t' x, ty, pos, af, gu⟩) h Φ := by
  refine ⟨NoX, fun _ _ hx => hx, fun _ hx => hx.elim, fun w hw => ?_⟩
  have hr := run_bytes_of_string (P := P) w t t' e s hs hd he
  refine ⟨.slice (some ⟨w.heap.size, 0, none⟩) s.size (grownCap w s.size 0 e), h.upd w.heap.size (.cells (bytesRow s (grownCap w s.size 0 e)) e ((bytesRow s (grownCap w s.size 0 e)).size, (bytesRow s (grownCap w s.size 0 e)).size + 1)), _, ?_, grows_drew (grows_alloc (w := w.drew) hw _ e _), hK _ _ _ (Le.upd (Sat.fresh (w := w.drew) hw)) (grownCap_ge _ _ _ _) (.inr ⟨_, 0, _, _, _, rfl, Heap.upd_same _ _ _, fun j hj => ?_⟩)⟩
  · simp only [execOp, hx, Sem.run_bind, hr, Result.andThen_ok, Sem.run_pure]
  simp only [List.length_map, Array.length_toList] at hj
  have hj' : j < s.size := hj
  simp [bytesRow, Array.getElem?_append, hj, hj']
theorem eO_byte {t t' e : Nat} {x : Operand} {A : Option Addr} {n c : Nat} {l : List UInt8} (hs : P.underlying t = some (.slice e)) (he : P.underlying e = some (.int .u8)) (hd : P.underlying t' = some .string) (hx : ρ x = .slice A n c)
    (hn : l.length = n) (h1 : 0 < n) (hr : Row h A (l.map fun b => .int .u8 (b.toNat : Int))) (hK : Φ (.string ⟨l.toArray⟩) h) : EffO P h0 pend (execOp ρ ⟨dst, .convert t t' x, ty, pos, af, gu⟩) h Φ := by
  refine ⟨NoX, fun _ _ hx => hx, fun _ hx => hx.elim, fun w hw => ?_⟩
  rcases hr with hr | ⟨g, o, cc, ee, fr, rfl, h2, h3⟩
  · simp at hr; subst hr; simp at hn; omega
  · subst hn
    have hb := hw _ _ h2
    have hr := run_convert_bytes_back (P := P) w t t' e ⟨g, o, none⟩ c l hs he hd (fun j hj => by
      rw [add_off]
      refine cell_of_block hb ?_
      rw [h3 j (by simpa using hj)]
      simp [hj])
    exact ⟨_, h, w, by simp only [execOp, hx, Sem.run_bind, hr, Result.andThen_ok, Sem.run_pure], ⟨fun g o _ hg => hg, hw, fun g o hg => .inl (by rw [hg]; rfl), rfl, rfl, rfl, Nat.le_refl _, fun _ _ _ => rfl⟩, hK⟩
theorem eO_alloc {e : Nat} {v : Value} (hz : ∀ w, (zeroValue e).run P w = .ok v w) (hK : ∀ g, h g = none → Φ (.pointer (some ⟨g, 0, none⟩)) (h.upd g (.cells v.cells e (0, 0)))) :
    EffO P h0 pend (execOp ρ ⟨dst, .alloc e, ty, pos, af, gu⟩) h Φ := by
  refine eO_new v.cells e (0, 0) (fun g => .pointer (some ⟨g, 0, none⟩)) (fun w => ?_) hK
  simp [execOp, Instr.alloc, hz w, newVar, newRow]

/-! ### Rows that grow -/
/-- A row that is one's own: its block is not in the heaplet hA. -/
def Own (hA h : Heap) (e size : Nat) (v : Value) (n : Nat) (xs : List Value) : Prop :=
  xs.length = n * size ∧ ((v = .slice none 0 0 ∧ n = 0) ∨ ∃ g cap cur, v = .slice (some ⟨g, 0, none⟩) n cap ∧ h g = some (.cells cur e (0, 0)) ∧ hA g = none ∧ n ≤ cap ∧ cap ≤ maxLen ∧ cur.size = cap * size ∧ cur.toList.take (n * size) = xs)
theorem Own.nil (hA h : Heap) (e size : Nat) : Own hA h e size (.slice none 0 0) 0 [] := ⟨by simp, .inl ⟨rfl, rfl⟩⟩
theorem Own.lit {hA h : Heap} {e size g n : Nat} {cs : Array Value} (hA0 : hA g = none) (hm : n ≤ maxLen) (hs : cs.size = n * size) : Own hA (h.upd g (.cells cs e (0, 0))) e size (.slice (some ⟨g, 0, none⟩) n n) n cs.toList :=
  ⟨by simpa using hs, .inr ⟨g, n, cs, rfl, Heap.upd_same _ _ _, hA0, Nat.le_refl _, hm, hs, List.take_of_length_le (by simp [hs])⟩⟩
theorem Own.row {hA h : Heap} {e size : Nat} {v : Value} {n : Nat} {xs : List Value} (H : Own hA h e size v n xs) : ∃ A c, v = .slice A n c ∧ n ≤ c ∧ Row h A xs := by
  obtain ⟨hl, ⟨rfl, rfl⟩ | ⟨g, cap, cur, rfl, h1, _, h3, _, h5, h6⟩⟩ := H
  · exact ⟨none, 0, rfl, Nat.le_refl _, .inl (List.eq_nil_of_length_eq_zero (by simpa using hl))⟩
  · refine ⟨_, _, rfl, h3, .inr ⟨g, 0, cur, e, (0, 0), rfl, h1, fun j hj => ?_⟩⟩
    rw [Nat.zero_add, ← h6, List.getElem?_take, if_pos (by omega)]
    simp
theorem Own.mono {hA hA' h h' : Heap} {e size : Nat} {v : Value} {n : Nat} {xs : List Value} (H : Own hA h e size v n xs) (hle : Le h h') (hn : ∀ g, (h g).isSome = true → hA g = none → hA' g = none) : Own hA' h' e size v n xs := by
  obtain ⟨hl, H | ⟨g, cap, cur, h1, h2, h3, h4⟩⟩ := H
  · exact ⟨hl, .inl H⟩
  · exact ⟨hl, .inr ⟨g, cap, cur, h1, hle _ _ h2, hn g (by rw [h2]; rfl) h3, h4⟩⟩
theorem exec_append {t : Nat} {x y : Operand} {v u v' : Value} {w w' : World} (hx : ρ x = v) (hy : ρ y = u) (hr : (Builtin.append_ #[t, t] ty #[v, u]).run P w = .ok v' w') :
    (execOp ρ ⟨dst, .call { callee := .builtin .append, args := #[x, y], argTypes := #[t, t] }, ty, pos, af, gu⟩).run P w = .ok (.value v') w' := by
  simp only [execOp, resolve, invoke, builtin, Sem.run_bind, Sem.run_pure, Result.andThen_ok, List.map_toArray, List.map_cons, List.map_nil, hx, hy, hr]
theorem eO_append {hA : Heap} {t e size : Nat} {z : Value} {x y : Operand} {v : Value} {n m c : Nat} {B : Option Addr} {xs news : List Value} (hp : pend = false) (h0A : Le h0 hA) (hAh : Le hA h)
    (ht : P.underlying t = some (.slice e)) (he : Elem P e z size) (hzs : z.cells.size = size) (hsz : 0 < size)
    (hx : ρ x = v) (hown : Own hA h e size v n xs) (hy : ρ y = .slice B m c) (hm : 0 < m) (hl : news.length = m * size) (hnews : Row h B news) (h1 : ∀ u ∈ news, u.oneCell' = true) (hn : n + m ≤ 1099511627776)
    (hK : ∀ v' h', Own hA h' e size v' (n + m) (xs ++ news) → Le hA h' → Φ v' h') :
    EffO P h0 pend (execOp ρ ⟨dst, .call { callee := .builtin .append, args := #[x, y], argTypes := #[t, t] }, ty, pos, af, gu⟩) h Φ := by
  subst hp
  obtain ⟨i, hi, hz, hsize, hby⟩ := he.is
  refine ⟨fun k => ∃ c l, v = .slice (some ⟨k, 0, none⟩) c l ∧ hA k = none ∧ (h k).isSome = true, (fun hh => by cases hh), fun k ⟨c, l, _, h2, h3⟩ => ⟨?_, h3⟩, fun w hw => ?_⟩
  · cases e1 : h0 k with
    | none => rfl
    | some o => rw [h0A k o e1] at h2; cases h2
  have hm0 : 0 < m * size := Nat.mul_pos hm hsz
  rcases hnews with hnil | ⟨g2, o2, c2, e2, fr2, rfl, hb2, hj2⟩
  · subst hnil; simp at hl; omega
  have hcell : ∀ j u, news[j]? = some u → w.cell? ((⟨g2, o2, none⟩ : Addr).add j) = some u := fun j u hu => by
    rw [add_off]
    refine cell_of_block (hw _ _ hb2) ?_
    rw [hj2 j (List.getElem?_eq_some_iff.1 hu).1, hu]
  have hml : (4398046511104 : Nat) ≤ maxLen := by decide
  have hby2 : (n + m) * i.bytes ≤ 140737488355328 := Nat.le_trans (Nat.mul_le_mul hn hby) (by decide)
  obtain ⟨hxl, ⟨rfl, rfl⟩ | ⟨g, cap, cur, rfl, hg, hgA, hnc, hcm, hcs, htake⟩⟩ := hown
  · have hxs : xs = [] := List.eq_nil_of_length_eq_zero (by simpa using hxl)
    subst hxs
    have hr := run_append_nil (P := P) w t ty e i z ht hi hz ⟨g2, o2, none⟩ m c news (by rw [hsize]; exact hl) hcell hm (by omega) (by simp only [Nat.zero_add] at hby2; omega)
    refine ⟨_, ?_, _, exec_append hx hy hr, ?_, hK _ _ ?_ ?_⟩
    · exact h.upd w.heap.size (.cells (news.toArray ++ Builtin.zeroCells z.cells (grownCap w m 0 e - m)) e (0, 0))
    · have G := grows_drew (grows_alloc (w := w.drew) hw (news.toArray ++ Builtin.zeroCells z.cells (grownCap w m 0 e - m)) e (0, 0))
      exact ⟨fun g o _ hg => G.le g o id hg, G.sat, G.new, G.os, G.tape, G.output, G.size, fun k hk _ => G.block k hk id⟩
    · have hge := grownCap_ge w m 0 e
      refine ⟨by simp [hl], .inr ⟨w.heap.size, grownCap w m 0 e, _, by simp, Heap.upd_same _ _ _, ?_, by omega, grownCap_le_maxLen w m 0 e (by omega), ?_, ?_⟩⟩
      · cases e3 : hA w.heap.size with
        | none => rfl
        | some o => have := hAh _ _ e3; rw [hw.fresh] at this; cases this
      · simp only [Array.size_append, List.size_toArray, size_zeroCells, hzs, hl, ← Nat.add_mul]
        congr 1
        omega
      · simp only [Array.toList_append, List.nil_append, Nat.zero_add, ← hl]
        exact List.take_left
    · exact hAh.trans (Le.upd hw.fresh)
  · by_cases hroom : n + m ≤ cap
    · have hfit : n * i.size + news.length ≤ cur.size := by rw [hl, hcs, hsize, ← Nat.add_mul]; exact Nat.mul_le_mul_right _ hroom
      have hgw := hw _ _ hg
      have hr := run_append_room (P := P) w t ty e i ht hi g n cap cur hgw ⟨g2, o2, none⟩ m c news (by rw [hsize]; exact hl) hcell h1 hroom hfit
      refine ⟨_, ?_, _, exec_append hx hy hr, ?_, hK _ _ ?_ ?_⟩
      · exact h.upd g (.cells (cur.toList.take (n * i.size) ++ news ++ cur.toList.drop (n * i.size + news.length)).toArray e (0, 0))
      · refine ⟨fun k o hk ho => ?_, fun k o ho => ?_, fun k o ho => ?_, rfl, rfl, rfl, by simp, fun k hk hx => setRow_other w g k _ (fun e => hx ⟨n, cap, by rw [e], by rw [e]; exact hgA, by rw [e, hg]; rfl⟩)⟩
        · have hne : k ≠ g := fun e => hk ⟨n, cap, by rw [e], by rw [e]; exact hgA, by rw [e, hg]; rfl⟩
          rw [Heap.upd_ne _ _ hne]; exact ho
        · by_cases e1 : k = g
          · subst e1
            rw [Heap.upd_same] at ho
            cases ho
            exact setRow_heap w k cur _ e _ hgw
          · rw [Heap.upd_ne _ _ e1] at ho
            rw [setRow_other w g k _ e1]
            exact hw _ _ ho
        · by_cases e1 : k = g
          · subst e1; exact .inl (by rw [hg]; rfl)
          · rw [Heap.upd_ne _ _ e1] at ho
            exact .inl (by rw [ho]; rfl)
      · refine ⟨by rw [List.length_append, hxl, hl, Nat.add_mul], .inr ⟨g, cap, _, rfl, Heap.upd_same _ _ _, hgA, hroom, hcm, ?_, ?_⟩⟩
        · simp only [List.size_toArray, List.length_append, List.length_take, List.length_drop, Array.length_toList]
          rw [hsize] at hfit ⊢
          omega
        · rw [hsize, htake, Nat.add_mul, ← hl, ← hxl, ← List.length_append]
          exact List.take_left
      · intro k o ho
        have hne : k ≠ g := fun e => by rw [e, hgA] at ho; cases ho
        rw [Heap.upd_ne _ _ hne]; exact hAh _ _ ho
    · have hgw := hw _ _ hg
      have holds : ∀ j u, xs[j]? = some u → w.cell? ((⟨g, 0, none⟩ : Addr).add j) = some u := fun j u hu => by
        rw [add_off]
        refine cell_of_block hgw ?_
        rw [← htake, List.getElem?_take] at hu
        split at hu
        · simpa using hu
        · cases hu
      have hr := run_append_grow (P := P) w t ty e i z ht hi hz ⟨g, 0, none⟩ n cap xs (by rw [hsize]; exact hxl) holds ⟨g2, o2, none⟩ m c news (by rw [hsize]; exact hl) hcell (by omega) (by omega) (growslice_fits (by omega) hby2)
      refine ⟨_, ?_, _, exec_append hx hy hr, ?_, hK _ _ ?_ ?_⟩
      · exact h.upd w.heap.size (.cells (xs.toArray ++ news.toArray ++ Builtin.zeroCells z.cells (grownCap w (n + m) cap e - (n + m))) e (0, 0))
      · have G := grows_drew (grows_alloc (w := w.drew) hw (xs.toArray ++ news.toArray ++ Builtin.zeroCells z.cells (grownCap w (n + m) cap e - (n + m))) e (0, 0))
        exact ⟨fun g o _ hg => G.le g o id hg, G.sat, G.new, G.os, G.tape, G.output, G.size, fun k hk _ => G.block k hk id⟩
      · have hge := grownCap_ge w (n + m) cap e
        refine ⟨by rw [List.length_append, hxl, hl, Nat.add_mul], .inr ⟨w.heap.size, grownCap w (n + m) cap e, _, rfl, Heap.upd_same _ _ _, ?_, by omega, grownCap_le_maxLen w (n + m) cap e (by omega), ?_, ?_⟩⟩
        · cases e3 : hA w.heap.size with
          | none => rfl
          | some o => have := hAh _ _ e3; rw [hw.fresh] at this; cases this
        · simp only [Array.size_append, List.size_toArray, size_zeroCells, hzs, hl, hxl, ← Nat.add_mul]
          congr 1
          omega
        · simp only [Array.toList_append, List.append_assoc]
          rw [Nat.add_mul, ← hl, ← hxl, ← List.length_append, ← List.append_assoc]
          exact List.take_left
      · exact hAh.trans (Le.upd hw.fresh)
end

/-! ### A call in a smaller heaplet -/
theorem CallGo.frame {P : Program} {f : FuncId} {args : Array Value} {hA h : Heap} {Φ : Value → Heap → Prop} (hle : Le hA h) (H : CallGo P f args hA NoX Φ) :
    CallGo P f args h NoX fun v h' => ∃ hB, Φ v hB ∧ Le hA hB ∧ Le hB h' ∧ ∀ g, (h g).isSome = true → hA g = none → hB g = none := by
  rcases H with ⟨h1, H⟩ | ⟨v, h1, h2⟩
  · refine .inl ⟨h1, fun w hw => ?_⟩
    refine (H w (fun g o e => hw g o (hle g o e))).mono ?_
    rintro e w' ⟨v, h', he, hg, hp⟩
    have hk : ∀ g o, h g = some o → h' g = none ∨ h' g = some o := fun g o e1 => by
      cases e2 : h' g with
      | none => exact .inl rfl
      | some o2 =>
        refine .inr ?_
        have hb := hw g o e1
        have hlt : g < w.heap.size := (Array.getElem?_eq_some_iff.1 hb).1
        have := hg.sat g o2 e2
        rw [hg.block g hlt id, hb] at this
        exact this.symm
    refine ⟨v, fun g => (h' g).or (h g), he, ⟨fun g o _ e1 => ?_, fun g o e1 => ?_, fun g o e1 => ?_, hg.os, hg.tape, hg.output, hg.size, hg.block⟩, h', hp, fun g o e1 => hg.le g o id e1, fun g o e1 => ?_, fun g e1 e2 => ?_⟩
    · rcases hk g o e1 with e2 | e2 <;> simp [e1, e2]
    · cases e2 : h' g with
      | some o2 => rw [e2] at e1; simp at e1; subst e1; exact hg.sat g _ e2
      | none =>
        rw [e2] at e1
        simp at e1
        have hb := hw g o e1
        rw [hg.block g (Array.getElem?_eq_some_iff.1 hb).1 id]
        exact hb
    · cases e2 : h' g with
      | some o2 =>
        rcases hg.new g o2 e2 with e3 | e3
        · refine .inl ?_
          cases e4 : hA g with
          | none => rw [e4] at e3; cases e3
          | some o4 => rw [hle g o4 e4]; rfl
        · exact .inr e3
      | none => rw [e2] at e1; simp at e1; exact .inl (by rw [e1]; rfl)
    · simp [e1]
    · cases e3 : h' g with
      | none => rfl
      | some o =>
        rcases hg.new g o e3 with e4 | e4
        · rw [e2] at e4; cases e4
        · obtain ⟨p, hp⟩ := Option.isSome_iff_exists.1 e1
          have := (Array.getElem?_eq_some_iff.1 (hw g p hp)).1
          omega
  · exact .inr ⟨v, h1, hA, h2, Le.refl _, hle, fun g _ e => e⟩
theorem CallsO.goX {P : Program} {h0 h : Heap} {pend : Bool} {g : FuncId} {args : Array Value} {X : Nat → Prop} {Φ Ψ : Value → Heap → Prop} (hp : pend = false) (hX : ∀ k, X k → h0 k = none ∧ (h k).isSome = true) (H : CallGo P g args h X Φ)
    (k : ∀ v h', (∀ g o, ¬ X g → h g = some o → h' g = some o) → Φ v h' → Ψ v h') : CallsO P h0 pend g args h Ψ := by
  subst hp
  refine ⟨X, fun hh => (by cases hh), hX, ?_⟩
  rcases H with ⟨h1, h2⟩ | ⟨v, h1, h2⟩
  · exact .inl ⟨h1, CallsX.mono h2 k⟩
  · exact .inr ⟨v, h1, k v h (fun _ _ _ hg => hg) h2⟩
/-- A contract that says of the world that it is as it was, or that nothing that was there has turned. -/
theorem CallGo.below {P : Program} {f : FuncId} {args : Array Value} {h : Heap} {v : Value} (he : ∀ w, (callFunc f args).run P w = .ok (.enter f args) w) (H : ∀ w, Sat h w → Calls P f args w fun e w' => e = .returned v ∧ Below w.heap.size w w') :
    CallGo P f args h NoX fun v' h' => h' = h ∧ v' = v := by
  refine .inl ⟨he, fun w hw => (H w hw).mono ?_⟩
  rintro e w' ⟨rfl, hb⟩
  exact ⟨v, h, rfl, ⟨fun g o _ hg => hg, fun g o hg => by rw [hb.block g (Array.getElem?_eq_some_iff.1 (hw g o hg)).1]; exact hw g o hg, fun g o hg => .inl (by rw [hg]; rfl), hb.os, hb.tape, hb.output, hb.size, fun k hk _ => hb.block k hk⟩, rfl, rfl⟩
theorem CallGo.same {P : Program} {f : FuncId} {args : Array Value} {h : Heap} {v : Value} (he : ∀ w, (callFunc f args).run P w = .ok (.enter f args) w) (H : ∀ w, Sat h w → Calls P f args w fun e w' => e = .returned v ∧ w' = w) :
    CallGo P f args h NoX fun v' h' => h' = h ∧ v' = v :=
  CallGo.below he fun w hw => (H w hw).mono fun e w' ⟨h1, h2⟩ => ⟨h1, h2 ▸ Below.refl _ _⟩
end Go.Proofs.Vc

