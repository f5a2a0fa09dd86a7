import Derived.WalkKit
import Derived.KernelRfl
import Derived.Orders
/-! Symbolic execution over heaplets, part 1: heaplets, abstract states, what one operation does. -/
set_option linter.unusedVariables false
set_option linter.unusedSimpArgs false
namespace Go.Proofs.Vc
open Go

abbrev Heap := Nat → Option Obj
def Sat (h : Heap) (w : World) : Prop := ∀ g o, h g = some o → w.heap[g]? = some o
def Le (h h' : Heap) : Prop := ∀ g o, h g = some o → h' g = some o
theorem Le.refl (h : Heap) : Le h h := fun _ _ e => e
theorem Le.trans {a b c : Heap} (h : Le a b) (k : Le b c) : Le a c := fun g o e => k g o (h g o e)
def Heap.upd (h : Heap) (g : Nat) (o : Obj) : Heap := fun k => if k = g then some o else h k
theorem Heap.upd_same (h : Heap) (g : Nat) (o : Obj) : h.upd g o g = some o := if_pos rfl
theorem Heap.upd_ne (h : Heap) {g k : Nat} (o : Obj) (hne : k ≠ g) : h.upd g o k = h k := if_neg hne
theorem Le.upd {h : Heap} {g : Nat} {o : Obj} (hg : h g = none) : Le h (h.upd g o) := fun k p e => by
  by_cases hk : k = g
  · subst hk; rw [hg] at e; cases e
  · rw [Heap.upd_ne _ _ hk]; exact e

/-- A call took the heaplet h in w to h' in w'; only blocks of X may have been written. -/
structure GrowsX (X : Nat → Prop) (h h' : Heap) (w w' : World) : Prop where
  le : ∀ g o, ¬ X g → h g = some o → h' g = some o
  sat : Sat h' w'
  new : ∀ g o, h' g = some o → (h g).isSome = true ∨ w.heap.size ≤ g
  os : w'.os = w.os
  tape : w'.tape = w.tape
  output : w'.output = w.output
  size : w.heap.size ≤ w'.heap.size
  block : ∀ k, k < w.heap.size → ¬ X k → w'.heap[k]? = w.heap[k]?

def CallsX (P : Program) (f : FuncId) (args : Array Value) (h : Heap) (X : Nat → Prop) (Φ : Value → Heap → Prop) : Prop :=
  ∀ w, Sat h w → Calls P f args w fun e w' => ∃ v h', e = .returned v ∧ GrowsX X h h' w w' ∧ Φ v h'
def NoX : Nat → Prop := fun _ => False
abbrev CallsH (P : Program) (f : FuncId) (args : Array Value) (h : Heap) (Φ : Value → Heap → Prop) : Prop := CallsX P f args h NoX Φ

theorem CallsX.mono {P : Program} {f : FuncId} {args : Array Value} {h : Heap} {X : Nat → Prop} {Φ Ψ : Value → Heap → Prop}
    (H : CallsX P f args h X Φ) (k : ∀ v h', (∀ g o, ¬ X g → h g = some o → h' g = some o) → Φ v h' → Ψ v h') : CallsX P f args h X Ψ :=
  fun w hw => (H w hw).mono fun e w' ⟨v, h', he, hg, hp⟩ => ⟨v, h', he, hg, k v h' hg.le hp⟩
theorem CallsH.mono {P : Program} {f : FuncId} {args : Array Value} {h : Heap} {Φ Ψ : Value → Heap → Prop}
    (H : CallsH P f args h Φ) (k : ∀ v h', Le h h' → Φ v h' → Ψ v h') : CallsH P f args h Ψ :=
  CallsX.mono H fun v h' hle => k v h' fun g o => hle g o id
/-- What a call needs less of. -/
theorem CallsH.frame {P : Program} {f : FuncId} {args : Array Value} {h h1 : Heap} {Φ : Value → Heap → Prop} (hle : Le h h1)
    (H : CallsH P f args h Φ) : CallsH P f args h1 fun v h' => ∃ hh, Φ v hh ∧ Le hh h' ∧ Le h1 h' := by
  intro w hw
  refine (H w (fun g o e => hw g o (hle g o e))).mono ?_
  rintro e w' ⟨v, h', he, hg, hp⟩
  have hk : ∀ g o, h1 g = some o → h' g = none ∨ h' g = some o := fun g o e1 => by
    cases e2 : h' g with
    | none => exact .inl rfl
    | some o2 =>
      refine .inr ?_
      have hb := hw g o e1
      have hlt : g < w.heap.size := (Array.getElem?_eq_some_iff.1 hb).1
      have := hg.sat g o2 e2
      rw [hg.block g hlt id, hb] at this
      exact this.symm
  refine ⟨v, fun g => (h' g).or (h1 g), he, ⟨fun g o _ e1 => ?_, fun g o e1 => ?_, fun g o e1 => ?_, hg.os, hg.tape, hg.output, hg.size, hg.block⟩, h', hp, fun g o e1 => ?_, fun g o e1 => ?_⟩
  · rcases hk g o e1 with e2 | e2 <;> simp [e1, e2]
  · cases e2 : h' g with
    | some o2 => rw [e2] at e1; simp at e1; subst e1; exact hg.sat g _ e2
    | none =>
      rw [e2] at e1
      simp at e1
      have hb := hw g o e1
      rw [hg.block g (Array.getElem?_eq_some_iff.1 hb).1 id]
      exact hb
  · cases e2 : h' g with
    | some o2 =>
      rcases hg.new g o2 e2 with e3 | e3
      · refine .inl ?_
        cases e4 : h g with
        | none => rw [e4] at e3; cases e3
        | some o4 => rw [hle g o4 e4]; rfl
      · exact .inr e3
    | none => rw [e2] at e1; simp at e1; exact .inl (by rw [e1]; rfl)
  · simp [e1]
  · rcases hk g o e1 with e2 | e2 <;> simp [e1, e2]

/-! ### Abstract values and states -/
/-- A value; a place in one of the call's own variables; or nothing known. -/
inductive AV where
  | v (x : Value)
  | p (k o : Nat)
  | bad
structure St where
  t : Nat → AV
  b : Nat → Option (List Value)
def St.put (st : St) (d : Nat) (x : AV) : St := ⟨fun i => bif i == d then x else st.t i, st.b⟩
def St.setB (st : St) (k : Nat) (cs : List Value) : St := ⟨st.t, fun i => bif i == k then some cs else st.b i⟩
theorem St.put_t (st : St) (d : Nat) (x : AV) (i : Nat) : (st.put d x).t i = bif i == d then x else st.t i := rfl
theorem St.put_b (st : St) (d : Nat) (x : AV) (i : Nat) : (st.put d x).b i = st.b i := rfl
theorem St.setB_t (st : St) (k : Nat) (cs : List Value) (i : Nat) : (st.setB k cs).t i = st.t i := rfl
theorem St.setB_b (st : St) (k : Nat) (cs : List Value) (i : Nat) : (st.setB k cs).b i = bif i == k then some cs else st.b i := rfl
/-- What an easy operation leaves: its value, and the cells of its new variable. -/
def St.easy (st : St) (d : Nat) (x : AV) : Option (List Value) → St
  | none => st.put d x
  | some cs => (st.setB d cs).put d x
def St.ev (st : St) : Operand → AV
  | .tmp t => st.t t
  | .const v => .v v
  | .global g => .v (.pointer (some ⟨g, 0, none⟩))
  | .func f => .v (.func (.func f) #[] #[])

/-- The types' table. -/
structure Tab where
  agg : Nat → Bool
  size : Nat → Nat
  zero : Nat → Option (List Value)
  fld : Nat → Nat → Option Nat
  kd : Nat → Nat
/-- What the table says is so. -/
structure TabOk (P : Program) (T : Tab) : Prop where
  agg : ∀ t z, T.zero t = some z → ∀ w, (isAgg t).run P w = .ok (T.agg t) w
  size : ∀ t z, T.zero t = some z → ∀ w, (sizeOf t).run P w = .ok (T.size t) w
  zero : ∀ t z, T.zero t = some z → ∃ v, (∀ w, (zeroValue t).run P w = .ok v w) ∧ v.cells = z.toArray
  len : ∀ t z, T.zero t = some z → z.length = T.size t ∧ (T.agg t = false → T.size t = 1)
  fld : ∀ s f off, T.fld s f = some off → ∀ (g o : Nat) w, (Instr.fieldAt s (.pointer (some ⟨g, o, none⟩)) f).run P w = .ok (.pointer (some ⟨g, o + off, none⟩)) w
  mixed : P.follows .mixedOrders = true
  kd : ∀ t, (T.kd t = 1 → ∃ e, P.underlying t = some (.slice e)) ∧ (T.kd t = 2 → P.underlying t = some .string)

/-- A pure operation's run. -/
def PN (P : Program) (s : Sem Next) (y : Value) : Prop := ∀ w, s.run P w = .ok (.value y) w
/-- Reading n cells of a heaplet's block. -/
def HRead (h : Heap) (g o : Nat) (cs : List Value) : Prop := ∃ c e fr, h g = some (.cells c e fr) ∧ ∀ j, j < cs.length → c[o + j]? = cs[j]?
def HLoad (h : Heap) (agg : Bool) (n : Nat) (z y : Value) : Prop :=
  ∃ g o cs, z = .pointer (some ⟨g, o, none⟩) ∧ HRead h g o cs ∧ cs.length = n ∧ y = bif agg then .agg cs.toArray else cs.headD undef
def nthV : List Value → Nat → Option Value
  | [], _ => none
  | x :: _, 0 => some x
  | _ :: l, i + 1 => nthV l i
theorem nthV_eq : ∀ (l : List Value) (i : Nat), nthV l i = l[i]?
  | [], i => by simp [nthV]
  | x :: l, 0 => rfl
  | x :: l, i + 1 => by rw [nthV, nthV_eq l i]; simp
def nthD : List Value → Nat → Value
  | [], _ => undef
  | x :: _, 0 => x
  | _ :: l, i + 1 => nthD l i
theorem nthD_eq : ∀ (l : List Value) (i : Nat), nthD l i = l.getD i undef
  | [], i => by simp [nthD]
  | x :: l, 0 => rfl
  | x :: l, i + 1 => by rw [nthD, nthD_eq l i]; simp
def ldv (agg : Bool) (n : Nat) (cs : List Value) (o : Nat) : Value := bif agg then .agg ((cs.drop o).take n).toArray else nthD cs o
def valOf (ρ : Operand → AV) (x : Operand) : Value := match ρ x with | .v y => y | _ => undef
def isV : AV → Bool | .v _ => true | _ => false

/-- Operations that read nothing and write nothing. -/
def isPure : Op → Bool
  | .binOp .. | .unOp .. | .convert .. | .field .. | .index .. | .indexAddr .. | .extract .. | .build .. | .slice .. | .fieldAddr .. => true
  | .call { callee := .builtin b, .. } => match b with | .len | .cap | .min | .max => true | _ => false
  | _ => false

def lenV : Option Value → Nat → Option Value
  | some (.slice _ n _), 1 => some (.int .i64 n)
  | some (.string s), 2 => some (.int .i64 s.size)
  | _, _ => none
/-- 'len' -/
def lenF (T : Tab) (ρ : Operand → Option Value) (c : Callee) (l : List Operand) (ts : List Nat) : Option Value :=
  match c with
  | .builtin b => match b with
    | .len => match l with
      | [x] => match ts with
        | [t] => lenV (ρ x) (T.kd t)
        | _ => none
      | _ => none
    | _ => none
  | _ => none
/-- A few pure operations that are reckoned at once. -/
def pureF (T : Tab) (op : Op) (ρ : Operand → AV) : Option Value :=
  match op with
  | .call cs => lenF T (fun x => match ρ x with | .v y => some y | _ => none) cs.callee cs.args.toList cs.argTypes.toList
  | .extract x i => match ρ x with | .v (.tuple vs) => nthV vs.toList i | _ => none
  | .unOp .not _ x => match ρ x with | .v (.bool b) => some (.bool !b) | _ => none
  | _ => none

/-- What an easy operation 'op' with destination d comes to. -/
def ez (P : Program) (T : Tab) (h : Heap) (ρ : Operand → AV) (b : Nat → Option (List Value)) (d : Nat) (ty : Nat) (op : Op) (K : AV → Option (List Value) → Prop) : Prop :=
  match op with
  | .move x | .assign x => K (ρ x) none
  | .pick c x y => match ρ c with
    | .v (.bool t) => K (bif t then ρ x else ρ y) none
    | _ => False
  | .alloc e => match T.zero e with
    | some z => K (.p d 0) (some z)
    | none => False
  | .box e x => match ρ x with
    | .v y => K (.p d 0) (some y.cells.toList)
    | _ => False
  | .load t x => match T.zero t with
    | none => False
    | some _ => match ρ x with
      | .p k o => match b k with
        | some cs => o + T.size t ≤ cs.length ∧ K (.v (ldv (T.agg t) (T.size t) cs o)) none
        | none => False
      | .v z => ∃ y, HLoad h (T.agg t) (T.size t) z y ∧ K (.v y) none
      | .bad => False
  | .fieldAddr s x f => match ρ x with
    | .p k o => match T.fld s f with
      | some off => K (.p k (o + off)) none
      | none => False
    | .v (.pointer (some ⟨g, o, none⟩)) => match T.fld s f with
      | some off => K (.v (.pointer (some ⟨g, o + off, none⟩))) none
      | none => False
    | _ => False
  | op => isPure op = true ∧ (∀ x ∈ op.operands.toList, isV (ρ x) = true) ∧
    match pureF T op ρ with
    | some y => K (.v y) none
    | none => ∃ y, PN P (execOp (valOf ρ) { dst := some d, op := op, type := ty, pos := "", after := #[], guard := none }) y ∧ K (.v y) none
end Go.Proofs.Vc

/-! Symbolic execution over heaplets, part 2: an easy operation's run. -/
set_option linter.unusedVariables false
set_option linter.unusedSimpArgs false
namespace Go.Proofs.Vc
open Go

/-- 'ez' as a relation. -/
def Ez (P : Program) (T : Tab) (h : Heap) (ρ : Operand → AV) (b : Nat → Option (List Value)) (d ty : Nat) (op : Op) (av : AV) (bx : Option (List Value)) : Prop :=
  ez P T h ρ b d ty op fun av' bx' => av' = av ∧ bx' = bx

theorem ez_elim {P : Program} {T : Tab} {h : Heap} {ρ : Operand → AV} {b : Nat → Option (List Value)} {d ty : Nat} {op : Op} {K : AV → Option (List Value) → Prop}
    (H : ez P T h ρ b d ty op K) : ∃ av bx, Ez P T h ρ b d ty op av bx ∧ K av bx := by
  unfold Ez
  unfold ez at H ⊢
  split at H
  · exact ⟨_, _, ⟨rfl, rfl⟩, H⟩
  · exact ⟨_, _, ⟨rfl, rfl⟩, H⟩
  · rename_i c x y
    simp only at H ⊢
    split at H
    · rename_i t hc; exact ⟨_, _, ⟨rfl, rfl⟩, H⟩
    · exact H.elim
  · rename_i e
    simp only
    split at H
    · rename_i z hz; exact ⟨_, _, ⟨rfl, rfl⟩, H⟩
    · exact H.elim
  · rename_i e x
    simp only
    split at H
    · rename_i z hz; exact ⟨_, _, ⟨rfl, rfl⟩, H⟩
    · exact H.elim
  · rename_i t x
    simp only
    split at H
    · exact H.elim
    · rename_i hz
      split at H
      · rename_i k o hx
        split at H
        · rename_i cs hb; exact ⟨_, _, ⟨H.1, rfl, rfl⟩, H.2⟩
        · exact H.elim
      · rename_i z hx
        obtain ⟨y, h1, h2⟩ := H
        exact ⟨_, _, ⟨y, h1, rfl, rfl⟩, h2⟩
      · exact H.elim
  · rename_i s x f
    simp only
    split at H
    · split at H
      · exact ⟨_, _, ⟨rfl, rfl⟩, H⟩
      · exact H.elim
    · split at H
      · exact ⟨_, _, ⟨rfl, rfl⟩, H⟩
      · exact H.elim
    · exact H.elim
  · obtain ⟨h1, h2, h3⟩ := H
    simp only
    split at h3
    · rename_i y hy; exact ⟨_, _, ⟨h1, h2, rfl, rfl⟩, h3⟩
    · obtain ⟨y, h4, h5⟩ := h3; exact ⟨_, _, ⟨h1, h2, y, h4, rfl, rfl⟩, h5⟩

theorem HLoad.mono {h h' : Heap} (hle : Le h h') {agg : Bool} {n : Nat} {z y : Value} (H : HLoad h agg n z y) : HLoad h' agg n z y := by
  obtain ⟨g, o, cs, rfl, ⟨c, e, fr, hc, hj⟩, hl, rfl⟩ := H
  exact ⟨g, o, cs, rfl, ⟨c, e, fr, hle _ _ hc, hj⟩, hl, rfl⟩

theorem valOf_congr {ρ ρ' : Operand → AV} {x : Operand} (h : ρ' x = ρ x) : valOf ρ' x = valOf ρ x := by unfold valOf; rw [h]

theorem lenF_congr {T : Tab} {ρ ρ' : Operand → Option Value} {c : Callee} {l : List Operand} {ts : List Nat} (h : ∀ x ∈ l, ρ' x = ρ x) : lenF T ρ' c l ts = lenF T ρ c l ts := by
  unfold lenF
  split
  · split
    · split
      · rename_i x; rw [h x (by simp)]
      · rfl
    · rfl
  · rfl
theorem pureF_congr {T : Tab} {op : Op} {ρ ρ' : Operand → AV} (h : ∀ x ∈ op.operands.toList, ρ' x = ρ x) : pureF T op ρ' = pureF T op ρ := by
  unfold pureF
  split
  · exact lenF_congr fun x hx => by rw [h x (by simp only [Op.operands, Call.operands, Array.toList_append, List.mem_append]; exact Or.inr hx)]
  all_goals first | rfl | (rename_i x; rw [h x (by simp [Op.operands])]) | (rename_i x _; rw [h x (by simp [Op.operands])]) | (rename_i _ x; rw [h x (by simp [Op.operands])])

theorem ez_congr {P : Program} {T : Tab} {h h' : Heap} {ρ ρ' : Operand → AV} {b b' : Nat → Option (List Value)} {d ty : Nat} {op : Op} {av : AV} {bx : Option (List Value)}
    (H : Ez P T h ρ b d ty op av bx) (hle : Le h h') (hρ : ∀ x ∈ op.operands.toList, ρ' x = ρ x)
    (hb : ∀ t x, op = .load t x → ∀ k o, ρ x = .p k o → b k ≠ none → b' k = b k) : Ez P T h' ρ' b' d ty op av bx := by
  unfold Ez at H ⊢
  unfold ez at H ⊢
  split at H
  · rename_i x; rw [hρ x (by simp [Op.operands])]; exact H
  · rename_i x; rw [hρ x (by simp [Op.operands])]; exact H
  · rename_i c x y
    try simp only
    rw [hρ c (by simp [Op.operands]), hρ x (by simp [Op.operands]), hρ y (by simp [Op.operands])]
    exact H
  · exact H
  · rename_i e x
    try simp only
    rw [hρ x (by simp [Op.operands])]
    exact H
  · rename_i t x
    try simp only
    rw [hρ x (by simp [Op.operands])]
    split at H
    · exact H.elim
    · rename_i hz
      split at H
      · rename_i k o hx
        try simp only
        split at H
        · rename_i cs hcs
          rw [hb t x rfl k o hx (by rw [hcs]; simp), hcs]
          exact H
        · exact H.elim
      · obtain ⟨y, h1, h2⟩ := H
        exact ⟨y, h1.mono hle, h2⟩
      · exact H.elim
  · rename_i s x f
    try simp only
    rw [hρ x (by simp [Op.operands])]
    exact H
  · obtain ⟨h1, h2, h3⟩ := H
    try simp only
    refine ⟨h1, fun x hx => by rw [hρ x hx]; exact h2 x hx, ?_⟩
    rw [pureF_congr hρ]
    split at h3
    · rename_i y hy; exact h3
    · obtain ⟨y, h4, h5⟩ := h3
      try simp only
      refine ⟨y, ?_, h5⟩
      have : execOp (valOf ρ') { dst := some d, op := op, type := ty, pos := "", after := #[], guard := none } = execOp (valOf ρ) { dst := some d, op := op, type := ty, pos := "", after := #[], guard := none } :=
        execOp_congr _ (fun cs b hcs => by dsimp only at hcs; subst hcs; simp [isPure] at h1) (fun x hx => valOf_congr (hρ x (by simpa using hx)))
      rw [this]
      exact h4

/-! ### What the concrete side holds -/
def Conc (β : Nat → Nat) : AV → Value → Prop
  | .v x, y => y = x
  | .p k o, y => y = .pointer (some ⟨β k, o, none⟩)
  | .bad, _ => True
/-- A variable lies in the heap. -/
def Real (β : Nat → Nat) (w : World) (k : Nat) (cs : List Value) : Prop := ∃ e, w.heap[β k]? = some (.cells cs.toArray e (0, 0))

theorem cell_of_block {w : World} {g o : Nat} {c : Array Value} {e : Nat} {fr : Nat × Nat} {v : Value} (h : w.heap[g]? = some (.cells c e fr)) (hv : c[o]? = some v) : w.cell? ⟨g, o, none⟩ = some v := by
  simp [World.cell?, h, hv]

theorem add_off (g o j : Nat) : (⟨g, o, none⟩ : Addr).add j = ⟨g, o + j, none⟩ := by
  unfold Addr.add; split <;> simp_all

theorem run_load_block {P : Program} {T : Tab} (hT : TabOk P T) {t : Nat} {z : List Value} (hz : T.zero t = some z) {w : World} {g o : Nat} {c : Array Value} {e : Nat} {fr : Nat × Nat}
    (hg : w.heap[g]? = some (.cells c e fr)) (cs : List Value) (hn : cs.length = T.size t) (hc : ∀ j, j < cs.length → c[o + j]? = cs[j]?) :
    (Instr.loadAt t (.pointer (some ⟨g, o, none⟩))).run P w = .ok (bif T.agg t then .agg cs.toArray else cs.headD undef) w := by
  unfold Instr.loadAt Instr.sureAddr loadVar
  simp only [Sem.run_bind, Sem.run_pure, Result.andThen_ok]
  rw [hT.agg t z hz w]
  simp only [Result.andThen_ok]
  cases hagg : T.agg t with
  | true =>
    simp only [if_true, Sem.run_bind, hT.size t z hz w, Result.andThen_ok, cond_true]
    rw [← hn, run_loadCells_list (P := P) w ⟨g, o, none⟩ cs (fun j v hv => ?_)]
    · simp
    · rw [add_off]
      have hj : j < cs.length := (List.getElem?_eq_some_iff.1 hv).1
      exact cell_of_block hg ((hc j hj).trans hv)
  | false =>
    have h1 := (hT.len t z hz).2 hagg
    rw [h1] at hn
    obtain ⟨v, rfl⟩ : ∃ v, cs = [v] := List.length_eq_one_iff.1 hn
    have := hc 0 (by simp)
    simp only [Nat.add_zero] at this
    have h2 : w.cell? ⟨g, o, none⟩ = some v := cell_of_block hg (by rw [this]; rfl)
    simp [h2]

def isAlloc : Op → Bool | .alloc _ | .box _ _ => true | _ => false
theorem ez_alloc {P : Program} {T : Tab} {h : Heap} {ρ : Operand → AV} {b : Nat → Option (List Value)} {d ty : Nat} {op : Op} {av : AV} {bx : Option (List Value)}
    (H : Ez P T h ρ b d ty op av bx) : bx ≠ none ↔ isAlloc op = true := by
  unfold Ez ez at H
  split at H
  · simp [isAlloc, ← H.2]
  · simp [isAlloc, ← H.2]
  · split at H
    · simp [isAlloc, ← H.2]
    · exact H.elim
  · split at H
    · simp [isAlloc, ← H.2]
    · exact H.elim
  · split at H
    · simp [isAlloc, ← H.2]
    · exact H.elim
  · split at H
    · exact H.elim
    · split at H
      · split at H
        · simp [isAlloc, ← H.2.2]
        · exact H.elim
      · obtain ⟨y, _, _, h2⟩ := H; simp [isAlloc, ← h2]
      · exact H.elim
  · split at H
    · split at H
      · simp [isAlloc, ← H.2]
      · exact H.elim
    · split at H
      · simp [isAlloc, ← H.2]
      · exact H.elim
    · exact H.elim
  · obtain ⟨h1, _, h3⟩ := H
    have hb : bx = none := by
      split at h3
      · exact h3.2.symm
      · obtain ⟨y, _, _, h4⟩ := h3; exact h4.symm
    subst hb
    have : isAlloc op = false := by
      cases op <;> simp [isPure] at h1 <;> rfl
    simp [this]
def EzRun (P : Program) (β : Nat → Nat) (w : World) (d : Nat) (av : AV) (bx : Option (List Value)) (r : Result Next) : Prop :=
  (bx = none ∧ ∃ y, r = .ok (.value y) w ∧ Conc β av y) ∨
  (∃ cs e, bx = some cs ∧ av = .p d 0 ∧ r = .ok (.value (.pointer (some ⟨w.heap.size, 0, none⟩))) (w.alloc (.cells cs.toArray e)))

theorem pureF_run {P : Program} {T : Tab} (hT : TabOk P T) {op : Op} {ρ : Operand → AV} {y : Value} (h : pureF T op ρ = some y) (d : Option Nat) (ty : Nat) :
    PN P (execOp (valOf ρ) { dst := d, op := op, type := ty, pos := "", after := #[], guard := none }) y := by
  unfold pureF at h
  split at h
  · rename_i cs
    obtain ⟨c, l, ts⟩ := cs
    unfold lenF at h
    dsimp only at h
    split at h
    · split at h
      · split at h
        · rename_i x hl
          split at h
          · rename_i t hts
            have hl' : l = #[x] := by rw [← Array.toArray_toList (xs := l), hl]
            have ht' : ts = #[t] := by rw [← Array.toArray_toList (xs := ts), hts]
            subst hl' ht'
            unfold lenV at h
            split at h
            · rename_i A n c hx hk
              cases h
              obtain ⟨e, he⟩ := (hT.kd t).1 hk
              intro w
              have hx' : valOf ρ x = .slice A n c := by
                unfold valOf
                split at hx
                · rename_i y hy; cases hx; rfl
                · cases hx
              simp [execOp, resolve, hx', invoke, builtin, Builtin.len_, goInt, underlying, he]
            · rename_i s hx hk
              cases h
              have he := (hT.kd t).2 hk
              intro w
              have hx' : valOf ρ x = .string s := by
                unfold valOf
                split at hx
                · rename_i y hy; cases hx; rfl
                · cases hx
              simp [execOp, resolve, hx', invoke, builtin, Builtin.len_, goInt, underlying, he]
            · cases h
          · cases h
        · cases h
      · cases h
    · cases h
  · rename_i x i
    split at h
    · rename_i vs hx
      intro w
      rw [nthV_eq] at h
      have h : vs[i]? = some y := by simpa using h
      simp [execOp, valOf, hx, Instr.extract, h]
    · cases h
  · rename_i x
    split at h
    · rename_i b hx
      cases h
      intro w
      simp [execOp, valOf, hx, Op.unary]
    · cases h
  · cases h

theorem ez_run {P : Program} {T : Tab} (hT : TabOk P T) {h : Heap} {ρ : Operand → AV} {b : Nat → Option (List Value)} {d ty : Nat} {op : Op} {av : AV} {bx : Option (List Value)}
    (H : Ez P T h ρ b d ty op av bx) {β : Nat → Nat} {a : Act} {w : World} (hc : ∀ x ∈ op.operands.toList, Conc β (ρ x) (a.eval x))
    (hr : ∀ x ∈ op.operands.toList, ∀ k o cs, ρ x = .p k o → b k = some cs → Real β w k cs) (hs : Sat h w) (o : Oper) (ho : o.op = op) (hty : o.type = ty) :
    EzRun P β w d av bx ((execOp a.eval o).run P w) := by
  obtain ⟨odst, oop, otype, opos, oafter, oguard⟩ := o
  dsimp only at ho hty
  subst ho hty
  unfold Ez ez at H
  split at H
  · rename_i x
    obtain ⟨rfl, rfl⟩ := H
    exact .inl ⟨rfl, _, rfl, hc x (by simp [Op.operands])⟩
  · rename_i x
    obtain ⟨rfl, rfl⟩ := H
    exact .inl ⟨rfl, _, rfl, hc x (by simp [Op.operands])⟩
  · rename_i c x y
    split at H
    · rename_i t hct
      obtain ⟨rfl, rfl⟩ := H
      have e := hc c (by simp [Op.operands])
      rw [hct] at e
      simp only [Conc] at e
      refine .inl ⟨rfl, bif t then a.eval x else a.eval y, ?_, ?_⟩
      · simp [execOp, e, asBool]
      · cases t
        · exact hc y (by simp [Op.operands])
        · exact hc x (by simp [Op.operands])
    · exact H.elim
  · rename_i e
    split at H
    · rename_i z hz
      obtain ⟨rfl, rfl⟩ := H
      obtain ⟨v, h1, h2⟩ := hT.zero e z hz
      refine .inr ⟨z, e, rfl, rfl, ?_⟩
      simp [execOp, Instr.alloc, h1 w, newVar, newRow, h2]
    · exact H.elim
  · rename_i e x
    split at H
    · rename_i y hy
      obtain ⟨rfl, rfl⟩ := H
      have e2 := hc x (by simp [Op.operands])
      rw [hy] at e2
      simp only [Conc] at e2
      refine .inr ⟨_, e, rfl, rfl, ?_⟩
      simp [execOp, Instr.box, e2, newVar, newRow]
    · exact H.elim
  · rename_i t x
    split at H
    · exact H.elim
    · rename_i z hz
      split at H
      · rename_i k o hx
        split at H
        · rename_i cs hb
          obtain ⟨hlen, rfl, rfl⟩ := H
          have e2 := hc x (by simp [Op.operands])
          rw [hx] at e2
          simp only [Conc] at e2
          obtain ⟨e, he⟩ := hr x (by simp [Op.operands]) k o cs hx hb
          refine .inl ⟨rfl, _, ?_, rfl⟩
          have hl2 : ((cs.drop o).take (T.size t)).length = T.size t := by simp; omega
          have hrun := run_load_block hT hz he ((cs.drop o).take (T.size t)) hl2 (o := o) (fun j hj => by
            rw [List.getElem?_take, if_pos (by omega), List.getElem?_drop]; simp)
          simp only [execOp, e2, Sem.run_bind, hrun, Result.andThen_ok, Sem.run_pure]
          congr 2
          unfold ldv
          rw [nthD_eq]
          cases hagg : T.agg t with
          | true => rfl
          | false =>
            have h1 := (hT.len t z hz).2 hagg
            rw [h1] at hlen ⊢
            simp only [cond_false]
            rw [List.drop_eq_getElem_cons (show o < cs.length by omega), List.take_succ_cons]
            simp [List.getD_eq_getElem?_getD, List.getElem?_eq_getElem (show o < cs.length by omega)]
        · exact H.elim
      · rename_i z2 hx
        obtain ⟨y, ⟨g, o, cs, rfl, ⟨c, e, fr, hcg, hj⟩, hl, rfl⟩, rfl, rfl⟩ := H
        have e2 := hc x (by simp [Op.operands])
        rw [hx] at e2
        simp only [Conc] at e2
        refine .inl ⟨rfl, _, ?_, rfl⟩
        simp only [execOp, e2, Sem.run_bind, run_load_block hT hz (hs g _ hcg) cs hl hj, Result.andThen_ok, Sem.run_pure]
      · exact H.elim
  · rename_i s x f
    split at H
    · rename_i k o hx
      split at H
      · rename_i off hoff
        obtain ⟨rfl, rfl⟩ := H
        have e2 := hc x (by simp [Op.operands])
        rw [hx] at e2
        simp only [Conc] at e2
        refine .inl ⟨rfl, _, ?_, rfl⟩
        simp only [execOp, e2, Sem.run_bind, hT.fld s f off hoff, Result.andThen_ok, Sem.run_pure]
      · exact H.elim
    · rename_i g o hx
      split at H
      · rename_i off hoff
        obtain ⟨rfl, rfl⟩ := H
        have e2 := hc x (by simp [Op.operands])
        rw [hx] at e2
        simp only [Conc] at e2
        refine .inl ⟨rfl, _, ?_, rfl⟩
        simp only [execOp, e2, Sem.run_bind, hT.fld s f off hoff, Result.andThen_ok, Sem.run_pure]
      · exact H.elim
    · exact H.elim
  · obtain ⟨h1, h2, h3⟩ := H
    have hev : ∀ x ∈ oop.operands.toList, a.eval x = valOf ρ x := fun x hx => by
      have e1 := h2 x hx
      have e2 := hc x hx
      unfold valOf
      cases h4 : ρ x with
      | v y => rw [h4] at e2; exact e2
      | p k o => rw [h4] at e1; cases e1
      | bad => rw [h4] at e1; cases e1
    have heq : execOp a.eval { dst := odst, op := oop, type := otype, pos := opos, after := oafter, guard := oguard } = execOp (valOf ρ) { dst := odst, op := oop, type := otype, pos := opos, after := oafter, guard := oguard } :=
      execOp_congr _ (fun cs b hcs => by dsimp only at hcs; subst hcs; simp [isPure] at h1) (fun x hx => hev x (by simpa using hx))
    rw [heq]
    split at h3
    · rename_i y hy
      obtain ⟨rfl, rfl⟩ := h3
      exact .inl ⟨rfl, y, pureF_run hT hy odst otype w, rfl⟩
    · obtain ⟨y, h4, rfl, rfl⟩ := h3
      exact .inl ⟨rfl, y, h4 w, rfl⟩
end Go.Proofs.Vc

/-! Symbolic execution over heaplets, part 3: how an abstract state and a machine's state hang together, and how each step keeps it. -/
set_option linter.unusedVariables false
set_option linter.unusedSimpArgs false
namespace Go.Proofs.Vc
open Go Go.RowKit

theorem ez_live {P : Program} {T : Tab} {h : Heap} {ρ : Operand → AV} {b : Nat → Option (List Value)} {d ty : Nat} {op : Op} {av : AV}
    (H : Ez P T h ρ b d ty op av none) {k o : Nat} (hav : av = .p k o) : ∃ x ∈ op.operands.toList, ∃ o', ρ x = .p k o' := by
  subst hav
  unfold Ez ez at H
  split at H
  · rename_i x; exact ⟨x, by simp [Op.operands], o, H.1⟩
  · rename_i x; exact ⟨x, by simp [Op.operands], o, H.1⟩
  · rename_i c x y
    split at H
    · rename_i t hc
      cases t
      · exact ⟨y, by simp [Op.operands], o, H.1⟩
      · exact ⟨x, by simp [Op.operands], o, H.1⟩
    · exact H.elim
  · split at H
    · exact (by cases H.2)
    · exact H.elim
  · split at H
    · exact (by cases H.2)
    · exact H.elim
  · split at H
    · exact H.elim
    · split at H
      · split at H
        · cases H.2.1
        · exact H.elim
      · obtain ⟨y, _, h2, _⟩ := H; cases h2
      · exact H.elim
  · rename_i s x f
    split at H
    · rename_i k' o' hx
      split at H
      · rename_i off _
        have := H.1
        simp only [AV.p.injEq] at this
        obtain ⟨rfl, _⟩ := this
        exact ⟨x, by simp [Op.operands], o', hx⟩
      · exact H.elim
    · split at H
      · cases H.1
      · exact H.elim
    · exact H.elim
  · obtain ⟨_, _, h3⟩ := H
    split at h3
    · cases h3.1
    · obtain ⟨y, _, h4, _⟩ := h3; cases h4

/-- The call's first world, and the blocks of its arguments that it may write. -/
structure Base where
  w : World
  X : Nat → Prop
abbrev Base.heap (b : Base) : Array Obj := b.w.heap
structure BelowX (b : Base) (w' : World) : Prop where
  os : w'.os = b.w.os
  tape : w'.tape = b.w.tape
  output : w'.output = b.w.output
  size : b.w.heap.size ≤ w'.heap.size
  block : ∀ k, k < b.w.heap.size → ¬ b.X k → w'.heap[k]? = b.w.heap[k]?
theorem BelowX.alloc {b : Base} {w : World} (h : BelowX b w) (o : Obj) : BelowX b (w.alloc o) := by
  have k := (Below.refl w.heap.size w).alloc (Nat.le_refl _) o
  exact ⟨k.os.trans h.os, k.tape.trans h.tape, k.output.trans h.output, Nat.le_trans h.size k.size, fun i hi hx => (k.block i (Nat.lt_of_lt_of_le hi h.size)).trans (h.block i hi hx)⟩
theorem BelowX.trans {b : Base} {w w' : World} (h : BelowX b w) (k1 : w'.os = w.os) (k2 : w'.tape = w.tape) (k3 : w'.output = w.output) (k4 : w.heap.size ≤ w'.heap.size)
    (k5 : ∀ k, k < b.w.heap.size → ¬ b.X k → w'.heap[k]? = w.heap[k]?) : BelowX b w' :=
  ⟨k1.trans h.os, k2.trans h.tape, k3.trans h.output, Nat.le_trans h.size k4, fun i hi hx => (k5 i hi hx).trans (h.block i hi hx)⟩
theorem BelowX.drew {b : Base} {w : World} (h : BelowX b w) : BelowX b { w with drawn := w.drawn + 1 } := ⟨h.os, h.tape, h.output, h.size, h.block⟩

structure Rel (h0 : Heap) (w0 : Base) (n : Nat) (D B : Nat → Prop) (β : Nat → Nat) (st : St) (h : Heap) (a : Act) (w : World) : Prop where
  size : a.tmps.size = n
  defers : a.defers = []
  tmp : ∀ t, ¬ D t → Conc β (st.t t) (a.tmps.getD t undef)
  live : ∀ t k o, ¬ D t → st.t t = .p k o → st.b k ≠ none ∧ ¬ B k
  box : ∀ k cs, st.b k = some cs → ¬ B k → Real β w k cs ∧ w0.heap.size ≤ β k ∧ h (β k) = none
  inj : ∀ k k', ¬ B k → ¬ B k' → st.b k ≠ none → st.b k' ≠ none → β k = β k' → k = k'
  sat : Sat h w
  le : Le h0 h
  new : ∀ g o, h g = some o → (h0 g).isSome = true ∨ w0.X g ∨ w0.heap.size ≤ g
  below : BelowX w0 w

section
variable {h0 : Heap} {w0 : Base} {n : Nat} {D B : Nat → Prop} {β : Nat → Nat} {st : St} {h : Heap} {a : Act} {w : World}

theorem getD_put (a : Act) (d t : Nat) (y : Value) (hd : d < a.tmps.size) : (a.put (some d) y).tmps.getD t undef = if t = d then y else a.tmps.getD t undef := by
  simp only [Act.put, Array.getD_eq_getD_getElem?, Array.getElem?_setIfInBounds]
  by_cases h : t = d
  · subst h; simp [hd]
  · rw [if_neg (Ne.symm h), if_neg h]

/-- The abstract side goes ahead by an operation whose destination is d. -/
theorem Rel.abs (R : Rel h0 w0 n D B β st h a w) (d : Nat) (av : AV) (bx : Option (List Value)) (hb : bx ≠ none → st.b d = none) :
    Rel h0 w0 n (fun t => t = d ∨ D t) (fun k => (k = d ∧ bx ≠ none) ∨ B k) β (st.easy d av bx) h a w := by
  have hbx : ∀ k, ¬ (k = d ∧ bx ≠ none) → (st.easy d av bx).b k = st.b k := fun k hk => by
    cases bx with
    | none => rfl
    | some cs =>
      have hne : k ≠ d := fun e => hk ⟨e, by simp⟩
      simp [St.easy, St.put_b, St.setB_b, beq_eq_false_iff_ne.2 hne]
  have htt : ∀ t, t ≠ d → (st.easy d av bx).t t = st.t t := fun t ht => by
    cases bx <;> simp [St.easy, St.put_t, St.setB_t, beq_eq_false_iff_ne.2 ht]
  refine ⟨R.size, R.defers, fun t ht => ?_, fun t k o ht he => ?_, fun k cs hk hB => ?_, fun k k' hk hk' hbk hbk' he => ?_, R.sat, R.le, R.new, R.below⟩
  · simp only [not_or] at ht
    rw [htt t ht.1]
    exact R.tmp t ht.2
  · simp only [not_or] at ht
    rw [htt t ht.1] at he
    obtain ⟨h1, h2⟩ := R.live t k o ht.2 he
    have hk : ¬ (k = d ∧ bx ≠ none) := fun ⟨e, h3⟩ => by subst e; exact h1 (hb h3)
    exact ⟨by rw [hbx k hk]; exact h1, by simp only [not_or]; exact ⟨hk, h2⟩⟩
  · simp only [not_or] at hB
    rw [hbx k hB.1] at hk
    exact R.box k cs hk hB.2
  · simp only [not_or] at hk hk'
    rw [hbx k hk.1] at hbk
    rw [hbx k' hk'.1] at hbk'
    exact R.inj k k' hk.2 hk'.2 hbk hbk' he

/-- The machine catches up: a value. -/
theorem Rel.conc_val (R : Rel h0 w0 n D B β st h a w) (d : Nat) (y : Value) (hd : d < n) (hy : Conc β (st.t d) y)
    (hl : ∀ k o, st.t d = .p k o → st.b k ≠ none ∧ ¬ B k) (D' : Nat → Prop) (hD : ∀ t, t ≠ d → D t → D' t) : Rel h0 w0 n D' B β st h (a.put (some d) y) w := by
  have hds : d < a.tmps.size := R.size ▸ hd
  refine ⟨by simp [Act.put, R.size], R.defers, fun t ht => ?_, fun t k o ht he => ?_, R.box, R.inj, R.sat, R.le, R.new, R.below⟩
  · rw [getD_put a d t y hds]
    by_cases e : t = d
    · subst e; rw [if_pos rfl]; exact hy
    · rw [if_neg e]; exact R.tmp t (fun h => ht (hD t e h))
  · by_cases e : t = d
    · subst e; exact hl k o he
    · exact R.live t k o (fun h => ht (hD t e h)) he

theorem Real.alloc {w : World} {k : Nat} {cs : List Value} (hr : Real β w k cs) (o : Obj) : Real β (w.alloc o) k cs := by
  obtain ⟨e, he⟩ := hr
  refine ⟨e, ?_⟩
  have hlt := (Array.getElem?_eq_some_iff.1 he).1
  rw [Below.heap_alloc _ _ _ hlt]
  exact he
theorem Sat.alloc {h : Heap} {w : World} (hs : Sat h w) (o : Obj) : Sat h (w.alloc o) := fun g p e => by
  have hg := hs g p e
  rw [Below.heap_alloc _ _ _ (Array.getElem?_eq_some_iff.1 hg).1]
  exact hg
theorem Sat.fresh {h : Heap} {w : World} (hs : Sat h w) : h w.heap.size = none := by
  cases e : h w.heap.size with
  | none => rfl
  | some o =>
    have := hs _ _ e
    simp at this

/-- The machine catches up: a new variable. -/
theorem Rel.conc_new (R : Rel h0 w0 n D B β st h a w) (d : Nat) (cs : List Value) (e : TypeId) (hd : d < n) (ht : st.t d = .p d 0) (hb : st.b d = some cs) (hBd : B d)
    (D' B' : Nat → Prop) (hD : ∀ t, t ≠ d → D t → D' t) (hB : ∀ k, k ≠ d → (B k ↔ B' k)) (hBd' : ¬ B' d) :
    Rel h0 w0 n D' B' (fun k => if k = d then w.heap.size else β k) st h (a.put (some d) (.pointer (some ⟨w.heap.size, 0, none⟩))) (w.alloc (.cells cs.toArray e)) := by
  have hds : d < a.tmps.size := R.size ▸ hd
  have hβ : ∀ k cs', st.b k = some cs' → ¬ B k → β k < w.heap.size := fun k cs' hk hB => by
    obtain ⟨⟨e, he⟩, _, _⟩ := R.box k cs' hk hB
    exact (Array.getElem?_eq_some_iff.1 he).1
  have hBn : ∀ k, ¬ B k → k ≠ d := fun k hk e => hk (e ▸ hBd)
  refine ⟨by simp [Act.put, R.size], R.defers, fun t ht' => ?_, fun t k o ht' he => ?_, fun k cs' hk hB' => ?_, fun k k' hk hk' hbk hbk' heq => ?_, R.sat.alloc _, R.le, R.new, R.below.alloc _⟩
  · rw [getD_put a d t _ hds]
    by_cases e1 : t = d
    · subst e1; rw [if_pos rfl, ht]; simp [Conc]
    · rw [if_neg e1]
      have h1 := R.tmp t (fun h => ht' (hD t e1 h))
      cases h2 : st.t t with
      | v x => rw [h2] at h1; exact h1
      | bad => trivial
      | p k o =>
        rw [h2] at h1
        have h3 := R.live t k o (fun h => ht' (hD t e1 h)) h2
        simp only [Conc] at h1 ⊢
        rw [if_neg (hBn k h3.2)]
        exact h1
  · by_cases e1 : t = d
    · subst e1
      rw [ht] at he
      simp only [AV.p.injEq] at he
      obtain ⟨rfl, rfl⟩ := he
      exact ⟨by rw [hb]; simp, hBd'⟩
    · obtain ⟨h3, h4⟩ := R.live t k o (fun h => ht' (hD t e1 h)) he
      exact ⟨h3, fun h => h4 ((hB k (hBn k h4)).2 h)⟩
  · by_cases e1 : k = d
    · subst e1
      rw [hb] at hk
      cases hk
      refine ⟨⟨e, ?_⟩, ?_, ?_⟩
      · simp only [if_true]; exact heap_alloc_new w _
      · simp only [if_true]; exact R.below.size
      · simp only [if_true]; exact R.sat.fresh
    · have h4 : ¬ B k := fun h => hB' ((hB k e1).1 h)
      obtain ⟨h5, h6, h7⟩ := R.box k cs' hk h4
      obtain ⟨e', he'⟩ := h5
      refine ⟨⟨e', ?_⟩, by rw [if_neg e1]; exact h6, by rw [if_neg e1]; exact h7⟩
      simp only [if_neg e1]
      rw [Below.heap_alloc _ _ _ (Array.getElem?_eq_some_iff.1 he').1]
      exact he'
  · have key : ∀ k, ¬ B' k → k ≠ d → ¬ B k := fun k hk e1 h => hk ((hB k e1).1 h)
    by_cases e1 : k = d
    · by_cases e2 : k' = d
      · rw [e1, e2]
      · exfalso
        rw [if_pos e1, if_neg e2] at heq
        cases hc : st.b k' with
        | none => exact hbk' hc
        | some c => have := hβ k' c hc (key k' hk' e2); omega
    · by_cases e2 : k' = d
      · exfalso
        rw [if_neg e1, if_pos e2] at heq
        cases hc : st.b k with
        | none => exact hbk hc
        | some c => have := hβ k c hc (key k hk e1); omega
      · rw [if_neg e1, if_neg e2] at heq
        exact R.inj k k' (key k hk e1) (key k' hk' e2) hbk hbk' heq

/-- A call, or what else makes memory. -/
theorem Rel.grow (R : Rel h0 w0 n D B β st h a w) {X : Nat → Prop} {h' : Heap} {w' : World} (hX : ∀ k, X k → h0 k = none ∧ (h k).isSome = true) (G : GrowsX X h h' w w') :
    Rel h0 w0 n D B β st h' a w' := by
  have hXs : ∀ k, k < w0.heap.size → ¬ w0.X k → ¬ X k := fun k hk hxx hx => by
    obtain ⟨h1, h2⟩ := hX k hx
    obtain ⟨o, ho⟩ := Option.isSome_iff_exists.1 h2
    rcases R.new k o ho with h3 | h3 | h3
    · rw [h1] at h3; cases h3
    · exact hxx h3
    · exact absurd h3 (by simp only [Base.heap] at hk ⊢; omega)
  refine ⟨R.size, R.defers, R.tmp, R.live, fun k cs hk hB => ?_, R.inj, G.sat, fun g o e => ?_, fun g o e => ?_, ?_⟩
  · obtain ⟨⟨e, he⟩, h2, h3⟩ := R.box k cs hk hB
    have hlt := (Array.getElem?_eq_some_iff.1 he).1
    have hnx : ¬ X (β k) := fun hx => by have := (hX _ hx).2; rw [h3] at this; cases this
    refine ⟨⟨e, by rw [G.block _ hlt hnx]; exact he⟩, h2, ?_⟩
    cases e4 : h' (β k) with
    | none => rfl
    | some o =>
      rcases G.new _ _ e4 with h5 | h5
      · rw [h3] at h5; cases h5
      · omega
  · refine G.le g o (fun hx => ?_) (R.le g o e)
    rw [(hX g hx).1] at e; cases e
  · rcases G.new g o e with h1 | h1
    · obtain ⟨o', ho'⟩ := Option.isSome_iff_exists.1 h1
      exact R.new g o' ho'
    · exact .inr (.inr (Nat.le_trans R.below.size h1))
  · exact R.below.trans G.os G.tape G.output G.size fun i hi hx => G.block i (Nat.lt_of_lt_of_le hi R.below.size) (hXs i hi hx)

theorem Rel.drew (R : Rel h0 w0 n D B β st h a w) : Rel h0 w0 n D B β st h a { w with drawn := w.drawn + 1 } :=
  ⟨R.size, R.defers, R.tmp, R.live, R.box, R.inj, R.sat, R.le, R.new, R.below.drew⟩

theorem Rel.weaken (R : Rel h0 w0 n D B β st h a w) (D' : Nat → Prop) (hD : ∀ t, D t → D' t) : Rel h0 w0 n D' B β st h a w :=
  ⟨R.size, R.defers, fun t ht => R.tmp t (fun h => ht (hD t h)), fun t k o ht => R.live t k o (fun h => ht (hD t h)), R.box, R.inj, R.sat, R.le, R.new, R.below⟩
theorem Rel.cong (R : Rel h0 w0 n D B β st h a w) (D' B' : Nat → Prop) (hD : ∀ t, D t ↔ D' t) (hB : ∀ t, B t ↔ B' t) : Rel h0 w0 n D' B' β st h a w := by
  have e1 : D = D' := funext fun t => propext (hD t)
  have e2 : B = B' := funext fun t => propext (hB t)
  subst e1 e2
  exact R
end

/-! ### Storing into a block -/
def splice (cs : List Value) (o : Nat) (vs : List Value) : List Value := cs.take o ++ vs ++ cs.drop (o + vs.length)

structure Wrote (g : Nat) (c : Array Value) (w w' : World) : Prop where
  os : w'.os = w.os
  tape : w'.tape = w.tape
  output : w'.output = w.output
  size : w'.heap.size = w.heap.size
  block : ∀ k, k ≠ g → w'.heap[k]? = w.heap[k]?
  here : ∀ c0 e fr, w.heap[g]? = some (.cells c0 e fr) → w'.heap[g]? = some (.cells c e fr)

theorem run_storeCells_block {P : Program} (g : Nat) : ∀ (vs : List Value) (i o : Nat) (w : World) (cs : List Value) (e : TypeId), w.heap[g]? = some (.cells cs.toArray e (0, 0)) → (∀ v ∈ vs, v.oneCell' = true) →
    o + i + vs.length ≤ cs.length → ∃ w', (storeCells ⟨g, o, none⟩ vs i).run P w = .ok () w' ∧ Wrote g (splice cs (o + i) vs).toArray w w'
  | [], i, o, w, cs, e, hg, _, _ => ⟨w, rfl, rfl, rfl, rfl, rfl, fun _ _ => rfl, fun c0 e' fr h => by
      rw [hg] at h; cases h; rw [hg]; simp [splice]⟩
  | v :: vs, i, o, w, cs, e, hg, h1, hl => by
    have hlt : o + i < cs.length := by simp at hl; omega
    have hc : w.cell? ⟨g, o + i, none⟩ = some cs[o + i] := cell_of_block hg (by simp [hlt])
    have hf : w.frozen? ⟨g, o + i, none⟩ = false := by simp [World.frozen?, hg]
    have hg' : (w.setCell ⟨g, o + i, none⟩ v).heap[g]? = some (.cells (cs.set (o + i) v).toArray e (0, 0)) := by
      simp [World.setCell, Array.getElem?_modify, hg]
    obtain ⟨w', hw', W⟩ := run_storeCells_block g vs (i + 1) o (w.setCell ⟨g, o + i, none⟩ v) (cs.set (o + i) v) e hg' (fun u hu => h1 u (by simp [hu])) (by simp at hl ⊢; omega)
    refine ⟨w', ?_, W.os, W.tape, W.output, by rw [W.size]; simp, fun k hk => ?_, fun c0 e' fr h => ?_⟩
    · simp only [storeCells, Sem.run_bind, add_off, run_store P w _ v _ (h1 v (by simp)), hc, hf]
      simpa using hw'
    · rw [W.block k hk]
      exact Below.heap_setCell _ _ _ _ hk
    · rw [hg] at h
      cases h
      rw [W.here _ _ _ hg']
      congr 3
      unfold splice
      rw [show o + (i + 1) = o + i + 1 from by omega]
      rw [List.drop_set_of_lt (by omega)]
      rw [List.take_succ_eq_append_getElem (by simpa using hlt)]
      simp only [List.take_set_of_le (Nat.le_refl _), List.getElem_set_self, List.append_assoc, List.cons_append, List.nil_append, List.length_cons]
      congr 4
      omega

theorem run_store_block {P : Program} {T : Tab} (hT : TabOk P T) {t : Nat} {z : List Value} (hz : T.zero t = some z) {w : World} {g o : Nat} {cs : List Value} {e : TypeId}
    (hg : w.heap[g]? = some (.cells cs.toArray e (0, 0))) (v : Value) (hn : v.cells.size = T.size t) (h1 : ∀ u ∈ v.cells.toList, u.oneCell' = true) (hl : o + T.size t ≤ cs.length) :
    ∃ w', (Instr.storeAt t (.pointer (some ⟨g, o, none⟩)) v).run P w = .ok () w' ∧ Wrote g (splice cs o v.cells.toList).toArray w w' := by
  obtain ⟨w', hw', W⟩ := run_storeCells_block (P := P) g v.cells.toList 0 o w cs e hg h1 (by simp; omega)
  refine ⟨w', ?_, by simpa using W⟩
  unfold Instr.storeAt Instr.sureAddr storeVar
  simp only [Sem.run_bind, Sem.run_pure, Result.andThen_ok, hT.size t z hz w, hn]
  simpa using hw'
end Go.Proofs.Vc

/-! Symbolic execution over heaplets, part 4: the operations of a region in the order of the text. -/
set_option linter.unusedVariables false
set_option linter.unusedSimpArgs false
namespace Go.Proofs.Vc
open Go Go.RowKit

/-- A call of a function by its number: one with a body, or one that the model reckons. -/
def CallGo (P : Program) (g : FuncId) (args : Array Value) (h : Heap) (X : Nat → Prop) (Φ : Value → Heap → Prop) : Prop :=
  ((∀ w, (callFunc g args).run P w = .ok (.enter g args) w) ∧ CallsX P g args h X Φ) ∨ (∃ v, (∀ w, (callFunc g args).run P w = .ok (.value v) w) ∧ Φ v h)
def CallsO (P : Program) (h0 : Heap) (pend : Bool) (g : FuncId) (args : Array Value) (h : Heap) (Φ : Value → Heap → Prop) : Prop :=
  ∃ X : Nat → Prop, (pend = true → ∀ k, ¬ X k) ∧ (∀ k, X k → h0 k = none ∧ (h k).isSome = true) ∧ CallGo P g args h X Φ
/-- Any other operation that makes memory. -/
def EffO (P : Program) (h0 : Heap) (pend : Bool) (s : Sem Next) (h : Heap) (Φ : Value → Heap → Prop) : Prop :=
  ∃ X : Nat → Prop, (pend = true → ∀ k, ¬ X k) ∧ (∀ k, X k → h0 k = none ∧ (h k).isSome = true) ∧
    ∀ w, Sat h w → ∃ v h' w', s.run P w = .ok (.value v) w' ∧ GrowsX X h h' w w' ∧ Φ v h'

structure SOp where
  dst : Option Nat
  ty : Nat
  guard : Option (Nat × Bool)
  op : Op
  sync : Bool := false
  conf : List Operand := []
  pend : Bool := false
def boolIs (x : Value) (want : Bool) : Bool := match x with | .bool b => b == want | _ => false
def notBox (k : Nat) : AV → Prop | .p k' _ => (k' == k) = false | _ => True
def freshOk (st : St) (d : Nat) : Option (List Value) → Prop | none => True | some _ => st.b d = none

section
variable (P : Program) (T : Tab) (n : Nat) (h0 : Heap)
def sy (o : SOp) (K : St → Heap → Prop) (st : St) (h : Heap) : Prop :=
  match o.op with
  | .assign x => match o.dst with
    | some d => d < n ∧ K (st.put d (st.ev x)) h
    | none => False
  | .store t x y => o.dst = none ∧ match T.zero t with
    | none => False
    | some _ => match st.ev y with
      | .v z => z.cells.size = T.size t ∧ (∀ u ∈ z.cells.toList, u.oneCell' = true) ∧ match st.ev x with
        | .p k off => match st.b k with
          | some cs => off + T.size t ≤ cs.length ∧ (∀ c ∈ o.conf, notBox k (st.ev c)) ∧ K (st.setB k (splice cs off z.cells.toList)) h
          | none => False
        | .v ptr => o.pend = false ∧ ∃ g off c e, ptr = .pointer (some ⟨g, off, none⟩) ∧ h g = some (.cells c e (0, 0)) ∧ h0 g = none ∧ off + T.size t ≤ c.size ∧
            K st (h.upd g (.cells (splice c.toList off z.cells.toList).toArray e (0, 0)))
        | .bad => False
      | _ => False
  | .call { callee := .value f, args := args, argTypes := _ } => match o.dst with
    | none => False
    | some d => match st.ev f with
      | .v (.func (.func g) first cap) => d < n ∧ (∀ x ∈ args.toList, isV (st.ev x) = true) ∧
          CallsO P h0 o.pend g (first ++ (args.toList.map (valOf st.ev)).toArray ++ cap) h (fun v h' => K (st.put d (.v v)) h')
      | _ => False
  | .select .. => False
  | op => match o.dst with
    | none => False
    | some d => d < n ∧ (∀ x ∈ op.operands.toList, isV (st.ev x) = true) ∧
        EffO P h0 o.pend (execOp (valOf st.ev) { dst := some d, op := op, type := o.ty, pos := "", after := #[], guard := none }) h (fun v h' => K (st.put d (.v v)) h')

def vcBody (o : SOp) (K : St → Heap → Prop) (st : St) (h : Heap) : Prop :=
  match o.sync with
  | false => match o.dst with
    | some d => d < n ∧ ez P T h st.ev st.b d o.ty o.op fun av bx => freshOk st d bx ∧ K (st.easy d av bx) h
    | none => False
  | true => sy P T n h0 o K st h
def skipT (st : St) : Option Nat → St | some d => st.put d (.v undef) | none => st
def vcOp (o : SOp) (K : St → Heap → Prop) (st : St) (h : Heap) : Prop :=
  match o.guard with
  | none => vcBody P T n h0 o K st h
  | some (tg, want) => match st.t tg with
    | .v x => match boolIs x want with
      | true => vcBody P T n h0 o K st h
      | false => (∀ d, o.dst = some d → d < n) ∧ K (skipT st o.dst) h
    | _ => False
def vcOps : List SOp → (St → Heap → Prop) → St → Heap → Prop
  | [], K => K
  | o :: l, K => vcOp P T n h0 o (vcOps l K)
end

/-- The abstract operation is the machine's. -/
structure SOf (ops : Array Oper) (o : Oper) (so : SOp) : Prop where
  dst : so.dst = o.dst
  ty : so.ty = o.type
  op : so.op = o.op
  guard : match o.guard with
    | none => so.guard = none
    | some (j, want) => ∃ tg, (ops[j]?).bind (·.dst) = some tg ∧ so.guard = some (tg, want)

section
variable {P : Program} {T : Tab} {n : Nat} {h0 : Heap} {w0 : Base} {D B : Nat → Prop} {β : Nat → Nat} {st : St} {h : Heap} {a : Act} {w : World} {ops : Array Oper}

theorem Rel.ev (R : Rel h0 w0 n D B β st h a w) (x : Operand) (hx : ∀ t, x = .tmp t → ¬ D t) : Conc β (st.ev x) (a.eval x) := by
  cases x with
  | tmp t => exact R.tmp t (hx t rfl)
  | const v => rfl
  | global g => rfl
  | func f => rfl
theorem Rel.ev_live (R : Rel h0 w0 n D B β st h a w) (x : Operand) (hx : ∀ t, x = .tmp t → ¬ D t) {k o : Nat} (he : st.ev x = .p k o) : st.b k ≠ none ∧ ¬ B k := by
  cases x with
  | tmp t => exact R.live t k o (hx t rfl) he
  | const v => cases he
  | global g => cases he
  | func f => cases he
theorem Rel.valOf (R : Rel h0 w0 n D B β st h a w) (x : Operand) (hx : ∀ t, x = .tmp t → ¬ D t) (hv : isV (st.ev x) = true) : a.eval x = valOf st.ev x := by
  have h1 := R.ev x hx
  unfold Vc.valOf
  cases h2 : st.ev x with
  | v y => rw [h2] at h1; exact h1
  | p k o => rw [h2] at hv; cases hv
  | bad => rw [h2] at hv; cases hv

/-- Is the operation carried out? -/
theorem wanted_of (R : Rel h0 w0 n D B β st h a w) {o : Oper} {so : SOp} (S : SOf ops o so) :
    match so.guard with
    | none => Region.wanted o (yielded ops a.tmps) = true
    | some (tg, want) => ¬ D tg → ∀ x, st.t tg = .v x → Region.wanted o (yielded ops a.tmps) = boolIs x want := by
  have hg := S.guard
  cases hgu : o.guard with
  | none =>
    rw [hgu] at hg
    simp only at hg
    rw [hg]
    simp [Region.wanted, hgu]
  | some p =>
    obtain ⟨j, want⟩ := p
    rw [hgu] at hg
    obtain ⟨tg, h1, h2⟩ := hg
    rw [h2]
    intro hD x hx
    have h3 := R.tmp tg hD
    rw [hx] at h3
    simp only [Conc] at h3
    simp only [Region.wanted, hgu, yielded, h1, Option.bind_some]
    rw [Array.getD_eq_getD_getElem?] at h3
    cases h4 : a.tmps[tg]? with
    | none =>
      rw [h4] at h3
      simp only [Option.getD_none] at h3
      subst h3
      simp [boolIs, undef]
    | some y =>
      rw [h4] at h3
      simp only [Option.getD_some] at h3
      subst h3
      cases y <;> simp [boolIs]

/-- An easy operation whose abstract result stands, carried out. -/
theorem ez_wp (hT : TabOk P T) (R : Rel h0 w0 n D B β st h a w) {o : Oper} {so : SOp} (S : SOf ops o so) {d : Nat} (hd : o.dst = some d) (hdn : d < n) {bx : Option (List Value)}
    (H : Ez P T h st.ev st.b d so.ty so.op (st.t d) bx) (hbx : ∀ cs, bx = some cs → st.b d = some cs ∧ B d) (hop : ∀ x ∈ so.op.operands.toList, ∀ t, x = .tmp t → ¬ D t)
    {K : Act → World → Prop} {Q : Exit → Act → World → Prop} (D' B' : Nat → Prop) (hD : ∀ t, t ≠ d → D t → D' t) (hB : ∀ k, k ≠ d → (B k ↔ B' k)) (hBd : bx ≠ none → ¬ B' d) (hBn : bx = none → (B d ↔ B' d))
    (hK : ∀ β' a' w', Rel h0 w0 n D' B' β' st h a' w' → K a' w') : o.wp P a w K Q := by
  have hrun := ez_run hT H (a := a) (β := β) (w := w) (fun x hx => R.ev x (hop x hx)) (fun x hx k o cs he hb => (R.box k cs hb (R.ev_live x (hop x hx) he).2).1) R.sat o S.op.symm S.ty.symm
  unfold Oper.wp
  rcases hrun with ⟨hb, y, hr, hy⟩ | ⟨cs, e, hb, hav, hr⟩
  · rw [hr, Oper.upon_value, hd]
    subst hb
    have hBB : ∀ k, B k ↔ B' k := fun k => by
      by_cases hk : k = d
      · subst hk; exact hBn rfl
      · exact hB k hk
    have R1 := R.conc_val d y hdn hy (fun k o he => by
      obtain ⟨x, hx, o', hxo⟩ := ez_live H he
      exact R.ev_live x (hop x hx) hxo) D' hD
    exact hK _ _ _ (R1.cong _ _ (fun _ => Iff.rfl) hBB)
  · rw [hr, Oper.upon_value, hd]
    obtain ⟨h1, h2⟩ := hbx cs hb
    exact hK _ _ _ (R.conc_new d cs e hdn hav h1 h2 D' B' hD hB (hBd (by rw [hb]; simp)))

/-- What a step that is carried out at once leaves as it was. -/
structure Keep (B : Nat → Prop) (o : SOp) (st : St) (h : Heap) (st' : St) (h' : Heap) : Prop where
  t : ∀ i, o.dst ≠ some i → st'.t i = st.t i
  isSt : st'.b ≠ st.b → ∃ t x y, o.op = .store t x y
  b : st'.b = st.b ∨ ∃ k, (∀ k', k' ≠ k → st'.b k' = st.b k') ∧ ¬ B k ∧ ∀ c ∈ o.conf, ∀ k' x, st.ev c = .p k' x → k' ≠ k
  bs : ∀ k, st.b k ≠ none → st'.b k ≠ none
  bn : ∀ k, st.b k = none → st'.b k = none
  h : o.pend = true → Le h h'

theorem sync_wp (hT : TabOk P T) (R : Rel h0 w0 n D B β st h a w) {o : Oper} {so : SOp} (S : SOf ops o so) {K : St → Heap → Prop} (H : sy P T n h0 so K st h)
    (hop : ∀ x ∈ so.op.operands.toList, ∀ t, x = .tmp t → ¬ D t)
    {K' : Act → World → Prop} {Q : Exit → Act → World → Prop}
    (hK : ∀ st' h' a' w', Rel h0 w0 n D B β st' h' a' w' → Keep B so st h st' h' → K st' h' → K' a' w') : o.wp P a w K' Q := by
  have keep_put : ∀ d v h', so.dst = some d → (so.pend = true → Le h h') → Keep B so st h (st.put d v) h' := fun d v h' hd hle =>
    ⟨fun i hi => by rw [hd] at hi; have : i ≠ d := fun e => hi (by rw [e]); simp [St.put_t, beq_eq_false_iff_ne.2 this], fun hh => absurd rfl hh, .inl rfl, fun k hk => hk, fun k hk => hk, hle⟩
  have putv : ∀ {h' : Heap} {w' : World} (d : Nat) (v : Value), d < n → Rel h0 w0 n D B β st h' a w' → Rel h0 w0 n D B β (st.put d (.v v)) h' (a.put (some d) v) w' := fun {h' w'} d v hd R1 => by
    have R2 := R1.abs d (.v v) none (by simp)
    have R3 := R2.conc_val d v hd (by simp [St.easy, St.put_t, Conc]) (fun k o he => by simp [St.easy, St.put_t] at he) D (fun t ht h => h.resolve_left ht)
    exact R3.cong _ _ (fun _ => Iff.rfl) (fun k => by simp)
  obtain ⟨odst, oop, otype, opos, oafter, oguard⟩ := o
  obtain ⟨sdst, sty, sguard, sop, ssync, sconf, spend⟩ := so
  obtain ⟨hdst, hty, hopq, hgu⟩ := S
  dsimp only at hdst hty hopq
  subst hdst hty hopq
  unfold sy at H
  unfold Oper.wp
  dsimp only at H ⊢
  split at H
  · rename_i x
    split at H
    · rename_i d
      obtain ⟨hd, hk⟩ := H
      have hc := R.ev x (hop x (by simp [Op.operands]))
      have hl := fun k o (he : st.ev x = .p k o) => R.ev_live x (hop x (by simp [Op.operands])) he
      have R2 := R.abs d (st.ev x) none (by simp)
      have R3 := R2.conc_val d (a.eval x) hd (by simpa [St.easy, St.put_t] using hc) (fun k o he => by
        simp [St.easy, St.put_t] at he
        have := hl k o he
        exact ⟨this.1, by simpa using this.2⟩) D (fun t ht h => h.resolve_left ht)
      have R4 := R3.cong D B (fun _ => Iff.rfl) (fun k => by simp)
      exact hK _ _ _ _ R4 (keep_put d _ h rfl (fun _ => Le.refl h)) hk
    · exact H.elim
  · rename_i t x y
    obtain ⟨hdn, H⟩ := H
    subst hdn
    split at H
    · exact H.elim
    · rename_i zz hz
      split at H
      · rename_i z hy
        obtain ⟨hsz, h1, H⟩ := H
        have ey := R.ev y (hop y (by simp [Op.operands]))
        rw [hy] at ey
        simp only [Conc] at ey
        have ex := R.ev x (hop x (by simp [Op.operands]))
        split at H
        · rename_i k off hx
          split at H
          · rename_i cs hb
            obtain ⟨hlen, hconf, hk⟩ := H
            rw [hx] at ex
            simp only [Conc] at ex
            obtain ⟨hb1, hb2⟩ := R.ev_live x (hop x (by simp [Op.operands])) hx
            obtain ⟨⟨e, he⟩, hlo, hhk⟩ := R.box k cs hb hb2
            obtain ⟨w', hw', W⟩ := run_store_block (P := P) hT hz he z hsz h1 hlen
            simp only [execOp, ex, ey, Sem.run_bind, hw', Result.andThen_ok, Sem.run_pure, Oper.upon_skip, Act.put]
            refine hK (st.setB k (splice cs off z.cells.toList)) h _ _ ?_ ⟨fun i _ => rfl, fun _ => ⟨t, x, y, rfl⟩, .inr ⟨k, fun k' hk' => by simp [St.setB_b, beq_eq_false_iff_ne.2 hk'], hb2, fun c hc k' x' hev => ?_⟩, fun k' hk' => ?_, fun k' hk' => ?_, fun _ => Le.refl h⟩ hk
            · refine ⟨R.size, R.defers, R.tmp, fun t' k' o' ht he' => ?_, fun k' cs' hk' hB' => ?_, fun k1 k2 hk1 hk2 hb1' hb2' heq => ?_, fun g p hg => ?_, R.le, R.new, ?_⟩
              · obtain ⟨l1, l2⟩ := R.live t' k' o' ht he'
                refine ⟨?_, l2⟩
                simp only [St.setB_b]
                cases hkk : (k' == k) <;> simp [l1]
              · by_cases e1 : k' = k
                · subst e1
                  simp [St.setB_b] at hk'
                  subst hk'
                  exact ⟨⟨e, W.here _ _ _ he⟩, hlo, hhk⟩
                · rw [St.setB_b, beq_eq_false_iff_ne.2 e1] at hk'
                  obtain ⟨⟨e', he'⟩, h5, h6⟩ := R.box k' cs' hk' hB'
                  have hne : β k' ≠ β k := fun hh => e1 (R.inj k' k hB' hb2 (by simp only [cond_false] at hk'; rw [hk']; simp) hb1 hh)
                  exact ⟨⟨e', by rw [W.block _ hne]; exact he'⟩, h5, h6⟩
              · have fix : ∀ k', (st.setB k (splice cs off z.cells.toList)).b k' ≠ none → st.b k' ≠ none := fun k' hh => by
                  by_cases e1 : k' = k
                  · subst e1; exact hb1
                  · simpa [St.setB_b, beq_eq_false_iff_ne.2 e1] using hh
                exact R.inj k1 k2 hk1 hk2 (fix k1 hb1') (fix k2 hb2') heq
              · have hne : g ≠ β k := fun hh => by rw [hh, hhk] at hg; cases hg
                rw [W.block _ hne]
                exact R.sat g p hg
              · exact R.below.trans W.os W.tape W.output (Nat.le_of_eq W.size.symm) fun i hi _ => W.block i (by simp only [Base.heap] at *; omega)
            · have := hconf c hc
              rw [hev] at this
              simpa [notBox] using this
            · by_cases e1 : k' = k
              · subst e1; simp [St.setB_b]
              · simpa [St.setB_b, beq_eq_false_iff_ne.2 e1] using hk'
            · by_cases e1 : k' = k
              · subst e1; exact absurd hk' hb1
              · simpa [St.setB_b, beq_eq_false_iff_ne.2 e1] using hk'
          · exact H.elim
        · rename_i ptr hx
          obtain ⟨hpend, g, off, c, e, hptr, hg, hg0, hlen, hk⟩ := H
          rw [hx, hptr] at ex
          simp only [Conc] at ex
          have hgw : w.heap[g]? = some (.cells c.toList.toArray e (0, 0)) := by simpa using R.sat g _ hg
          obtain ⟨w', hw', W⟩ := run_store_block (P := P) hT hz hgw z hsz h1 (by simpa using hlen)
          simp only [execOp, ex, ey, Sem.run_bind, hw', Result.andThen_ok, Sem.run_pure, Oper.upon_skip, Act.put]
          refine hK _ _ _ _ ?_ ⟨fun i _ => rfl, fun hh => absurd rfl hh, .inl rfl, fun _ hh => hh, fun _ hh => hh, fun hh => by dsimp only at hpend hh; rw [hpend] at hh; cases hh⟩ hk
          refine R.grow (X := fun k => k = g) (fun k hk' => by subst hk'; exact ⟨hg0, by rw [hg]; rfl⟩) ⟨fun k o hk' ho => by rw [Heap.upd_ne _ _ hk']; exact ho, fun k o ho => ?_, fun k o ho => ?_, W.os, W.tape, W.output, Nat.le_of_eq W.size.symm, fun k _ hk' => W.block k hk'⟩
          · by_cases e1 : k = g
            · subst e1
              rw [Heap.upd_same] at ho
              cases ho
              have := W.here _ _ _ hgw
              simpa using this
            · rw [Heap.upd_ne _ _ e1] at ho
              rw [W.block k e1]
              exact R.sat k o ho
          · by_cases e1 : k = g
            · subst e1; exact .inl (by rw [hg]; rfl)
            · rw [Heap.upd_ne _ _ e1] at ho
              exact .inl (by rw [ho]; rfl)
        · exact H.elim
      · exact H.elim
  · rename_i f args argTypes
    split at H
    · exact H.elim
    · rename_i d
      split at H
      · rename_i g first cap hf
        obtain ⟨hd, hv, X, hX1, hX2, hcall⟩ := H
        have ef := R.ev f (hop f (by simp [Op.operands, Call.operands]))
        rw [hf] at ef
        simp only [Conc] at ef
        have hargs : args.map a.eval = (args.toList.map (Vc.valOf st.ev)).toArray := by
          apply Array.ext'
          simp only [Array.toList_map]
          exact List.map_congr_left fun x hx => R.valOf x (hop x (by simp [Op.operands, Call.operands]; exact .inr (by simpa using hx))) (hv x hx)
        have hsem : (execOp a.eval { dst := some d, op := .call { callee := .value f, args := args, argTypes := argTypes }, type := sty, pos := opos, after := oafter, guard := oguard }).run P w =
            (callFunc g (first ++ (args.toList.map (Vc.valOf st.ev)).toArray ++ cap)).run P w := by
          simp only [execOp, resolve, ef, Deferred.ofValue, Sem.run_bind, Sem.run_pure, Result.andThen_ok, invoke, hargs]
        rw [hsem]
        rcases hcall with ⟨hen, hcx⟩ | ⟨v, hval, hphi⟩
        · rw [hen w, Oper.upon_enter]
          refine (hcx w R.sat).mono ?_
          rintro e w' ⟨v, h', rfl, hG, hphi⟩
          have R1 := putv d v hd (R.grow hX2 hG)
          refine hK _ _ _ _ R1 (keep_put d _ h' rfl (fun hp g o ho => hG.le g o (hX1 hp g) ho)) hphi
        · rw [hval w, Oper.upon_value]
          exact hK _ _ _ _ (putv d v hd R) (keep_put d _ h rfl (fun _ => Le.refl h)) hphi
      · exact H.elim
  · exact H.elim
  · split at H
    · exact H.elim
    · rename_i d
      obtain ⟨hd, hv, X, hX1, hX2, heff⟩ := H
      rename_i hns _
      have heq : execOp a.eval { dst := some d, op := sop, type := sty, pos := opos, after := oafter, guard := oguard } =
          execOp (Vc.valOf st.ev) { dst := some d, op := sop, type := sty, pos := opos, after := oafter, guard := oguard } :=
        execOp_congr _ (fun cs b hcs => hns cs b hcs) (fun x hx => R.valOf x (hop x (by simpa using hx)) (hv x (by simpa using hx)))
      rw [heq]
      obtain ⟨v, h', w', hr, hG, hphi⟩ := heff w R.sat
      have hr' : (execOp (Vc.valOf st.ev) { dst := some d, op := sop, type := sty, pos := opos, after := oafter, guard := oguard }).run P w = .ok (.value v) w' := hr
      rw [hr', Oper.upon_value]
      exact hK _ _ _ _ (putv d v hd (R.grow hX2 hG)) (keep_put d _ h' rfl (fun hp g o ho => hG.le g o (hX1 hp g) ho)) hphi
end
end Go.Proofs.Vc

/-! Symbolic execution over heaplets, part 5: a region in the order of the text. -/
set_option linter.unusedVariables false
set_option linter.unusedSimpArgs false
namespace Go.Proofs.Vc
open Go Go.RowKit

def No : Nat → Prop := fun _ => False
section
variable {P : Program} {T : Tab} {n : Nat} {h0 : Heap} {w0 : Base} {β : Nat → Nat} {st : St} {h : Heap} {a : Act} {w : World} {ops : Array Oper}

theorem easy_t (st : St) (d : Nat) (av : AV) (bx : Option (List Value)) : (st.easy d av bx).t d = av := by
  cases bx <;> simp [St.easy, St.put_t]
theorem easy_b_some (st : St) (d : Nat) (av : AV) (cs : List Value) : (st.easy d av (some cs)).b d = some cs := by
  simp [St.easy, St.put_b, St.setB_b]
theorem freshOk_imp {st : St} {d : Nat} {bx : Option (List Value)} (h : freshOk st d bx) : bx ≠ none → st.b d = none := by
  cases bx with
  | none => intro h2; exact absurd rfl h2
  | some cs => intro _; exact h

/-- An easy operation, abstract and machine at once. -/
theorem ez_seq (hT : TabOk P T) (R : Rel h0 w0 n No No β st h a w) {o : Oper} {so : SOp} (S : SOf ops o so) {d : Nat} (hd : o.dst = some d) (hdn : d < n) {av : AV} {bx : Option (List Value)}
    (H : Ez P T h st.ev st.b d so.ty so.op av bx) (hf : freshOk st d bx)
    {K : Act → World → Prop} {Q : Exit → Act → World → Prop} (hK : ∀ β' a' w', Rel h0 w0 n No No β' (st.easy d av bx) h a' w' → K a' w') : o.wp P a w K Q := by
  have hrun := ez_run hT H (a := a) (β := β) (w := w) (fun x hx => R.ev x (fun _ _ h => h)) (fun x hx k o cs he hb => (R.box k cs hb (fun h => h)).1) R.sat o S.op.symm S.ty.symm
  have R1 := R.abs d av bx (freshOk_imp hf)
  unfold Oper.wp
  rcases hrun with ⟨hb, y, hr, hy⟩ | ⟨cs, e, hb, hav, hr⟩
  · rw [hr, Oper.upon_value, hd]
    subst hb
    have R2 := R1.conc_val d y hdn (by rw [easy_t]; exact hy) (fun k o he => by
      rw [easy_t] at he
      obtain ⟨x, hx, o', hxo⟩ := ez_live H he
      exact ⟨by simpa [St.easy, St.put_b] using (R.ev_live x (fun _ _ h => h) hxo).1, by simp [No]⟩) No (fun t ht h => h.elim (fun e => absurd e ht) id)
    exact hK _ _ _ (R2.cong _ _ (fun _ => Iff.rfl) (fun k => by simp [No]))
  · rw [hr, Oper.upon_value, hd]
    subst hb
    have R2 := R1.conc_new d cs e hdn (by rw [easy_t]; exact hav) (easy_b_some _ _ _ _) (.inl ⟨rfl, by simp⟩) No No (fun t ht h => h.elim (fun e => absurd e ht) id)
      (fun k hk => by simp [No, hk]) (fun h => h)
    exact hK _ _ _ R2

theorem Rel.skip {D B : Nat → Prop} (R : Rel h0 w0 n D B β st h a w) (dst : Option Nat) (hd : ∀ d, dst = some d → d < n) : Rel h0 w0 n D B β (skipT st dst) h (a.put dst undef) w := by
  cases dst with
  | none => exact R
  | some d =>
    have R1 := R.abs d (.v undef) none (by simp)
    have R2 := R1.conc_val d undef (hd d rfl) (by rw [easy_t]; rfl) (fun k o he => by rw [easy_t] at he; cases he) D (fun t ht h => h.resolve_left ht)
    exact R2.cong _ _ (fun _ => Iff.rfl) (fun k => by simp)

theorem op_sound (hT : TabOk P T) (R : Rel h0 w0 n No No β st h a w) {o : Oper} {so : SOp} (S : SOf ops o so) {K : St → Heap → Prop} (H : vcOp P T n h0 so K st h)
    {K' : Act → World → Prop} {Q : Exit → Act → World → Prop} (hK : ∀ st' h' β' a' w', Rel h0 w0 n No No β' st' h' a' w' → K st' h' → K' a' w') :
    if Region.wanted o (yielded ops a.tmps) then o.wp P a w K' Q else K' (a.put o.dst undef) w := by
  have body : vcBody P T n h0 so K st h → o.wp P a w K' Q := fun hb => by
    unfold vcBody at hb
    split at hb
    · split at hb
      · rename_i d hd
        obtain ⟨hdn, hz⟩ := hb
        obtain ⟨av, bx, h1, h2, h3⟩ := ez_elim hz
        exact ez_seq hT R S (S.dst ▸ hd) hdn h1 h2 fun β' a' w' R' => hK _ _ _ _ _ R' h3
      · exact hb.elim
    · exact sync_wp hT R S hb (fun _ _ _ _ h => h) fun st' h' a' w' R' _ hk => hK _ _ _ _ _ R' hk
  have hw := wanted_of R S
  unfold vcOp at H
  split at H
  · rename_i hg
    rw [hg] at hw
    simp only at hw
    rw [if_pos hw]
    exact body H
  · rename_i tg want hg
    rw [hg] at hw
    simp only at hw
    split at H
    · rename_i x hx
      have hw2 := hw (fun h => h) x hx
      split at H
      · rename_i hb
        rw [if_pos (hw2.trans hb)]
        exact body H
      · rename_i hb
        rw [if_neg (by rw [hw2, hb]; simp)]
        have := R.skip so.dst H.1
        rw [S.dst] at this
        rw [S.dst] at H
        exact hK _ _ _ _ _ this H.2
    · exact H.elim

def SOfs (ops : Array Oper) : List Oper → List SOp → Prop
  | [], [] => True
  | o :: l, so :: sl => SOf ops o so ∧ SOfs ops l sl
  | _, _ => False

theorem seq_sound (hT : TabOk P T) {Q : Exit → Act → World → Prop} {K : St → Heap → Prop} (hQ : ∀ st h β a w, Rel h0 w0 n No No β st h a w → K st h → Q .normal a w) (l : List Oper) :
    ∀ (sl : List SOp), SOfs ops l sl → ∀ (β : Nat → Nat) (st : St) (h : Heap) (a : Act) (w : World), vcOps P T n h0 sl K st h → Rel h0 w0 n No No β st h a w → wpList P ops Q l a w := by
  induction l with
  | nil =>
    intro sl F β st h a w H R
    cases sl with
    | nil => exact hQ _ _ _ _ _ R H
    | cons _ _ => exact F.elim
  | cons o l ih =>
    intro sl F β st h a w H R
    cases sl with
    | nil => exact F.elim
    | cons so sl =>
      have H' : vcOp P T n h0 so (vcOps P T n h0 sl K) st h := H
      have := op_sound hT R F.1 H' (K' := wpList P ops Q l) (Q := Q) fun st' h' β' a' w' R' hk => ih sl F.2 β' st' h' a' w' hk R'
      unfold wpList
      split
      · rename_i hw; rw [if_pos hw] at this; exact .inl this
      · rename_i hw; rw [if_neg hw] at this; exact this
end
end Go.Proofs.Vc

/-! Symbolic execution over heaplets, part 6: a region that draws its order. One eager order (what only reads as soon as it may come up, calls in their one order) serves every order. -/
set_option linter.unusedVariables false
set_option linter.unusedSimpArgs false
namespace Go.Proofs.Vc
open Go Go.RowKit

abbrev Pl := List (Nat × SOp)
def deps (ops : Array Oper) (i : Nat) : List Nat := match ops[i]? with
  | some o => (o.after.toList.filter fun e => Region.binds .any e).map (·.on)
  | none => []
def isT (d : Nat) : Operand → Bool | .tmp t => t == d | _ => false
def rdT (so : SOp) (d : Nat) : Bool := so.op.operands.toList.any (isT d) || (match so.guard with | some (tg, _) => tg == d | none => false)

structure RPair (clo : Nat → Nat → Bool) (p q : Nat × SOp) : Prop where
  rd : ∀ d, p.2.dst = some d → rdT q.2 d = true → clo q.1 p.1 = true
  wr : ∀ d, q.2.dst = some d → rdT p.2 d = true ∨ p.2.dst = some d → q.2.sync = true ∧ clo q.1 p.1 = true
  ld : q.2.sync = true → p.2.sync = false → ∀ t x, p.2.op = .load t x → clo q.1 p.1 = true ∨ (q.2.pend = true ∧ ((∃ t x y, q.2.op = .store t x y) → x ∈ q.2.conf))
structure DrawOk (ops : Array Oper) (clo : Nat → Nat → Bool) (sl : Pl) : Prop where
  cp : ∀ C : Nat → Prop, (∀ i, C i → ∀ d ∈ deps ops i, C d) → ∀ i, (∀ d ∈ deps ops i, C d) → ∀ j, clo i j = true → C j
  pw : sl.Pairwise (RPair clo)
  of : ∀ p ∈ sl, ∃ o, ops[p.1]? = some o ∧ SOf ops o p.2
  ez : ∀ p ∈ sl, p.2.sync = false → ∃ d, p.2.dst = some d ∧ rdT p.2 d = false
  dep : ∀ pre p post, sl = pre ++ p :: post → ∀ d ∈ deps ops p.1, d ∈ pre.map (·.1)
  uniq : ∀ pre p post, sl = pre ++ p :: post → p.2.sync = true → ∀ q ∈ post, ∃ d ∈ deps ops q.1, d ∉ pre.map (·.1)
  all : ∀ i, i < ops.size → i ∈ sl.map (·.1)
  nd : (sl.map (·.1)).Nodup

theorem pw_or {α : Type} {R : α → α → Prop} {l : List α} (h : l.Pairwise R) : ∀ a ∈ l, ∀ b ∈ l, a ≠ b → R a b ∨ R b a := by
  induction h with
  | nil => intro a ha; cases ha
  | cons h1 h2 ih =>
    intro a ha b hb hne
    rcases List.mem_cons.1 ha with e | ha
    · rcases List.mem_cons.1 hb with e2 | hb
      · exact absurd (e.trans e2.symm) hne
      · rw [e]; exact .inl (h1 b hb)
    · rcases List.mem_cons.1 hb with hb | hb
      · rw [hb]; exact .inr (h1 a (by assumption))
      · exact ih a ha b hb hne
theorem countP_less {α : Type} (q q' : α → Bool) (l : List α) (himp : ∀ x, q' x = true → q x = true) (a : α) (ha : a ∈ l) (h1 : q a = true) (h2 : q' a = false) : l.countP q' + 1 ≤ l.countP q := by
  induction l with
  | nil => cases ha
  | cons x l ih =>
    have hle : l.countP q' ≤ l.countP q := List.countP_mono_left fun x _ h => himp x h
    rcases List.mem_cons.1 ha with rfl | ha
    · rw [List.countP_cons_of_pos h1, List.countP_cons_of_neg (by rw [h2]; simp)]; omega
    · have := ih ha
      rw [List.countP_cons, List.countP_cons]
      cases h3 : q' x with
      | true => rw [himp x h3]; simp; omega
      | false => cases q x <;> simp <;> omega

section
variable {P : Program} {T : Tab} {n : Nat} {h0 : Heap} {w0 : Base} {ops : Array Oper} {clo : Nat → Nat → Bool} {sl : Pl}

def WA (st : St) (so : SOp) (b : Bool) : Prop := match so.guard with | none => b = true | some (tg, want) => ∃ x, st.t tg = .v x ∧ boolIs x want = b
variable (P T n) in
def PendOk (st : St) (h : Heap) (so : SOp) : Prop := ∃ d, so.dst = some d ∧ d < n ∧
  ((WA st so true ∧ ∃ bx, Ez P T h st.ev st.b d so.ty so.op (st.t d) bx ∧ ∀ cs, bx = some cs → st.b d = some cs) ∨ (WA st so false ∧ st.t d = .v undef))
def Dp (L : Nat → Prop) (pre : Pl) (t : Nat) : Prop := ∃ p ∈ pre, ¬ L p.1 ∧ p.2.dst = some t
def Bp (L : Nat → Prop) (pre : Pl) (st : St) (k : Nat) : Prop := ∃ p ∈ pre, ¬ L p.1 ∧ p.2.dst = some k ∧ isAlloc p.2.op = true ∧ WA st p.2 true
variable (P T n) in
structure PInv (L : Nat → Prop) (pre : Pl) (st : St) (h : Heap) : Prop where
  easy : ∀ p ∈ pre, ¬ L p.1 → p.2.sync = false
  ok : ∀ p ∈ pre, ¬ L p.1 → PendOk P T n st h p.2

theorem rdT_op {so : SOp} {d : Nat} (h : rdT so d = false) : ∀ x ∈ so.op.operands.toList, x ≠ .tmp d := by
  intro x hx e
  subst e
  unfold rdT at h
  rw [Bool.or_eq_false_iff] at h
  have := List.any_eq_false.1 h.1 _ hx
  simp [isT] at this
theorem rdT_guard {so : SOp} {d : Nat} (h : rdT so d = false) {tg : Nat} {want : Bool} (hg : so.guard = some (tg, want)) : tg ≠ d := by
  intro e
  unfold rdT at h
  rw [hg, Bool.or_eq_false_iff] at h
  simp [e] at h
theorem rdT_of_op {so : SOp} {t : Nat} (h : .tmp t ∈ so.op.operands.toList) : rdT so t = true := by
  unfold rdT
  rw [Bool.or_eq_true]
  exact .inl (List.any_eq_true.2 ⟨_, h, by simp [isT]⟩)
theorem rdT_of_guard {so : SOp} {tg : Nat} {want : Bool} (hg : so.guard = some (tg, want)) : rdT so tg = true := by
  unfold rdT
  rw [Bool.or_eq_true, hg]
  exact .inr (by simp)

theorem WA_congr {st st' : St} {so : SOp} {b : Bool} (h : ∀ tg want, so.guard = some (tg, want) → st'.t tg = st.t tg) : WA st' so b ↔ WA st so b := by
  unfold WA
  split
  · exact Iff.rfl
  · rename_i tg want hg; rw [h tg want hg]
theorem WA_excl {st : St} {so : SOp} (h4 : WA st so true) (h5 : WA st so false) : False := by
  unfold WA at h4 h5
  cases hg : so.guard with
  | none => rw [hg] at h5; cases h5
  | some p =>
    rw [hg] at h4 h5
    obtain ⟨x, e1, e2⟩ := h4
    obtain ⟨y, e3, e4⟩ := h5
    rw [e1] at e3
    cases e3
    rw [e2] at e4
    cases e4
theorem ev_congr {st st' : St} {x : Operand} (h : ∀ t, x = .tmp t → st'.t t = st.t t) : st'.ev x = st.ev x := by
  cases x with
  | tmp t => exact h t rfl
  | _ => rfl

/-- What is pending stays so. -/
theorem PendOk.keep {st st' : St} {h h' : Heap} {so : SOp} (H : PendOk P T n st h so) (ht : ∀ d, rdT so d = true ∨ so.dst = some d → st'.t d = st.t d)
    (hb : WA st so true → ∀ k, isAlloc so.op = true → so.dst = some k → st'.b k = st.b k) (hl : ∀ t x, so.op = .load t x → Le h h' ∧ ∀ k o, st.ev x = .p k o → st.b k ≠ none → st'.b k = st.b k) (hle : Le h h' ∨ ∀ t x, so.op ≠ .load t x) : PendOk P T n st' h' so := by
  obtain ⟨d, hd, hn, H⟩ := H
  have hg : ∀ b, WA st' so b ↔ WA st so b := fun b => WA_congr fun tg want hg => ht tg (.inl (rdT_of_guard hg))
  refine ⟨d, hd, hn, ?_⟩
  rcases H with ⟨h1, bx, h2, h3⟩ | ⟨h1, h2⟩
  · refine .inl ⟨(hg true).2 h1, bx, ?_, fun cs hcs => ?_⟩
    · rw [ht d (.inr hd)]
      by_cases hload : ∃ t x, so.op = .load t x
      · obtain ⟨t, x, hx⟩ := hload
        obtain ⟨hle', hb'⟩ := hl t x hx
        exact ez_congr h2 hle' (fun y hy => ev_congr fun t' ht' => ht t' (.inl (rdT_of_op (ht' ▸ hy)))) (fun t' x' hx' k o hk hne => by
          rw [hx] at hx'; cases hx'; exact hb' k o hk hne)
      · have h2' : Ez P T h st.ev st'.b d so.ty so.op (st.t d) bx := ez_congr h2 (Le.refl h) (fun _ _ => rfl) (fun t' x' hx' => absurd ⟨t', x', hx'⟩ hload)
        have hop : ∀ x ∈ so.op.operands.toList, st'.ev x = st.ev x := fun y hy => ev_congr fun t' ht' => ht t' (.inl (rdT_of_op (ht' ▸ hy)))
        rcases hle with hle | hnl
        · exact ez_congr h2' hle hop (fun t' x' hx' => absurd ⟨t', x', hx'⟩ hload)
        · -- no load: the heaplet plays no part
          have h4 : Ez P T h st'.ev st'.b d so.ty so.op (st.t d) bx := ez_congr h2' (Le.refl h) hop (fun t' x' hx' => absurd ⟨t', x', hx'⟩ hload)
          unfold Ez ez at h4 ⊢
          split at h4
          all_goals first | exact h4 | (rename_i hx; exact absurd hx (hnl _ _)) | skip
    · have halloc : isAlloc so.op = true := (ez_alloc h2).1 (by rw [hcs]; simp)
      rw [hb h1 d halloc hd]
      exact h3 cs hcs
  · exact .inr ⟨(hg false).2 h1, by rw [ht d (.inr hd)]; exact h2⟩

/-- The abstract side takes an easy operation. -/
theorem take_easy (hT : TabOk P T) {L : Nat → Prop} {pre : Pl} {p : Nat × SOp} {K : St → Heap → Prop} {β : Nat → Nat} {st : St} {h : Heap} {a : Act} {w : World}
    (hpw : ∀ q ∈ pre, RPair clo q p) (hez : p.2.sync = false → ∃ d, p.2.dst = some d ∧ rdT p.2 d = false) (hs : p.2.sync = false) (hL : ¬ L p.1)
    (I : PInv P T n L pre st h) (R : Rel h0 w0 n (Dp L pre) (Bp L pre st) β st h a w) (H : vcOp P T n h0 p.2 K st h) :
    ∃ st', K st' h ∧ PInv P T n L (pre ++ [p]) st' h ∧ Rel h0 w0 n (Dp L (pre ++ [p])) (Bp L (pre ++ [p]) st') β st' h a w := by
  obtain ⟨d, hd, hown⟩ := hez hs
  -- no pending operation reads or writes d
  have free : ∀ q ∈ pre, rdT q.2 d = false ∧ q.2.dst ≠ some d := fun q hq => by
    have := (hpw q hq).wr d hd
    refine ⟨?_, fun e => ?_⟩
    · cases hr : rdT q.2 d with
      | false => rfl
      | true => have := (this (.inl hr)).1; rw [hs] at this; cases this
    · have := (this (.inr e)).1; rw [hs] at this; cases this
  -- what a step 'st.easy d av bx' does to what is pending
  have step : ∀ av bx, d < n → freshOk st d bx → (WA (st.easy d av bx) p.2 true ∧ Ez P T h (st.easy d av bx).ev (st.easy d av bx).b d p.2.ty p.2.op av bx ∨ WA (st.easy d av bx) p.2 false ∧ av = .v undef ∧ bx = none) →
      PInv P T n L (pre ++ [p]) (st.easy d av bx) h ∧ Rel h0 w0 n (Dp L (pre ++ [p])) (Bp L (pre ++ [p]) (st.easy d av bx)) β (st.easy d av bx) h a w := fun av bx hdn hf hnew => by
    have htt : ∀ t, t ≠ d → (st.easy d av bx).t t = st.t t := fun t ht => by
      cases bx <;> simp [St.easy, St.put_t, St.setB_t, beq_eq_false_iff_ne.2 ht]
    have hbb : ∀ k, k ≠ d → (st.easy d av bx).b k = st.b k := fun k hk => by
      cases bx <;> simp [St.easy, St.put_b, St.setB_b, beq_eq_false_iff_ne.2 hk]
    have hbb2 : ∀ k, st.b k ≠ none → (st.easy d av bx).b k = st.b k := fun k hk => by
      by_cases e : k = d
      · subst e
        cases bx with
        | none => rfl
        | some cs => exact absurd hf hk
      · exact hbb k e
    have hWA : ∀ q ∈ pre, ∀ b, WA (st.easy d av bx) q.2 b ↔ WA st q.2 b := fun q hq b => WA_congr fun tg want hg => htt tg (rdT_guard (free q hq).1 hg)
    refine ⟨⟨fun q hq hLq => ?_, fun q hq hLq => ?_⟩, ?_⟩
    · rcases List.mem_append.1 hq with hq | hq
      · exact I.easy q hq hLq
      · rw [List.mem_singleton.1 hq]; exact hs
    · rcases List.mem_append.1 hq with hq | hq
      · refine (I.ok q hq hLq).keep (fun t ht => htt t fun e => ?_) (fun _ k _ hk => hbb k fun e => (free q hq).2 (e ▸ hk)) (fun _ _ _ => ⟨Le.refl h, fun k _ _ hk => hbb2 k hk⟩) (.inl (Le.refl h))
        subst e
        rcases ht with ht | ht
        · rw [(free q hq).1] at ht; cases ht
        · exact (free q hq).2 ht
      · rw [List.mem_singleton.1 hq]
        refine ⟨d, hd, hdn, ?_⟩
        rcases hnew with ⟨h1, h2⟩ | ⟨h1, rfl, rfl⟩
        · exact .inl ⟨h1, bx, by rw [easy_t]; exact h2, fun cs hcs => by rw [hcs]; exact easy_b_some _ _ _ _⟩
        · exact .inr ⟨h1, by rw [easy_t]⟩
    · refine (R.abs d av bx (freshOk_imp hf)).cong _ _ (fun t => ?_) (fun k => ?_)
      · unfold Dp
        constructor
        · rintro (e | ⟨q, hq, h1, h2⟩)
          · exact ⟨p, by simp, hL, by rw [e]; exact hd⟩
          · exact ⟨q, by simp [hq], h1, h2⟩
        · rintro ⟨q, hq, h1, h2⟩
          rcases List.mem_append.1 hq with hq | hq
          · exact .inr ⟨q, hq, h1, h2⟩
          · rw [List.mem_singleton.1 hq, hd] at h2
            cases h2
            exact .inl rfl
      · unfold Bp
        constructor
        · rintro (⟨e, hne⟩ | ⟨q, hq, h1, h2, h3, h4⟩)
          · rcases hnew with ⟨h5, h6⟩ | ⟨_, _, h7⟩
            · exact ⟨p, by simp, hL, by rw [e]; exact hd, (ez_alloc h6).1 hne, h5⟩
            · exact absurd h7 hne
          · exact ⟨q, by simp [hq], h1, h2, h3, (hWA q hq true).2 h4⟩
        · rintro ⟨q, hq, h1, h2, h3, h4⟩
          rcases List.mem_append.1 hq with hq | hq
          · exact .inr ⟨q, hq, h1, h2, h3, (hWA q hq true).1 h4⟩
          · rw [List.mem_singleton.1 hq] at h2 h3 h4
            rw [hd] at h2
            cases h2
            refine .inl ⟨rfl, ?_⟩
            rcases hnew with ⟨h5, h6⟩ | ⟨h5, _, _⟩
            · exact (ez_alloc h6).2 h3
            · exact (WA_excl h4 h5).elim
  have ownt : ∀ av bx tg want, p.2.guard = some (tg, want) → (st.easy d av bx).t tg = st.t tg := fun av bx tg want hg => by
    have ht := rdT_guard hown hg
    cases bx <;> simp [St.easy, St.put_t, St.setB_t, beq_eq_false_iff_ne.2 ht]
  have body : vcBody P T n h0 p.2 K st h → WA st p.2 true → ∃ st', K st' h ∧ PInv P T n L (pre ++ [p]) st' h ∧ Rel h0 w0 n (Dp L (pre ++ [p])) (Bp L (pre ++ [p]) st') β st' h a w := fun hb hwa => by
    unfold vcBody at hb
    rw [hs, hd] at hb
    obtain ⟨hdn, hz⟩ := hb
    obtain ⟨av, bx, h1, h2, h3⟩ := ez_elim hz
    refine ⟨_, h3, step av bx hdn h2 (.inl ⟨(WA_congr fun tg want hg => ownt av bx tg want hg).2 hwa, ?_⟩)⟩
    refine ez_congr h1 (Le.refl h) (fun x hx => ev_congr fun t ht => ?_) (fun t x hx k o hk hne => ?_)
    · have : t ≠ d := fun e => rdT_op hown x hx (by rw [ht, e])
      cases bx <;> simp [St.easy, St.put_t, St.setB_t, beq_eq_false_iff_ne.2 this]
    · have : k ≠ d ∨ bx = none := by
        by_cases e : k = d
        · right
          cases bx with
          | none => rfl
          | some cs => subst e; exact absurd h2 hne
        · exact .inl e
      rcases this with e | e
      · cases bx <;> simp [St.easy, St.put_b, St.setB_b, beq_eq_false_iff_ne.2 e]
      · subst e; rfl
  unfold vcOp at H
  split at H
  · rename_i hg
    exact body H (by unfold WA; rw [hg])
  · rename_i tg want hg
    split at H
    · rename_i x hx
      split at H
      · rename_i hb
        exact body H (by unfold WA; rw [hg]; exact ⟨x, hx, hb⟩)
      · rename_i hb
        obtain ⟨hdn, hk⟩ := H
        rw [hd] at hk
        refine ⟨_, hk, ?_⟩
        have := step (.v undef) none (hdn d hd) trivial (.inr ⟨(WA_congr fun tg want hg => ownt _ none tg want hg).2 (by unfold WA; rw [hg]; exact ⟨x, hx, hb⟩), rfl, rfl⟩)
        exact this
    · exact H.elim

/-- All easy operations that stand first are taken. -/
theorem saturate (hT : TabOk P T) {L : Nat → Prop} {K : St → Heap → Prop} {β : Nat → Nat} {h : Heap} {a : Act} {w : World} (hD : DrawOk ops clo sl) :
    ∀ (post pre : Pl) (st : St), sl = pre ++ post → (∀ p ∈ post, ¬ L p.1) → PInv P T n L pre st h → Rel h0 w0 n (Dp L pre) (Bp L pre st) β st h a w → vcOps P T n h0 (post.map (·.2)) K st h →
      ∃ pre' post' st', sl = pre' ++ post' ∧ (∀ p ∈ post', ¬ L p.1) ∧ (∀ i, i ∈ pre.map (·.1) → i ∈ pre'.map (·.1)) ∧ (∀ p, post'.head? = some p → p.2.sync = true) ∧ PInv P T n L pre' st' h ∧ Rel h0 w0 n (Dp L pre') (Bp L pre' st') β st' h a w ∧ vcOps P T n h0 (post'.map (·.2)) K st' h := by
  intro post
  induction post with
  | nil => intro pre st hsl hL I R H; exact ⟨pre, [], st, hsl, hL, fun _ h => h, fun p hp => (by simp at hp), I, R, H⟩
  | cons p post ih =>
    intro pre st hsl hL I R H
    cases hs : p.2.sync with
    | true => exact ⟨pre, p :: post, st, hsl, hL, fun _ h => h, fun q hq => by simp at hq; subst hq; exact hs, I, R, H⟩
    | false =>
      have hmem : p ∈ sl := by rw [hsl]; simp
      have hpw : ∀ q ∈ pre, RPair clo q p := fun q hq => by
        have := hD.pw
        rw [hsl, List.pairwise_append] at this
        exact this.2.2 q hq p (by simp)
      obtain ⟨st', hk, I', R'⟩ := take_easy (h0 := h0) (w0 := w0) hT hpw (hD.ez p hmem) hs (hL p (by simp)) I R H
      obtain ⟨pre', post', st2, e1, e2, e3, e4, e5, e6, e7⟩ := ih (pre ++ [p]) st' (by rw [hsl]; simp) (fun q hq => hL q (by simp [hq])) I' R' hk
      exact ⟨pre', post', st2, e1, e2, fun i hi => e3 i (by simp at hi ⊢; exact .inl hi), e4, e5, e6, e7⟩
end
end Go.Proofs.Vc

/-! Symbolic execution over heaplets, part 7: a region that draws its order: the theorem. -/
set_option linter.unusedVariables false
set_option linter.unusedSimpArgs false
namespace Go.Proofs.Vc
open Go Go.RowKit

section
variable {P : Program} {T : Tab} {n : Nat} {h0 : Heap} {w0 : Base} {ops : Array Oper} {clo : Nat → Nat → Bool} {sl : Pl}

theorem first_not {α : Type} (q : α → Prop) (l : List α) (h : ¬ ∀ x ∈ l, q x) : ∃ s1 x s2, l = s1 ++ x :: s2 ∧ ¬ q x ∧ ∀ y ∈ s1, q y := by
  induction l with
  | nil => exact absurd (fun x hx => by cases hx) h
  | cons a l ih =>
    by_cases ha : q a
    · obtain ⟨s1, x, s2, e, h1, h2⟩ := ih (fun hh => h fun x hx => by
        rcases List.mem_cons.1 hx with e | hx
        · rw [e]; exact ha
        · exact hh x hx)
      exact ⟨a :: s1, x, s2, by rw [e]; rfl, h1, fun y hy => by
        rcases List.mem_cons.1 hy with e | hy
        · rw [e]; exact ha
        · exact h2 y hy⟩
    · exact ⟨[], a, l, rfl, ha, fun y hy => by cases hy⟩

def Lst (listed : Array Bool) (i : Nat) : Prop := listed.getD i false = true
theorem Lst_set {listed : Array Bool} {i : Nat} (hi : i < listed.size) (x : Nat) : Lst (listed.setIfInBounds i true) x ↔ x = i ∨ Lst listed x := by
  unfold Lst
  simp only [Array.getD_eq_getD_getElem?, Array.getElem?_setIfInBounds]
  by_cases h : x = i
  · subst h; simp [hi]
  · rw [if_neg (Ne.symm h)]; simp [h]

theorem nodup_eq {l : Pl} (h : (l.map (·.1)).Nodup) : ∀ p ∈ l, ∀ q ∈ l, p.1 = q.1 → p = q := by
  induction l with
  | nil => intro p hp; cases hp
  | cons a l ih =>
    rw [List.map_cons, List.nodup_cons] at h
    intro p hp q hq e
    rcases List.mem_cons.1 hp with e1 | hp
    · rcases List.mem_cons.1 hq with e2 | hq
      · rw [e1, e2]
      · exact absurd (by rw [← e1, e]; exact List.mem_map_of_mem hq) h.1
    · rcases List.mem_cons.1 hq with e2 | hq
      · exact absurd (by rw [← e2, ← e]; exact List.mem_map_of_mem hp) h.1
      · exact ih h.2 p hp q hq e

theorem mem_deps {i : Nat} {o : Oper} (ho : ops[i]? = some o) {d : Nat} : d ∈ deps ops i ↔ ∃ e ∈ o.after, Region.binds .any e = true ∧ e.on = d := by
  unfold deps
  rw [ho]
  simp only [List.mem_map, List.mem_filter, Array.mem_toList_iff]
  constructor
  · rintro ⟨e, ⟨h1, h2⟩, h3⟩; exact ⟨e, h1, h2, h3⟩
  · rintro ⟨e, h1, h2, h3⟩; exact ⟨e, ⟨h1, h2⟩, h3⟩

theorem draw_sound (hT : TabOk P T) (hD : DrawOk ops clo sl) {Q : Exit → Act → World → Prop} {K : St → Heap → Prop} (hQ : ∀ st h β a w, Rel h0 w0 n No No β st h a w → K st h → Q .normal a w) (m : Nat) :
    ∀ (listed : Array Bool) (pre post : Pl) (β : Nat → Nat) (st : St) (h : Heap) (a : Act) (w : World), listed.size = ops.size → sl = pre ++ post → (∀ p, post.head? = some p → p.2.sync = true) → (∀ p ∈ post, ¬ Lst listed p.1) →
      (∀ i, Lst listed i → i ∈ pre.map (·.1)) → (∀ i, Lst listed i → ∀ d ∈ deps ops i, Lst listed d) → PInv P T n (Lst listed) pre st h → Rel h0 w0 n (Dp (Lst listed) pre) (Bp (Lst listed) pre st) β st h a w →
      vcOps P T n h0 (post.map (·.2)) K st h → sl.countP (fun p => !listed.getD p.1 false) ≤ m → wpAny P .any ops Q m listed a w := by
  have allQ : ∀ (listed : Array Bool) (pre post : Pl) (β : Nat → Nat) (st : St) (h : Heap) (a : Act) (w : World), sl = pre ++ post → (∀ p ∈ post, ¬ Lst listed p.1) →
      Rel h0 w0 n (Dp (Lst listed) pre) (Bp (Lst listed) pre st) β st h a w → vcOps P T n h0 (post.map (·.2)) K st h → (∀ p ∈ sl, Lst listed p.1) → Q .normal a w := by
    intro listed pre post β st h a w hsl hL R H hall
    have hpost : post = [] := by
      cases post with
      | nil => rfl
      | cons p post => exact absurd (hall p (by rw [hsl]; simp)) (hL p (by simp))
    subst hpost
    refine hQ st h β a w (R.cong _ _ (fun t => ?_) (fun k => ?_)) H
    · exact ⟨fun ⟨p, hp, h1, _⟩ => absurd (hall p (by rw [hsl]; simp [hp])) h1, fun h => h.elim⟩
    · exact ⟨fun ⟨p, hp, h1, _⟩ => absurd (hall p (by rw [hsl]; simp [hp])) h1, fun h => h.elim⟩
  have readyAll : ∀ listed : Array Bool, listed.size = ops.size → Region.ready .any ops listed = [] → ∀ p ∈ sl, Lst listed p.1 := by
    intro listed hsz hr
    by_cases hh : ∀ p ∈ sl, Lst listed p.1
    · exact hh
    · exfalso
      obtain ⟨s1, x, s2, e, h1, h2⟩ := first_not (fun p : Nat × SOp => Lst listed p.1) sl hh
      obtain ⟨o, ho, _⟩ := hD.of x (by rw [e]; simp)
      have hmem : x.1 ∈ Region.ready .any ops listed := by
        rw [mem_ready]
        have hlt : x.1 < listed.size := hsz ▸ (Array.getElem?_eq_some_iff.1 ho).1
        refine ⟨?_, o, ho, fun ed hed hb => ?_⟩
        · unfold Lst at h1
          simp only [Array.getD_eq_getD_getElem?, Array.getElem?_eq_getElem hlt, Option.getD_some] at h1 ⊢
          simpa using h1
        · have := hD.dep s1 x s2 e ed.on ((mem_deps ho).2 ⟨ed, hed, hb, rfl⟩)
          obtain ⟨q, hq, hqe⟩ := List.mem_map.1 this
          rw [← hqe]
          exact h2 q hq
      rw [hr] at hmem
      cases hmem
  induction m with
  | zero =>
    intro listed pre post β st h a w hsz hsl hhead hL hLp hcl I R H hm
    have hall : ∀ p ∈ sl, Lst listed p.1 := fun p hp => by
      have := List.countP_eq_zero.1 (Nat.le_zero.1 hm) p hp
      simpa [Lst] using this
    refine ⟨?_, allQ listed pre post β st h a w hsl hL R H hall⟩
    refine List.eq_nil_iff_forall_not_mem.2 fun i hi => ?_
    obtain ⟨h1, o, ho, _⟩ := mem_ready.1 hi
    have hlt := (Array.getElem?_eq_some_iff.1 ho).1
    obtain ⟨p, hp, he⟩ := List.mem_map.1 (hD.all i hlt)
    have := hall p hp
    rw [he] at this
    unfold Lst at this
    simp only [Array.getD_eq_getD_getElem?, Array.getElem?_eq_getElem (hsz ▸ hlt : i < listed.size), Option.getD_some] at h1 this
    rw [h1] at this
    cases this
  | succ m ih =>
    intro listed pre post β st h a w hsz hsl hhead hL hLp hcl I R H hm
    refine ⟨fun hr => allQ listed pre post β st h a w hsl hL R H (readyAll listed hsz hr), fun i hi => ?_⟩
    obtain ⟨h1, o, ho, hdep⟩ := mem_ready.1 hi
    have hlt := (Array.getElem?_eq_some_iff.1 ho).1
    have hltl : i < listed.size := hsz ▸ hlt
    have hnL : ¬ Lst listed i := by
      unfold Lst
      simp only [Array.getD_eq_getD_getElem?, Array.getElem?_eq_getElem hltl, Option.getD_some] at h1 ⊢
      rw [h1]; simp
    have hdepL : ∀ d ∈ deps ops i, Lst listed d := fun d hd => by
      obtain ⟨e, he, hb, rfl⟩ := (mem_deps ho).1 hd
      exact hdep e he hb
    obtain ⟨p, hp, hpi⟩ := List.mem_map.1 (hD.all i hlt)
    subst hpi
    obtain ⟨o', ho', S⟩ := hD.of p hp
    rw [ho] at ho'
    cases ho'
    have hclo : ∀ j, clo p.1 j = true → Lst listed j := fun j hj => hD.cp (Lst listed) hcl p.1 hdepL j hj
    have hLs : ∀ x, Lst (listed.setIfInBounds p.1 true) x ↔ x = p.1 ∨ Lst listed x := Lst_set hltl
    have hcl' : ∀ i, Lst (listed.setIfInBounds p.1 true) i → ∀ d ∈ deps ops i, Lst (listed.setIfInBounds p.1 true) d := fun i hi d hd => by
      rw [hLs] at hi ⊢
      rcases hi with rfl | hi
      · exact .inr (hdepL d hd)
      · exact .inr (hcl i hi d hd)
    have hm' : sl.countP (fun q => !(listed.setIfInBounds p.1 true).getD q.1 false) ≤ m := by
      have := countP_less (fun q : Nat × SOp => !listed.getD q.1 false) (fun q => !(listed.setIfInBounds p.1 true).getD q.1 false) sl (fun x hx => by
        have h3 := hLs x.1
        unfold Lst at h3
        cases h4 : listed.getD x.1 false with
        | false => rfl
        | true => rw [h4] at h3; simp [h3.2 (.inr rfl)] at hx) p hp (by simpa [Lst] using hnL) (by have := (hLs p.1).2 (.inl rfl); unfold Lst at this; rw [this]; rfl)
      omega
    have hpend : ∀ q ∈ pre, ¬ Lst listed q.1 → q.2.sync = false := I.easy
    rw [hsl] at hp
    unfold wpOp
    rw [ho]
    dsimp only
    rcases List.mem_append.1 hp with hpp | hpp
    · -- the machine catches up
      have hps := I.easy p hpp hnL
      have hpr : ∀ q ∈ pre, q ≠ p → RPair clo q p ∨ RPair clo p q := fun q hq hne => by
        have hw := hD.pw
        rw [hsl, List.pairwise_append] at hw
        exact pw_or hw.1 q hq p hpp hne
      have hnd : ∀ q ∈ pre, q.1 = p.1 → q = p := fun q hq e => nodup_eq hD.nd q (by rw [hsl]; simp [hq]) p (by rw [hsl]; simp [hpp]) e
      obtain ⟨d, hd, hown⟩ := hD.ez p (by rw [hsl]; exact hp) hps
      have noD : ∀ t, rdT p.2 t = true → ¬ Dp (Lst listed) pre t := by
        rintro t ht ⟨q, hq, hqL, hqd⟩
        by_cases e : q = p
        · subst e
          rw [hd] at hqd
          cases hqd
          rw [hown] at ht
          cases ht
        · rcases hpr q hq e with r | r
          · exact hqL (hclo _ (r.rd t hqd ht))
          · have := (r.wr t hqd (.inl ht)).1
            rw [hpend q hq hqL] at this
            cases this
      have other : ∀ q ∈ pre, ¬ Lst listed q.1 → q.2.dst = some d → q = p := fun q hq hqL hqd => by
        by_cases e : q = p
        · exact e
        · rcases hpr q hq e with r | r
          · have := (r.wr d hd (.inr hqd)).1
            rw [hps] at this
            cases this
          · have := (r.wr d hqd (.inr hd)).1
            rw [hpend q hq hqL] at this
            cases this
      obtain ⟨d', hd', hdn, hok⟩ := I.ok p hpp hnL
      rw [hd] at hd'
      cases hd'
      have hI' : PInv P T n (Lst (listed.setIfInBounds p.1 true)) pre st h := ⟨fun q hq hqL => I.easy q hq fun hh => hqL ((hLs _).2 (.inr hh)), fun q hq hqL => I.ok q hq fun hh => hqL ((hLs _).2 (.inr hh))⟩
      have toL' : ∀ q ∈ pre, q ≠ p → ¬ Lst listed q.1 → ¬ Lst (listed.setIfInBounds p.1 true) q.1 := fun q hq hne hqL hh => by
        rcases (hLs _).1 hh with e | e
        · exact hne (hnd q hq e)
        · exact hqL e
      have ofL' : ∀ q : Nat × SOp, ¬ Lst (listed.setIfInBounds p.1 true) q.1 → ¬ Lst listed q.1 ∧ q ≠ p := fun q hqL => ⟨fun hh => hqL ((hLs _).2 (.inr hh)), fun e => hqL ((hLs _).2 (.inl (by rw [e])))⟩
      have go : ∀ β' a' w', Rel h0 w0 n (Dp (Lst (listed.setIfInBounds p.1 true)) pre) (Bp (Lst (listed.setIfInBounds p.1 true)) pre st) β' st h a' w' → wpAny P .any ops Q m (listed.setIfInBounds p.1 true) a' w' := fun β' a' w' R' =>
        ih _ pre post β' st h a' w' (by simpa using hsz) hsl hhead (fun q hq hh => by
          rcases (hLs _).1 hh with e | e
          · have hnd2 := hD.nd
            rw [hsl, List.map_append, List.nodup_append] at hnd2
            exact hnd2.2.2 p.1 (List.mem_map_of_mem hpp) q.1 (List.mem_map_of_mem hq) e.symm
          · exact hL q hq e) (fun i hi => by
          rcases (hLs _).1 hi with e | e
          · rw [e]; exact List.mem_map_of_mem hpp
          · exact hLp i e) hcl' hI' R' H hm'
      have hw := wanted_of R S
      have hDD : ∀ t, t ≠ d → Dp (Lst listed) pre t → Dp (Lst (listed.setIfInBounds p.1 true)) pre t := fun t ht ⟨q, hq, h2, h3⟩ =>
        ⟨q, hq, toL' q hq (fun e => by rw [e, hd] at h3; exact ht (Option.some.inj h3).symm) h2, h3⟩
      rcases hok with ⟨hwa, bx, hez, hbx⟩ | ⟨hwa, hun⟩
      · have hwant : Region.wanted o (yielded ops a.tmps) = true := by
          cases hg : p.2.guard with
          | none => rw [hg] at hw; exact hw
          | some g =>
            obtain ⟨tg, want⟩ := g
            rw [hg] at hw
            unfold WA at hwa
            rw [hg] at hwa
            obtain ⟨x, e1, e2⟩ := hwa
            exact (hw (noD tg (rdT_of_guard hg)) x e1).trans e2
        rw [if_pos hwant]
        refine .inl (ez_wp hT R S (S.dst ▸ hd) hdn hez (fun cs hcs => ⟨hbx cs hcs, p, hpp, hnL, hd, (ez_alloc hez).1 (by rw [hcs]; simp), hwa⟩) (fun x hx t ht => noD t (rdT_of_op (ht ▸ hx))) _ _ hDD ?_ ?_ ?_ go)
        · intro k hk
          constructor
          · rintro ⟨q, hq, h2, h3, h4⟩
            exact ⟨q, hq, toL' q hq (fun e => by rw [e, hd] at h3; exact hk (Option.some.inj h3).symm) h2, h3, h4⟩
          · rintro ⟨q, hq, h2, h3, h4⟩
            exact ⟨q, hq, (ofL' q h2).1, h3, h4⟩
        · rintro _ ⟨q, hq, h2, h3, h4⟩
          exact (ofL' q h2).2 (other q hq (ofL' q h2).1 h3)
        · intro hb
          constructor
          · rintro ⟨q, hq, h2, h3, h4, _⟩
            rw [other q hq h2 h3] at h4
            exact absurd hb ((ez_alloc hez).2 h4)
          · rintro ⟨q, hq, h2, h3, h4⟩
            exact absurd (other q hq (ofL' q h2).1 h3) (ofL' q h2).2
      · have hwant : Region.wanted o (yielded ops a.tmps) = false := by
          cases hg : p.2.guard with
          | none => unfold WA at hwa; rw [hg] at hwa; cases hwa
          | some g =>
            obtain ⟨tg, want⟩ := g
            rw [hg] at hw
            unfold WA at hwa
            rw [hg] at hwa
            obtain ⟨x, e1, e2⟩ := hwa
            exact (hw (noD tg (rdT_of_guard hg)) x e1).trans e2
        rw [if_neg (by rw [hwant]; simp), ← S.dst, hd]
        have R' := R.conc_val d undef hdn (by rw [hun]; rfl) (fun k o he => by rw [hun] at he; cases he) _ hDD
        refine go _ _ _ (R'.cong _ _ (fun _ => Iff.rfl) (fun k => ?_))
        constructor
        · rintro ⟨q, hq, h2, h3, h4, h5⟩
          exact ⟨q, hq, toL' q hq (fun e => by rw [e] at h5; exact WA_excl h5 hwa) h2, h3, h4, h5⟩
        · rintro ⟨q, hq, h2, h3, h4⟩
          exact ⟨q, hq, (ofL' q h2).1, h3, h4⟩
    · -- what is carried out at once
      cases post with
      | nil => cases hpp
      | cons p0 rest =>
        have hp0 : p = p0 := by
          rcases List.mem_cons.1 hpp with e | e
          · exact e
          · exfalso
            obtain ⟨d, hd, hn⟩ := hD.uniq pre p0 rest hsl (hhead p0 rfl) p e
            exact hn (hLp d (hdepL d hd))
        subst hp0
        have hps := hhead p rfl
        have hpr : ∀ q ∈ pre, RPair clo q p := fun q hq => by
          have hw := hD.pw
          rw [hsl, List.pairwise_append] at hw
          exact hw.2.2 q hq p (by simp)
        have noD : ∀ t, rdT p.2 t = true → ¬ Dp (Lst listed) pre t := by
          rintro t ht ⟨q, hq, hqL, hqd⟩
          exact hqL (hclo _ ((hpr q hq).rd t hqd ht))
        have hnp : ∀ q ∈ pre, q.1 ≠ p.1 := fun q hq e => by
          have hnd2 := hD.nd
          rw [hsl, List.map_append, List.nodup_append] at hnd2
          exact hnd2.2.2 q.1 (List.mem_map_of_mem hq) p.1 (by simp) e
        have hLq : ∀ q ∈ pre, (Lst (listed.setIfInBounds p.1 true) q.1 ↔ Lst listed q.1) := fun q hq => by
          rw [hLs]; exact ⟨fun e => e.resolve_left (hnp q hq), .inr⟩
        have go : ∀ st' h' a' w', Rel h0 w0 n (Dp (Lst listed) pre) (Bp (Lst listed) pre st) β st' h' a' w' → Keep (Bp (Lst listed) pre st) p.2 st h st' h' → vcOps P T n h0 (rest.map (·.2)) K st' h' →
            wpAny P .any ops Q m (listed.setIfInBounds p.1 true) a' w' := by
          intro st' h' a' w' R' Kp Hr
          have same : ∀ q ∈ pre, ¬ Lst listed q.1 → ∀ d, rdT q.2 d = true ∨ q.2.dst = some d → st'.t d = st.t d := fun q hq hqL d hd =>
            Kp.t d fun e => hqL (hclo _ ((hpr q hq).wr d e hd).2)
          have hWA : ∀ q ∈ pre, ¬ Lst listed q.1 → ∀ b, WA st' q.2 b ↔ WA st q.2 b := fun q hq hqL b => WA_congr fun tg want hg => same q hq hqL tg (.inl (rdT_of_guard hg))
          have hld : ∀ q ∈ pre, ¬ Lst listed q.1 → ∀ t x, q.2.op = .load t x → Le h h' ∧ ∀ k o, st.ev x = .p k o → st.b k ≠ none → st'.b k = st.b k := fun q hq hqL t x hx => by
            rcases (hpr q hq).ld hps (I.easy q hq hqL) t x hx with hc | ⟨h2, h3⟩
            · exact absurd (hclo _ hc) hqL
            · refine ⟨Kp.h h2, fun k o hk _ => ?_⟩
              by_cases hb : st'.b = st.b
              · rw [hb]
              · rcases Kp.b with e | ⟨k0, e1, e2, e3⟩
                · exact absurd e hb
                · exact e1 k (e3 x (h3 (Kp.isSt hb)) k o hk)
          have hI : PInv P T n (Lst (listed.setIfInBounds p.1 true)) (pre ++ [p]) st' h' := by
            refine ⟨fun q hq hqL => ?_, fun q hq hqL => ?_⟩
            · rcases List.mem_append.1 hq with hq | hq
              · exact I.easy q hq (fun hh => hqL ((hLq q hq).2 hh))
              · rw [List.mem_singleton.1 hq] at hqL
                exact absurd ((hLs _).2 (.inl rfl)) hqL
            · rcases List.mem_append.1 hq with hq | hq
              · have hqL' : ¬ Lst listed q.1 := fun hh => hqL ((hLq q hq).2 hh)
                refine (I.ok q hq hqL').keep (same q hq hqL') (fun hwa k hk hkd => ?_) (hld q hq hqL') ?_
                · rcases Kp.b with e | ⟨k0, e1, e2, e3⟩
                  · rw [e]
                  · exact e1 k fun e => e2 (e ▸ ⟨q, hq, hqL', hkd, hk, hwa⟩)
                · by_cases hl : ∃ t x, q.2.op = .load t x
                  · obtain ⟨t, x, hx⟩ := hl
                    exact .inl (hld q hq hqL' t x hx).1
                  · exact .inr fun t x hx => hl ⟨t, x, hx⟩
              · rw [List.mem_singleton.1 hq] at hqL
                exact absurd ((hLs _).2 (.inl rfl)) hqL
          have hR : Rel h0 w0 n (Dp (Lst (listed.setIfInBounds p.1 true)) (pre ++ [p])) (Bp (Lst (listed.setIfInBounds p.1 true)) (pre ++ [p]) st') β st' h' a' w' := by
            refine R'.cong _ _ (fun t => ?_) (fun k => ?_)
            · constructor
              · rintro ⟨q, hq, h2, h3⟩
                exact ⟨q, by simp [hq], fun hh => h2 ((hLq q hq).1 hh), h3⟩
              · rintro ⟨q, hq, h2, h3⟩
                rcases List.mem_append.1 hq with hq | hq
                · exact ⟨q, hq, fun hh => h2 ((hLq q hq).2 hh), h3⟩
                · rw [List.mem_singleton.1 hq] at h2
                  exact absurd ((hLs _).2 (.inl rfl)) h2
            · constructor
              · rintro ⟨q, hq, h2, h3, h4, h5⟩
                exact ⟨q, by simp [hq], fun hh => h2 ((hLq q hq).1 hh), h3, h4, (hWA q hq h2 true).2 h5⟩
              · rintro ⟨q, hq, h2, h3, h4, h5⟩
                rcases List.mem_append.1 hq with hq | hq
                · have h2' : ¬ Lst listed q.1 := fun hh => h2 ((hLq q hq).2 hh)
                  exact ⟨q, hq, h2', h3, h4, (hWA q hq h2' true).1 h5⟩
                · rw [List.mem_singleton.1 hq] at h2
                  exact absurd ((hLs _).2 (.inl rfl)) h2
          have hrestL : ∀ q ∈ rest, ¬ Lst (listed.setIfInBounds p.1 true) q.1 := fun q hq hh => by
            rcases (hLs _).1 hh with e | e
            · have hnd2 := hD.nd
              rw [hsl, List.map_append, List.nodup_append] at hnd2
              have := hnd2.2.1
              rw [List.map_cons, List.nodup_cons] at this
              exact this.1 (e ▸ List.mem_map_of_mem hq)
            · exact hL q (by simp [hq]) e
          obtain ⟨pre', post', st2, e1, e2, e3, e4, e5, e6, e7⟩ := saturate (h0 := h0) (w0 := w0) hT hD rest (pre ++ [p]) st' (by rw [hsl]; simp) hrestL hI hR Hr
          exact ih _ pre' post' β st2 h' a' w' (by simpa using hsz) e1 e4 e2 (fun i hi => by
            apply e3
            rcases (hLs _).1 hi with e | e
            · rw [e]; simp
            · have := hLp i e
              simp at this ⊢
              exact .inl this) hcl' e5 e6 e7 hm'
        have hw := wanted_of R S
        have H' : vcOp P T n h0 p.2 (vcOps P T n h0 (rest.map (·.2)) K) st h := H
        have body : vcBody P T n h0 p.2 (vcOps P T n h0 (rest.map (·.2)) K) st h → o.wp P a w (wpAny P .any ops Q m (listed.setIfInBounds p.1 true)) Q := fun hb => by
          unfold vcBody at hb
          rw [hps] at hb
          exact sync_wp hT R S hb (fun x hx t ht => noD t (rdT_of_op (ht ▸ hx))) fun st' h' a' w' R' Kp hk => go st' h' a' w' R' Kp hk
        unfold vcOp at H'
        split at H'
        · rename_i hg
          rw [hg] at hw
          simp only at hw
          rw [if_pos hw]
          exact .inl (body H')
        · rename_i tg want hg
          rw [hg] at hw
          simp only at hw
          split at H'
          · rename_i x hx
            have hw2 := hw (noD tg (rdT_of_guard hg)) x hx
            split at H'
            · rename_i hb
              rw [if_pos (hw2.trans hb)]
              exact .inl (body H')
            · rename_i hb
              rw [if_neg (by rw [hw2, hb]; simp)]
              have R' := R.skip p.2.dst H'.1
              rw [S.dst] at R'
              rw [S.dst] at H'
              refine go _ h _ _ R' ⟨fun i hi => ?_, fun hh => absurd ?_ hh, .inl ?_, fun k hk => ?_, fun k hk => ?_, fun _ => Le.refl h⟩ H'.2
              · cases hd : o.dst with
                | none => rfl
                | some d =>
                  rw [S.dst, hd] at hi
                  have : i ≠ d := fun e => hi (by rw [e])
                  simp [skipT, St.put_t, beq_eq_false_iff_ne.2 this]
              · cases o.dst <;> rfl
              · cases o.dst <;> rfl
              · cases hd : o.dst <;> simpa [skipT, St.put_b] using hk
              · cases hd : o.dst <;> simpa [skipT, St.put_b] using hk
          · exact H'.elim
end
end Go.Proofs.Vc

/-! Symbolic execution over heaplets, part 8: code, and calls. -/
set_option linter.unusedVariables false
set_option linter.unusedSimpArgs false
namespace Go.Proofs.Vc
open Go Go.RowKit

/-- Code without what the walk does not look at. -/
inductive SC where
  | skip
  | ret
  | exit (id : Nat)
  | ops (l : List SOp)
  | seq (a b : SC)
  | cond (c : Operand) (a b : SC)
  | block (id : Nat) (a : SC)
  | loop (a : SC)

/-! ### From the machine's code -/
def isEasyOp : Op → Bool
  | .move _ | .assign _ | .pick .. | .alloc _ | .box .. | .load .. | .fieldAddr .. => true
  | op => isPure op
/-- Is it carried out at once nevertheless, as types of 'hv' take memory? -/
def heavy (hv : List Nat) : Op → Bool
  | .convert a b _ => hv.contains a || hv.contains b
  | .alloc e => hv.contains e
  | _ => false
def mkS (hv : List Nat) (ops : Array Oper) (o : Oper) : Option SOp :=
  match o.guard with
  | none => some { dst := o.dst, ty := o.type, guard := none, op := o.op, sync := !isEasyOp o.op || heavy hv o.op }
  | some (j, want) => match (ops[j]?).bind (·.dst) with
    | some tg => some { dst := o.dst, ty := o.type, guard := some (tg, want), op := o.op, sync := !isEasyOp o.op || heavy hv o.op }
    | none => none
def mkAll (hv : List Nat) (ops : Array Oper) : List Oper → Option (List SOp)
  | [] => some []
  | o :: l => match mkS hv ops o, mkAll hv ops l with
    | some so, some sl => some (so :: sl)
    | _, _ => none

theorem mkS_of {hv : List Nat} {ops : Array Oper} {o : Oper} {so : SOp} (h : mkS hv ops o = some so) : SOf ops o so := by
  unfold mkS at h
  split at h
  · rename_i hg
    cases h
    exact ⟨rfl, rfl, rfl, by rw [hg]⟩
  · rename_i j want hg
    split at h
    · rename_i tg htg
      cases h
      exact ⟨rfl, rfl, rfl, by rw [hg]; exact ⟨tg, htg, rfl⟩⟩
    · cases h
theorem mkAll_of {hv : List Nat} {ops : Array Oper} (l : List Oper) : ∀ {sl : List SOp}, mkAll hv ops l = some sl → SOfs ops l sl := by
  induction l with
  | nil => intro sl h; simp [mkAll] at h; subst h; trivial
  | cons o l ih =>
    intro sl h
    unfold mkAll at h
    split at h
    · rename_i so sl' h1 h2
      cases h
      exact ⟨mkS_of h1, ih h2⟩
    · cases h

/-- The closure of the edges, as masks. -/
def maskOf (acc : List Nat) (i : Nat) : List Nat → Nat → Nat
  | [], s => s
  | d :: ds, s => maskOf acc i ds (s ||| 2 ^ d ||| (if d < i then acc.getD d 0 else 0))
def cms (ops : Array Oper) : Nat → List Nat → List Nat
  | 0, acc => acc
  | k + 1, acc => cms ops k (acc ++ [maskOf acc acc.length (deps ops acc.length) 0])
def cloOf (n : Nat) (cm : List Nat) (i j : Nat) : Bool := Nat.blt i n && (cm.getD i 0).testBit j
def cmOk (ops : Array Oper) (cm : List Nat) : Bool := (List.range ops.size).all fun i => cm.getD i 0 == maskOf cm i (deps ops i) 0

def isStore : Op → Bool | .store .. => true | _ => false
def eqT : Operand → Operand → Bool | .tmp a, .tmp b => a == b | _, _ => false
def rpairB (clo : Nat → Nat → Bool) (p q : Nat × SOp) : Bool :=
  (match p.2.dst with | some d => !(rdT q.2 d) || clo q.1 p.1 | none => true) &&
  (match q.2.dst with | some d => !(rdT p.2 d || p.2.dst == some d) || (q.2.sync && clo q.1 p.1) | none => true) &&
  (!q.2.sync || p.2.sync || (match p.2.op with | .load _ x => clo q.1 p.1 || (q.2.pend && (!isStore q.2.op || q.2.conf.any (eqT x))) | _ => true))
def pairB (clo : Nat → Nat → Bool) : Pl → Bool
  | [] => true
  | p :: l => l.all (rpairB clo p) && pairB clo l
def stepB (ops : Array Oper) : List Nat → Pl → Bool
  | _, [] => true
  | A, p :: l => (deps ops p.1).all (fun d => A.contains d) && (!p.2.sync || l.all fun q => (deps ops q.1).any fun d => !A.contains d) && stepB ops (A ++ [p.1]) l
def ndB : List Nat → Bool
  | [] => true
  | x :: l => !l.contains x && ndB l
def ezB (p : Nat × SOp) : Bool := p.2.sync || (match p.2.dst with | some d => !rdT p.2 d | none => false)
def drawB (ops : Array Oper) (cm : List Nat) (sl : Pl) : Bool :=
  cmOk ops cm && pairB (cloOf ops.size cm) sl && sl.all ezB && stepB ops [] sl && (List.range ops.size).all (fun i => (sl.map (·.1)).contains i) && ndB (sl.map (·.1))

theorem testBit_maskOf (acc : List Nat) (i j : Nat) : ∀ (ds : List Nat) (s : Nat), (maskOf acc i ds s).testBit j = true → s.testBit j = true ∨ ∃ d ∈ ds, d = j ∨ (d < i ∧ (acc.getD d 0).testBit j = true) := by
  intro ds
  induction ds with
  | nil => intro s h; exact .inl h
  | cons d ds ih =>
    intro s h
    rcases ih _ h with h1 | ⟨e, he, h2⟩
    · rw [Nat.testBit_or, Nat.testBit_or] at h1
      simp only [Bool.or_eq_true] at h1
      rcases h1 with (h1 | h1) | h1
      · exact .inl h1
      · refine .inr ⟨d, by simp, .inl ?_⟩
        rw [Nat.testBit_two_pow] at h1
        simpa using h1
      · split at h1
        · rename_i hlt; exact .inr ⟨d, by simp, .inr ⟨hlt, h1⟩⟩
        · simp at h1
    · exact .inr ⟨e, by simp [he], h2⟩
theorem cmOk_cp {ops : Array Oper} {cm : List Nat} (h : cmOk ops cm = true) (C : Nat → Prop) (hC : ∀ i, C i → ∀ d ∈ deps ops i, C d) :
    ∀ i, (∀ d ∈ deps ops i, C d) → ∀ j, cloOf ops.size cm i j = true → C j := by
  intro i
  induction i using Nat.strongRecOn with
  | _ i ih =>
    intro hd j hj
    unfold cloOf at hj
    rw [Bool.and_eq_true] at hj
    obtain ⟨hi, hj⟩ := hj
    have hi : i < ops.size := Nat.le_of_ble_eq_true hi
    have h1 := List.all_eq_true.1 h i (List.mem_range.2 hi)
    have h2 : cm.getD i 0 = maskOf cm i (deps ops i) 0 := by simpa using h1
    rw [h2] at hj
    rcases testBit_maskOf cm i j _ _ hj with h3 | ⟨d, hdm, h4 | ⟨h4, h5⟩⟩
    · simp at h3
    · subst h4; exact hd d hdm
    · refine ih d h4 (hC d (hd d hdm)) j ?_
      unfold cloOf
      rw [Bool.and_eq_true]
      exact ⟨Nat.ble_eq_true_of_le (by omega : d + 1 ≤ ops.size), h5⟩

theorem eqT_eq {x y : Operand} (h : eqT x y = true) : y = x := by
  unfold eqT at h
  split at h
  · rw [beq_iff_eq] at h; rw [h]
  · cases h
theorem rpairB_of {clo : Nat → Nat → Bool} {p q : Nat × SOp} (h : rpairB clo p q = true) : RPair clo p q := by
  unfold rpairB at h
  rw [Bool.and_eq_true, Bool.and_eq_true] at h
  obtain ⟨⟨h1, h2⟩, h3⟩ := h
  refine ⟨fun d hd hr => ?_, fun d hd hr => ?_, fun hs hp t x hx => ?_⟩
  · rw [hd] at h1
    simp only at h1
    rw [hr] at h1
    simpa using h1
  · rw [hd] at h2
    simp only at h2
    have : (rdT p.2 d || p.2.dst == some d) = true := by
      rw [Bool.or_eq_true]
      rcases hr with hr | hr
      · exact .inl hr
      · exact .inr (by rw [hr]; simp)
    rw [this] at h2
    simpa using h2
  · rw [hs, hp, hx] at h3
    simp only [Bool.not_true, Bool.false_or, Bool.or_eq_true, Bool.and_eq_true, Bool.not_eq_true'] at h3
    rcases h3 with h3 | ⟨h4, h5⟩
    · exact .inl h3
    · refine .inr ⟨h4, fun ⟨t', x', y', hst⟩ => ?_⟩
      rcases h5 with h5 | h5
      · rw [hst] at h5; cases h5
      · obtain ⟨y, hy, he⟩ := List.any_eq_true.1 h5
        rw [eqT_eq he] at hy
        exact hy
theorem pairB_of {clo : Nat → Nat → Bool} : ∀ {l : Pl}, pairB clo l = true → l.Pairwise (RPair clo)
  | [], _ => .nil
  | p :: l, h => by
    unfold pairB at h
    rw [Bool.and_eq_true] at h
    exact .cons (fun q hq => rpairB_of (List.all_eq_true.1 h.1 q hq)) (pairB_of h.2)
theorem ndB_of : ∀ {l : List Nat}, ndB l = true → l.Nodup
  | [], _ => .nil
  | x :: l, h => by
    unfold ndB at h
    rw [Bool.and_eq_true] at h
    rw [List.nodup_cons]
    exact ⟨by simpa using h.1, ndB_of h.2⟩
theorem stepB_of {ops : Array Oper} : ∀ (pre : Pl) (p : Nat × SOp) (post : Pl) (A : List Nat), stepB ops A (pre ++ p :: post) = true →
    (∀ d ∈ deps ops p.1, d ∈ A ++ pre.map (·.1)) ∧ (p.2.sync = true → ∀ q ∈ post, ∃ d ∈ deps ops q.1, d ∉ A ++ pre.map (·.1))
  | [], p, post, A, h => by
    simp only [List.nil_append, stepB, Bool.and_eq_true] at h
    obtain ⟨⟨h1, h2⟩, _⟩ := h
    refine ⟨fun d hd => by simpa using List.all_eq_true.1 h1 d hd, fun hs q hq => ?_⟩
    rw [hs] at h2
    simp only [Bool.not_true, Bool.false_or] at h2
    obtain ⟨d, hd, he⟩ := List.any_eq_true.1 (List.all_eq_true.1 h2 q hq)
    exact ⟨d, hd, by simpa using he⟩
  | x :: pre, p, post, A, h => by
    simp only [List.cons_append, stepB, Bool.and_eq_true] at h
    obtain ⟨_, h3⟩ := h
    have := stepB_of pre p post (A ++ [x.1]) h3
    simpa [List.append_assoc] using this

theorem drawB_of {ops : Array Oper} {cm : List Nat} {sl : Pl} (h : drawB ops cm sl = true) (hof : ∀ p ∈ sl, ∃ o, ops[p.1]? = some o ∧ SOf ops o p.2) : DrawOk ops (cloOf ops.size cm) sl := by
  unfold drawB at h
  simp only [Bool.and_eq_true] at h
  obtain ⟨⟨⟨⟨⟨h1, h2⟩, h3⟩, h4⟩, h5⟩, h6⟩ := h
  refine ⟨cmOk_cp h1, pairB_of h2, hof, fun p hp hs => ?_, fun pre p post e => ?_, fun pre p post e => ?_, fun i hi => ?_, ndB_of h6⟩
  · have := List.all_eq_true.1 h3 p hp
    unfold ezB at this
    rw [hs] at this
    simp only [Bool.false_or] at this
    split at this
    · rename_i d hd; exact ⟨d, hd, by simpa using this⟩
    · cases this
  · rw [e] at h4
    simpa using (stepB_of pre p post [] h4).1
  · rw [e] at h4
    simpa using (stepB_of pre p post [] h4).2
  · have := List.all_eq_true.1 h5 i (List.mem_range.2 hi)
    exact List.contains_iff_mem.1 this

/-! The eager order. -/
def isAsg : Op → Bool | .assign _ => true | _ => false
/-- Is this assignment read or written by another operation of the region? -/
def asgSync (l : List (Nat × SOp)) (p : Nat × SOp) : Bool := isAsg p.2.op && (match p.2.dst with
  | some d => l.any fun q => q.1 != p.1 && (rdT q.2 d || q.2.dst == some d)
  | none => true)
def subB (ds A : List Nat) : Bool := ds.all fun d => A.contains d
def eager (ops : Array Oper) : Nat → Pl → List Nat → Pl → Pl
  | 0, _, _, acc => acc
  | k + 1, todo, A, acc =>
    match todo.find? (fun p => !p.2.sync && subB (deps ops p.1) A) with
    | some p => eager ops k (todo.filter fun q => q.1 != p.1) (p.1 :: A) (acc ++ [p])
    | none => match todo.find? (fun p => subB (deps ops p.1) A) with
      | some p => eager ops k (todo.filter fun q => q.1 != p.1) (p.1 :: A) (acc ++ [p])
      | none => acc
/-- What may be pending at an operation that is carried out at once. -/
def withConf (clo : Nat → Nat → Bool) : Pl → Pl → Pl
  | _, [] => []
  | pre, p :: l =>
    let c := pre.filterMap fun q => match q.2.sync, q.2.op with | false, .load _ x => (if clo p.1 q.1 then none else some x) | _, _ => none
    (p.1, if p.2.sync then { p.2 with pend := !c.isEmpty, conf := if isStore p.2.op then c else [] } else p.2) :: withConf clo (pre ++ [p]) l
def indexed : Nat → List SOp → Pl
  | _, [] => []
  | i, o :: l => (i, o) :: indexed (i + 1) l
def mkDraw (ops : Array Oper) (l : List SOp) : Pl :=
  let a := indexed 0 l
  let b := a.map fun p => (p.1, if asgSync a p then { p.2 with sync := true } else p.2)
  withConf (cloOf ops.size (cms ops ops.size [])) [] (eager ops ops.size b [] [])

theorem eager_mem {ops : Array Oper} : ∀ (k : Nat) (todo : Pl) (A : List Nat) (acc : Pl), ∀ p ∈ eager ops k todo A acc, p ∈ todo ∨ p ∈ acc
  | 0, todo, A, acc, p, h => .inr h
  | k + 1, todo, A, acc, p, h => by
    unfold eager at h
    split at h
    · rename_i q hq
      rcases eager_mem k _ _ _ p h with h1 | h1
      · exact .inl (List.mem_filter.1 h1).1
      · rcases List.mem_append.1 h1 with h2 | h2
        · exact .inr h2
        · rw [List.mem_singleton.1 h2]; exact .inl (List.mem_of_find?_eq_some hq)
    · split at h
      · rename_i q hq
        rcases eager_mem k _ _ _ p h with h1 | h1
        · exact .inl (List.mem_filter.1 h1).1
        · rcases List.mem_append.1 h1 with h2 | h2
          · exact .inr h2
          · rw [List.mem_singleton.1 h2]; exact .inl (List.mem_of_find?_eq_some hq)
      · exact .inr h
/-- The same operation, but for how it is scheduled. -/
def SameOp (p q : Nat × SOp) : Prop := p.1 = q.1 ∧ p.2.dst = q.2.dst ∧ p.2.ty = q.2.ty ∧ p.2.op = q.2.op ∧ p.2.guard = q.2.guard
theorem withConf_mem {clo : Nat → Nat → Bool} : ∀ (pre l : Pl), ∀ p ∈ withConf clo pre l, ∃ q ∈ l, SameOp p q
  | _, [], p, h => by cases h
  | pre, x :: l, p, h => by
    unfold withConf at h
    rcases List.mem_cons.1 h with h | h
    · refine ⟨x, by simp, ?_⟩
      rw [h]
      unfold SameOp
      split <;> exact ⟨rfl, rfl, rfl, rfl, rfl⟩
    · obtain ⟨q, hq, e⟩ := withConf_mem _ l p h
      exact ⟨q, by simp [hq], e⟩
theorem indexed_of {ops : Array Oper} (l : List Oper) : ∀ (sl : List SOp) (i : Nat), SOfs ops l sl → (∀ j, l[j]? = ops[i + j]?) → ∀ p ∈ indexed i sl, ∃ o, ops[p.1]? = some o ∧ SOf ops o p.2 := by
  induction l with
  | nil =>
    intro sl i F hl p h
    cases sl with
    | nil => cases h
    | cons _ _ => exact F.elim
  | cons o l ih =>
    intro sl i F hl p h
    cases sl with
    | nil => exact F.elim
    | cons so sl =>
      unfold indexed at h
      rcases List.mem_cons.1 h with h | h
      · rw [h]; exact ⟨o, (hl 0).symm, F.1⟩
      · exact ih sl (i + 1) F.2 (fun j => by have := hl (j + 1); simpa [Nat.add_assoc, Nat.add_comm 1 j] using this) p h
theorem SameOp.of {ops : Array Oper} {o : Oper} {p q : Nat × SOp} (h : SameOp p q) (S : SOf ops o q.2) : SOf ops o p.2 := by
  obtain ⟨_, h2, h3, h4, h5⟩ := h
  exact ⟨h2.trans S.dst, h3.trans S.ty, h4.trans S.op, by rw [h5]; exact S.guard⟩
theorem mkDraw_of {ops : Array Oper} {l : List SOp} (h : SOfs ops ops.toList l) : ∀ p ∈ mkDraw ops l, ∃ o, ops[p.1]? = some o ∧ SOf ops o p.2 := by
  intro p hp
  obtain ⟨q, hq, e⟩ := withConf_mem _ _ p hp
  rcases eager_mem _ _ _ _ q hq with h1 | h1
  · obtain ⟨r, hr, rfl⟩ := List.mem_map.1 h1
    obtain ⟨o, ho, S⟩ := indexed_of ops.toList l 0 h (by simp) r hr
    refine ⟨o, by rw [e.1]; exact ho, e.of ?_⟩
    dsimp only
    split
    · exact ⟨S.dst, S.ty, S.op, S.guard⟩
    · exact S
  · cases h1

def simpC (hv : List Nat) : Code → Option SC
  | .skip => some .skip
  | .ret => some .ret
  | .label _ => some .skip
  | .exit id => some (.exit id)
  | .seq a b => match simpC hv a, simpC hv b with | some x, some y => some (.seq x y) | _, _ => none
  | .cond c a b => match simpC hv a, simpC hv b with | some x, some y => some (.cond c x y) | _, _ => none
  | .block id a => match simpC hv a with | some x => some (.block id x) | none => none
  | .loop a => match simpC hv a with | some x => some (.loop x) | none => none
  | .region _ ops draw => match mkAll hv ops ops.toList with
    | none => none
    | some l => match draw with
      | false => some (.ops l)
      | true => match drawB ops (cms ops ops.size []) (mkDraw ops l) with
        | true => some (.ops ((mkDraw ops l).map (·.2)))
        | false => none
  | _ => none

/-! ### The code's walk -/
theorem nodup_length_le : ∀ (n : Nat) (l : List Nat), l.Nodup → (∀ i ∈ l, i < n) → l.length ≤ n
  | 0, l, _, h => by
    cases l with
    | nil => simp
    | cons x l => have := h x (by simp); omega
  | n + 1, l, hn, h => by
    have h1 := nodup_length_le n (l.erase n) (hn.erase n) (fun i hi => by
      have h2 := h i (List.mem_of_mem_erase hi)
      have h3 : i ≠ n := fun e => by
        rw [e] at hi
        exact (List.Nodup.not_mem_erase hn) hi
      omega)
    have := List.length_erase (a := n) (l := l)
    split at this <;> omega

/-- A loop by a relation with a measure that the relation names. -/
theorem wp_loop_rel {P : Program} {c : Code} {Q : Exit → Act → World → Prop} (I : Act → World → Nat → Prop) {a : Act} {w : World} (m0 : Nat) (h₀ : I a w m0)
    (round : ∀ a w m, I a w m → c.wp P (Exit.then (fun a' w' => ∃ m', m' < m ∧ I a' w' m') Q) a w) : (Code.loop c).wp P Q a w := by
  intro b k cs
  have key : ∀ m a w, I a w m → ∃ e a' w', Q e a' w' ∧ Arrives P (lone (b.at a (.code c :: .inLoop c :: k)) cs w) b k cs e a' w' := by
    intro m
    induction m using Nat.strongRecOn with
    | _ m ih =>
      intro a w hI
      obtain ⟨e, a₁, w₁, hq, harr⟩ := round a w m hI b (.inLoop c :: k) cs
      cases e with
      | normal =>
        obtain ⟨m', hlt, hI₁⟩ := hq
        obtain ⟨e₂, a₂, w₂, hq₂, harr₂⟩ := ih m' hlt a₁ w₁ hI₁
        exact ⟨e₂, a₂, w₂, hq₂, .of_steps (Steps.trans harr (.one step_inLoop)) harr₂⟩
      | exit id => exact ⟨_, a₁, w₁, hq, .pass (x := .inLoop c) rfl (fun _ _ => .inl (by simp)) harr⟩
      | goto l => exact ⟨_, a₁, w₁, hq, .pass (x := .inLoop c) rfl (fun _ _ => .inl (by simp)) harr⟩
      | ret => exact ⟨_, a₁, w₁, hq, .pass (x := .inLoop c) rfl (fun _ _ => .inl (by simp)) harr⟩
      | panic ch => exact ⟨_, a₁, w₁, hq, .pass (x := .inLoop c) rfl (fun _ _ => .inl (by simp)) harr⟩
      | outgrown => exact ⟨_, a₁, w₁, hq, .pass (x := .inLoop c) rfl (fun _ _ => .inl (by simp)) harr⟩
  obtain ⟨e, a', w', hq, harr⟩ := key m0 a w h₀
  exact ⟨e, a', w', hq, .of_steps (.one step_loop) harr⟩

/-- A state that says less. -/
structure Forget (st st1 : St) : Prop where
  t : ∀ i, st1.t i = st.t i ∨ st1.t i = .bad
  b : ∀ k, st1.b k = st.b k ∨ st1.b k = none
  live : ∀ i k o, st1.t i = .p k o → st1.b k ≠ none
def LoopG (body : (Exit → St → Heap → Prop) → St → Heap → Prop) (Q : Exit → St → Heap → Prop) (st : St) (h : Heap) : Prop :=
  ∃ (I : St → Heap → Nat → Prop) (m : Nat), (∃ st1, Forget st st1 ∧ I st1 h m) ∧
    ∀ st' h' m', I st' h' m' → body (fun e => match e with | .normal => fun st2 h2 => ∃ m2 st3, m2 < m' ∧ Forget st2 st3 ∧ I st3 h2 m2 | e => fun st2 h2 => Q e st2 h2 ∨ ∃ st3, Forget st2 st3 ∧ Q e st3 h2) st' h'
section
variable (P : Program) (T : Tab) (n : Nat) (h0 : Heap)
def vcC : SC → (Exit → St → Heap → Prop) → St → Heap → Prop
  | .skip, Q => Q .normal
  | .ret, Q => Q .ret
  | .exit id, Q => Q (.exit id)
  | .ops l, Q => vcOps P T n h0 l (Q .normal)
  | .seq a b, Q => vcC a fun e => match e with | .normal => vcC b Q | e => Q e
  | .cond c a b, Q => fun st h => match st.ev c with
    | .v (.bool t) => match t with | true => vcC a Q st h | false => vcC b Q st h
    | _ => False
  | .block id a, Q => vcC a fun e => match e with | .exit id' => (match id' == id with | true => Q .normal | false => Q (.exit id')) | e => Q e
  | .loop a, Q => LoopG (vcC a) Q
end

section
variable {P : Program} {T : Tab} {n : Nat} {h0 : Heap} {w0 : Base}

theorem Rel.forget {β : Nat → Nat} {st st1 : St} {h : Heap} {a : Act} {w : World} (R : Rel h0 w0 n No No β st h a w) (F : Forget st st1) : Rel h0 w0 n No No β st1 h a w := by
  have hb : ∀ k cs, st1.b k = some cs → st.b k = some cs := fun k cs hk => by
    rcases F.b k with e | e
    · rw [← e]; exact hk
    · rw [e] at hk; cases hk
  have hb' : ∀ k, st1.b k ≠ none → st.b k ≠ none := fun k hk => by
    cases hc : st1.b k with
    | none => exact absurd hc hk
    | some cs => rw [hb k cs hc]; simp
  refine ⟨R.size, R.defers, fun t ht => ?_, fun t k o ht he => ⟨F.live t k o he, fun h => h⟩, fun k cs hk hB => R.box k cs (hb k cs hk) hB, fun k k' h1 h2 h3 h4 => R.inj k k' h1 h2 (hb' k h3) (hb' k' h4), R.sat, R.le, R.new, R.below⟩
  rcases F.t t with e | e
  · rw [e]; exact R.tmp t ht
  · rw [e]; trivial

/-- What the walk shows is so. -/
def Sound (w0 : Base) (h0 : Heap) (n : Nat) (Q : Exit → St → Heap → Prop) (e : Exit) (a : Act) (w : World) : Prop := ∃ st h β, Rel h0 w0 n No No β st h a w ∧ Q e st h

theorem vcC_sound {hv : List Nat} (hT : TabOk P T) (c : Code) : ∀ (sc : SC) (Q : Exit → St → Heap → Prop) (β : Nat → Nat) (st : St) (h : Heap) (a : Act) (w : World), simpC hv c = some sc → vcC P T n h0 sc Q st h → Rel h0 w0 n No No β st h a w →
    c.wp P (Sound w0 h0 n Q) a w := by
  induction c with
  | skip =>
    intro sc Q β st h a w hs H R
    cases hs
    exact wp_skip ⟨st, h, β, R, H⟩
  | ret =>
    intro sc Q β st h a w hs H R
    cases hs
    exact wp_ret ⟨st, h, β, R, H⟩
  | label l =>
    intro sc Q β st h a w hs H R
    cases hs
    exact wp_label ⟨st, h, β, R, H⟩
  | exit id =>
    intro sc Q β st h a w hs H R
    cases hs
    exact wp_exit ⟨st, h, β, R, H⟩
  | seq x y ihx ihy =>
    intro sc Q β st h a w hs H R
    unfold simpC at hs
    split at hs
    · rename_i sx sy hx hy
      cases hs
      refine wp_seq (wp_mono (ihx sx _ β st h a w hx H R) ?_)
      rintro e a' w' ⟨st', h', β', R', H'⟩
      cases e with
      | normal => exact ihy sy Q β' st' h' a' w' hy H' R'
      | _ => exact ⟨st', h', β', R', H'⟩
    · cases hs
  | cond c x y ihx ihy =>
    intro sc Q β st h a w hs H R
    unfold simpC at hs
    split at hs
    · rename_i sx sy hx hy
      cases hs
      unfold vcC at H
      have hev := R.ev c (fun _ _ h => h)
      split at H
      · rename_i t hc
        rw [hc] at hev
        simp only [Conc] at hev
        split at H
        · exact wp_cond_true hev (ihx sx Q β st h a w hx H R)
        · exact wp_cond_false hev (ihy sy Q β st h a w hy H R)
      · exact H.elim
    · cases hs
  | block id x ih =>
    intro sc Q β st h a w hs H R
    unfold simpC at hs
    split at hs
    · rename_i sx hx
      cases hs
      refine wp_block (wp_mono (ih sx _ β st h a w hx H R) ?_)
      rintro e a' w' ⟨st', h', β', R', H'⟩
      cases e with
      | exit id' =>
        simp only [Exit.inBlock]
        dsimp only at H'
        split
        · rename_i hid
          rw [beq_iff_eq.2 hid] at H'
          exact ⟨st', h', β', R', H'⟩
        · rename_i hid
          rw [beq_eq_false_iff_ne.2 hid] at H'
          exact ⟨st', h', β', R', H'⟩
      | _ => exact ⟨st', h', β', R', H'⟩
    · cases hs
  | loop x ih =>
    intro sc Q β st h a w hs H R
    unfold simpC at hs
    split at hs
    · rename_i sx hx
      cases hs
      obtain ⟨I, m, ⟨st1, F, hI⟩, hstep⟩ := H
      refine wp_loop_rel (fun a w m => ∃ st h β, Rel h0 w0 n No No β st h a w ∧ I st h m) m ⟨_, h, β, R.forget F, hI⟩ ?_
      rintro a' w' m ⟨st', h', β', R', hI'⟩
      refine wp_mono (ih sx _ β' st' h' a' w' hx (hstep st' h' m hI') R') ?_
      rintro e a2 w2 ⟨st2, h2, β2, R2, H2⟩
      cases e with
      | normal =>
        obtain ⟨m2, st3, hm, F2, hI2⟩ := H2
        exact ⟨m2, hm, st3, h2, β2, R2.forget F2, hI2⟩
      | _ => exact H2.elim (fun H2 => ⟨st2, h2, β2, R2, H2⟩) fun ⟨st3, F3, H3⟩ => ⟨st3, h2, β2, R2.forget F3, H3⟩
    · cases hs
  | region id ops draw =>
    intro sc Q β st h a w hs H R
    unfold simpC at hs
    split at hs
    · cases hs
    · rename_i l hl
      split at hs
      · cases hs
        exact wp_region_list (seq_sound hT (fun st h β a w R K => ⟨st, h, β, R, K⟩) ops.toList l (mkAll_of _ hl) β st h a w H R)
      · split at hs
        · rename_i hd
          cases hs
          have hD := drawB_of hd (mkDraw_of (mkAll_of _ hl))
          refine wp_region_any hT.mixed ?_
          have hnone : ∀ i, ¬ Lst (Array.replicate ops.size false) i := fun i => by
            unfold Lst
            simp only [Array.getD_eq_getD_getElem?, Array.getElem?_replicate]
            split <;> simp
          obtain ⟨pre', post', st2, e1, e2, e3, e4, e5, e6, e7⟩ := saturate (P := P) (T := T) (n := n) (h0 := h0) (w0 := w0) (K := Q .normal) (a := a) (w := { w with drawn := w.drawn + 1 }) (β := β) (h := h) (L := Lst (Array.replicate ops.size false)) hT hD (mkDraw ops l) [] st rfl (fun p _ => hnone p.1)
            ⟨(fun p hp => by cases hp), (fun p hp => by cases hp)⟩ (R.drew.cong _ _ (fun t => ⟨fun h => h.elim, fun ⟨p, hp, _⟩ => (by cases hp)⟩) (fun t => ⟨fun h => h.elim, fun ⟨p, hp, _⟩ => (by cases hp)⟩)) H
          refine draw_sound hT hD (fun st h β a w R K => ⟨st, h, β, R, K⟩) ops.size _ pre' post' β st2 h a _ (by simp) e1 e4 e2 (fun i hi => absurd hi (hnone i)) (fun i hi => absurd hi (hnone i)) e5 e6 e7 ?_
          have hlen : (mkDraw ops l).length ≤ ops.size := by
            have h1 : ∀ i ∈ (mkDraw ops l).map (·.1), i < ops.size := fun i hi => by
              obtain ⟨p, hp, rfl⟩ := List.mem_map.1 hi
              obtain ⟨o, ho, _⟩ := mkDraw_of (mkAll_of _ hl) p hp
              exact (Array.getElem?_eq_some_iff.1 ho).1
            have h2 := nodup_length_le ops.size _ hD.nd h1
            simpa using h2
          exact Nat.le_trans (List.countP_le_length) hlen
        · cases hs
  | _ => intro sc Q β st h a w hs; cases hs
end
end Go.Proofs.Vc

/-! Symbolic execution over heaplets, part 9: a call of a function with a body. -/
set_option linter.unusedVariables false
set_option linter.unusedSimpArgs false
namespace Go.Proofs.Vc
open Go Go.RowKit

def resK (T : Tab) (st : St) : List ResultVar → (List Value → Prop) → Prop
  | [], K => K []
  | .tmp t :: l, K => match st.t t with
    | .v x => resK T st l fun vs => K (x :: vs)
    | _ => False
  | .cell a t :: l, K => match T.zero t with
    | none => False
    | some _ => match st.t a with
      | .p k o => match st.b k with
        | some cs => o + T.size t ≤ cs.length ∧ resK T st l fun vs => K (ldv (T.agg t) (T.size t) cs o :: vs)
        | none => False
      | _ => False
def mkRes : List Value → Value
  | [x] => x
  | vs => .tuple vs.toArray
def retQ (T : Tab) (rs : List ResultVar) (Φ : Value → Heap → Prop) : Exit → St → Heap → Prop
  | .normal, st, h | .ret, st, h => resK T st rs fun vs => Φ (mkRes vs) h
  | _, _, _ => False
def lookA : List Value → Nat → AV
  | [], _ => .v undef
  | x :: _, 0 => .v x
  | _ :: l, i + 1 => lookA l i
theorem lookA_eq : ∀ (l : List Value) (i : Nat), lookA l i = .v (l.getD i undef)
  | [], i => by simp [lookA]
  | x :: l, 0 => rfl
  | x :: l, i + 1 => by rw [lookA, lookA_eq l i]; simp
def St.init (args : List Value) : St := ⟨lookA args, fun _ => none⟩

section
variable {P : Program} {T : Tab} {n : Nat} {h0 : Heap} {w0 : Base}

theorem resK_elim {T : Tab} {st : St} (rs : List ResultVar) : ∀ {K : List Value → Prop}, resK T st rs K → ∃ vs, resK T st rs (fun vs' => vs' = vs) ∧ K vs := by
  induction rs with
  | nil => intro K h; exact ⟨[], rfl, h⟩
  | cons r l ih =>
    intro K h
    cases r with
    | tmp t =>
      unfold resK at h ⊢
      split at h
      · rename_i x hx
        obtain ⟨vs, h1, h2⟩ := ih h
        refine ⟨x :: vs, ?_, h2⟩
        simpa using h1
      · exact h.elim
    | cell a t =>
      unfold resK at h ⊢
      split at h
      · exact h.elim
      · split at h
        · split at h
          · obtain ⟨hl, h⟩ := h
            obtain ⟨vs, h1, h2⟩ := ih h
            refine ⟨_ :: vs, ⟨hl, ?_⟩, h2⟩
            simpa using h1
          · exact h.elim
        · exact h.elim

/-- One result read. -/
def readRes (tmps : Array Value) : ResultVar → Sem Value
  | .tmp t => pure (tmps.getD t undef)
  | .cell p t => do loadVar t (← asAddr (tmps.getD p undef))
theorem results_eq (fn : Func) (tmps : Array Value) : results fn tmps = (do
    let vs ← fn.results.mapM (readRes tmps)
    pure (if h : vs.size = 1 then vs[0] else .tuple vs)) := by
  unfold results
  congr 1
theorem resK_run (hT : TabOk P T) {β : Nat → Nat} {st : St} {h : Heap} {a : Act} {w : World} (R : Rel h0 w0 n No No β st h a w) (rs : List ResultVar) :
    ∀ {vs : List Value}, resK T st rs (fun vs' => vs' = vs) →
      (rs.mapM (readRes a.tmps)).run P w = .ok vs w := by
  induction rs with
  | nil => intro vs h; simp only [resK] at h; subst h; rfl
  | cons r l ih =>
    intro vs H
    rw [List.mapM_cons]
    cases r with
    | tmp t =>
      unfold resK at H
      split at H
      · rename_i x hx
        have hc := R.tmp t (fun h => h)
        rw [hx] at hc
        simp only [Conc] at hc
        cases vs with
        | nil =>
          obtain ⟨vs', _, h2⟩ := resK_elim l H
          cases h2
        | cons v vs =>
          obtain ⟨vs', h1, h2⟩ := resK_elim l H
          simp only [List.cons.injEq] at h2
          obtain ⟨rfl, rfl⟩ := h2
          simp only [readRes, Sem.run_bind, Sem.run_pure, Result.andThen_ok, ih h1, hc]
      · exact H.elim
    | cell p t =>
      unfold resK at H
      split at H
      · exact H.elim
      · rename_i z hz
        split at H
        · rename_i k o hk
          split at H
          · rename_i cs hb
            obtain ⟨hl, H⟩ := H
            have hc := R.tmp p (fun h => h)
            rw [hk] at hc
            simp only [Conc] at hc
            obtain ⟨vs', h1, h2⟩ := resK_elim l H
            subst h2
            obtain ⟨⟨e, he⟩, _, _⟩ := R.box k cs hb (fun h => h)
            have hl2 : ((cs.drop o).take (T.size t)).length = T.size t := by simp; omega
            have hrun := run_load_block hT hz he ((cs.drop o).take (T.size t)) hl2 (o := o) (fun j hj => by
              rw [List.getElem?_take, if_pos (by omega), List.getElem?_drop]; simp)
            unfold Instr.loadAt Instr.sureAddr at hrun
            simp only [Sem.run_bind, Sem.run_pure, Result.andThen_ok] at hrun
            simp only [readRes, Sem.run_bind, Sem.run_pure, Result.andThen_ok, hc, asAddr, hrun, ih h1]
            congr 2
            unfold ldv
            rw [nthD_eq]
            cases hagg : T.agg t with
            | true => rfl
            | false =>
              have h1 := (hT.len t z hz).2 hagg
              rw [h1] at hl ⊢
              simp only [cond_false]
              rw [List.drop_eq_getElem_cons (show o < cs.length by omega), List.take_succ_cons]
              simp [List.getD_eq_getElem?_getD, List.getElem?_eq_getElem (show o < cs.length by omega)]
          · exact H.elim
        · exact H.elim

/-- A function's contract out of the walk of its code; blocks of X may be written. -/
theorem vc_callsX {hv : List Nat} {f : FuncId} {fn : Func} {c : Code} {sc : SC} {rs : List ResultVar} {args : List Value} {Φ : Value → Heap → Prop} (hT : TabOk P T) (hf : P.funcs[f]? = some fn) (hb : fn.body = some c) (hname : (fn.name == "runtime.NumGoroutine") = false)
    (hsc : simpC hv c = some sc) (hn : fn.ntmps = n) (hrs : fn.results = rs.toArray) (hlen : args.length ≤ n) {hi : Heap} (X : Nat → Prop) (h01 : ∀ k, X k → h0 k = none) (h02 : ∀ k, ¬ X k → h0 k = hi k) (hXi : ∀ k, X k → (hi k).isSome = true)
    (H : vcC P T n h0 sc (retQ T rs Φ) (St.init args) hi) :
    CallGo P f args.toArray hi X Φ := by
  refine .inl ⟨fun w => ?_, fun w hw => ?_⟩
  · simp [callFunc, hf, beq_eq_false_iff_ne.1 hname, hb]
  · refine calls_of_wp hf hb ?_
    refine wp_mono (vcC_sound (w0 := ⟨w, X⟩) hT c sc _ id (St.init args) hi _ w hsc H ?_) ?_
    · refine ⟨by simp [hn]; omega, rfl, fun t _ => ?_, fun t k o _ he => ?_, fun k cs hk => ?_, fun k k' _ _ hk => ?_, hw, fun g o hg => ?_, fun g o hg => ?_, ⟨rfl, rfl, rfl, Nat.le_refl _, fun _ _ _ => rfl⟩⟩
      · simp only [St.init, lookA_eq, Conc, Array.getD_eq_getD_getElem?, Array.getElem?_append, List.size_toArray, List.getElem?_toArray, Array.getElem?_replicate, List.getD_eq_getElem?_getD]
        split
        · rfl
        · rename_i hlt
          rw [List.getElem?_eq_none (by omega)]
          split <;> rfl
      · simp [St.init, lookA_eq] at he
      · simp [St.init] at hk
      · exact absurd rfl hk
      · by_cases hx : X g
        · rw [h01 g hx] at hg; cases hg
        · rw [← h02 g hx]; exact hg
      · by_cases hx : X g
        · exact .inr (.inl hx)
        · exact .inl (by rw [h02 g hx, hg]; rfl)
    · rintro e a' w' ⟨st, h, β, R, hq⟩
      have fin : ∀ {vs : List Value}, resK T st rs (fun vs' => vs' = vs) → Φ (mkRes vs) h → a'.defers = [] ∧ ∃ v, (results fn a'.tmps).run P w' = .ok v w' ∧ ∃ v' h', Ending.returned v = .returned v' ∧ GrowsX X hi h' w w' ∧ Φ v' h' := by
        intro vs h1 h2
        refine ⟨R.defers, mkRes vs, ?_, mkRes vs, h, rfl, ⟨fun g o hx hg => R.le g o (by rw [h02 g hx]; exact hg), R.sat, fun g o hg => ?_, R.below.os, R.below.tape, R.below.output, R.below.size, fun k hk hx => R.below.block k hk hx⟩, h2⟩
        rotate_left
        · rcases R.new g o hg with h4 | h4 | h4
          · refine .inl ?_
            by_cases hx : X g
            · rw [h01 g hx] at h4; cases h4
            · rw [← h02 g hx]; exact h4
          · by_cases hlt : g < w.heap.size
            · exact .inl (hXi g h4)
            · exact .inr (Nat.le_of_not_lt hlt)
          · exact .inr h4
        have h3 := resK_run hT R rs h1
        rw [results_eq, hrs, List.mapM_toArray]
        simp only [Sem.run_bind, Sem.run_map, h3, Result.andThen_ok, Sem.run_pure]
        congr 1
        by_cases hsz : vs.toArray.size = 1
        · rw [dif_pos hsz]
          simp at hsz
          obtain ⟨x, rfl⟩ := List.length_eq_one_iff.1 hsz
          rfl
        · rw [dif_neg hsz]
          unfold mkRes
          split
          · exact absurd rfl hsz
          · rfl
      cases e with
      | normal =>
        obtain ⟨vs, h1, h2⟩ := resK_elim rs hq
        exact fin h1 h2
      | ret =>
        obtain ⟨vs, h1, h2⟩ := resK_elim rs hq
        exact fin h1 h2
      | _ => exact hq.elim
/-- A function's contract out of the walk of its code. -/
theorem vc_calls {hv : List Nat} {f : FuncId} {fn : Func} {c : Code} {sc : SC} {rs : List ResultVar} {args : List Value} {Φ : Value → Heap → Prop} (hT : TabOk P T) (hf : P.funcs[f]? = some fn) (hb : fn.body = some c) (hname : (fn.name == "runtime.NumGoroutine") = false)
    (hsc : simpC hv c = some sc) (hn : fn.ntmps = n) (hrs : fn.results = rs.toArray) (hlen : args.length ≤ n) (H : vcC P T n h0 sc (retQ T rs Φ) (St.init args) h0) :
    CallGo P f args.toArray h0 NoX Φ :=
  vc_callsX hT hf hb hname hsc hn hrs hlen NoX (fun _ h => h.elim) (fun _ _ => rfl) (fun _ h => h.elim) H
end
end Go.Proofs.Vc

namespace Go.Proofs.Vc
open Go
/-- A function of the program, its code as the walk wants it. -/
structure FnOk (P : Program) (f : FuncId) (n : Nat) (rs : List ResultVar) (sc : SC) : Prop where
  is : ∃ (hv : List Nat) (fn : Func), P.funcs[f]? = some fn ∧ (fn.name == "runtime.NumGoroutine") = false ∧ fn.body.bind (simpC hv) = some sc ∧ fn.ntmps = n ∧ fn.results = rs.toArray

theorem vc_fn {P : Program} {T : Tab} {n : Nat} {h0 : Heap} {f : FuncId} {sc : SC} {rs : List ResultVar} {Φ : Value → Heap → Prop} (hT : TabOk P T) (hk : FnOk P f n rs sc) (args : List Value)
    (hlen : args.length ≤ n) (H : vcC P T n h0 sc (retQ T rs Φ) (St.init args) h0) : CallGo P f args.toArray h0 NoX Φ := by
  obtain ⟨hv, fn, h1, h2, h3, h4, h5⟩ := hk.is
  obtain ⟨c, h6, h7⟩ := Option.bind_eq_some_iff.1 h3
  exact vc_calls hT h1 h6 h2 h7 h4 h5 hlen H

theorem vc_fnX {P : Program} {T : Tab} {n : Nat} {h0 hi : Heap} {f : FuncId} {sc : SC} {rs : List ResultVar} {Φ : Value → Heap → Prop} (hT : TabOk P T) (hk : FnOk P f n rs sc) (args : List Value)
    (hlen : args.length ≤ n) (X : Nat → Prop) (h01 : ∀ k, X k → h0 k = none) (h02 : ∀ k, ¬ X k → h0 k = hi k) (hXi : ∀ k, X k → (hi k).isSome = true) (H : vcC P T n h0 sc (retQ T rs Φ) (St.init args) hi) : CallGo P f args.toArray hi X Φ := by
  obtain ⟨hv, fn, h1, h2, h3, h4, h5⟩ := hk.is
  obtain ⟨c, h6, h7⟩ := Option.bind_eq_some_iff.1 h3
  exact vc_callsX hT h1 h6 h2 h7 h4 h5 hlen X h01 h02 hXi H

/-- A type's row in the table. -/
structure TRow where
  t : Nat
  agg : Bool
  size : Nat
  zero : List Value
  offs : List Nat
  kd : Nat
def Tab.of (l : List TRow) : Tab where
  agg t := ((l.find? fun e => e.t == t).map (·.agg)).getD false
  size t := ((l.find? fun e => e.t == t).map (·.size)).getD 0
  zero t := (l.find? fun e => e.t == t).map (·.zero)
  fld t f := (l.find? fun e => e.t == t).bind fun e => e.offs[f]?
  kd t := ((l.find? fun e => e.t == t).map (·.kd)).getD 0
def FldOk (P : Program) (t : Nat) : Nat → List Nat → Prop
  | _, [] => True
  | f, off :: l => (∀ (g o : Nat) w, (Instr.fieldAt t (.pointer (some ⟨g, o, none⟩)) f).run P w = .ok (.pointer (some ⟨g, o + off, none⟩)) w) ∧ FldOk P t (f + 1) l
structure RowOk (P : Program) (e : TRow) (v : Value) : Prop where
  agg : ∀ w, (isAgg e.t).run P w = .ok e.agg w
  size : ∀ w, (sizeOf e.t).run P w = .ok e.size w
  zero : ∀ w, (zeroValue e.t).run P w = .ok v w
  cells : v.cells = e.zero.toArray
  len : e.zero.length = e.size
  one : (e.agg || e.size == 1) = true
  fld : FldOk P e.t 0 e.offs
  kd : match e.kd with | 1 => ∃ x, P.underlying e.t = some (.slice x) | 2 => P.underlying e.t = some .string | _ => True
theorem FldOk.get {P : Program} {t : Nat} (l : List Nat) : ∀ {i f off : Nat}, FldOk P t i l → l[f]? = some off →
    ∀ (g o : Nat) w, (Instr.fieldAt t (.pointer (some ⟨g, o, none⟩)) (i + f)).run P w = .ok (.pointer (some ⟨g, o + off, none⟩)) w := by
  induction l with
  | nil => intro i f off _ h; simp at h
  | cons x l ih =>
    intro i f off hk h
    cases f with
    | zero => simp at h; subst h; exact hk.1
    | succ f =>
      rw [List.getElem?_cons_succ] at h
      have := ih hk.2 h
      rwa [show i + 1 + f = i + (f + 1) from by omega] at this
theorem Tab.of_ok {P : Program} {l : List TRow} (hm : P.follows .mixedOrders = true) (h : ∀ e ∈ l, ∃ v, RowOk P e v) : TabOk P (Tab.of l) := by
  have key : ∀ t z, (Tab.of l).zero t = some z → ∃ e ∈ l, e.t = t ∧ e.zero = z ∧ (Tab.of l).agg t = e.agg ∧ (Tab.of l).size t = e.size := fun t z hz => by
    simp only [Tab.of] at hz ⊢
    cases hf : l.find? (fun e => e.t == t) with
    | none => rw [hf] at hz; cases hz
    | some e =>
      rw [hf] at hz
      simp only [Option.map_some, Option.some.injEq] at hz
      exact ⟨e, List.mem_of_find?_eq_some hf, by simpa using List.find?_some hf, hz, rfl, rfl⟩
  refine ⟨fun t z hz w => ?_, fun t z hz w => ?_, fun t z hz => ?_, fun t z hz => ?_, fun s f off hoff g o w => ?_, hm, fun t => ?_⟩
  · obtain ⟨e, he, rfl, _, h3, _⟩ := key t z hz
    obtain ⟨v, hv⟩ := h e he
    rw [h3]; exact hv.agg w
  · obtain ⟨e, he, rfl, _, _, h4⟩ := key t z hz
    obtain ⟨v, hv⟩ := h e he
    rw [h4]; exact hv.size w
  · obtain ⟨e, he, rfl, h2, _, _⟩ := key t z hz
    obtain ⟨v, hv⟩ := h e he
    exact ⟨v, hv.zero, by rw [← h2]; exact hv.cells⟩
  · obtain ⟨e, he, rfl, h2, h3, h4⟩ := key t z hz
    obtain ⟨v, hv⟩ := h e he
    rw [h3, h4, ← h2]
    refine ⟨hv.len, fun hagg => ?_⟩
    have := hv.one
    rw [hagg] at this
    simpa using this
  · simp only [Tab.of] at hoff
    cases hf : l.find? (fun e => e.t == s) with
    | none => rw [hf] at hoff; cases hoff
    | some e =>
      rw [hf] at hoff
      simp only [Option.bind_some] at hoff
      have het : e.t = s := by simpa using List.find?_some hf
      obtain ⟨v, hv⟩ := h e (List.mem_of_find?_eq_some hf)
      have := hv.fld.get e.offs hoff g o w
      rw [het, Nat.zero_add] at this
      exact this
  · simp only [Tab.of]
    cases hf : l.find? (fun e => e.t == t) with
    | none => simp
    | some e =>
      have het : e.t = t := by simpa using List.find?_some hf
      obtain ⟨v, hv⟩ := h e (List.mem_of_find?_eq_some hf)
      have hk := hv.kd
      subst het
      simp only [Option.map_some, Option.getD_some]
      refine ⟨fun h1 => ?_, fun h2 => ?_⟩
      · rw [h1] at hk; exact hk
      · rw [h2] at hk; exact hk
end Go.Proofs.Vc

