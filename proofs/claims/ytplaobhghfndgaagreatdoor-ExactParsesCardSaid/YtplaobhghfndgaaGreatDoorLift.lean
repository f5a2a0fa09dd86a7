import Derived.Test.YtplaobhghfndgaaGreatDoorKnown
import Derived.Test.YtplaobhghfndgaaGreatDoorCards
import Derived.Test.YtplaobhghfndgaaGreatDoorTie
import Derived.WalkKit
import Derived.ProofKit
import Derived.OpenShut
import Derived.Deep.DeepHandedRow
import Derived.Shelf.Vars
/-! From a walked law to its row: what every law of this seat shares. -/
set_option linter.unusedVariables false
set_option linter.unusedSimpArgs false
set_option maxRecDepth 100000
namespace Go.Proofs.YtplaobhghfndgaaGreatDoor
open Go Go.Proofs.Vc Go.ChangeShapes Go.WideShapes Go.ChangeAt Go.RowKit
theorem own : ownKnob Tryz.prog.godebug = none := by kernel_rfl
/-- All memory, as a heaplet. -/
def heapOf (W : World) : Heap := fun k => W.heap[k]?
theorem heapOf_sat (W : World) : Sat (heapOf W) W := fun _ _ h => h
theorem glob_of {W : World} (hsh : W.ShapedOpen Tryz.prog) : Glob (heapOf W) := by
  obtain ⟨m, hm⟩ := cell_of_shapedOpen_int (P := Tryz.prog) (g := 2) (t := 3) (zero := #[.int .i64 0]) hsh (of_decide_eq_true (by kernel_rfl)) (by kernel_rfl) rfl (by kernel_rfl) (by kernel_rfl) Tryz.underlying3
  unfold World.cell? at hm
  split at hm
  · rename_i c e fr hh
    exact ⟨c, e, fr, m, hh, by simpa using hm⟩
  · cases hm
/-- A law's walk as the row wants it. -/
theorem law_calls {f : FuncId} {args : Array Value} {W : World} (he : ∀ w, (callFunc f args).run Tryz.prog w = .ok (.enter f args) w) (H : CallGo Tryz.prog f args (heapOf W) NoX fun v h' => v = .bool true) :
    Calls Tryz.prog f args W fun e W' => e = .returned (.bool true) ∧ Below W.heap.size W W' := by
  rcases H with ⟨_, H⟩ | ⟨v, h1, _⟩
  · refine (H W (heapOf_sat W)).mono ?_
    rintro e W' ⟨v, h', rfl, G, rfl⟩
    exact ⟨rfl, G.os, G.tape, G.output, G.size, fun k hk => G.block k hk id⟩
  · have := (he W).symm.trans (h1 W)
    cases this
def setC (cs : Array Value) : Obj → Obj
  | .cells _ t frozen => .cells cs t frozen
  | o => o
/-- A world for the witnesses: the settled one, the library's two tables as their initialisers lay them. -/
noncomputable def laidWorld (os : Os) : World :=
  { World.holding Tryz.prog os ⟨#[], #[], []⟩ with heap := ((World.holding Tryz.prog os ⟨#[], #[], []⟩).heap.modify 4 (setC #[.int .u8 128, .int .u8 191, .int .u8 160, .int .u8 191, .int .u8 128, .int .u8 159, .int .u8 144, .int .u8 191, .int .u8 128, .int .u8 143, .int .u8 0, .int .u8 0, .int .u8 0, .int .u8 0, .int .u8 0, .int .u8 0, .int .u8 0, .int .u8 0, .int .u8 0, .int .u8 0, .int .u8 0, .int .u8 0, .int .u8 0, .int .u8 0, .int .u8 0, .int .u8 0, .int .u8 0, .int .u8 0, .int .u8 0, .int .u8 0, .int .u8 0, .int .u8 0])).modify 3 (setC (Pinned.utf8FirstZ.map fun (n : Nat) => Value.int .u8 (n : Int)).toArray) }
end Go.Proofs.YtplaobhghfndgaaGreatDoor
