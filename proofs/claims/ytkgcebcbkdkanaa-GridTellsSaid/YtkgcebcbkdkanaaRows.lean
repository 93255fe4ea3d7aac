/-
  No cell of these rows narrows 'for every input' (looked for: loops, veiled, ifaces, maps, wideKeys, modest, calm, conditions, laid).
  DERIVED. THE GIVEN ROWS OF THIS SEAT. 6 by the template 'for every input the law returns true; each argument reads behind the call as it read before'; 0 by the template 'total and deterministic' (their statements: YtkgcebcbkdkanaaTotals.lean).
  GIVEN WITH THE SEED: the statements are not yours to turn. If you find one false, say at which input.
  Laid BY PROGRAM, IN A SANDBOX (cutbox-rows.mjs): the forced cells as the released guide's own fill.sh prints them over the translation aedaf123cebfee29… (all of the seat's roots in one cut). By AI agents, Wed Nov 11 2026. No macro, syntax, notation, axiom, sorry.
-/
import Derived.Test.YtkgcebcbkdkanaaChecked
import GoSem.Claim
import GoSem.ClaimJoined
import GoSem.ClaimMapViews
import Derived.JoinedTies
import Derived.KernelRfl
namespace Go.Proofs.Ytkgcebcbkdkanaa
/- THE CELL 'sum', in the pinned program and in every row, IS THE sha256 OF THE DUMP (.gsa) THAT YtkgcebcbkdkanaaProg.lean LOADS. Nothing in Lean hashes anything: it is a label: what it is worth is what the hold of that sum in a sandbox is worth. -/
noncomputable def Try.pinned : Pinned := { name := "ytkgcebcbkdkanaa", sum := "aedaf123cebfee29d16105499f23a46781d875320bebb4093f444915daf34198", checked := Try.checked }
namespace Rows
def none {H : Type} : Left H := { results := [], args := [] }

/-- 'sedimentlaw4.GridShifts': WHATEVER THE INPUT: true; the input reads as it did. -/
def gridShiftsSpec : ChangeSpec := { name := "gridShifts", fn := fun _ => fun
  | [d1, d2, d3] => { results := [.lit (.bool true)], args := [d1, d2, d3] }
  | _ => none }
def gridShiftsRow : OpenClaim := { program := "ytkgcebcbkdkanaa", sum := "aedaf123cebfee29d16105499f23a46781d875320bebb4093f444915daf34198", func := "sediment/sedimentlaw4.GridShifts", spec := "gridShifts", apart := false }
def GridShiftsSaid : Prop := gridShiftsRow.holds Try.pinned (OpenSpec.ofChange gridShiftsSpec)

/-- ITS FALSE NEIGHBOUR: 'it returns false'. Refute it at one input. -/
def gridShiftsWrong : ChangeSpec := { name := "gridShifts", fn := fun _ => fun
  | [d1, d2, d3] => { results := [.lit (.bool false)], args := [d1, d2, d3] }
  | _ => none }
def GridShiftsWrongFalsely : Prop := gridShiftsRow.holds Try.pinned (OpenSpec.ofChange gridShiftsWrong)

/-- 'sedimentlaw4.GridDivides': WHATEVER THE INPUT: true; the input reads as it did. -/
def gridDividesSpec : ChangeSpec := { name := "gridDivides", fn := fun _ => fun
  | [d1, d2, d3] => { results := [.lit (.bool true)], args := [d1, d2, d3] }
  | _ => none }
def gridDividesRow : OpenClaim := { program := "ytkgcebcbkdkanaa", sum := "aedaf123cebfee29d16105499f23a46781d875320bebb4093f444915daf34198", func := "sediment/sedimentlaw4.GridDivides", spec := "gridDivides", apart := false }
def GridDividesSaid : Prop := gridDividesRow.holds Try.pinned (OpenSpec.ofChange gridDividesSpec)

/-- ITS FALSE NEIGHBOUR: 'it returns false'. Refute it at one input. -/
def gridDividesWrong : ChangeSpec := { name := "gridDivides", fn := fun _ => fun
  | [d1, d2, d3] => { results := [.lit (.bool false)], args := [d1, d2, d3] }
  | _ => none }
def GridDividesWrongFalsely : Prop := gridDividesRow.holds Try.pinned (OpenSpec.ofChange gridDividesWrong)

/-- 'sedimentlaw4.GridTells': WHATEVER THE INPUT: true; the input reads as it did. -/
def gridTellsSpec : ChangeSpec := { name := "gridTells", fn := fun _ => fun
  | [d1, d2, d3, d4] => { results := [.lit (.bool true)], args := [d1, d2, d3, d4] }
  | _ => none }
def gridTellsRow : OpenClaim := { program := "ytkgcebcbkdkanaa", sum := "aedaf123cebfee29d16105499f23a46781d875320bebb4093f444915daf34198", func := "sediment/sedimentlaw4.GridTells", spec := "gridTells", apart := false }
def GridTellsSaid : Prop := gridTellsRow.holds Try.pinned (OpenSpec.ofChange gridTellsSpec)

/-- ITS FALSE NEIGHBOUR: 'it returns false'. Refute it at one input. -/
def gridTellsWrong : ChangeSpec := { name := "gridTells", fn := fun _ => fun
  | [d1, d2, d3, d4] => { results := [.lit (.bool false)], args := [d1, d2, d3, d4] }
  | _ => none }
def GridTellsWrongFalsely : Prop := gridTellsRow.holds Try.pinned (OpenSpec.ofChange gridTellsWrong)

/-- 'sedimentlaw4.GridNear': WHATEVER THE INPUT: true; the input reads as it did. -/
def gridNearSpec : ChangeSpec := { name := "gridNear", fn := fun _ => fun
  | [d1, d2] => { results := [.lit (.bool true)], args := [d1, d2] }
  | _ => none }
def gridNearRow : OpenClaim := { program := "ytkgcebcbkdkanaa", sum := "aedaf123cebfee29d16105499f23a46781d875320bebb4093f444915daf34198", func := "sediment/sedimentlaw4.GridNear", spec := "gridNear", apart := false }
def GridNearSaid : Prop := gridNearRow.holds Try.pinned (OpenSpec.ofChange gridNearSpec)

/-- ITS FALSE NEIGHBOUR: 'it returns false'. Refute it at one input. -/
def gridNearWrong : ChangeSpec := { name := "gridNear", fn := fun _ => fun
  | [d1, d2] => { results := [.lit (.bool false)], args := [d1, d2] }
  | _ => none }
def GridNearWrongFalsely : Prop := gridNearRow.holds Try.pinned (OpenSpec.ofChange gridNearWrong)

/-- 'sedimentlaw4.GridBack': WHATEVER THE INPUT: true; the input reads as it did. -/
def gridBackSpec : ChangeSpec := { name := "gridBack", fn := fun _ => fun
  | [d1, d2, d3, d4] => { results := [.lit (.bool true)], args := [d1, d2, d3, d4] }
  | _ => none }
def gridBackRow : OpenClaim := { program := "ytkgcebcbkdkanaa", sum := "aedaf123cebfee29d16105499f23a46781d875320bebb4093f444915daf34198", func := "sediment/sedimentlaw4.GridBack", spec := "gridBack", apart := false }
def GridBackSaid : Prop := gridBackRow.holds Try.pinned (OpenSpec.ofChange gridBackSpec)

/-- ITS FALSE NEIGHBOUR: 'it returns false'. Refute it at one input. -/
def gridBackWrong : ChangeSpec := { name := "gridBack", fn := fun _ => fun
  | [d1, d2, d3, d4] => { results := [.lit (.bool false)], args := [d1, d2, d3, d4] }
  | _ => none }
def GridBackWrongFalsely : Prop := gridBackRow.holds Try.pinned (OpenSpec.ofChange gridBackWrong)

/-- 'sedimentlaw4.GridStarts': WHATEVER THE INPUT: true; the input reads as it did. -/
def gridStartsSpec : ChangeSpec := { name := "gridStarts", fn := fun _ => fun
  | [d1, d2, d3] => { results := [.lit (.bool true)], args := [d1, d2, d3] }
  | _ => none }
def gridStartsRow : OpenClaim := { program := "ytkgcebcbkdkanaa", sum := "aedaf123cebfee29d16105499f23a46781d875320bebb4093f444915daf34198", func := "sediment/sedimentlaw4.GridStarts", spec := "gridStarts", apart := false }
def GridStartsSaid : Prop := gridStartsRow.holds Try.pinned (OpenSpec.ofChange gridStartsSpec)

/-- ITS FALSE NEIGHBOUR: 'it returns false'. Refute it at one input. -/
def gridStartsWrong : ChangeSpec := { name := "gridStarts", fn := fun _ => fun
  | [d1, d2, d3] => { results := [.lit (.bool false)], args := [d1, d2, d3] }
  | _ => none }
def GridStartsWrongFalsely : Prop := gridStartsRow.holds Try.pinned (OpenSpec.ofChange gridStartsWrong)

/- THE SECOND FORM. 'bulk': how many values and letters a reading holds, each counted each time it is reached (what is shared counts as often as it is met; a slice's spare places count too). A statement '..UptoSaid' is the law's where the arguments, and the package variables that the reading takes, are together of bulk at most 1048576: NARROWER than '..Said'. Prove '..Said' where nothing that the law and all that it calls make is longer than what came in: it says more and counts as full. Else prove '..UptoSaid'. A law counts once. -/
mutual
def uptoBulk {H : Type} : DataW H → Nat
  | .lit (.string bytes) => bytes.length + 1
  | .lit _ => 1
  | .nil => 1
  | .ptr d => uptoBulk d + 1
  | .slice elems spare => uptoBulkAll elems + uptoBulkAll spare + 1
  | .agg parts => uptoBulkAll parts + 1
  | .iface _ d => uptoBulk d + 1
  | .map entries => uptoBulkEntries entries + 1
  | .held _ => 1
def uptoBulkAll {H : Type} : List (DataW H) → Nat
  | [] => 0
  | d :: r => uptoBulk d + uptoBulkAll r
def uptoBulkEntries {H : Type} : List (Lit × DataW H) → Nat
  | [] => 0
  | x :: r => uptoBulkEntry x + uptoBulkEntries r
def uptoBulkEntry {H : Type} : Lit × DataW H → Nat
  | (.string bytes, d) => bytes.length + uptoBulk d + 1
  | (_, d) => uptoBulk d + 1
 end
def uptoSmall : (H : Type) → List (DataW H) → Bool := fun _ ds => decide (uptoBulkAll ds ≤ 1048576)
def OpenSpec.upto (s : _root_.Go.ChangeSpec) : _root_.Go.OpenSpec := { _root_.Go.OpenSpec.ofChange s with cond := some uptoSmall }

/-- 'sedimentlaw4.GridShifts', WHERE WHAT IT READS IS OF BULK AT MOST 1048576: true; the input reads as it did. -/
def gridShiftsUptoRow : OpenClaim := { program := "ytkgcebcbkdkanaa", sum := "aedaf123cebfee29d16105499f23a46781d875320bebb4093f444915daf34198", func := "sediment/sedimentlaw4.GridShifts", spec := "gridShifts", apart := false, narrowed := true }
def GridShiftsUptoSaid : Prop := gridShiftsUptoRow.holds Try.pinned (OpenSpec.upto gridShiftsSpec)

/-- 'sedimentlaw4.GridDivides', WHERE WHAT IT READS IS OF BULK AT MOST 1048576: true; the input reads as it did. -/
def gridDividesUptoRow : OpenClaim := { program := "ytkgcebcbkdkanaa", sum := "aedaf123cebfee29d16105499f23a46781d875320bebb4093f444915daf34198", func := "sediment/sedimentlaw4.GridDivides", spec := "gridDivides", apart := false, narrowed := true }
def GridDividesUptoSaid : Prop := gridDividesUptoRow.holds Try.pinned (OpenSpec.upto gridDividesSpec)

/-- 'sedimentlaw4.GridTells', WHERE WHAT IT READS IS OF BULK AT MOST 1048576: true; the input reads as it did. -/
def gridTellsUptoRow : OpenClaim := { program := "ytkgcebcbkdkanaa", sum := "aedaf123cebfee29d16105499f23a46781d875320bebb4093f444915daf34198", func := "sediment/sedimentlaw4.GridTells", spec := "gridTells", apart := false, narrowed := true }
def GridTellsUptoSaid : Prop := gridTellsUptoRow.holds Try.pinned (OpenSpec.upto gridTellsSpec)

/-- 'sedimentlaw4.GridNear', WHERE WHAT IT READS IS OF BULK AT MOST 1048576: true; the input reads as it did. -/
def gridNearUptoRow : OpenClaim := { program := "ytkgcebcbkdkanaa", sum := "aedaf123cebfee29d16105499f23a46781d875320bebb4093f444915daf34198", func := "sediment/sedimentlaw4.GridNear", spec := "gridNear", apart := false, narrowed := true }
def GridNearUptoSaid : Prop := gridNearUptoRow.holds Try.pinned (OpenSpec.upto gridNearSpec)

/-- 'sedimentlaw4.GridBack', WHERE WHAT IT READS IS OF BULK AT MOST 1048576: true; the input reads as it did. -/
def gridBackUptoRow : OpenClaim := { program := "ytkgcebcbkdkanaa", sum := "aedaf123cebfee29d16105499f23a46781d875320bebb4093f444915daf34198", func := "sediment/sedimentlaw4.GridBack", spec := "gridBack", apart := false, narrowed := true }
def GridBackUptoSaid : Prop := gridBackUptoRow.holds Try.pinned (OpenSpec.upto gridBackSpec)

/-- 'sedimentlaw4.GridStarts', WHERE WHAT IT READS IS OF BULK AT MOST 1048576: true; the input reads as it did. -/
def gridStartsUptoRow : OpenClaim := { program := "ytkgcebcbkdkanaa", sum := "aedaf123cebfee29d16105499f23a46781d875320bebb4093f444915daf34198", func := "sediment/sedimentlaw4.GridStarts", spec := "gridStarts", apart := false, narrowed := true }
def GridStartsUptoSaid : Prop := gridStartsUptoRow.holds Try.pinned (OpenSpec.upto gridStartsSpec)

end Rows
end Go.Proofs.Ytkgcebcbkdkanaa
