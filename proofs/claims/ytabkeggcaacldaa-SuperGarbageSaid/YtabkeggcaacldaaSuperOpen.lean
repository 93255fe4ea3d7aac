/-
  Arguments opened: superblocks.
-/
import Derived.Test.YtabkeggcaacldaaOpens
import Derived.Test.YtabkeggcaacldaaSuper2
namespace Go.Proofs.Ytabkeggcaacldaa
open Go.RowKit Go.ChangeShapes Go.WideShapes Go.ChangeAt Go.Deep Go.Joins
set_option linter.unusedVariables false
set_option linter.unusedSimpArgs false

section
variable {H : Type} {enc : TypeId × Value → H} {W : World} {v : Value} {d : DataW H} {p : List MemPlace} {r : Reach} {b0 : Nat}
set_option maxRecDepth 100000 in
theorem super_open (hv : Value.okWide Try.prog W r b0 24 v) (h : DataW.Trod enc Try.prog W 0 (fun _ => true) true 24 v d p) : ∃ S : SV, v = S.val ∧ S.ok := by
  obtain ⟨v0, v1, v2, y0, y1, y2, n, rfl, t0, t1, t2⟩ := open_struct3 Try.underlying24 (by kernel_rfl) (by kernel_rfl) hv h
  obtain ⟨x0, e0, _, g0⟩ := DataW.trod_int Try.underlying22 t0
  obtain ⟨x1, e1, _, g1⟩ := DataW.trod_int Try.underlying3 t1
  obtain ⟨x2, e2, _, g2⟩ := DataW.trod_int Try.underlying3 t2
  simp only [List.cons.injEq, and_true] at e0 e1 e2
  subst e0 e1 e2
  exact ⟨⟨x0, x1, x2⟩, rfl, wfu64 g0, wf64 g1, wf64 g2⟩
end
end Go.Proofs.Ytabkeggcaacldaa
