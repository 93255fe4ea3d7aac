/-
  Arguments opened: policies and samples.
-/
import Derived.Test.YtaenpcglaenlaaaOpens
import Derived.Test.YtaenpcglaenlaaaReach
namespace Go.Proofs.Ytaenpcglaenlaaa
open Go.RowKit Go.ChangeShapes Go.WideShapes Go.ChangeAt Go.Deep Go.Joins
set_option linter.unusedVariables false
set_option linter.unusedSimpArgs false

section
variable {H : Type} {enc : TypeId × Value → H} {W : World} {v : Value} {d : DataW H} {p : List MemPlace} {r : Reach} {b0 : Nat}
set_option maxRecDepth 100000 in
theorem tiers_at {n : Nat} {v : Value} {y : DataW H × List MemPlace} (h : DataW.trod enc Try.prog W 0 (fun _ => true) true n 22 [v] = some y) : ∃ l, TiersAt W v l := by
  rcases open_slice_fields Try.underlying22 Try.underlying32 (by kernel_rfl) (by kernel_rfl) h with hcs | ⟨x, l, c, m, hcs, hl, hm, hmm, hi⟩
  · simp at hcs
    subst hcs
    exact ⟨[], none, 0, rfl, by simp, by simp, fun h => absurd rfl h⟩
  · simp at hcs
    subst hcs
    have hm' : c ≤ 9223372036854775807 := by unfold maxLen at hm; omega
    have hmc : m = c := by simpa using hmm
    subst hmc
    have each : ∀ i, i < l → ∃ T : TierV, T.ok ∧ W.cell? (x.add (i * 4)) = some (.string T.name) ∧ W.cell? (x.add (i * 4 + 1)) = some (.int .i64 T.every) ∧ W.cell? (x.add (i * 4 + 2)) = some (.int .i64 T.keep) ∧ W.cell? (x.add (i * 4 + 3)) = some (.int .i64 T.shards) := by
      intro i him
      obtain ⟨n, hf⟩ := hi i (by omega)
      obtain ⟨u0, z0, c0, t0⟩ := hf 0 _ rfl
      obtain ⟨u1, z1, c1, t1⟩ := hf 1 _ rfl
      obtain ⟨u2, z2, c2, t2⟩ := hf 2 _ rfl
      obtain ⟨u3, z3, c3, t3⟩ := hf 3 _ rfl
      obtain ⟨x0, e0, _, g0⟩ := DataW.trod_string Try.underlying9 t0
      obtain ⟨x1, e1, _, g1⟩ := DataW.trod_int Try.underlying3 t1
      obtain ⟨x2, e2, _, g2⟩ := DataW.trod_int Try.underlying3 t2
      obtain ⟨x3, e3, _, g3⟩ := DataW.trod_int Try.underlying3 t3
      simp only [List.cons.injEq, and_true] at e0 e1 e2 e3
      subst e0 e1 e2 e3
      exact ⟨⟨x0, x1, x2, x3⟩, ⟨by unfold maxLen at g0; dsimp only; omega, wf64 g1, wf64 g2, wf64 g3⟩, c0, c1, c2, c3⟩
    obtain ⟨L, hL, hP⟩ := list_of TierV.zero l each
    subst hL
    refine ⟨L, some x, m, rfl, list_of_mem (d := TierV.zero) (fun i hi => (hP i hi).1), by omega, fun hne => ?_⟩
    obtain ⟨b, o, s⟩ := x
    have h0 := (hP 0 (List.length_pos_iff.2 hne)).2.1
    rw [Nat.zero_mul] at h0
    have hs : s = none := by simpa [Addr.add] using World.cell?_spot h0
    subst hs
    refine ⟨b, o, rfl, World.block_lt_of_cell? W _ h0, fun j hj => ?_⟩
    have := (hP j hj).2
    simp only [add_at] at this
    exact this
set_option maxRecDepth 100000 in
theorem pol_open (hv : Value.okWide Try.prog W r b0 24 v) (h : DataW.Trod enc Try.prog W 0 (fun _ => true) true 24 v d p) : ∃ n l, PolAt W v n l ∧ n.size ≤ 9223372036854775807 := by
  obtain ⟨v0, v1, y0, y1, n, rfl, t0, t1⟩ := open_struct2 Try.underlying24 (by kernel_rfl) (by kernel_rfl) hv h
  obtain ⟨x0, e0, _, g0⟩ := DataW.trod_string Try.underlying9 t0
  simp only [List.cons.injEq, and_true] at e0
  subst e0
  obtain ⟨l, hl⟩ := tiers_at t1
  exact ⟨x0, l, ⟨_, rfl, hl⟩, by unfold maxLen at g0; omega⟩
set_option maxRecDepth 100000 in
theorem sample_open (hv : Value.okWide Try.prog W r b0 41 v) (h : DataW.Trod enc Try.prog W 0 (fun _ => true) true 41 v d p) : ∃ n t x, v = .agg #[.string n, .int .i64 t, .int .i64 x] ∧ n.size ≤ 9223372036854775807 ∧ I64 t ∧ I64 x := by
  obtain ⟨v0, v1, v2, y0, y1, y2, n, rfl, t0, t1, t2⟩ := open_struct3 Try.underlying41 (by kernel_rfl) (by kernel_rfl) hv h
  obtain ⟨x0, e0, _, g0⟩ := DataW.trod_string Try.underlying9 t0
  obtain ⟨x1, e1, _, g1⟩ := DataW.trod_int Try.underlying3 t1
  obtain ⟨x2, e2, _, g2⟩ := DataW.trod_int Try.underlying3 t2
  simp only [List.cons.injEq, and_true] at e0 e1 e2
  subst e0 e1 e2
  exact ⟨x0, x1, x2, rfl, by unfold maxLen at g0; omega, wf64 g1, wf64 g2⟩
end
end Go.Proofs.Ytaenpcglaenlaaa
