/-
  Arguments opened: aggregates, and slices of them.
-/
import Derived.Test.YtagpamgdgcghfaaOpen
import Derived.Test.YtagpamgdgcghfaaAggMerge
namespace Go.Proofs.Ytagpamgdgcghfaa
open Go.RowKit Go.ChangeShapes Go.WideShapes Go.ChangeAt Go.Deep Go.Joins
set_option linter.unusedVariables false
set_option linter.unusedSimpArgs false

section
variable {H : Type} {enc : TypeId × Value → H} {P : Program} {w : World} {base : Nat} {spare : Nat → Bool} {held : Bool}
theorem open_agg5 {r : Reach} {b0 : Nat} {t : TypeId} {f0 f1 f2 f3 f4 : Field} {v : Value} {d : DataW H} {p : List MemPlace} (hs : P.underlying t = some (.struct #[f0, f1, f2, f3, f4])) (hone : oneCellFields P #[f0, f1, f2, f3, f4] = true) (hC : P.cellsOf t = 5)
    (hv : Value.okWide P w r b0 t v) (h : DataW.Trod enc P w base spare held t v d p) :
    ∃ (v0 v1 v2 v3 v4 : Value) (y0 y1 y2 y3 y4 : DataW H × List MemPlace) (n : Nat), v = .agg #[v0, v1, v2, v3, v4] ∧
      DataW.trod enc P w base spare held n f0.type [v0] = some y0 ∧ DataW.trod enc P w base spare held n f1.type [v1] = some y1 ∧ DataW.trod enc P w base spare held n f2.type [v2] = some y2 ∧ DataW.trod enc P w base spare held n f3.type [v3] = some y3 ∧ DataW.trod enc P w base spare held n f4.type [v4] = some y4 := by
  obtain ⟨cs, rfl, hsz⟩ := okWide_struct hs hv
  obtain ⟨l⟩ := cs
  match l, hsz.trans hC with
  | [c0, c1, c2, c3, c4], _ =>
    obtain ⟨fuel, hf⟩ := h
    obtain ⟨xs, n, _, hx, _, hlen, hg⟩ := DataW.trod_struct hs hf
    obtain ⟨o0, k0⟩ := hone_of hone 0 f0 rfl
    obtain ⟨o1, k1⟩ := hone_of hone 1 f1 rfl
    obtain ⟨o2, k2⟩ := hone_of hone 2 f2 rfl
    obtain ⟨o3, k3⟩ := hone_of hone 3 f3 rfl
    obtain ⟨o4, k4⟩ := hone_of hone 4 f4 rfl
    match xs, hlen with
    | [y0, y1, y2, y3, y4], _ =>
      exact ⟨c0, c1, c2, c3, c4, y0, y1, y2, y3, y4, n, rfl, by simpa [Value.cells, o0, k0] using hg 0 f0 rfl, by simpa [Value.cells, o1, k1] using hg 1 f1 rfl, by simpa [Value.cells, o2, k2] using hg 2 f2 rfl, by simpa [Value.cells, o3, k3] using hg 3 f3 rfl, by simpa [Value.cells, o4, k4] using hg 4 f4 rfl⟩

theorem open_slice_fields {t e : TypeId} {fs : Array Field} {fuel : Nat} {cs : List Value} {x : DataW H × List MemPlace} (ht : P.underlying t = some (.slice e)) (he : P.underlying e = some (.struct fs))
    (hone : oneCellFields P fs = true) (hC : P.cellsOf e = fs.size) (h : DataW.trod enc P w base spare held fuel t cs = some x) :
    (cs = [.slice none 0 0]) ∨
    ∃ (a : Addr) (len cap m : Nat), cs = [.slice (some a) len cap] ∧ len ≤ cap ∧ cap ≤ maxLen ∧ m = (if spare a.block then cap else len) ∧
      ∀ i, i < m → ∃ (n : Nat), ∀ (j : Nat) (f : Field), fs[j]? = some f → ∃ (v : Value) (y : DataW H × List MemPlace), w.cell? (a.add (i * fs.size + j)) = some v ∧ DataW.trod enc P w base spare held n f.type [v] = some y := by
  rcases open_slice ht h with h0 | ⟨a, len, cap, m, n, D, Pl, hcs, hb, hl, hm, hmm, hx, hi⟩
  · exact .inl h0.1
  · refine .inr ⟨a, len, cap, m, hcs, hl, hm, hmm, fun i him => ?_⟩
    obtain ⟨cs', hc, ht'⟩ := hi i him
    rw [hC] at hc
    obtain ⟨ys, n', hn', hy, hlen, hyl, hf⟩ := DataW.trod_struct he ht'
    obtain ⟨_, hcl, hat⟩ := World.cells?_some hc
    refine ⟨n', fun j f hj => ?_⟩
    obtain ⟨ho, hk⟩ := hone_of hone j f hj
    have hjl : j < fs.size := (Array.getElem?_eq_some_iff.1 hj).1
    have hcell := hat j hjl
    have hv : cs'[j]? = some (cs'[j]'(by omega)) := List.getElem?_eq_getElem (by omega)
    have h1 := hf j f hj
    rw [ho, hk] at h1
    have hone' : (cs'.drop j).take 1 = [cs'[j]'(by omega)] := by
      rw [List.drop_eq_getElem_cons (by omega)]
      rfl
    rw [hone'] at h1
    have hys : ys[j]? = some (ys[j]'(by omega)) := List.getElem?_eq_getElem (by omega)
    refine ⟨_, _, ?_, h1.trans hys⟩
    rw [← Go.Deep.add_add, hcell, hv]
end

section
variable {H : Type} {enc : TypeId × Value → H} {W : World} {v : Value} {d : DataW H} {p : List MemPlace} {r : Reach} {b0 : Nat}
theorem agg_open (hv : Value.okWide Try.prog W r b0 26 v) (h : DataW.Trod enc Try.prog W 0 (fun _ => true) true 26 v d p) : ∃ A : AggV, v = A.val ∧ A.ok := by
  obtain ⟨v0, v1, v2, v3, v4, y0, y1, y2, y3, y4, n, rfl, t0, t1, t2, t3, t4⟩ := open_agg5 Try.underlying26 (by kernel_rfl) (by kernel_rfl) hv h
  obtain ⟨x0, e0, _, g0⟩ := DataW.trod_int Try.underlying3 t0
  obtain ⟨x1, e1, _, g1⟩ := DataW.trod_int Try.underlying3 t1
  obtain ⟨x2, e2, _, g2⟩ := DataW.trod_int Try.underlying24 t2
  obtain ⟨x3, e3, _, g3⟩ := DataW.trod_int Try.underlying3 t3
  obtain ⟨x4, e4, _, g4⟩ := DataW.trod_int Try.underlying3 t4
  simp only [List.cons.injEq, and_true] at e0 e1 e2 e3 e4
  subst e0 e1 e2 e3 e4
  exact ⟨⟨x0, x1, x2, x3, x4⟩, rfl, wf64 g0, wf64 g1, wfu64 g2, wf64 g3, wf64 g4⟩

theorem aggs_open (hv : Value.okWide Try.prog W r b0 44 v) (h : DataW.Trod enc Try.prog W 0 (fun _ => true) true 44 v d p) : ∃ l, AggsAt W v l := by
  obtain ⟨a, len, cap, rfl⟩ := okWide_slice Try.underlying44 hv
  obtain ⟨fuel, hf⟩ := h
  rcases open_slice_fields Try.underlying44 Try.underlying26 (by kernel_rfl) (by kernel_rfl) hf with hcs | ⟨x, l, c, m, hcs, hl, hm, hmm, hi⟩
  · simp [Value.cells] at hcs
    obtain ⟨rfl, rfl, rfl⟩ := hcs
    exact ⟨[], none, 0, rfl, by simp, by simp, fun h => absurd rfl h⟩
  · simp [Value.cells] at hcs
    obtain ⟨rfl, rfl, rfl⟩ := hcs
    have hm' : cap ≤ 9223372036854775807 := by unfold maxLen at hm; omega
    have hmc : m = cap := by simpa using hmm
    subst hmc
    have each : ∀ i, i < m → ∃ A : AggV, A.ok ∧ W.cell? (x.add (i * 5)) = some (.int .i64 A.c) ∧ W.cell? (x.add (i * 5 + 1)) = some (.int .i64 A.hi) ∧ W.cell? (x.add (i * 5 + 2)) = some (.int .u64 A.lo) ∧ W.cell? (x.add (i * 5 + 3)) = some (.int .i64 A.mn) ∧ W.cell? (x.add (i * 5 + 4)) = some (.int .i64 A.mx) := by
      intro i him
      obtain ⟨n, hf⟩ := hi i him
      obtain ⟨u0, z0, c0, t0⟩ := hf 0 _ rfl
      obtain ⟨u1, z1, c1, t1⟩ := hf 1 _ rfl
      obtain ⟨u2, z2, c2, t2⟩ := hf 2 _ rfl
      obtain ⟨u3, z3, c3, t3⟩ := hf 3 _ rfl
      obtain ⟨u4, z4, c4, t4⟩ := hf 4 _ rfl
      obtain ⟨x0, e0, _, g0⟩ := DataW.trod_int Try.underlying3 t0
      obtain ⟨x1, e1, _, g1⟩ := DataW.trod_int Try.underlying3 t1
      obtain ⟨x2, e2, _, g2⟩ := DataW.trod_int Try.underlying24 t2
      obtain ⟨x3, e3, _, g3⟩ := DataW.trod_int Try.underlying3 t3
      obtain ⟨x4, e4, _, g4⟩ := DataW.trod_int Try.underlying3 t4
      simp only [List.cons.injEq, and_true] at e0 e1 e2 e3 e4
      subst e0 e1 e2 e3 e4
      exact ⟨⟨x0, x1, x2, x3, x4⟩, ⟨wf64 g0, wf64 g1, wfu64 g2, wf64 g3, wf64 g4⟩, c0, c1, c2, c3, c4⟩
    have build : ∀ k, k ≤ m → ∃ L : List AggV, L.length = k ∧ (∀ A ∈ L, A.ok) ∧ ∀ i, i < k → W.cell? (x.add (i * 5)) = some (.int .i64 (L.getD i AggV.zero).c) ∧ W.cell? (x.add (i * 5 + 1)) = some (.int .i64 (L.getD i AggV.zero).hi) ∧ W.cell? (x.add (i * 5 + 2)) = some (.int .u64 (L.getD i AggV.zero).lo) ∧ W.cell? (x.add (i * 5 + 3)) = some (.int .i64 (L.getD i AggV.zero).mn) ∧ W.cell? (x.add (i * 5 + 4)) = some (.int .i64 (L.getD i AggV.zero).mx) := by
      intro k
      induction k with
      | zero => intro _; exact ⟨[], rfl, by simp, fun i h => absurd h (by omega)⟩
      | succ k ih =>
        intro hk
        obtain ⟨L, hL, hok, hc⟩ := ih (by omega)
        obtain ⟨A, hA, hcA⟩ := each k (by omega)
        refine ⟨L ++ [A], by simp [hL], ?_, ?_⟩
        · intro B hB
          simp only [List.mem_append, List.mem_singleton] at hB
          rcases hB with hB | rfl
          · exact hok B hB
          · exact hA
        · intro i hi2
          by_cases hik : i < k
          · have := hc i hik
            have e : (L ++ [A]).getD i AggV.zero = L.getD i AggV.zero := by rw [List.getD_eq_getElem?_getD, List.getD_eq_getElem?_getD, List.getElem?_append_left (by omega)]
            rw [e]; exact this
          · obtain rfl : i = k := by omega
            have e : (L ++ [A]).getD i AggV.zero = A := by rw [List.getD_eq_getElem?_getD, List.getElem?_append_right (by omega), hL, Nat.sub_self]; rfl
            rw [e]; exact hcA
    obtain ⟨L, hL, hok, hc⟩ := build len (by omega)
    subst hL
    refine ⟨L, some x, m, rfl, hok, by omega, fun hne => ?_⟩
    obtain ⟨b, o, s⟩ := x
    have h0 := (hc 0 (by cases L with | nil => exact absurd rfl hne | cons a l => exact Nat.succ_pos _)).1
    rw [Nat.zero_mul] at h0
    have hs : s = none := by simpa [Addr.add] using World.cell?_spot h0
    subst hs
    refine ⟨b, o, rfl, World.block_lt_of_cell? W _ h0, fun j hj => ?_⟩
    have := hc j hj
    simp only [add_at] at this
    exact this
end
end Go.Proofs.Ytagpamgdgcghfaa
