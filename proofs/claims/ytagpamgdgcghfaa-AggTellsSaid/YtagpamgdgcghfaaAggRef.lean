/-
  The contracts of sedimentref1's aggregates.
-/
import Derived.Test.YtagpamgdgcghfaaAggBack
import Derived.Test.YtagpamgdgcghfaaAggSum
import Derived.Test.YtagpamgdgcghfaaAggAlg
import Derived.Test.YtagpamgdgcghfaaRef1
import Derived.Lib.MinMax
namespace Go.Proofs.Ytagpamgdgcghfaa
open Go.RowKit
set_option linter.unusedVariables false
set_option linter.unusedSimpArgs false

set_option maxHeartbeats 400000 in
theorem rvalid_any (c hi lo mn mx : Int) (w : World) :
    Calls Try.prog 25 #[.agg #[.int .i64 c, .int .i64 hi, .int .u64 lo, .int .i64 mn, .int .i64 mx]] w (RetB w (.bool (AggV.valid ⟨c, hi, lo, mn, mx⟩))) := by
  have R : ∀ b, b = AggV.valid ⟨c, hi, lo, mn, mx⟩ → RetB w (.bool (AggV.valid ⟨c, hi, lo, mn, mx⟩)) (.returned (.bool b)) (w.alloc (.cells #[.int .i64 c, .int .i64 hi, .int .u64 lo, .int .i64 mn, .int .i64 mx] 26)) := fun b hb => ⟨by rw [hb], bel_alloc (Below.refl _ _) (Nat.le_refl _)⟩
  have H := Lib.hid R; clear R
  by_cases h1 : 1 ≤ c
  · by_cases h2 : c ≤ 4611686018427387904
    · by_cases h3 : mn ≤ mx
      · go_enter Try.func25, Try.ntmps25
        go_wp2
        all_goals go_ret
        all_goals refine H.out _ ?_
        all_goals simp [AggV.valid]; omega
      · go_enter Try.func25, Try.ntmps25
        go_wp2
        all_goals go_ret
        all_goals refine H.out _ ?_
        all_goals simp [AggV.valid]; omega
    · go_enter Try.func25, Try.ntmps25
      go_wp2
      all_goals go_ret
      all_goals refine H.out _ ?_
      all_goals simp [AggV.valid]; omega
  · go_enter Try.func25, Try.ntmps25
    go_wp2
    all_goals go_ret
    all_goals refine H.out _ ?_
    all_goals simp [AggV.valid]; omega
theorem rvalid_val (a : AggV) (w : World) : Calls Try.prog 25 #[a.val] w (RetB w (.bool a.valid)) := rvalid_any a.c a.hi a.lo a.mn a.mx w

set_option maxHeartbeats 400000 in
theorem rone_any (v : Int) (w : World) (h : -9223372036854775808 ≤ v ∧ v ≤ 9223372036854775807) :
    Calls Try.prog 20 #[.int .i64 v] w (RetB w (aone v).val) := by
  have HU := Lib.hid (u64_wrapd v)
  by_cases h0 : v < 0
  · have hE : aone v = ⟨1, -1, u64of v, v, v⟩ := by unfold aone u64of; rw [if_pos h0]
    rw [hE]
    clear hE
    go_enter Try.func20, Try.ntmps20
    go_wp2
    rw [HU.out]
    exact bodyPost_ret (v := AggV.val ⟨1, -1, u64of v, v, v⟩) (by simp [results, Try.results20, go_sem, AggV.val]) rfl ⟨rfl, bel_new _ _⟩
  · have hE : aone v = ⟨1, 0, u64of v, v, v⟩ := by unfold aone u64of; rw [if_neg h0]
    rw [hE, show u64of v = v by unfold u64of; omega]
    clear hE
    go_enter Try.func20, Try.ntmps20
    go_wp2
    exact bodyPost_ret (v := AggV.val ⟨1, 0, v, v, v⟩) (by simp [results, Try.results20, go_sem, AggV.val]) rfl ⟨rfl, bel_new _ _⟩

/-- Three boxes: two arguments and the result. -/
structure Tri (w0 w : World) (A B : AggV) : Prop where
  a : w.heap[w0.heap.size]? = some (.cells #[.int .i64 A.c, .int .i64 A.hi, .int .u64 A.lo, .int .i64 A.mn, .int .i64 A.mx] 26)
  b : w.heap[w0.heap.size + 1]? = some (.cells #[.int .i64 B.c, .int .i64 B.hi, .int .u64 B.lo, .int .i64 B.mn, .int .i64 B.mx] 26)
  r : w.heap[w0.heap.size + 1 + 1]? = some (.cells #[.int .i64 AggV.zero.c, .int .i64 AggV.zero.hi, .int .u64 AggV.zero.lo, .int .i64 AggV.zero.mn, .int .i64 AggV.zero.mx] 26)
  bel : Below w0.heap.size w0 w
theorem Tri.step {w0 w w' : World} {A B : AggV} (h : Tri w0 w A B) (hb : Below w.heap.size w w') : Tri w0 w' A B :=
  ⟨heap_step h.a hb, heap_step h.b hb, heap_step h.r hb, chain h.bel hb⟩
theorem Tri.cells {w0 w : World} {A B : AggV} (h : Tri w0 w A B) : (w.cell? ⟨w0.heap.size, 0, none⟩ = some (.int .i64 A.c) ∧ w.cell? ⟨w0.heap.size, 1, none⟩ = some (.int .i64 A.hi) ∧ w.cell? ⟨w0.heap.size, 2, none⟩ = some (.int .u64 A.lo) ∧ w.cell? ⟨w0.heap.size, 3, none⟩ = some (.int .i64 A.mn) ∧ w.cell? ⟨w0.heap.size, 4, none⟩ = some (.int .i64 A.mx)) ∧ (w.cell? ⟨w0.heap.size + 1, 0, none⟩ = some (.int .i64 B.c) ∧ w.cell? ⟨w0.heap.size + 1, 1, none⟩ = some (.int .i64 B.hi) ∧ w.cell? ⟨w0.heap.size + 1, 2, none⟩ = some (.int .u64 B.lo) ∧ w.cell? ⟨w0.heap.size + 1, 3, none⟩ = some (.int .i64 B.mn) ∧ w.cell? ⟨w0.heap.size + 1, 4, none⟩ = some (.int .i64 B.mx)) ∧ (w.cell? ⟨w0.heap.size + 1 + 1, 0, none⟩ = some (.int .i64 AggV.zero.c) ∧ w.cell? ⟨w0.heap.size + 1 + 1, 1, none⟩ = some (.int .i64 AggV.zero.hi) ∧ w.cell? ⟨w0.heap.size + 1 + 1, 2, none⟩ = some (.int .u64 AggV.zero.lo) ∧ w.cell? ⟨w0.heap.size + 1 + 1, 3, none⟩ = some (.int .i64 AggV.zero.mn) ∧ w.cell? ⟨w0.heap.size + 1 + 1, 4, none⟩ = some (.int .i64 AggV.zero.mx)) ∧ w.frozen? ⟨w0.heap.size + 1 + 1, 0, none⟩ = false ∧ w.frozen? ⟨w0.heap.size + 1 + 1, 1, none⟩ = false ∧ w.frozen? ⟨w0.heap.size + 1 + 1, 2, none⟩ = false ∧ w.frozen? ⟨w0.heap.size + 1 + 1, 3, none⟩ = false ∧ w.frozen? ⟨w0.heap.size + 1 + 1, 4, none⟩ = false :=
  ⟨agg_cells h.a, agg_cells h.b, agg_cells h.r, frozen_row h.r, frozen_row h.r, frozen_row h.r, frozen_row h.r, frozen_row h.r⟩
theorem tri_new (w : World) (A B : AggV) : Tri w (((w.alloc (.cells #[.int .i64 A.c, .int .i64 A.hi, .int .u64 A.lo, .int .i64 A.mn, .int .i64 A.mx] 26)).alloc (.cells #[.int .i64 B.c, .int .i64 B.hi, .int .u64 B.lo, .int .i64 B.mn, .int .i64 B.mx] 26)).alloc (.cells #[.int .i64 AggV.zero.c, .int .i64 AggV.zero.hi, .int .u64 AggV.zero.lo, .int .i64 AggV.zero.mn, .int .i64 AggV.zero.mx] 26)) A B := by
  refine ⟨?_, ?_, ?_, bel_alloc (bel_alloc (bel_alloc (Below.refl _ _) (Nat.le_refl _)) (by simp)) (by simp <;> omega)⟩
  · rw [Below.heap_alloc _ _ _ (by simp <;> omega), Below.heap_alloc _ _ _ (by simp)]; exact heap_alloc_new _ _
  · rw [Below.heap_alloc _ _ _ (by simp)]; exact heap_new_at (by simp)
  · exact heap_new_at (by simp)

set_option maxRecDepth 100000 in
set_option maxHeartbeats 1000000 in
theorem rmerge_a0 (A B : AggV) (w : World) (vA : A.valid = false) : Calls Try.prog 19 #[A.val, B.val] w (RetB w (m2 A B).val) := by
  have T0 := Lib.hid (tri_new w A B)
  cases vB : B.valid
  · have hE : m2 A B = AggV.zero := by unfold m2; rw [vA, vB]; rfl
    show Calls Try.prog 19 #[.agg #[.int .i64 A.c, .int .i64 A.hi, .int .u64 A.lo, .int .i64 A.mn, .int .i64 A.mx], .agg #[.int .i64 B.c, .int .i64 B.hi, .int .u64 B.lo, .int .i64 B.mn, .int .i64 B.mx]] w _
    go_enter Try.func19, Try.ntmps19
    obtain ⟨⟨c0, c1, c2, c3, c4⟩, ⟨d0, d1, d2, d3, d4⟩, ⟨e0, e1, e2, e3, e4⟩, f0, f1, f2, f3, f4⟩ := T0.out.cells
    go_wp2_with fail
    refine (rvalid_val A _).mono ?_
    rintro e w1 ⟨rfl, hb⟩
    have T1 := Lib.hid (T0.out.step hb)
    clear c0 c1 c2 c3 c4 d0 d1 d2 d3 d4 e0 e1 e2 e3 e4 f0 f1 f2 f3 f4
    clear hb
    rw [vA]
    obtain ⟨⟨c0, c1, c2, c3, c4⟩, ⟨d0, d1, d2, d3, d4⟩, ⟨e0, e1, e2, e3, e4⟩, f0, f1, f2, f3, f4⟩ := T1.out.cells
    go_wp2_with fail
    refine (rvalid_val B _).mono ?_
    rintro e w2 ⟨rfl, hb⟩
    have T2 := Lib.hid (T1.out.step hb)
    clear c0 c1 c2 c3 c4 d0 d1 d2 d3 d4 e0 e1 e2 e3 e4 f0 f1 f2 f3 f4
    clear hb
    rw [vB]
    obtain ⟨⟨c0, c1, c2, c3, c4⟩, ⟨d0, d1, d2, d3, d4⟩, ⟨e0, e1, e2, e3, e4⟩, f0, f1, f2, f3, f4⟩ := T2.out.cells
    go_wp2
    have hR := agg_set AggV.zero T2.out.r
    obtain ⟨q0, q1, q2, q3, q4⟩ := agg_cells hR
    (try simp only [AggV.zero] at q0 q1 q2 q3 q4)
    refine bodyPost_ret (v := AggV.val AggV.zero) (by simp [results, Try.results19, go_sem, q0, q1, q2, q3, q4, AggV.val, AggV.zero]) rfl ⟨by rw [hE]; (try rfl), agg_set_bel AggV.zero T2.out.bel (by omega)⟩
  · have hE : m2 A B = B := by unfold m2; rw [vA, vB]; rfl
    have HE := Lib.hid hE
    clear hE
    show Calls Try.prog 19 #[.agg #[.int .i64 A.c, .int .i64 A.hi, .int .u64 A.lo, .int .i64 A.mn, .int .i64 A.mx], .agg #[.int .i64 B.c, .int .i64 B.hi, .int .u64 B.lo, .int .i64 B.mn, .int .i64 B.mx]] w _
    go_enter Try.func19, Try.ntmps19
    obtain ⟨⟨c0, c1, c2, c3, c4⟩, ⟨d0, d1, d2, d3, d4⟩, ⟨e0, e1, e2, e3, e4⟩, f0, f1, f2, f3, f4⟩ := T0.out.cells
    go_wp2_with fail
    refine (rvalid_val A _).mono ?_
    rintro e w1 ⟨rfl, hb⟩
    have T1 := Lib.hid (T0.out.step hb)
    clear c0 c1 c2 c3 c4 d0 d1 d2 d3 d4 e0 e1 e2 e3 e4 f0 f1 f2 f3 f4
    clear hb
    rw [vA]
    obtain ⟨⟨c0, c1, c2, c3, c4⟩, ⟨d0, d1, d2, d3, d4⟩, ⟨e0, e1, e2, e3, e4⟩, f0, f1, f2, f3, f4⟩ := T1.out.cells
    go_wp2_with fail
    refine (rvalid_val B _).mono ?_
    rintro e w2 ⟨rfl, hb⟩
    have T2 := Lib.hid (T1.out.step hb)
    clear c0 c1 c2 c3 c4 d0 d1 d2 d3 d4 e0 e1 e2 e3 e4 f0 f1 f2 f3 f4
    clear hb
    rw [vB]
    obtain ⟨⟨c0, c1, c2, c3, c4⟩, ⟨d0, d1, d2, d3, d4⟩, ⟨e0, e1, e2, e3, e4⟩, f0, f1, f2, f3, f4⟩ := T2.out.cells
    go_wp2_with fail
    refine (rvalid_val A _).mono ?_
    rintro e w3 ⟨rfl, hb⟩
    have T3 := Lib.hid (T2.out.step hb)
    clear c0 c1 c2 c3 c4 d0 d1 d2 d3 d4 e0 e1 e2 e3 e4 f0 f1 f2 f3 f4
    clear hb
    rw [vA]
    obtain ⟨⟨c0, c1, c2, c3, c4⟩, ⟨d0, d1, d2, d3, d4⟩, ⟨e0, e1, e2, e3, e4⟩, f0, f1, f2, f3, f4⟩ := T3.out.cells
    go_wp2
    have hR := agg_set B T3.out.r
    obtain ⟨q0, q1, q2, q3, q4⟩ := agg_cells hR
    (try simp only [AggV.zero] at q0 q1 q2 q3 q4)
    refine bodyPost_ret (v := AggV.val B) (by simp [results, Try.results19, go_sem, q0, q1, q2, q3, q4, AggV.val, AggV.zero]) rfl ⟨by rw [HE.out]; (try rfl), agg_set_bel B T3.out.bel (by omega)⟩
set_option maxRecDepth 100000 in
set_option maxHeartbeats 1000000 in
theorem rmerge_b0 (A B : AggV) (w : World) (vA : A.valid = true) (vB : B.valid = false) : Calls Try.prog 19 #[A.val, B.val] w (RetB w (m2 A B).val) := by
  have T0 := Lib.hid (tri_new w A B)
  have hE : m2 A B = A := by unfold m2; rw [vA, vB]; rfl
  have HE := Lib.hid hE
  clear hE
  show Calls Try.prog 19 #[.agg #[.int .i64 A.c, .int .i64 A.hi, .int .u64 A.lo, .int .i64 A.mn, .int .i64 A.mx], .agg #[.int .i64 B.c, .int .i64 B.hi, .int .u64 B.lo, .int .i64 B.mn, .int .i64 B.mx]] w _
  go_enter Try.func19, Try.ntmps19
  obtain ⟨⟨c0, c1, c2, c3, c4⟩, ⟨d0, d1, d2, d3, d4⟩, ⟨e0, e1, e2, e3, e4⟩, f0, f1, f2, f3, f4⟩ := T0.out.cells
  go_wp2_with fail
  refine (rvalid_val A _).mono ?_
  rintro e w1 ⟨rfl, hb⟩
  have T1 := Lib.hid (T0.out.step hb)
  clear c0 c1 c2 c3 c4 d0 d1 d2 d3 d4 e0 e1 e2 e3 e4 f0 f1 f2 f3 f4
  clear hb
  rw [vA]
  obtain ⟨⟨c0, c1, c2, c3, c4⟩, ⟨d0, d1, d2, d3, d4⟩, ⟨e0, e1, e2, e3, e4⟩, f0, f1, f2, f3, f4⟩ := T1.out.cells
  go_wp2_with fail
  refine (rvalid_val A _).mono ?_
  rintro e w2 ⟨rfl, hb⟩
  have T2 := Lib.hid (T1.out.step hb)
  clear c0 c1 c2 c3 c4 d0 d1 d2 d3 d4 e0 e1 e2 e3 e4 f0 f1 f2 f3 f4
  clear hb
  rw [vA]
  obtain ⟨⟨c0, c1, c2, c3, c4⟩, ⟨d0, d1, d2, d3, d4⟩, ⟨e0, e1, e2, e3, e4⟩, f0, f1, f2, f3, f4⟩ := T2.out.cells
  go_wp2_with fail
  refine (rvalid_val B _).mono ?_
  rintro e w3 ⟨rfl, hb⟩
  have T3 := Lib.hid (T2.out.step hb)
  clear c0 c1 c2 c3 c4 d0 d1 d2 d3 d4 e0 e1 e2 e3 e4 f0 f1 f2 f3 f4
  clear hb
  rw [vB]
  obtain ⟨⟨c0, c1, c2, c3, c4⟩, ⟨d0, d1, d2, d3, d4⟩, ⟨e0, e1, e2, e3, e4⟩, f0, f1, f2, f3, f4⟩ := T3.out.cells
  go_wp2
  have hR := agg_set A T3.out.r
  obtain ⟨q0, q1, q2, q3, q4⟩ := agg_cells hR
  (try simp only [AggV.zero] at q0 q1 q2 q3 q4)
  refine bodyPost_ret (v := AggV.val A) (by simp [results, Try.results19, go_sem, q0, q1, q2, q3, q4, AggV.val, AggV.zero]) rfl ⟨by rw [HE.out]; (try rfl), agg_set_bel A T3.out.bel (by omega)⟩

theorem rmerge_plain (A B : AggV) (hA : A.ok) (hB : B.ok) (vA : A.valid = true) (vB : B.valid = true) : m2 A B = ⟨if A.c ≤ 4611686018427387904 - B.c then A.c + B.c else 4611686018427387904,
    if 18446744073709551616 ≤ A.lo + B.lo then wrap64 (wrap64 (A.hi + B.hi) + 1) else wrap64 (A.hi + B.hi), if 18446744073709551616 ≤ A.lo + B.lo then A.lo + B.lo - 18446744073709551616 else A.lo + B.lo,
    min A.mn B.mn, max A.mx B.mx⟩ := by
  unfold m2
  rw [vA, vB]
  rw [valid_iff] at vA vB
  unfold AggV.ok at hA hB
  simp only [if_true]
  unfold aboth
  rw [if_neg (by omega), show w64 (4611686018427387904 - B.c) = 4611686018427387904 - B.c by unfold w64; omega]
  simp only [AggV.mk.injEq]
  refine ⟨?_, ?_, ?_, trivial, trivial⟩
  · by_cases h : A.c ≤ 4611686018427387904 - B.c
    · rw [if_pos h]; unfold w64; split <;> omega
    · rw [if_neg h, if_neg (by omega)]
  · unfold w64 wrap64; split <;> omega
  · split <;> omega

set_option maxRecDepth 100000 in
set_option maxHeartbeats 4000000 in
theorem rmerge_both (A B : AggV) (w : World) (hA : A.ok) (hB : B.ok) (vA : A.valid = true) (vB : B.valid = true) : Calls Try.prog 19 #[A.val, B.val] w (RetB w (m2 A B).val) := by
  have T0 := Lib.hid (tri_new w A B)
  have hE := rmerge_plain A B hA hB vA vB
  have VA := Lib.hid vA
  have VB := Lib.hid vB
  have HA := Lib.hid hA
  have HB := Lib.hid hB
  unfold AggV.ok at hA hB
  obtain ⟨a1, a2, a3, a4, a5⟩ := hA
  obtain ⟨b1, b2, b3, b4, b5⟩ := hB
  rw [valid_iff] at vA vB
  obtain ⟨v1, v2, v3⟩ := vA
  obtain ⟨v4, v5, v6⟩ := vB
  have hu := u64_wrapd (A.lo + B.lo)
  unfold u64of at hu
  have c1 : 18446744073709551616 ≤ A.lo + B.lo → IntKind.u64.wrap (A.lo + B.lo) < A.lo ∧ IntKind.u64.wrap (A.lo + B.lo) = A.lo + B.lo - 18446744073709551616 := fun h => by omega
  have c2 : ¬ 18446744073709551616 ≤ A.lo + B.lo → A.lo ≤ A.lo + B.lo ∧ A.lo + B.lo ≤ 18446744073709551615 := fun h => by omega
  have C1 := Lib.hid c1
  have C2 := Lib.hid c2
  clear hu c1 c2
  by_cases q2 : 18446744073709551616 ≤ A.lo + B.lo
  · obtain ⟨g1, g2⟩ := C1.out q2
    have G2 := Lib.hid g2
    clear g2
    by_cases q1 : A.c ≤ 4611686018427387904 - B.c
    · simp only [q1, q2, if_true, if_false] at hE
      rw [← G2.out] at hE
      have HE := Lib.hid hE
      clear hE q2
      show Calls Try.prog 19 #[.agg #[.int .i64 A.c, .int .i64 A.hi, .int .u64 A.lo, .int .i64 A.mn, .int .i64 A.mx], .agg #[.int .i64 B.c, .int .i64 B.hi, .int .u64 B.lo, .int .i64 B.mn, .int .i64 B.mx]] w _
      go_enter Try.func19, Try.ntmps19
      obtain ⟨⟨c0, c1, c2, c3, c4⟩, ⟨d0, d1, d2, d3, d4⟩, ⟨e0, e1, e2, e3, e4⟩, f0, f1, f2, f3, f4⟩ := T0.out.cells
      go_wp2_with fail
      refine (rvalid_val A _).mono ?_
      rintro e w1 ⟨rfl, hb⟩
      have T1 := Lib.hid (T0.out.step hb)
      clear c0 c1 c2 c3 c4 d0 d1 d2 d3 d4 e0 e1 e2 e3 e4 f0 f1 f2 f3 f4
      clear hb
      rw [VA.out]
      obtain ⟨⟨c0, c1, c2, c3, c4⟩, ⟨d0, d1, d2, d3, d4⟩, ⟨e0, e1, e2, e3, e4⟩, f0, f1, f2, f3, f4⟩ := T1.out.cells
      go_wp2_with fail
      refine (rvalid_val A _).mono ?_
      rintro e w2 ⟨rfl, hb⟩
      have T2 := Lib.hid (T1.out.step hb)
      clear c0 c1 c2 c3 c4 d0 d1 d2 d3 d4 e0 e1 e2 e3 e4 f0 f1 f2 f3 f4
      clear hb
      rw [VA.out]
      obtain ⟨⟨c0, c1, c2, c3, c4⟩, ⟨d0, d1, d2, d3, d4⟩, ⟨e0, e1, e2, e3, e4⟩, f0, f1, f2, f3, f4⟩ := T2.out.cells
      go_wp2_with fail
      refine (rvalid_val B _).mono ?_
      rintro e w3 ⟨rfl, hb⟩
      have T3 := Lib.hid (T2.out.step hb)
      clear c0 c1 c2 c3 c4 d0 d1 d2 d3 d4 e0 e1 e2 e3 e4 f0 f1 f2 f3 f4
      clear hb
      rw [VB.out]
      obtain ⟨⟨c0, c1, c2, c3, c4⟩, ⟨d0, d1, d2, d3, d4⟩, ⟨e0, e1, e2, e3, e4⟩, f0, f1, f2, f3, f4⟩ := T3.out.cells
      have l0 := heap_lt T3.out.a
      have l1 := heap_lt T3.out.b
      have l2 := heap_lt T3.out.r
      go_wp2
      have hR := heap_step (agg_set ⟨A.c + B.c, wrap64 (wrap64 (A.hi + B.hi) + 1), IntKind.u64.wrap (A.lo + B.lo), min A.mn B.mn, max A.mx B.mx⟩ T3.out.r) (bel_new _ (.cells #[.int .i64 (A.c + B.c), .int .i64 (wrap64 (wrap64 (A.hi + B.hi) + 1)), .int .u64 (IntKind.u64.wrap (A.lo + B.lo)), .int .i64 (min A.mn B.mn), .int .i64 (max A.mx B.mx)] 26))
      obtain ⟨q0, q1, q2, q3, q4⟩ := agg_cells hR
      dsimp only at q0 q1 q2 q3 q4
      refine bodyPost_ret (v := AggV.val ⟨A.c + B.c, wrap64 (wrap64 (A.hi + B.hi) + 1), IntKind.u64.wrap (A.lo + B.lo), min A.mn B.mn, max A.mx B.mx⟩) (by simp [results, Try.results19, go_sem, q0, q1, q2, q3, q4, AggV.val]) rfl ⟨by rw [HE.out], bel_alloc (agg_set_bel (b := w.heap.size + 1 + 1) ⟨A.c + B.c, wrap64 (wrap64 (A.hi + B.hi) + 1), IntKind.u64.wrap (A.lo + B.lo), min A.mn B.mn, max A.mx B.mx⟩ T3.out.bel (by omega)) (by simp [World.setCell]; omega)⟩
    · simp only [q1, q2, if_true, if_false] at hE
      rw [← G2.out] at hE
      have HE := Lib.hid hE
      clear hE q2
      show Calls Try.prog 19 #[.agg #[.int .i64 A.c, .int .i64 A.hi, .int .u64 A.lo, .int .i64 A.mn, .int .i64 A.mx], .agg #[.int .i64 B.c, .int .i64 B.hi, .int .u64 B.lo, .int .i64 B.mn, .int .i64 B.mx]] w _
      go_enter Try.func19, Try.ntmps19
      obtain ⟨⟨c0, c1, c2, c3, c4⟩, ⟨d0, d1, d2, d3, d4⟩, ⟨e0, e1, e2, e3, e4⟩, f0, f1, f2, f3, f4⟩ := T0.out.cells
      go_wp2_with fail
      refine (rvalid_val A _).mono ?_
      rintro e w1 ⟨rfl, hb⟩
      have T1 := Lib.hid (T0.out.step hb)
      clear c0 c1 c2 c3 c4 d0 d1 d2 d3 d4 e0 e1 e2 e3 e4 f0 f1 f2 f3 f4
      clear hb
      rw [VA.out]
      obtain ⟨⟨c0, c1, c2, c3, c4⟩, ⟨d0, d1, d2, d3, d4⟩, ⟨e0, e1, e2, e3, e4⟩, f0, f1, f2, f3, f4⟩ := T1.out.cells
      go_wp2_with fail
      refine (rvalid_val A _).mono ?_
      rintro e w2 ⟨rfl, hb⟩
      have T2 := Lib.hid (T1.out.step hb)
      clear c0 c1 c2 c3 c4 d0 d1 d2 d3 d4 e0 e1 e2 e3 e4 f0 f1 f2 f3 f4
      clear hb
      rw [VA.out]
      obtain ⟨⟨c0, c1, c2, c3, c4⟩, ⟨d0, d1, d2, d3, d4⟩, ⟨e0, e1, e2, e3, e4⟩, f0, f1, f2, f3, f4⟩ := T2.out.cells
      go_wp2_with fail
      refine (rvalid_val B _).mono ?_
      rintro e w3 ⟨rfl, hb⟩
      have T3 := Lib.hid (T2.out.step hb)
      clear c0 c1 c2 c3 c4 d0 d1 d2 d3 d4 e0 e1 e2 e3 e4 f0 f1 f2 f3 f4
      clear hb
      rw [VB.out]
      obtain ⟨⟨c0, c1, c2, c3, c4⟩, ⟨d0, d1, d2, d3, d4⟩, ⟨e0, e1, e2, e3, e4⟩, f0, f1, f2, f3, f4⟩ := T3.out.cells
      have l0 := heap_lt T3.out.a
      have l1 := heap_lt T3.out.b
      have l2 := heap_lt T3.out.r
      go_wp2
      have hR := heap_step (agg_set ⟨4611686018427387904, wrap64 (wrap64 (A.hi + B.hi) + 1), IntKind.u64.wrap (A.lo + B.lo), min A.mn B.mn, max A.mx B.mx⟩ T3.out.r) (bel_new _ (.cells #[.int .i64 (4611686018427387904), .int .i64 (wrap64 (wrap64 (A.hi + B.hi) + 1)), .int .u64 (IntKind.u64.wrap (A.lo + B.lo)), .int .i64 (min A.mn B.mn), .int .i64 (max A.mx B.mx)] 26))
      obtain ⟨q0, q1, q2, q3, q4⟩ := agg_cells hR
      dsimp only at q0 q1 q2 q3 q4
      refine bodyPost_ret (v := AggV.val ⟨4611686018427387904, wrap64 (wrap64 (A.hi + B.hi) + 1), IntKind.u64.wrap (A.lo + B.lo), min A.mn B.mn, max A.mx B.mx⟩) (by simp [results, Try.results19, go_sem, q0, q1, q2, q3, q4, AggV.val]) rfl ⟨by rw [HE.out], bel_alloc (agg_set_bel (b := w.heap.size + 1 + 1) ⟨4611686018427387904, wrap64 (wrap64 (A.hi + B.hi) + 1), IntKind.u64.wrap (A.lo + B.lo), min A.mn B.mn, max A.mx B.mx⟩ T3.out.bel (by omega)) (by simp [World.setCell]; omega)⟩
  · obtain ⟨g1, g2⟩ := C2.out q2
    have G2 : True := trivial
    by_cases q1 : A.c ≤ 4611686018427387904 - B.c
    · simp only [q1, q2, if_true, if_false] at hE
      skip
      have HE := Lib.hid hE
      clear hE q2
      show Calls Try.prog 19 #[.agg #[.int .i64 A.c, .int .i64 A.hi, .int .u64 A.lo, .int .i64 A.mn, .int .i64 A.mx], .agg #[.int .i64 B.c, .int .i64 B.hi, .int .u64 B.lo, .int .i64 B.mn, .int .i64 B.mx]] w _
      go_enter Try.func19, Try.ntmps19
      obtain ⟨⟨c0, c1, c2, c3, c4⟩, ⟨d0, d1, d2, d3, d4⟩, ⟨e0, e1, e2, e3, e4⟩, f0, f1, f2, f3, f4⟩ := T0.out.cells
      go_wp2_with fail
      refine (rvalid_val A _).mono ?_
      rintro e w1 ⟨rfl, hb⟩
      have T1 := Lib.hid (T0.out.step hb)
      clear c0 c1 c2 c3 c4 d0 d1 d2 d3 d4 e0 e1 e2 e3 e4 f0 f1 f2 f3 f4
      clear hb
      rw [VA.out]
      obtain ⟨⟨c0, c1, c2, c3, c4⟩, ⟨d0, d1, d2, d3, d4⟩, ⟨e0, e1, e2, e3, e4⟩, f0, f1, f2, f3, f4⟩ := T1.out.cells
      go_wp2_with fail
      refine (rvalid_val A _).mono ?_
      rintro e w2 ⟨rfl, hb⟩
      have T2 := Lib.hid (T1.out.step hb)
      clear c0 c1 c2 c3 c4 d0 d1 d2 d3 d4 e0 e1 e2 e3 e4 f0 f1 f2 f3 f4
      clear hb
      rw [VA.out]
      obtain ⟨⟨c0, c1, c2, c3, c4⟩, ⟨d0, d1, d2, d3, d4⟩, ⟨e0, e1, e2, e3, e4⟩, f0, f1, f2, f3, f4⟩ := T2.out.cells
      go_wp2_with fail
      refine (rvalid_val B _).mono ?_
      rintro e w3 ⟨rfl, hb⟩
      have T3 := Lib.hid (T2.out.step hb)
      clear c0 c1 c2 c3 c4 d0 d1 d2 d3 d4 e0 e1 e2 e3 e4 f0 f1 f2 f3 f4
      clear hb
      rw [VB.out]
      obtain ⟨⟨c0, c1, c2, c3, c4⟩, ⟨d0, d1, d2, d3, d4⟩, ⟨e0, e1, e2, e3, e4⟩, f0, f1, f2, f3, f4⟩ := T3.out.cells
      have l0 := heap_lt T3.out.a
      have l1 := heap_lt T3.out.b
      have l2 := heap_lt T3.out.r
      go_wp2
      have hR := heap_step (agg_set ⟨A.c + B.c, wrap64 (A.hi + B.hi), A.lo + B.lo, min A.mn B.mn, max A.mx B.mx⟩ T3.out.r) (bel_new _ (.cells #[.int .i64 (A.c + B.c), .int .i64 (wrap64 (A.hi + B.hi)), .int .u64 (A.lo + B.lo), .int .i64 (min A.mn B.mn), .int .i64 (max A.mx B.mx)] 26))
      obtain ⟨q0, q1, q2, q3, q4⟩ := agg_cells hR
      dsimp only at q0 q1 q2 q3 q4
      refine bodyPost_ret (v := AggV.val ⟨A.c + B.c, wrap64 (A.hi + B.hi), A.lo + B.lo, min A.mn B.mn, max A.mx B.mx⟩) (by simp [results, Try.results19, go_sem, q0, q1, q2, q3, q4, AggV.val]) rfl ⟨by rw [HE.out], bel_alloc (agg_set_bel (b := w.heap.size + 1 + 1) ⟨A.c + B.c, wrap64 (A.hi + B.hi), A.lo + B.lo, min A.mn B.mn, max A.mx B.mx⟩ T3.out.bel (by omega)) (by simp [World.setCell]; omega)⟩
    · simp only [q1, q2, if_true, if_false] at hE
      skip
      have HE := Lib.hid hE
      clear hE q2
      show Calls Try.prog 19 #[.agg #[.int .i64 A.c, .int .i64 A.hi, .int .u64 A.lo, .int .i64 A.mn, .int .i64 A.mx], .agg #[.int .i64 B.c, .int .i64 B.hi, .int .u64 B.lo, .int .i64 B.mn, .int .i64 B.mx]] w _
      go_enter Try.func19, Try.ntmps19
      obtain ⟨⟨c0, c1, c2, c3, c4⟩, ⟨d0, d1, d2, d3, d4⟩, ⟨e0, e1, e2, e3, e4⟩, f0, f1, f2, f3, f4⟩ := T0.out.cells
      go_wp2_with fail
      refine (rvalid_val A _).mono ?_
      rintro e w1 ⟨rfl, hb⟩
      have T1 := Lib.hid (T0.out.step hb)
      clear c0 c1 c2 c3 c4 d0 d1 d2 d3 d4 e0 e1 e2 e3 e4 f0 f1 f2 f3 f4
      clear hb
      rw [VA.out]
      obtain ⟨⟨c0, c1, c2, c3, c4⟩, ⟨d0, d1, d2, d3, d4⟩, ⟨e0, e1, e2, e3, e4⟩, f0, f1, f2, f3, f4⟩ := T1.out.cells
      go_wp2_with fail
      refine (rvalid_val A _).mono ?_
      rintro e w2 ⟨rfl, hb⟩
      have T2 := Lib.hid (T1.out.step hb)
      clear c0 c1 c2 c3 c4 d0 d1 d2 d3 d4 e0 e1 e2 e3 e4 f0 f1 f2 f3 f4
      clear hb
      rw [VA.out]
      obtain ⟨⟨c0, c1, c2, c3, c4⟩, ⟨d0, d1, d2, d3, d4⟩, ⟨e0, e1, e2, e3, e4⟩, f0, f1, f2, f3, f4⟩ := T2.out.cells
      go_wp2_with fail
      refine (rvalid_val B _).mono ?_
      rintro e w3 ⟨rfl, hb⟩
      have T3 := Lib.hid (T2.out.step hb)
      clear c0 c1 c2 c3 c4 d0 d1 d2 d3 d4 e0 e1 e2 e3 e4 f0 f1 f2 f3 f4
      clear hb
      rw [VB.out]
      obtain ⟨⟨c0, c1, c2, c3, c4⟩, ⟨d0, d1, d2, d3, d4⟩, ⟨e0, e1, e2, e3, e4⟩, f0, f1, f2, f3, f4⟩ := T3.out.cells
      have l0 := heap_lt T3.out.a
      have l1 := heap_lt T3.out.b
      have l2 := heap_lt T3.out.r
      go_wp2
      have hR := heap_step (agg_set ⟨4611686018427387904, wrap64 (A.hi + B.hi), A.lo + B.lo, min A.mn B.mn, max A.mx B.mx⟩ T3.out.r) (bel_new _ (.cells #[.int .i64 (4611686018427387904), .int .i64 (wrap64 (A.hi + B.hi)), .int .u64 (A.lo + B.lo), .int .i64 (min A.mn B.mn), .int .i64 (max A.mx B.mx)] 26))
      obtain ⟨q0, q1, q2, q3, q4⟩ := agg_cells hR
      dsimp only at q0 q1 q2 q3 q4
      refine bodyPost_ret (v := AggV.val ⟨4611686018427387904, wrap64 (A.hi + B.hi), A.lo + B.lo, min A.mn B.mn, max A.mx B.mx⟩) (by simp [results, Try.results19, go_sem, q0, q1, q2, q3, q4, AggV.val]) rfl ⟨by rw [HE.out], bel_alloc (agg_set_bel (b := w.heap.size + 1 + 1) ⟨4611686018427387904, wrap64 (A.hi + B.hi), A.lo + B.lo, min A.mn B.mn, max A.mx B.mx⟩ T3.out.bel (by omega)) (by simp [World.setCell]; omega)⟩

theorem rmerge_any (A B : AggV) (w : World) (hA : A.ok) (hB : B.ok) : Calls Try.prog 19 #[A.val, B.val] w (RetB w (m2 A B).val) := by
  cases vA : A.valid
  · exact rmerge_a0 A B w vA
  · cases vB : B.valid
    · exact rmerge_b0 A B w vA vB
    · exact rmerge_both A B w hA hB vA vB

set_option maxRecDepth 100000 in
set_option maxHeartbeats 1000000 in
theorem rvalue_any (A : AggV) (w : World) (h : A.ok) : Calls Try.prog 26 #[A.val] w (Ret2 w (.int .i64 (asum A).1) (.bool (asum A).2)) := by
  have HI : ∀ x y, x = (asum A).1 → y = (asum A).2 → Ret2 w (.int .i64 (asum A).1) (.bool (asum A).2) (.returned (.tuple #[.int .i64 x, .bool y])) (w.alloc (.cells #[.int .i64 A.c, .int .i64 A.hi, .int .u64 A.lo, .int .i64 A.mn, .int .i64 A.mx] 26)) := fun x y hx hy => ⟨by rw [hx, hy], bel_new _ _⟩
  have H := Lib.hid HI
  clear HI
  unfold AggV.ok at h
  obtain ⟨a1, a2, a3, a4, a5⟩ := h
  by_cases q1 : A.hi = 0
  · by_cases q2 : A.lo < 9223372036854775808
    · have hE : asum A = (A.lo, false) := by unfold asum w64; rw [if_pos (by rw [if_pos q2]; exact q1)]; simp; omega
      have HE := Lib.hid hE
      have q3 : (A.hi == 0) = true := by simpa using q1
      have hw : wrap64 A.lo = A.lo := by unfold wrap64; omega
      have HW := Lib.hid hw
      clear hE q1 hw
      simp only [AggV.val]
      go_enter Try.func26, Try.ntmps26
      go_wp2
      go_ret2
      exact H.out _ _ (by rw [HE.out]) (by rw [HE.out])
    · have hE : asum A = (9223372036854775807, true) := by unfold asum; rw [if_neg (by rw [if_neg q2]; omega), if_neg (by omega)]
      have HE := Lib.hid hE
      have q3 : (A.hi == 0) = true := by simpa using q1
      have q4 : (A.hi == -1) = false := by simp; omega
      have q5 : ¬ A.hi < 0 := by omega
      clear hE q1
      simp only [AggV.val]
      go_enter Try.func26, Try.ntmps26
      go_wp2
      go_ret2
      exact H.out _ _ (by rw [HE.out]) (by rw [HE.out])
  · have q3 : (A.hi == 0) = false := by simpa using q1
    by_cases q4 : A.hi = -1
    · have q5 : (A.hi == -1) = true := by simpa using q4
      by_cases q2 : A.lo < 9223372036854775808
      · have hE : asum A = (-9223372036854775808, true) := by unfold asum; rw [if_neg (by rw [if_pos q2]; omega), if_pos (by omega)]
        have HE := Lib.hid hE
        have q6 : A.hi < 0 := by omega
        clear hE q1 q4
        simp only [AggV.val]
        go_enter Try.func26, Try.ntmps26
        go_wp2
        go_ret2
        exact H.out _ _ (by rw [HE.out]) (by rw [HE.out])
      · have hE : asum A = (w64 A.lo, false) := by unfold asum; rw [if_pos (by rw [if_neg q2]; exact q4)]
        have HE := Lib.hid hE
        have hw : wrap64 A.lo = w64 A.lo := by unfold wrap64 w64; rfl
        have HW := Lib.hid hw
        clear hE q1 q4 hw
        simp only [AggV.val]
        go_enter Try.func26, Try.ntmps26
        go_wp2
        go_ret2
        exact H.out _ _ (by rw [HE.out]; exact HW.out) (by rw [HE.out])
    · have q5 : (A.hi == -1) = false := by simpa using q4
      have hn : ¬ A.hi = (if A.lo < 9223372036854775808 then 0 else -1) := by split <;> omega
      by_cases q6 : A.hi < 0
      · have hE : asum A = (-9223372036854775808, true) := by unfold asum; rw [if_neg hn, if_pos q6]
        have HE := Lib.hid hE
        clear hE q1 q4 hn
        simp only [AggV.val]
        go_enter Try.func26, Try.ntmps26
        go_wp2
        go_ret2
        exact H.out _ _ (by rw [HE.out]) (by rw [HE.out])
      · have hE : asum A = (9223372036854775807, true) := by unfold asum; rw [if_neg hn, if_neg q6]
        have HE := Lib.hid hE
        clear hE q1 q4 hn
        simp only [AggV.val]
        go_enter Try.func26, Try.ntmps26
        go_wp2
        go_ret2
        exact H.out _ _ (by rw [HE.out]) (by rw [HE.out])
set_option maxHeartbeats 400000 in
theorem rmean_any (A : AggV) (w : World) (h : A.ok) :
    Calls Try.prog 27 #[A.val] w (RetB w (.int .i64 (amean A))) := by
  have hs := asum_in A
  have HM : Hid (amean A = if A.valid then (if (asum A).2 then (asum A).1 else (asum A).1.tdiv A.c) else 0) := rfl
  have HH := Lib.hid h
  by_cases hv : A.valid = true
  · rw [if_pos hv] at HM
    have hc : 1 ≤ A.c := by simp [AggV.valid] at hv; omega
    obtain ⟨s, hs1⟩ : ∃ s, s = (asum A).1 := ⟨_, rfl⟩
    obtain ⟨o, ho1⟩ : ∃ o, o = (asum A).2 := ⟨_, rfl⟩
    rw [← hs1] at hs
    rw [← hs1, ← ho1] at HM
    have HS := Lib.hid hs1
    have HO := Lib.hid ho1
    have HV := Lib.hid hv
    clear hs1 ho1 hv
    have hc2 := h.1
    have hc0 : (A.c == 0) = false := by simp; omega
    clear h
    simp only [AggV.val]
    go_enter Try.func27, Try.ntmps27
    go_wp2_with fail
    refine (rvalid_val A _).mono ?_
    rintro e w1 ⟨rfl, hb1⟩
    rw [HV.out]
    have hA : (w.alloc (.cells #[.int .i64 A.c, .int .i64 A.hi, .int .u64 A.lo, .int .i64 A.mn, .int .i64 A.mx] 26)).heap[w.heap.size]? = _ := heap_alloc_new _ _
    have hA1 := heap_step hA hb1
    obtain ⟨c0, c1, c2, c3, c4⟩ := agg_cells hA1
    have HA1 := Lib.hid hA1
    clear hA hA1
    go_wp2_with fail
    refine (rvalue_any A _ HH.out).mono ?_
    rintro e w2 ⟨rfl, hb2⟩
    rw [← HS.out, ← HO.out]
    have hA2 := heap_step HA1.out hb2
    clear c0 c1 c2 c3 c4
    obtain ⟨c0, c1, c2, c3, c4⟩ := agg_cells hA2
    have hb : Below w.heap.size w w2 := bel_step (bel_step (bel_alloc (Below.refl _ _) (Nat.le_refl _)) hb1 (by simp)) hb2 (by have := hb1.size; simp at this; omega)
    cases o
    · go_wp2
      go_ret
      rw [HM.out]
      exact ⟨ret_int (by simp), hb⟩
    · go_wp2
      go_ret
      rw [HM.out]
      exact ⟨ret_int (by simp), hb⟩
  · rw [if_neg hv] at HM
    have HV : Hid (A.valid = false) := Lib.hid (by simpa using hv)
    clear hv hs h
    simp only [AggV.val]
    go_enter Try.func27, Try.ntmps27
    go_wp2_with fail
    refine (rvalid_val A _).mono ?_
    rintro e w1 ⟨rfl, hb1⟩
    rw [HV.out]
    go_wp2
    go_ret
    rw [HM.out]
    exact ⟨rfl, bel_step (bel_alloc (Below.refl _ _) (Nat.le_refl _)) hb1 (by simp)⟩


def RPutRes (A : AggV) : Value := if A.valid = true then .tuple #[.string (strOf (putBytes A)), .int .i64 0] else .tuple #[.string ByteArray.empty, .int .i64 1]
/-- Where PutAgg stands. -/
structure RPS (w0 : World) (A : AggV) (p : Nat) (l : List UInt8) (w : World) : Prop where
  pk : RPackAt w p 0 l
  b : w.heap[w0.heap.size]? = some (.cells #[.int .i64 A.c, .int .i64 A.hi, .int .u64 A.lo, .int .i64 A.mn, .int .i64 A.mx] 26)
  bel : Below w0.heap.size w0 w
  lt : w0.heap.size < p
theorem RPS.step {w0 w w'' : World} {A : AggV} {p : Nat} {l l' : List UInt8} (h : RPS w0 A p l w) (hs : RPackStep p w w'') (hP : RPackAt w'' p 0 l') : RPS w0 A p l' w'' := by
  have h1 := hs.below h.pk
  exact ⟨hP, below_at h1 h.lt h.b, h.bel.trans (h1.mono (Nat.le_of_lt h.lt)), h.lt⟩
theorem rput_conv {w : World} {p : Nat} {l : List UInt8} (hP : RPackAt w p 0 l) : ∃ vb, w.cell? ⟨p, 0, none⟩ = some vb ∧ (convert 54 9 vb).run Try.prog w = .ok (.string (strOf l)) w := by
  obtain ⟨vb, hblk, hown⟩ := hP
  refine ⟨vb, by rw [cell_of_row w p _ _ _ _ hblk]; rfl, ?_⟩
  rcases hown.2 with ⟨rfl, hl⟩ | ⟨g, cap, cur, rfl, _, hg, _, _, _, htake⟩
  · have hl' : l = [] := List.eq_nil_of_length_eq_zero hl
    subst hl'
    exact run_convert_bytes_nil (P := Try.prog) w 54 5 Try.underlying54 Try.underlying5 0 0 9 Try.underlying9
  · have hcv := run_convert_bytes_arg w 54 5 Try.underlying54 Try.underlying5 g 0 l.length cap (l.map fun b => (b.toNat : Int)) (by simp) (fun i hi => by
      rw [Nat.zero_add, cell_of_row w g _ _ _ _ hg]
      have h1 := congrArg (fun x => x[i]?) htake
      simp only [List.getElem?_take, Nat.mul_one, hi, if_true, List.getElem?_map] at h1
      rw [Array.getElem?_toList] at h1
      rw [h1]; simp [hi, byteV]) 9 Try.underlying9
    rw [strOfNums_bytes] at hcv
    exact hcv

set_option maxRecDepth 100000 in
set_option maxHeartbeats 1000000 in
theorem rput_any (A : AggV) (w : World) (hok : A.ok) : Calls Try.prog 24 #[A.val] w (RetB w (RPutRes A)) := by
  have HOK := Lib.hid hok
  clear hok
  cases hA : A.valid
  · have hE : RPutRes A = .tuple #[.string ByteArray.empty, .int .i64 1] := by unfold RPutRes; rw [hA]; rfl
    have HE := Lib.hid hE
    clear hE
    simp only [AggV.val]
    go_enter Try.func24, Try.ntmps24
    go_wp2_with fail
    refine (rvalid_val A _).mono ?_
    rintro e w1 ⟨rfl, hb1⟩
    rw [hA]
    go_wp2
    go_ret2
    exact ⟨by rw [HE.out]; rfl, chain (bel_new _ _) hb1⟩
  · have hE : RPutRes A = .tuple #[.string (strOf (putBytes A)), .int .i64 0] := by unfold RPutRes; rw [hA]; rfl
    have HE := Lib.hid hE
    clear hE
    simp only [AggV.val]
    go_enter Try.func24, Try.ntmps24
    go_wp2_with fail
    refine (rvalid_val A _).mono ?_
    rintro e w1 ⟨rfl, hb1⟩
    rw [hA]
    have hB1 : w1.heap[w.heap.size]? = _ := heap_step (heap_alloc_new w (.cells #[.int .i64 A.c, .int .i64 A.hi, .int .u64 A.lo, .int .i64 A.mn, .int .i64 A.mx] 26)) hb1
    have hs1 : w.heap.size < w1.heap.size := heap_lt hB1
    have hbel1 : Below w.heap.size w w1 := chain (bel_new _ _) hb1
    have Q0 := Lib.hid (show RPS w A w1.heap.size [] (w1.alloc (.cells #[.slice none 0 0, .int .i64 0] 66)) from ⟨rpack_new w1, (Below.heap_alloc w1 _ _ hs1).trans hB1, bel_step hbel1 (bel_new _ _) (Nat.le_of_lt hs1), hs1⟩)
    clear hbel1 hA hb1 hB1
    obtain ⟨c0, c1, c2, c3, c4⟩ := agg_cells Q0.out.b
    go_wp2_with fail
    refine (rint_any _ A.c _ _ Q0.out.pk (by simp)).mono ?_
    rintro e w2 ⟨rfl, hP, hs⟩
    have Q1 := Lib.hid (Q0.out.step hs hP)
    clear hP hs c0 c1 c2 c3 c4
    obtain ⟨c0, c1, c2, c3, c4⟩ := agg_cells Q1.out.b
    go_wp2_with fail
    refine (rint_any _ A.hi _ _ Q1.out.pk (by simp [lowBytes_length])).mono ?_
    rintro e w3 ⟨rfl, hP, hs⟩
    have Q2 := Lib.hid (Q1.out.step hs hP)
    clear hP hs c0 c1 c2 c3 c4
    obtain ⟨c0, c1, c2, c3, c4⟩ := agg_cells Q2.out.b
    go_wp2_with fail
    refine (rword_any _ 8 A.lo _ _ Q2.out.pk (by have := HOK.out; unfold AggV.ok at this; omega) (by have := HOK.out; unfold AggV.ok at this; omega) (by simp [lowBytes_length])).mono ?_
    rintro e w4 ⟨rfl, hP, hs⟩
    have Q3 := Lib.hid (Q2.out.step hs hP)
    clear hP hs c0 c1 c2 c3 c4
    obtain ⟨c0, c1, c2, c3, c4⟩ := agg_cells Q3.out.b
    go_wp2_with fail
    refine (rint_any _ A.mn _ _ Q3.out.pk (by simp [lowBytes_length])).mono ?_
    rintro e w5 ⟨rfl, hP, hs⟩
    have Q4 := Lib.hid (Q3.out.step hs hP)
    clear hP hs c0 c1 c2 c3 c4
    obtain ⟨c0, c1, c2, c3, c4⟩ := agg_cells Q4.out.b
    go_wp2_with fail
    refine (rint_any _ A.mx _ _ Q4.out.pk (by simp [lowBytes_length])).mono ?_
    rintro e w6 ⟨rfl, hP, hs⟩
    have Q5 := Lib.hid (Q4.out.step hs hP)
    clear hP hs c0 c1 c2 c3 c4
    obtain ⟨vb, hvb, hcv⟩ := rput_conv Q5.out.pk
    go_wp2
    go_ret2
    exact ⟨by rw [HE.out, putBytes_eq]; simp, Q5.out.bel⟩
end Go.Proofs.Ytagpamgdgcghfaa
