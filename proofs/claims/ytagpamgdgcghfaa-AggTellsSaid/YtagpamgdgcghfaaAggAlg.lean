/-
  The algebra of aggregates: merging is commutative and associative over the valid ones.
-/
import Derived.Test.YtagpamgdgcghfaaAggPlain
import Derived.Test.YtagpamgdgcghfaaKit
namespace Go.Proofs.Ytagpamgdgcghfaa
set_option linter.unusedVariables false
set_option linter.unusedSimpArgs false

theorem valid_iff (a : AggV) : a.valid = true ↔ 1 ≤ a.c ∧ a.c ≤ 4611686018427387904 ∧ a.mn ≤ a.mx := by simp [AggV.valid]

theorem aboth_valid_eq (a b : AggV) (ha : a.valid = true) (hb : b.valid = true) :
    aboth a b = ⟨min (a.c + b.c) 4611686018427387904, w64 (a.hi + b.hi + (a.lo + b.lo) / 18446744073709551616), (a.lo + b.lo) % 18446744073709551616, min a.mn b.mn, max a.mx b.mx⟩ := by
  rw [valid_iff] at ha hb
  unfold aboth; rw [if_neg (by omega)]
  have h1 : w64 (4611686018427387904 - b.c) = 4611686018427387904 - b.c := by unfold w64; omega
  rw [h1]
  have h2 : (if a.c < 4611686018427387904 - b.c then w64 (a.c + b.c) else 4611686018427387904) = min (a.c + b.c) 4611686018427387904 := by
    by_cases q : a.c < 4611686018427387904 - b.c
    · rw [if_pos q]; unfold w64; omega
    · rw [if_neg q]; omega
  rw [h2]

theorem aboth_valid (a b : AggV) (ha : a.valid = true) (hb : b.valid = true) : (aboth a b).valid = true := by
  rw [aboth_valid_eq a b ha hb]
  rw [valid_iff] at *
  show 1 ≤ min (a.c + b.c) 4611686018427387904 ∧ min (a.c + b.c) 4611686018427387904 ≤ 4611686018427387904 ∧ min a.mn b.mn ≤ max a.mx b.mx
  omega

theorem aboth_comm (a b : AggV) (ha : a.valid = true) (hb : b.valid = true) : aboth a b = aboth b a := by
  rw [aboth_valid_eq a b ha hb, aboth_valid_eq b a hb ha, Int.add_comm a.c, Int.add_comm a.hi, Int.add_comm a.lo, Int.min_comm a.mn, Int.max_comm a.mx]

theorem w64_assoc (h1 h2 h3 l1 l2 l3 : Int) : w64 (w64 (h1 + h2 + (l1 + l2) / 18446744073709551616) + h3 + ((l1 + l2) % 18446744073709551616 + l3) / 18446744073709551616) =
    w64 (h1 + w64 (h2 + h3 + (l2 + l3) / 18446744073709551616) + (l1 + (l2 + l3) % 18446744073709551616) / 18446744073709551616) := by
  unfold w64; omega

theorem aboth_assoc (a b c : AggV) (ha : a.valid = true) (hb : b.valid = true) (hc : c.valid = true) : aboth (aboth a b) c = aboth a (aboth b c) := by
  rw [aboth_valid_eq (aboth a b) c (aboth_valid a b ha hb) hc, aboth_valid_eq a (aboth b c) ha (aboth_valid b c hb hc), aboth_valid_eq a b ha hb, aboth_valid_eq b c hb hc]
  rw [valid_iff] at ha hb hc
  simp only [AggV.mk.injEq]
  refine ⟨by omega, w64_assoc _ _ _ _ _ _, by omega, by omega, by omega⟩

/-- Valid ones and none. -/
def VZ (a : AggV) : Prop := a.valid = true ∨ a = AggV.zero
theorem zero_invalid : AggV.zero.valid = false := by simp [AggV.valid, AggV.zero]
theorem aboth_zero (b : AggV) : aboth AggV.zero b = b := by unfold aboth; rw [if_pos (show AggV.zero.c = 0 from rfl)]
/-- Two put together, as Merge does it. -/
def m2 (a b : AggV) : AggV := if b.valid then (if a.valid then aboth a b else b) else (if a.valid then a else AggV.zero)
theorem amerge_two (a b : AggV) : amerge [a, b] = m2 a b := by
  simp only [amerge, List.foldl_cons, List.foldl_nil, m2]
  by_cases ha : a.valid = true <;> by_cases hb : b.valid = true <;> simp [ha, hb, aboth_zero]
theorem amerge_one (a : AggV) : amerge [a] = if a.valid then a else AggV.zero := by
  simp only [amerge, List.foldl_cons, List.foldl_nil]
  by_cases ha : a.valid = true <;> simp [ha, aboth_zero]
theorem m2_VZ (a b : AggV) : VZ (m2 a b) := by
  unfold m2 VZ
  by_cases ha : a.valid = true <;> by_cases hb : b.valid = true <;> simp [ha, hb]
  exact .inl (aboth_valid a b ha hb)
theorem m2_comm (a b : AggV) : m2 a b = m2 b a := by
  unfold m2
  by_cases ha : a.valid = true <;> by_cases hb : b.valid = true <;> simp [ha, hb]
  exact aboth_comm a b ha hb
theorem m2_assoc (a b c : AggV) : m2 (m2 a b) c = m2 a (m2 b c) := by
  unfold m2
  by_cases ha : a.valid = true <;> by_cases hb : b.valid = true <;> by_cases hc : c.valid = true <;> simp [ha, hb, hc, zero_invalid, aboth_valid]
  exact aboth_assoc a b c ha hb hc
theorem m2_zero (a : AggV) (h : VZ a) : m2 a AggV.zero = a := by
  unfold m2
  rcases h with h | rfl
  · simp [h, zero_invalid]
  · simp [zero_invalid]
theorem zero_m2 (a : AggV) (h : VZ a) : m2 AggV.zero a = a := by rw [m2_comm, m2_zero a h]
theorem aone_valid (x : Int) : (aone x).valid = true := by rw [valid_iff]; show 1 ≤ (1 : Int) ∧ (1 : Int) ≤ 4611686018427387904 ∧ x ≤ x; omega
/-- Of as a fold of m2. -/
theorem aof_VZ (l : List Int) : VZ (aof l) := by
  induction l using snoc_ind with
  | h0 => exact .inr rfl
  | h1 l x ih =>
    rw [aof_snoc]
    rcases ih with h | h
    · exact .inl (aboth_valid _ _ h (aone_valid x))
    · rw [h, aboth_zero]; exact .inl (aone_valid x)
theorem aof_snoc2 (l : List Int) (x : Int) : aof (l ++ [x]) = m2 (aof l) (aone x) := by
  rw [aof_snoc]
  unfold m2
  rw [if_pos (aone_valid x)]
  rcases aof_VZ l with h | h
  · rw [if_pos h]
  · rw [h, aboth_zero, if_neg (by simp [zero_invalid])]
theorem aof_append (a b : List Int) : aof (a ++ b) = m2 (aof a) (aof b) := by
  induction b using snoc_ind with
  | h0 => rw [List.append_nil]; exact (m2_zero _ (aof_VZ a)).symm
  | h1 b x ih => rw [← List.append_assoc, aof_snoc2, ih, aof_snoc2, m2_assoc]
theorem aof_single (x : Int) : aof [x] = aone x := by rw [show [x] = [] ++ [x] from rfl, aof_snoc]; exact aboth_zero _
theorem amerge_three (a b c : AggV) : amerge [a, b, c] = m2 (m2 a b) c := by
  have h : amerge [a, b, c] = if c.valid then aboth (amerge [a, b]) c else amerge [a, b] := amerge_snoc [a, b] c
  rw [h, amerge_two]
  have hz := m2_VZ a b
  unfold m2 at *
  generalize hG : (if b.valid = true then if a.valid = true then aboth a b else b else if a.valid = true then a else AggV.zero) = G at *
  rcases hz with hv | rfl
  · by_cases hc : c.valid = true <;> simp [hc, hv]
  · by_cases hc : c.valid = true <;> simp [hc, zero_invalid, aboth_zero]

end Go.Proofs.Ytagpamgdgcghfaa
