/-
  Plain arithmetic of the grid package; no program in sight.
-/
namespace Go.Proofs.Ytaenpcglaenlaaa

def gfloor (t e : Int) : Int :=
  if e < 1 then t else if -9223372036854775808 ≤ t - t % e then t - t % e else t - t % e + e

def gceil (t e : Int) : Int :=
  if e < 1 then t else if t % e = 0 then t else if t - t % e + e ≤ 9223372036854775807 then t - t % e + e else t - t % e

def gback (now keep e : Int) : Int :=
  if now < 0 ∨ keep < 0 ∨ e < 1 then 0 else max (gfloor (now - keep) e) 0

def gon (t e : Int) : Bool := decide (1 ≤ e ∧ t % e = 0)

def gcount (c f t e : Int) : Nat := if c < f ∨ t ≤ c then 0 else ((t - 1 - c) / e).toNat + 1

def gstarts (f t e most : Int) : List Int × Bool :=
  if e < 1 ∨ most < 0 then ([], false)
  else if (gcount (gceil f e) f t e : Int) ≤ most then ((List.range (gcount (gceil f e) f t e)).map (fun (j : Nat) => gceil f e + (j : Int) * e), true) else ([], false)

theorem tmod_eq (t e : Int) (he : 1 ≤ e) : t.tmod e = if 0 ≤ t ∨ t % e = 0 then t % e else t % e - e := by
  rw [Int.tmod_eq_emod]
  have hd : e ∣ t ↔ t % e = 0 := Int.dvd_iff_emod_eq_zero
  have hn : (e.natAbs : Int) = e := by omega
  by_cases h : 0 ≤ t ∨ t % e = 0
  · rw [if_pos h, if_pos (by rcases h with h | h; exact .inl h; exact .inr (hd.2 h))]; simp
  · rw [if_neg h, if_neg (by rintro (h' | h'); exact h (.inl h'); exact h (.inr (hd.1 h')))]; omega

theorem emod_facts (t e : Int) (he : 1 ≤ e) : 0 ≤ t % e ∧ t % e < e ∧ (0 ≤ t → t % e ≤ t) :=
  ⟨Int.emod_nonneg t (by omega), Int.emod_lt_of_pos t (by omega), fun h => by
    have := Int.mul_ediv_add_emod t e
    have h2 : 0 ≤ e * (t / e) := Int.mul_nonneg (by omega) (Int.ediv_nonneg h (by omega))
    omega⟩

theorem tmod_bound (t e : Int) (he : 1 ≤ e) : -e < t.tmod e ∧ t.tmod e < e ∧ (0 ≤ t → 0 ≤ t.tmod e ∧ t.tmod e ≤ t) ∧ (t ≤ 0 → t.tmod e ≤ 0 ∧ t ≤ t.tmod e) := by
  have h := tmod_eq t e he
  have ⟨h1, h2, h3⟩ := emod_facts t e he
  have hneg : (-t).tmod e = -t.tmod e := Int.neg_tmod t e
  have h' := tmod_eq (-t) e he
  have ⟨h1', h2', h3'⟩ := emod_facts (-t) e he
  refine ⟨?_, ?_, ?_, ?_⟩
  · split at h <;> omega
  · split at h <;> omega
  · intro hp; rw [if_pos (.inl hp)] at h; have := h3 hp; omega
  · intro hp; rw [if_pos (.inl (by omega))] at h'; have := h3' (by omega); omega

/-- What the loop of Starts asks at its head, at the k-th start. -/
theorem gcount_lt (c f t e : Int) (k : Nat) (he : 1 ≤ e) (hk : k ≤ gcount c f t e) : k < gcount c f t e ↔ f ≤ c + k * e ∧ c + k * e < t := by
  unfold gcount at *
  by_cases h : c < f ∨ t ≤ c
  · rw [if_pos h] at *
    obtain rfl : k = 0 := by omega
    simp; omega
  · rw [if_neg h] at *
    have h0 : 0 ≤ (k : Int) * e := Int.mul_nonneg (by omega) (by omega)
    have h1 : (k : Int) ≤ (t - 1 - c) / e ↔ (k : Int) * e ≤ t - 1 - c := Int.le_ediv_iff_mul_le (by omega)
    have h2 : 0 ≤ (t - 1 - c) / e := Int.ediv_nonneg (by omega) (by omega)
    omega

theorem gceil_I64 (t e : Int) (ht : -9223372036854775808 ≤ t ∧ t ≤ 9223372036854775807) (he : e ≤ 9223372036854775807) : -9223372036854775808 ≤ gceil t e ∧ gceil t e ≤ 9223372036854775807 := by
  unfold gceil
  by_cases h : e < 1
  · rw [if_pos h]; exact ht
  · rw [if_neg h]
    by_cases h2 : t % e = 0
    · rw [if_pos h2]; exact ht
    · rw [if_neg h2]
      have ⟨f1, f2, f3⟩ := emod_facts t e (by omega)
      split
      · omega
      · by_cases h0 : 0 ≤ t
        · have := f3 h0; omega
        · omega

theorem gfloor_I64 (t e : Int) (ht : -9223372036854775808 ≤ t ∧ t ≤ 9223372036854775807) (he : e ≤ 9223372036854775807) : -9223372036854775808 ≤ gfloor t e ∧ gfloor t e ≤ 9223372036854775807 := by
  unfold gfloor
  by_cases h : e < 1
  · rw [if_pos h]; exact ht
  · rw [if_neg h]
    have ⟨f1, f2, f3⟩ := emod_facts t e (by omega)
    split
    · omega
    · by_cases h0 : 0 ≤ t
      · have := f3 h0; omega
      · omega

end Go.Proofs.Ytaenpcglaenlaaa
