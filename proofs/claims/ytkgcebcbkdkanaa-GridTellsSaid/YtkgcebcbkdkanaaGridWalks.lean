/-
  The contracts of the grid package's functions: each gives what the plain functions of GridPlain say.
-/
import Derived.Test.YtkgcebcbkdkanaaGridPlain
import Derived.Test.YtkgcebcbkdkanaaKit
namespace Go.Proofs.Ytkgcebcbkdkanaa
open Go.RowKit
set_option linter.unusedVariables false
set_option linter.unusedSimpArgs false


def I64 (t : Int) : Prop := -9223372036854775808 ≤ t ∧ t ≤ 9223372036854775807

set_option maxHeartbeats 400000 in
theorem floor_any (t e : Int) (w : World) (ht : I64 t) (he : I64 e) :
    Calls Try.prog 10 #[.int .i64 t, .int .i64 e] w fun x w' => x = .returned (.int .i64 (gfloor t e)) ∧ w = w' := by
  unfold I64 at ht he
  by_cases h : e < 1
  · go_enter Try.func10, Try.ntmps10
    go_wp2
    go_ret
    exact ⟨ret_int (by unfold gfloor; rw [if_pos h]), rfl⟩
  · have hb := tmod_bound t e (by omega)
    have hm := tmod_eq t e (by omega)
    have hf := emod_facts t e (by omega)
    obtain ⟨b1, b2, b3, b4⟩ := hb
    obtain ⟨f1, f2, f3⟩ := hf
    have B : -9223372036854775808 ≤ t - t.tmod e ∧ t - t.tmod e ≤ 9223372036854775807 := by
      by_cases h0 : 0 ≤ t
      · have := b3 h0; omega
      · have := b4 (by omega); omega
    have HM := Lib.hid hm
    clear hm b3 b4 f3
    go_enter Try.func10, Try.ntmps10
    go_wp2
    all_goals go_ret
    all_goals
      refine ⟨ret_int ?_, rfl⟩
      have hm := HM.out
      unfold gfloor
      rw [if_neg (by omega)]
      split at hm <;> split <;> omega

set_option maxHeartbeats 400000 in
theorem ceil_any (t e : Int) (w : World) (ht : I64 t) (he : I64 e) :
    Calls Try.prog 11 #[.int .i64 t, .int .i64 e] w fun x w' => x = .returned (.int .i64 (gceil t e)) ∧ w = w' := by
  unfold I64 at ht he
  by_cases h : e < 1
  · go_enter Try.func11, Try.ntmps11
    go_wp2
    go_ret
    exact ⟨ret_int (by unfold gceil; rw [if_pos h]), rfl⟩
  · have hb := tmod_bound t e (by omega)
    have hm := tmod_eq t e (by omega)
    have hf := emod_facts t e (by omega)
    obtain ⟨b1, b2, b3, b4⟩ := hb
    obtain ⟨f1, f2, f3⟩ := hf
    have B : -9223372036854775808 ≤ t - t.tmod e ∧ t - t.tmod e ≤ 9223372036854775807 := by
      by_cases h0 : 0 ≤ t
      · have := b3 h0; omega
      · have := b4 (by omega); omega
    have HM := Lib.hid hm
    clear hm b3 b4 f3
    go_enter Try.func11, Try.ntmps11
    go_wp2
    all_goals go_ret
    all_goals
      refine ⟨ret_int ?_, rfl⟩
      have hm := HM.out
      unfold gceil
      rw [if_neg (by omega)]
      split at hm <;> split <;> (try split) <;> omega


set_option maxHeartbeats 400000 in
theorem on_any (t e : Int) (w : World) (_ht : I64 t) (he : I64 e) :
    Calls Try.prog 19 #[.int .i64 t, .int .i64 e] w fun x w' => x = .returned (.bool (gon t e)) ∧ w = w' := by
  unfold I64 at he
  by_cases h : e < 1
  · go_enter Try.func19, Try.ntmps19
    go_wp2
    go_ret
    exact ⟨ret_bool (by unfold gon; simp; omega), rfl⟩
  · have hm := tmod_eq t e (by omega)
    have hf := emod_facts t e (by omega)
    obtain ⟨f1, f2, f3⟩ := hf
    have HM := Lib.hid hm
    clear hm f3
    go_enter Try.func19, Try.ntmps19
    go_wp2
    all_goals go_ret
    all_goals
      refine ⟨ret_bool ?_, rfl⟩
      have hm := HM.out
      unfold gon
      rw [hm, Bool.eq_iff_iff]
      simp
      split <;> omega

set_option maxHeartbeats 400000 in
theorem divides_any (e t : Int) (w : World) (_ht : I64 t) (he : I64 e) :
    Calls Try.prog 12 #[.int .i64 e, .int .i64 t] w fun x w' => x = .returned (.bool (gon t e)) ∧ w = w' := by
  unfold I64 at he
  by_cases h : e < 1
  · go_enter Try.func12, Try.ntmps12
    go_wp2
    go_ret
    exact ⟨ret_bool (by unfold gon; simp; omega), rfl⟩
  · have hm := tmod_eq t e (by omega)
    have hf := emod_facts t e (by omega)
    obtain ⟨f1, f2, f3⟩ := hf
    have HM := Lib.hid hm
    clear hm f3
    go_enter Try.func12, Try.ntmps12
    go_wp2
    all_goals go_ret
    all_goals
      refine ⟨ret_bool ?_, rfl⟩
      have hm := HM.out
      unfold gon
      rw [hm, Bool.eq_iff_iff]
      simp
      split <;> omega

set_option maxHeartbeats 400000 in
theorem back_any (t k e : Int) (w : World) (ht : I64 t) (hk : I64 k) (he : I64 e) :
    Calls Try.prog 21 #[.int .i64 t, .int .i64 k, .int .i64 e] w fun x w' => x = .returned (.int .i64 (gback t k e)) ∧ w = w' := by
  have he' := he
  unfold I64 at ht hk he
  by_cases h : t < 0 ∨ k < 0 ∨ e < 1
  · have H : Hid (gback t k e = 0) := Lib.hid (by unfold gback; rw [if_pos h])
    by_cases h1 : t < 0
    · go_enter Try.func21, Try.ntmps21
      go_wp2
      go_ret
      exact ⟨ret_int H.out.symm, rfl⟩
    · by_cases h2 : k < 0
      · go_enter Try.func21, Try.ntmps21
        go_wp2
        go_ret
        exact ⟨ret_int H.out.symm, rfl⟩
      · have h3 : e < 1 := by omega
        go_enter Try.func21, Try.ntmps21
        go_wp2
        go_ret
        exact ⟨ret_int H.out.symm, rfl⟩
  · go_enter Try.func21, Try.ntmps21
    go_wp2_with (go_at_call 10; refine (floor_any _ _ _ (by unfold I64; omega) he').mono ?_; rintro x w' ⟨rfl, rfl⟩)
    all_goals go_ret
    all_goals exact ⟨ret_int (by unfold gback; rw [if_neg (by omega)]; omega), rfl⟩

theorem Try.info3 : (Try.prog.info? 3).map (fun i => (i.zero, i.size, i.bytes)) = some (some (.int .i64 0), 1, 8) := by kernel_rfl

/-- A slice of ints of the call's own, with so many numbers. -/
def OwnInts (w : World) (B : Nat) (v : Value) (l : List Int) : Prop := w.ownsRow B 3 1 v l.length (l.map (Value.int .i64))
def StartsPost (w : World) (r : List Int × Bool) (x : Ending) (w' : World) : Prop :=
  ∃ v, x = .returned (.tuple #[v, .bool r.2]) ∧ OwnInts w' w.heap.size v r.1 ∧ Below w.heap.size w w'

theorem gst_snoc (c e : Int) (k : Nat) : (List.range (k + 1)).map (fun (j : Nat) => c + (j : Int) * e) = (List.range k).map (fun (j : Nat) => c + (j : Int) * e) ++ [c + (k : Int) * e] := by
  rw [List.range_succ]; simp

def GL (c e : Int) (k : Nat) : List Int := (List.range k).map (fun (j : Nat) => c + (j : Int) * e)
theorem GL_len (c e : Int) (k : Nat) : (GL c e k).length = k := by simp [GL]

theorem own_rowI {w : World} {B : Nat} {l : List Int} {n : Nat} {v : Value} (h : OwnInts w B v l) (hn : l.length = n) : ∃ a c, v = .slice a n c ∧ w.ownsRow B 3 1 (.slice a n c) n (l.map (Value.int .i64)) := by
  subst hn
  rcases h.2 with ⟨rfl, h2⟩ | ⟨g, cap, cur, rfl, r⟩
  · exact ⟨none, 0, by rw [h2], by rw [h2]; unfold OwnInts at h; rw [h2] at h; exact h⟩
  · exact ⟨_, _, rfl, h⟩

end Go.Proofs.Ytkgcebcbkdkanaa
