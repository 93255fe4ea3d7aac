/-
  The contract of grid.Starts.
-/
import Derived.Test.YtkgcebcbkdkanaaGridWalks
namespace Go.Proofs.Ytkgcebcbkdkanaa
open Go.RowKit
set_option linter.unusedVariables false
set_option linter.unusedSimpArgs false

theorem own_snoc {w : World} {B : Nat} {v : Value} {l : List Int} {n : Nat} {x : Int} (hn : l.length = n) (h : w.ownsRow B 3 1 v (n + 1) (l.map (Value.int .i64) ++ [.int .i64 x])) : OwnInts w B v (l ++ [x]) := by
  subst hn; unfold OwnInts; simpa using h

def slen : Value → Nat | .slice _ n _ => n | _ => 0

set_option maxRecDepth 100000 in
set_option maxHeartbeats 800000 in
theorem starts_loop (f t e most : Int) (w : World) (hf : I64 f) (ht : I64 t) (he : I64 e) (hm : most ≤ 1000000) (he1 : 1 ≤ e) (hm0 : 0 ≤ most) :
    Calls Try.prog 13 #[.int .i64 f, .int .i64 t, .int .i64 e, .int .i64 most] w (StartsPost w (gstarts f t e most)) := by
  have hf' := hf; have he' := he
  unfold I64 at hf ht he
  obtain ⟨i0, hi, hz0, hz1, hz2⟩ := info_parts Try.info3
  obtain ⟨c, hc⟩ : ∃ c, c = gceil f e := ⟨_, rfl⟩
  have hcI := gceil_I64 f e hf he.2
  rw [← hc] at hcI
  obtain ⟨N, hN⟩ : ∃ N, N = gcount c f t e := ⟨_, rfl⟩
  have HN := Lib.hid hN
  have HC := Lib.hid hc
  have R : Hid (gstarts f t e most = if (N : Int) ≤ most then (GL c e N, true) else ([], false)) := Lib.hid (by
    unfold gstarts; rw [if_neg (by omega), ← hc, ← hN]; rfl)
  clear hN hc
  go_enter Try.func13, Try.ntmps13
  go_wp2_with (go_at_call 11; refine (ceil_any _ _ _ hf' he').mono ?_; rintro x w' ⟨rfl, rfl⟩)
  rw [← HC.out]
  go_loopw [10, 11] (fun v at_ wr => ∃ (k : Nat) (a : Int) (ao : Option Addr) (ca : Nat), (k : Int) ≤ most ∧ k ≤ N ∧ at_ = .int .i64 a ∧ Hid (a = c + k * e) ∧ v = .slice ao k ca ∧ wr.ownsRow w.heap.size 3 1 (.slice ao k ca) k ((GL c e k).map (Value.int .i64)) ∧ Below w.heap.size w wr ∧ I64 a) (fun v _ _ => N - slen v)
  case atStart => exact ⟨0, c, none, 0, by omega, Nat.zero_le _, rfl, Lib.hid (by simp), rfl, World.ownsRow_nil _ _ _ _, Below.refl _ _, hcI⟩
  case round =>
    obtain ⟨k, a, ao, ca, hk, hkN, rfl, Ha, rfl, hown, hnx, haI⟩ := hrel
    have hlt := gcount_lt c f t e k he1 (by rw [← HN.out]; exact hkN)
    rw [← HN.out, ← Ha.out] at hlt
    unfold I64 at haI
    by_cases hl : k < N
    · have ⟨h1, h2⟩ := hlt.1 hl
      clear hlt
      by_cases hkm : (k : Int) = most
      · have h3 : ((k : Int) == most) = true := by simpa using hkm
        clear hkm
        go_wp2
        go_ret2
        rw [R.out, if_neg (by simp at h3; omega)]
        exact ⟨_, rfl, World.ownsRow_nil _ _ _ _, hnx⟩
      · have h3 : ((k : Int) == most) = false := by simpa using hkm
        have h3' : (k : Int) < most := by omega
        clear hkm
        go_wp2_with (at_builtin; refine wpList_append_own _ rfl _ _ 37 rfl w.heap.size 3 i0 (.int .i64 0) 1 8 Try.underlying37 hi hz0 hz1 hz2 rfl (by decide) _ _ _ rfl (hown.alloc _) ⟨wr.heap.size, 0, none⟩ 1 1 [.int .i64 a] rfl rfl (cell_one_new _ _ _) ?c2 ?c3 ?c4 ?c5 ?_)
        case c2 => intro u hu; simp at hu; subst hu; rfl
        case c3 => unfold maxLen; omega
        case c4 => omega
        case c5 => have := hnx.size; simp; omega
        intro v' w1 hown' hgrow _
        have hnx' : Below w.heap.size w w1 := (hnx.alloc hnx.size _).grown hgrow (by simp; have := hnx.size; omega) (fun j hj => (hown.lt j hj).1)
        have hown1 := own_snoc (GL_len c e k) hown'
        rw [show GL c e k ++ [a] = GL c e (k + 1) from by rw [Ha.out]; exact (gst_snoc c e k).symm] at hown1
        obtain ⟨ao', ca', rfl, hown2⟩ := own_rowI hown1 (GL_len c e (k + 1))
        clear hown' hgrow hown hnx hown1
        have hlt2 := gcount_lt c f t e (k + 1) he1 (by rw [← HN.out]; omega)
        have hea : c + ((k + 1 : Nat) : Int) * e = a + e := by rw [Ha.out]; push_cast; rw [Int.add_mul]; omega
        rw [← HN.out, hea] at hlt2
        by_cases hb : 9223372036854775807 - e < a
        · have hN1 : Hid (N = k + 1) := Lib.hid (by omega)
          clear hlt2 hea
          go_wp2
          go_ret2
          rw [R.out, if_pos (by have := hN1.out; omega), hN1.out]
          exact ⟨_, rfl, by unfold OwnInts; rw [GL_len]; exact hown2, hnx'⟩
        · have HEA := Lib.hid hea
          clear hlt2 hea
          go_wp2
          go_roundw
          case rel => exact ⟨k + 1, a + e, ao', ca', by omega, by omega, rfl, Lib.hid HEA.out.symm, rfl, hown2, hnx', by unfold I64; omega⟩
          case measure => simp [slen]; omega
    · have hN1 : Hid (N = k) := Lib.hid (by omega)
      have hn : ¬ (f ≤ a ∧ a < t) := fun h => hl (hlt.2 h)
      clear hlt
      by_cases h1 : f ≤ a
      · have h2 : ¬ a < t := fun h => hn ⟨h1, h⟩
        clear hn
        go_wp2
        go_ret2
        rw [R.out, if_pos (by have := hN1.out; omega), hN1.out]
        exact ⟨_, rfl, by unfold OwnInts; rw [GL_len]; exact hown, hnx⟩
      · clear hn
        go_wp2
        go_ret2
        rw [R.out, if_pos (by have := hN1.out; omega), hN1.out]
        exact ⟨_, rfl, by unfold OwnInts; rw [GL_len]; exact hown, hnx⟩

set_option maxRecDepth 100000 in
set_option maxHeartbeats 400000 in
theorem starts_any (f t e most : Int) (w : World) (hf : I64 f) (ht : I64 t) (he : I64 e) (hmI : I64 most) (hm : most ≤ 1000000) :
    Calls Try.prog 13 #[.int .i64 f, .int .i64 t, .int .i64 e, .int .i64 most] w (StartsPost w (gstarts f t e most)) := by
  by_cases h1 : e < 1
  · have R : Hid (gstarts f t e most = ([], false)) := Lib.hid (by unfold gstarts; rw [if_pos (.inl h1)])
    unfold I64 at he hmI
    go_enter Try.func13, Try.ntmps13
    go_wp2
    go_ret2
    rw [R.out]
    exact ⟨_, rfl, World.ownsRow_nil _ _ _ _, Below.refl _ _⟩
  · by_cases h2 : most < 0
    · have R : Hid (gstarts f t e most = ([], false)) := Lib.hid (by unfold gstarts; rw [if_pos (.inr h2)])
      unfold I64 at he hmI
      go_enter Try.func13, Try.ntmps13
      go_wp2
      go_ret2
      rw [R.out]
      exact ⟨_, rfl, World.ownsRow_nil _ _ _ _, Below.refl _ _⟩
    · exact starts_loop f t e most w hf ht he hm (by omega) (by omega)

end Go.Proofs.Ytkgcebcbkdkanaa
