/-
  What is read of blocks of which some are the new log's, and the others an elder one's.
-/
import Derived.Test.YtjcggkfinhkcoaaLogGood
namespace Go.Proofs.Ytjcggkfinhkcoaa
open Go.RowKit
set_option linter.unusedVariables false
set_option linter.unusedSimpArgs false

theorem whole_hole {g nb : Int} {s : ByteArray} {bs : List ByteArray} {i : Nat} (hs : s.size ≤ 3000) (h0 : bs.getD 0 ByteArray.empty = blkB g nb s 0) (hi : i < blks s.size) (hb : (bs.getD i ByteArray.empty).data.toList.take 16 ≠ sigL g nb) : (wholeR g nb bs).2 = 0 := by
  unfold wholeR
  split
  · rename_i hk
    exfalso
    apply hb
    have hof : ofN bs = blks s.size := by
      unfold ofN
      rw [h0]
      unfold blkB
      rw [(put_num g nb ((0 : Nat) : Int) (blks s.size) (partB s 0) ⟨by omega, by unfold blks; split <;> omega⟩ (partB_size s 0)).1]
      rfl
    have h4 := hk.2.2.2
    have h5 : bs.getD i ByteArray.empty = (layL g nb (recB bs)).getD i ByteArray.empty := by
      rw [h4, List.getD_eq_getElem?_getD, List.getD_eq_getElem?_getD, List.getElem?_take, if_pos (by omega)]
    rw [h5, layL_get g nb _ (by have := hk.2.2.1.2; omega)]
    exact put_sig _ _ _ _ _
  · rfl
/-- Each block is the elder one, or the new one. -/
def Mixed (old bs L : List ByteArray) : Prop := bs.length = old.length ∧ ∀ i, i < bs.length → bs.getD i ByteArray.empty = old.getD i ByteArray.empty ∨ (i < L.length ∧ bs.getD i ByteArray.empty = L.getD i ByteArray.empty)
theorem getD_drop (l : List ByteArray) (k i : Nat) : (l.drop k).getD i ByteArray.empty = l.getD (k + i) ByteArray.empty := by
  rw [List.getD_eq_getElem?_getD, List.getD_eq_getElem?_getD, List.getElem?_drop]
theorem getD_mem {l : List ByteArray} {i : Nat} (h : i < l.length) : l.getD i ByteArray.empty ∈ l := by
  rw [List.getD_eq_getElem?_getD, List.getElem?_eq_getElem h]; exact List.getElem_mem h
theorem getD_app2 (a b : List ByteArray) {k : Nat} (h : a.length ≤ k) : (a ++ b).getD k ByteArray.empty = b.getD (k - a.length) ByteArray.empty := by
  rw [List.getD_eq_getElem?_getD, List.getD_eq_getElem?_getD, List.getElem?_append_right h]
theorem play_mixed (g : Int) : ∀ (R out bs old : List ByteArray), (∀ s ∈ R, s.size ≤ 3000) → Mixed old bs (flatR g out.length R) → (flatR g out.length R).length ≤ bs.length → (∀ b ∈ old, ∀ nb, b.data.toList.take 16 ≠ sigL g nb) →
    ∀ m, m ≤ R.length → (∀ i, i < (flatR g out.length (R.take m)).length → bs.getD i ByteArray.empty = (flatR g out.length R).getD i ByteArray.empty) → ∃ j, m ≤ j ∧ j ≤ R.length ∧ play g out bs = out ++ R.take j
  | [], out, bs, old, _, hM, _, ho, m, hm, _ => by
    refine ⟨0, by simpa using hm, Nat.le_refl _, ?_⟩
    rw [List.take_nil, List.append_nil]
    by_cases hb : bs = []
    · rw [hb]; exact play_nil _ _
    · have hl := List.length_pos_iff.2 hb
      refine play_stop (whole_none ?_)
      rcases hM.2 0 hl with h | ⟨h, _⟩
      · rw [h]; exact ho _ (getD_mem (by rw [← hM.1]; exact hl)) _
      · exact absurd h (Nat.not_lt_zero _)
  | s :: R, out, bs, old, hz, hM, hle, ho, m, hm, hF => by
    have hs := hz s (by simp)
    have hN : 1 ≤ blks s.size := by unfold blks; split <;> omega
    have hL : flatR g out.length (s :: R) = layL g out.length s ++ flatR g (out.length + 1) R := rfl
    have hll := layL_len g out.length s
    rw [hL] at hM hle hF
    rw [List.length_append, hll] at hle
    have hLg : ∀ i, i < blks s.size → (layL g out.length s ++ flatR g (out.length + 1) R).getD i ByteArray.empty = blkB g out.length s i := fun i hi => by
      rw [getD_app _ _ (by rw [hll]; exact hi), layL_get _ _ _ hi]
    by_cases hA : ∀ i, i < blks s.size → bs.getD i ByteArray.empty = blkB g out.length s i
    · have hbs : bs = layL g out.length s ++ bs.drop (blks s.size) := by
        apply List.ext_getElem?
        intro i
        by_cases hi : i < blks s.size
        · rw [List.getElem?_append_left (by rw [hll]; exact hi)]
          have h1 := hA i hi
          rw [← layL_get g out.length s hi, List.getD_eq_getElem?_getD, List.getD_eq_getElem?_getD, List.getElem?_eq_getElem (by omega), List.getElem?_eq_getElem (by rw [hll]; exact hi)] at h1
          rw [List.getElem?_eq_getElem (by omega), List.getElem?_eq_getElem (by rw [hll]; exact hi)]
          exact congrArg some h1
        · rw [List.getElem?_append_right (by rw [hll]; omega), hll, List.getElem?_drop, show blks s.size + (i - blks s.size) = i by omega]
      have hw := whole_lay g out.length s (bs.drop (blks s.size)) hs
      rw [← hbs] at hw
      have hne : bs ≠ [] := fun h => by rw [h] at hle; simp at hle; omega
      rw [play_go hne (by rw [hw]; dsimp only; omega), hw]
      dsimp only
      have hlo : (out ++ [s]).length = out.length + 1 := by simp
      obtain ⟨j, j1, j2, j3⟩ := play_mixed g R (out ++ [s]) (bs.drop (blks s.size)) (old.drop (blks s.size)) (fun x hx => hz x (by simp [hx])) (by
          refine ⟨by rw [List.length_drop, List.length_drop, hM.1], fun i hi => ?_⟩
          rw [List.length_drop] at hi
          rw [getD_drop, getD_drop, hlo]
          rcases hM.2 (blks s.size + i) (by omega) with h | ⟨h1, h2⟩
          · exact .inl h
          · rw [List.length_append, hll] at h1
            rw [getD_app2 _ _ (by rw [hll]; omega), hll, show blks s.size + i - blks s.size = i by omega] at h2
            exact .inr ⟨by omega, h2⟩) (by rw [List.length_drop, hlo]; omega) (fun b hb => ho b (List.mem_of_mem_drop hb)) (m - 1) (by simp at hm; omega) (by
          intro i hi
          rw [hlo] at hi ⊢
          cases m with
          | zero => simp [flatR] at hi
          | succ m =>
            have h1 := hF (blks s.size + i) (by
              show _ < (layL g out.length s ++ flatR g (out.length + 1) (R.take m)).length
              rw [List.length_append, hll]
              simp only [Nat.add_sub_cancel] at hi
              omega)
            rw [getD_app2 _ _ (by rw [hll]; omega), hll, show blks s.size + i - blks s.size = i by omega] at h1
            rw [getD_drop]; exact h1)
      refine ⟨j + 1, by omega, by simp; omega, ?_⟩
      rw [j3, List.append_assoc]
      rfl
    · have hm0 : m = 0 := by
        cases m with
        | zero => rfl
        | succ m =>
          exfalso
          apply hA
          intro i hi
          rw [hF i (by
            show _ < (layL g out.length s ++ flatR g (out.length + 1) (R.take m)).length
            rw [List.length_append, hll]; omega), hLg i hi]
      refine ⟨0, by omega, Nat.zero_le _, ?_⟩
      rw [List.take_zero, List.append_nil]
      apply play_stop
      have hex : ∃ i, i < blks s.size ∧ bs.getD i ByteArray.empty ≠ blkB g out.length s i := by
        apply Classical.byContradiction
        intro hc
        exact hA (fun i hi => Classical.byContradiction (fun hn => hc ⟨i, hi, hn⟩))
      have hold : ∀ i, i < blks s.size → bs.getD i ByteArray.empty ≠ blkB g out.length s i → (bs.getD i ByteArray.empty).data.toList.take 16 ≠ sigL g out.length := by
        intro i hi hn
        rcases hM.2 i (by omega) with h | ⟨_, h⟩
        · rw [h]; exact ho _ (getD_mem (by rw [← hM.1]; omega)) _
        · exact absurd (h.trans (hLg i hi)) hn
      by_cases h0 : bs.getD 0 ByteArray.empty = blkB g out.length s 0
      · obtain ⟨i, hi, hn⟩ := hex
        exact whole_hole hs h0 hi (hold i hi hn)
      · exact whole_none (hold 0 (by omega) h0)
end Go.Proofs.Ytjcggkfinhkcoaa
