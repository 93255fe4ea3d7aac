/-
  What was appended is read: in plain words, with no program in sight.
-/
import Derived.Test.YtjcggkfinhkcoaaGreatLog7
import Derived.Test.YtjcggkfinhkcoaaGreatLog5
namespace Go.Proofs.YtjcggkfinhkcoaaGreat
open Go.RowKit
set_option linter.unusedVariables false
set_option linter.unusedSimpArgs false

theorem leVal_low : ∀ (n : Nat) (v : Int), 0 ≤ v → v < 256 ^ n → leVal (lowBytes v n) = v
  | 0, v, h0, h1 => by simp at h1; simp [lowBytes, leVal]; omega
  | n + 1, v, h0, h1 => by
    have h2 : v < 256 * 256 ^ n := by rw [Int.mul_comm, ← Int.pow_succ]; exact h1
    have h3 : v / 256 < 256 ^ n := by omega
    have h4 : (v % 256).toNat < 256 := by omega
    simp only [lowBytes, leVal, leVal_low n (v / 256) (by omega) h3, UInt8.toNat_ofNat', Nat.mod_eq_of_lt h4]
    omega
theorem strOf_list (l : List UInt8) : (strOf l).data.toList = l := by simp [strOf]
theorem cat_list (a b : ByteArray) : (a ++ b).data.toList = a.data.toList ++ b.data.toList := by rw [ByteArray.data_append, Array.toList_append]
theorem wlog_list : wlogB.data.toList = [87, 76, 79, 71] := rfl
theorem data_inj {a b : ByteArray} (h : a.data.toList = b.data.toList) : a = b := ByteArray.ext (Array.toList_inj.1 h)
theorem size_list (s : ByteArray) : s.data.toList.length = s.size := by rw [Array.length_toList]; rfl
theorem lab_eq (g nb pl o by_ : Int) : labL g nb pl o by_ = lowBytes g 8 ++ (lowBytes nb 4 ++ (lowBytes pl 2 ++ (lowBytes o 2 ++ lowBytes by_ 2))) := by
  simp [labL, wordBytes, smallBytes]
theorem put_list (g nb pl o : Int) (part : ByteArray) : (putB g nb pl o part).data.toList = [87, 76, 79, 71] ++ (headL g nb pl o part.size ++ (part.data.toList ++ List.replicate (224 - part.size) 0)) := by
  unfold putB hdB
  rw [cat_list, cat_list, cat_list, strOf_list, strOf_list, wlog_list]
  simp only [List.append_assoc]
theorem put_head (g nb pl o : Int) (part : ByteArray) : ((putB g nb pl o part).extract 4 32).data.toList = headL g nb pl o part.size := by
  rw [extract_list, put_list, ← List.append_assoc, List.take_left' (by rw [List.length_append, head_len]; rfl), List.drop_left' (by rfl)]
theorem put_tail (g nb pl o : Int) (part : ByteArray) (h : part.size ≤ 224) : ((putB g nb pl o part).extract 32 (putB g nb pl o part).size).data.toList = part.data.toList ++ List.replicate (224 - part.size) 0 := by
  rw [extract_list, List.take_of_length_le (by rw [size_list]; exact Nat.le_refl _), put_list, ← List.append_assoc, List.drop_left' (by rw [List.length_append, head_len]; rfl)]
theorem put_num (g nb pl o : Int) (part : ByteArray) (h3 : 0 ≤ o ∧ o < 65536) (h4 : part.size ≤ 224) : num2 (putB g nb pl o part) 14 = o ∧ num2 (putB g nb pl o part) 16 = part.size := by
  unfold num2
  rw [put_head]
  unfold headL
  obtain ⟨Z, hZ⟩ : ∃ Z, Z = List.replicate (28 - (labL g nb pl o part.size).length) (0 : UInt8) := ⟨_, rfl⟩
  rw [← hZ, lab_eq]
  have e1 : lowBytes g 8 ++ (lowBytes nb 4 ++ (lowBytes pl 2 ++ (lowBytes o 2 ++ lowBytes (part.size : Int) 2))) ++ Z = (lowBytes g 8 ++ lowBytes nb 4 ++ lowBytes pl 2) ++ (lowBytes o 2 ++ (lowBytes (part.size : Int) 2 ++ Z)) := by simp only [List.append_assoc]
  have e2 : lowBytes g 8 ++ (lowBytes nb 4 ++ (lowBytes pl 2 ++ (lowBytes o 2 ++ lowBytes (part.size : Int) 2))) ++ Z = (lowBytes g 8 ++ lowBytes nb 4 ++ lowBytes pl 2 ++ lowBytes o 2) ++ (lowBytes (part.size : Int) 2 ++ Z) := by simp only [List.append_assoc]
  constructor
  · rw [e1, List.drop_left' (by simp [lowBytes_length]), List.take_left' (lowBytes_length 2 o)]
    exact leVal_low 2 o h3.1 (by have : (256 : Int) ^ 2 = 65536 := by decide
                                 omega)
  · rw [e2, List.drop_left' (by simp [lowBytes_length]), List.take_left' (lowBytes_length 2 _)]
    exact leVal_low 2 _ (by omega) (by have : (256 : Int) ^ 2 = 65536 := by decide
                                       omega)
/-- The first bytes of a block say whose it is. -/
def sigL (g nb : Int) : List UInt8 := [87, 76, 79, 71] ++ (lowBytes g 8 ++ lowBytes nb 4)
theorem put_sig (g nb pl o : Int) (part : ByteArray) : (putB g nb pl o part).data.toList.take 16 = sigL g nb := by
  rw [put_list]
  unfold headL sigL
  rw [lab_eq]
  have e : ∀ X Y : List UInt8, [87, 76, 79, 71] ++ ((lowBytes g 8 ++ (lowBytes nb 4 ++ (lowBytes pl 2 ++ (lowBytes o 2 ++ lowBytes (part.size : Int) 2)))) ++ X ++ Y) = ([87, 76, 79, 71] ++ (lowBytes g 8 ++ lowBytes nb 4)) ++ (lowBytes pl 2 ++ (lowBytes o 2 ++ (lowBytes (part.size : Int) 2 ++ (X ++ Y)))) := by intro X Y; simp only [List.append_assoc]
  rw [e, List.take_left' (by simp [lowBytes_length])]
theorem low_inj {n : Nat} {x y : Int} (hx : 0 ≤ x ∧ x < 256 ^ n) (hy : 0 ≤ y ∧ y < 256 ^ n) (h : lowBytes x n = lowBytes y n) : x = y := by
  rw [← leVal_low n x hx.1 hx.2, ← leVal_low n y hy.1 hy.2, h]
theorem sig_inj {g g' nb nb' : Int} (hg : 0 ≤ g ∧ g ≤ 18446744073709551615) (hg' : 0 ≤ g' ∧ g' ≤ 18446744073709551615) (h : sigL g nb = sigL g' nb') : g = g' := by
  unfold sigL at h
  have h2 := List.append_cancel_left h
  have h3 := (List.append_inj h2 (by rw [lowBytes_length, lowBytes_length])).1
  have e : (256 : Int) ^ 8 = 18446744073709551616 := by decide
  exact low_inj (by omega) (by omega) h3

theorem getD_app (a b : List ByteArray) {k : Nat} (h : k < a.length) : (a ++ b).getD k ByteArray.empty = a.getD k ByteArray.empty := by
  rw [List.getD_eq_getElem?_getD, List.getD_eq_getElem?_getD, List.getElem?_append_left h]
theorem layL_get (g nb : Int) (s : ByteArray) {k : Nat} (h : k < blks s.size) : (layL g nb s).getD k ByteArray.empty = blkB g nb s k := by
  unfold layL layN
  rw [List.getD_eq_getElem?_getD, List.getElem?_map, List.getElem?_range h]; rfl
theorem part_full (s : ByteArray) {k : Nat} (h : k + 1 < blks s.size) : (partB s k).data.toList = (s.data.toList.take (224 * (k + 1))).drop (224 * k) ∧ (partB s k).size = 224 := by
  have hb : (k + 1) * 224 ≤ s.size := by unfold blks at h; split at h <;> omega
  unfold partB
  rw [extract_list, Nat.min_eq_left hb, Nat.mul_comm (k + 1), Nat.mul_comm k]
  refine ⟨rfl, ?_⟩
  rw [ByteArray.size_extract]; omega
theorem cat_full (g nb : Int) (s : ByteArray) (rest : List ByteArray) : ∀ k, k < blks s.size → (catB (layL g nb s ++ rest) k).data.toList = s.data.toList.take (224 * k)
  | 0, _ => by simp [catB]
  | k + 1, h => by
    have ih := cat_full g nb s rest k (by omega)
    obtain ⟨p1, p2⟩ := part_full s h
    unfold catB
    rw [getD_app _ _ (by rw [layL_len]; omega), layL_get g nb s (by omega), cat_list, ih]
    unfold blkB
    rw [put_tail _ _ _ _ _ (by omega), p2, Nat.sub_self, List.replicate_zero, List.append_nil, p1]
    have hle : 224 * k ≤ 224 * (k + 1) := by omega
    rw [show s.data.toList.take (224 * k) = (s.data.toList.take (224 * (k + 1))).take (224 * k) by rw [List.take_take, Nat.min_eq_left hle], List.take_append_drop]
theorem part_last (s : ByteArray) (M : Nat) (h2 : s.size ≤ (M + 1) * 224) : (partB s M).data.toList = s.data.toList.drop (224 * M) := by
  unfold partB
  rw [extract_list, Nat.min_eq_right h2, List.take_of_length_le (by rw [size_list]; exact Nat.le_refl _), Nat.mul_comm M]
set_option maxHeartbeats 2000000 in
theorem whole_lay (g nb : Int) (s : ByteArray) (rest : List ByteArray) (hs : s.size ≤ 3000) : wholeR g nb (layL g nb s ++ rest) = (s, blks s.size) := by
  have hN : 1 ≤ blks s.size ∧ blks s.size ≤ 14 := by unfold blks; split <;> omega
  obtain ⟨N, hNe⟩ : ∃ N, N = blks s.size := ⟨_, rfl⟩
  have hb : ∀ k, k < N → (layL g nb s ++ rest).getD k ByteArray.empty = blkB g nb s k := fun k hk => by
    rw [getD_app _ _ (by rw [layL_len, ← hNe]; exact hk), layL_get g nb s (by rw [← hNe]; exact hk)]
  have hnum : ∀ k, k < N → num2 (blkB g nb s k) 14 = N ∧ num2 (blkB g nb s k) 16 = (partB s k).size := fun k hk => by
    unfold blkB
    rw [← hNe]
    exact put_num g nb k N (partB s k) (by omega) (partB_size s k)
  rw [← hNe] at hN ⊢
  have hO : ofN (layL g nb s ++ rest) = N := by unfold ofN; rw [hb 0 (by omega), (hnum 0 (by omega)).1]; rfl
  have hpl : (partB s (N - 1)).size = s.size - 224 * (N - 1) := by
    unfold partB
    rw [ByteArray.size_extract]
    have h1 : s.size ≤ (N - 1 + 1) * 224 := by rw [hNe]; unfold blks; split <;> omega
    rw [Nat.min_eq_right h1]; omega
  have hL : lastN (layL g nb s ++ rest) = s.size - 224 * (N - 1) := by
    unfold lastN; rw [hO, hb (N - 1) (by omega), (hnum (N - 1) (by omega)).2, hpl]; rfl
  have hlow : 224 * (N - 1) ≤ s.size := by rw [hNe]; unfold blks; split <;> omega
  have hR : recB (layL g nb s ++ rest) = s := by
    apply data_inj
    unfold recB
    rw [hO, hL, extract_list, List.drop_zero, show 224 * N - 224 + (s.size - 224 * (N - 1)) = s.size by omega]
    have hc : (catB (layL g nb s ++ rest) N).data.toList = s.data.toList ++ List.replicate (224 - (partB s (N - 1)).size) 0 := by
      obtain ⟨M, hM⟩ : ∃ M, N = M + 1 := ⟨N - 1, by omega⟩
      have hm2 : s.size ≤ (M + 1) * 224 := by rw [← hM, hNe]; unfold blks; split <;> omega
      rw [hM, Nat.add_sub_cancel]
      have h1 := cat_full g nb s rest M (by omega)
      unfold catB
      rw [hb M (by omega), cat_list, h1]
      unfold blkB
      rw [put_tail _ _ _ _ _ (partB_size s M), ← List.append_assoc]
      rw [part_last s M hm2, List.take_append_drop]
    rw [hc, List.take_left' (size_list s)]
  unfold wholeR
  rw [if_pos, hR, hO]
  refine ⟨by rw [hO, List.length_append, layL_len, ← hNe]; omega, by rw [hL]; have := partB_size s (N - 1); omega, by rw [hR, hO]; exact ⟨hs, hNe.symm⟩, ?_⟩
  rw [hR, hO, List.take_left' (by rw [layL_len, hNe])]
/-- A block that does not say that it is the log's begins no record of it. -/
theorem whole_none {g nb : Int} {bs : List ByteArray} (h : (bs.getD 0 ByteArray.empty).data.toList.take 16 ≠ sigL g nb) : (wholeR g nb bs).2 = 0 := by
  unfold wholeR
  split
  · rename_i hk
    exfalso
    apply h
    have h4 := hk.2.2.2
    have h5 : bs.getD 0 ByteArray.empty = (layL g nb (recB bs)).getD 0 ByteArray.empty := by
      rw [h4, List.getD_eq_getElem?_getD, List.getD_eq_getElem?_getD, List.getElem?_take, if_pos (by have := hk.1.1; omega)]
    rw [h5, layL_get g nb _ (by have := hk.2.2.1.2; have := hk.1.1; omega)]
    exact put_sig _ _ _ _ _
  · rfl
/-- The blocks of some records, one behind the other. -/
def flatR (g : Int) (nb : Nat) : List ByteArray → List ByteArray
  | [] => []
  | s :: R => layL g nb s ++ flatR g (nb + 1) R
theorem flatR_snoc (g : Int) (s : ByteArray) : ∀ (R : List ByteArray) (nb : Nat), flatR g nb (R ++ [s]) = flatR g nb R ++ layL g ((nb + R.length : Nat) : Int) s
  | [], nb => by simp [flatR]
  | r :: R, nb => by
    show layL g nb r ++ flatR g (nb + 1) (R ++ [s]) = layL g nb r ++ flatR g (nb + 1) R ++ _
    rw [flatR_snoc g s R (nb + 1), List.append_assoc, List.length_cons, show nb + 1 + R.length = nb + (R.length + 1) by omega]
theorem play_flat (g : Int) : ∀ (R out rest : List ByteArray), (∀ s ∈ R, s.size ≤ 3000) → play g out (flatR g out.length R ++ rest) = play g (out ++ R) rest
  | [], out, rest, _ => by simp [flatR]
  | s :: R, out, rest, hz => by
    have hw := whole_lay g out.length s (flatR g (out.length + 1) R ++ rest) (hz s (by simp))
    have hN : 1 ≤ blks s.size := by unfold blks; split <;> omega
    have hne : layL g out.length s ++ (flatR g (out.length + 1) R ++ rest) ≠ [] := by
      intro h
      have := congrArg List.length h
      rw [List.length_append, layL_len] at this
      simp at this; omega
    show play g out (layL g out.length s ++ flatR g (out.length + 1) R ++ rest) = _
    rw [List.append_assoc, play_go hne (by rw [hw]; dsimp only; omega), hw]
    dsimp only
    rw [List.drop_left' (layL_len _ _ _)]
    have ih := play_flat g R (out ++ [s]) rest (fun x hx => hz x (by simp [hx]))
    rw [List.length_append, List.length_singleton] at ih
    rw [ih, List.append_assoc]; rfl
theorem play_all (g : Int) (R rest : List ByteArray) (hz : ∀ s ∈ R, s.size ≤ 3000) (hr : rest ≠ [] → (rest.getD 0 ByteArray.empty).data.toList.take 16 ≠ sigL g R.length) : play g [] (flatR g 0 R ++ rest) = R := by
  have := play_flat g R [] rest hz
  rw [List.length_nil, List.nil_append] at this
  rw [this]
  by_cases h : rest = []
  · rw [h]; exact play_nil _ _
  · exact play_stop (whole_none (hr h))
end Go.Proofs.YtjcggkfinhkcoaaGreat
