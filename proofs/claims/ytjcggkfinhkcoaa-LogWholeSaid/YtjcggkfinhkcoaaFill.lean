/-
  The contract of the law package's Fill: a block full of a byte.
-/
import Derived.Test.YtjcggkfinhkcoaaDev5
namespace Go.Proofs.Ytjcggkfinhkcoaa
open Go.RowKit
set_option linter.unusedVariables false
set_option linter.unusedSimpArgs false

def fillB (c : Nat) : ByteArray := ⟨(List.replicate 256 (UInt8.ofNat c)).toArray⟩
theorem fillB_size (c : Nat) : (fillB c).size = 256 := by show (List.replicate 256 (UInt8.ofNat c)).toArray.size = 256; rw [List.size_toArray, List.length_replicate]
def fillRow (N c k : Nat) : List Value := List.replicate k (.int .u8 (c : Int)) ++ List.replicate (N - k) (.int .u8 0)
theorem fillRow_set (N c k : Nat) (h : k < N) : (fillRow N c k).toArray.setIfInBounds k (.int .u8 (c : Int)) = (fillRow N c (k + 1)).toArray := by
  rw [List.setIfInBounds_toArray]
  congr 1
  unfold fillRow
  rw [List.set_append_right _ _ (by rw [List.length_replicate]; exact Nat.le_refl _), List.length_replicate, Nat.sub_self, show N - k = (N - (k + 1)) + 1 by omega, List.replicate_succ, List.set_cons_zero, List.replicate_succ' (n := k), List.append_assoc]; rfl
set_option maxRecDepth 100000 in
theorem fill_conv {w : World} {g c N : Nat} (hc : c < 256) (h : w.heap[g]? = some (.cells (fillRow N c N).toArray 5)) :
    (convert 31 9 (.slice (some ⟨g, 0, none⟩) N N)).run Try.prog w = .ok (.string ⟨(List.replicate N (UInt8.ofNat c)).toArray⟩) w := by
  have := run_convert_bytes_arg w 31 5 Try.underlying31 Try.underlying5 g 0 N N (List.replicate N (c : Int)) (by simp) (fun i hi => by
    rw [Nat.zero_add, cell_of_row w g _ _ _ _ h]
    unfold fillRow
    simp [hi]) 9 Try.underlying9
  have e : strOfNums (List.replicate N (c : Int)) = ⟨(List.replicate N (UInt8.ofNat c)).toArray⟩ := by
    unfold strOfNums; rw [List.map_replicate]; rfl
  rwa [e] at this
set_option maxRecDepth 100000 in
theorem fill_make (w : World) (c : Nat) : (Instr.makeSlice 31 (.int .i64 256) (.int .i64 256)).run Try.prog w = .ok (.slice (some ⟨w.heap.size, 0, none⟩) 256 256) (w.alloc (.cells (fillRow 256 c 0).toArray 5)) := by
  have h : (Instr.makeSlice 31 (.int .i64 256) (.int .i64 256)).run Try.prog w = .ok (.slice (some ⟨w.heap.size, 0, none⟩) 256 256) (w.alloc (.cells (List.replicate 256 (Value.int .u8 0)).toArray 5)) := by kernel_rfl
  exact h

set_option maxRecDepth 100000 in
set_option maxHeartbeats 1000000 in
theorem fill_any (c : Nat) (w : World) (hc : c < 256) : Calls Try.prog 27 #[.int .u8 c] w (RetB w (.string (fillB c))) := by
  have hc2 : (c : Int) ≤ 255 := by omega
  have hmk := fun w => fill_make w c
  go_enter Try.func27, Try.ntmps27
  go_wp2
  clear hmk
  go_loopw [8] (fun x wr => ∃ k : Nat, k ≤ 256 ∧ x = .int .i64 k ∧ Hid (wr.heap[w.heap.size]? = some (.cells (fillRow 256 c k).toArray 5)) ∧ Hid (Below w.heap.size w wr)) (fun x _ => 256 - (intOf x).toNat)
  case atStart => exact ⟨0, by omega, rfl, Lib.hid (heap_new_at rfl), Lib.hid (bel_new _ _)⟩
  case round =>
    obtain ⟨k, hk, rfl, HX, HB⟩ := hrel
    by_cases hlt : k < 256
    · have hcell : ∃ v, wr.cell? ⟨w.heap.size, k, none⟩ = some v := by
        rw [cell_of_row wr _ _ _ _ _ HX.out]
        have hk2 : k < (fillRow 256 c k).toArray.size := by rw [List.size_toArray]; unfold fillRow; rw [List.length_append, List.length_replicate, List.length_replicate]; omega
        exact ⟨_, Array.getElem?_eq_getElem hk2⟩
      obtain ⟨v, hv⟩ := hcell
      have hf := frozen_row (o := k) HX.out
      have HS := Lib.hid (fillRow_set 256 c k hlt)
      go_wp2
      go_roundw
      case rel => exact ⟨k + 1, by omega, by go_num, Lib.hid (by rw [set_heap HX.out, HS.out]), Lib.hid (bel_set HB.out (Nat.le_refl _))⟩
      case measure => simp [intOf]; omega
    · have hk2 : k = 256 := by omega
      subst hk2
      have hcv := fill_conv hc HX.out
      go_wp2
      go_ret
      exact ⟨rfl, HB.out⟩
end Go.Proofs.Ytjcggkfinhkcoaa
