/-
  The contract of pack.Unpacker's Small.
-/
import Derived.Test.YtjcggkfinhkcoaaGreatUnpack
import Derived.Test.YtjcggkfinhkcoaaGreatPackSmall
namespace Go.Proofs.YtjcggkfinhkcoaaGreat
open Go.RowKit
set_option linter.unusedVariables false
set_option linter.unusedSimpArgs false

theorem pow_small (m : Nat) (h : m ≤ 4) : (256 : Int) ^ m ≤ 4294967296 := by
  have : m = 0 ∨ m = 1 ∨ m = 2 ∨ m = 3 ∨ m = 4 := by omega
  rcases this with rfl | rfl | rfl | rfl | rfl <;> decide
set_option maxRecDepth 100000 in
set_option maxHeartbeats 2000000 in
theorem usmall_some (u sz : Nat) (s : ByteArray) (w : World) (hU : UnpAt w u 0 s) (hz : sz = 4 ∨ sz = 2) (hn : sz ≤ s.size) (hs : s.size ≤ 9223372036854775807) :
    Calls Tryz.prog 71 #[.pointer (some ⟨u, 0, none⟩), .int .i64 sz] w (fun e' w' => e' = .returned (.int .i64 (leVal (s.data.toList.take sz))) ∧ UnpAt w' u 0 (s.extract sz s.size) ∧ Only u w w') := by
  have HU := Lib.hid hU
  have HN := Lib.hid hn
  have HZ := Lib.hid hz
  have hbd : 0 ≤ leVal (s.data.toList.take sz) ∧ leVal (s.data.toList.take sz) ≤ 4294967296 := by
    have h := leVal_bd (s.data.toList.take sz)
    have h2 := pow_small (s.data.toList.take sz).length (by have := List.length_take_le sz s.data.toList; omega)
    omega
  have hx : (s.extract 0 sz).data.toList = s.data.toList.take sz := by rw [extract_list, List.drop_zero]
  have HX := Lib.hid hx
  have HLT := Lib.hid (heap_lt (show w.heap[u]? = _ from hU))
  obtain ⟨V, hV⟩ : ∃ V, V = leVal (s.data.toList.take sz) := ⟨_, rfl⟩
  have HV := Lib.hid (show leVal (s.extract 0 sz).data.toList = V by rw [hx, hV])
  rw [← hV] at hbd ⊢
  clear hU hn hz hx hV
  go_enter Tryz.func71, Tryz.ntmps71
  go_wp2_with fail
  refine wp_region_inv (R := Blw) (S := (fun w' => Below w.heap.size w w' ∧ w'.heap[u]? = some (.cells #[.int .i64 0, .string s] 155))) 10 (Spec.val ?_ :: Spec.val ?_ :: Spec.val ?_ :: Spec.val ?_ :: Spec.val ?_ :: Spec.val ?_ :: Spec.val ?_ :: Spec.val ?_ :: Spec.val ?_ :: Spec.val ?_ :: []) (by kernel_rfl) (by kernel_rfl) rfl (fun w1 w2 h hb => ⟨chain h.1 hb, heap_step h.2 hb⟩) (⟨(Below.refl _ _).drew, HU.out⟩) ?hm7
  case' hm7 => skip
  refine inv_val (i := 0) (by kernel_rfl) rfl rfl (fun w1 hS hd K hK => ?_) ?_
  · (try dsimp only at hS); go_simp; exact hK.out _ _ (by simp only [Act.put, List.setIfInBounds_toArray, List.set_cons_zero, List.set_cons_succ, List.nil_append, List.cons_append]; rfl) (Below.refl _ _)
  simp only [Act.put, List.setIfInBounds_toArray, List.set_cons_zero, List.set_cons_succ, List.nil_append, List.cons_append]
  refine inv_val (i := 1) (by kernel_rfl) rfl rfl (fun w1 hS hd K hK => ?_) ?_
  · (try dsimp only at hS); go_simp; exact hK.out _ _ (by simp only [Act.put, List.setIfInBounds_toArray, List.set_cons_zero, List.set_cons_succ, List.nil_append, List.cons_append]; rfl) (Below.refl _ _)
  simp only [Act.put, List.setIfInBounds_toArray, List.set_cons_zero, List.set_cons_succ, List.nil_append, List.cons_append]
  refine inv_val (i := 2) (by kernel_rfl) rfl rfl (fun w1 hS hd K hK => ?_) ?_
  · (try dsimp only at hS); go_simp; exact hK.out _ _ (by simp only [Act.put, List.setIfInBounds_toArray, List.set_cons_zero, List.set_cons_succ, List.nil_append, List.cons_append]; rfl) (Below.refl _ _)
  simp only [Act.put, List.setIfInBounds_toArray, List.set_cons_zero, List.set_cons_succ, List.nil_append, List.cons_append]
  refine inv_val (i := 3) (by kernel_rfl) rfl rfl (fun w1 hS hd K hK => ?_) ?_
  · (try dsimp only at hS); go_simp; exact hK.out _ _ (by simp only [Act.put, List.setIfInBounds_toArray, List.set_cons_zero, List.set_cons_succ, List.nil_append, List.cons_append]; rfl) (Below.refl _ _)
  simp only [Act.put, List.setIfInBounds_toArray, List.set_cons_zero, List.set_cons_succ, List.nil_append, List.cons_append]
  refine inv_val (i := 4) (by kernel_rfl) rfl rfl (fun w1 hS hd K hK => ?_) ?_
  · (try dsimp only at hS); go_simp; exact hK.out _ _ (by simp only [Act.put, List.setIfInBounds_toArray, List.set_cons_zero, List.set_cons_succ, List.nil_append, List.cons_append]; rfl) (Below.refl _ _)
  simp only [Act.put, List.setIfInBounds_toArray, List.set_cons_zero, List.set_cons_succ, List.nil_append, List.cons_append]
  refine inv_val (i := 5) (by kernel_rfl) rfl rfl (fun w1 hS hd K hK => ?_) ?_
  · (try dsimp only at hS); go_simp; exact hK.out _ _ (by simp only [Act.put, List.setIfInBounds_toArray, List.set_cons_zero, List.set_cons_succ, List.nil_append, List.cons_append]; rfl) (Below.refl _ _)
  simp only [Act.put, List.setIfInBounds_toArray, List.set_cons_zero, List.set_cons_succ, List.nil_append, List.cons_append]
  refine inv_val (i := 6) (by kernel_rfl) rfl rfl (fun w1 hS hd K hK => ?_) ?_
  · (try dsimp only at hS); go_simp; exact hK.out _ _ (by simp only [Act.put, List.setIfInBounds_toArray, List.set_cons_zero, List.set_cons_succ, List.nil_append, List.cons_append]; rfl) (Below.refl _ _)
  simp only [Act.put, List.setIfInBounds_toArray, List.set_cons_zero, List.set_cons_succ, List.nil_append, List.cons_append]
  refine inv_val (i := 7) (by kernel_rfl) rfl rfl (fun w1 hS hd K hK => ?_) ?_
  · (try dsimp only at hS); go_simp; refine (fits_ok sz 0 _ HZ.out (by omega) (by have := HZ.out; unfold lim; split <;> omega)).mono ?_; rintro e w2 ⟨rfl, hb⟩; exact hK.out _ _ (by simp only [Act.put, List.setIfInBounds_toArray, List.set_cons_zero, List.set_cons_succ, List.nil_append, List.cons_append]; rfl) hb
  simp only [Act.put, List.setIfInBounds_toArray, List.set_cons_zero, List.set_cons_succ, List.nil_append, List.cons_append]
  refine inv_val (i := 8) (by kernel_rfl) rfl rfl (fun w1 hS hd K hK => ?_) ?_
  · (try dsimp only at hS); go_simp; refine (fail_zero u (.string s) 155 _ hS.2).mono ?_; rintro e w2 ⟨rfl, hb⟩; exact hK.out _ _ (by simp only [Act.put, List.setIfInBounds_toArray, List.set_cons_zero, List.set_cons_succ, List.nil_append, List.cons_append]; rfl) hb
  simp only [Act.put, List.setIfInBounds_toArray, List.set_cons_zero, List.set_cons_succ, List.nil_append, List.cons_append]
  refine inv_val (i := 9) (by kernel_rfl) rfl rfl (fun w1 hS hd K hK => ?_) ?_
  · (try dsimp only at hS); go_simp; exact hK.out _ _ (by simp only [Act.put, List.setIfInBounds_toArray, List.set_cons_zero, List.set_cons_succ, List.nil_append, List.cons_append]; rfl) (Below.refl _ _)
  simp only [Act.put, List.setIfInBounds_toArray, List.set_cons_zero, List.set_cons_succ, List.nil_append, List.cons_append]
  refine inv_done (by kernel_rfl) (fun w2 hS hd => ?_)
  have HB2 := Lib.hid hS.1
  have HU2 := Lib.hid hS.2
  clear hS hd
  go_wp2_with fail
  refine (take_some u sz s _ HU2.out HN.out hs).mono ?_
  rintro e w3 ⟨rfl, hU1, ho⟩
  have HU3 := Lib.hid hU1
  have HO3 := Lib.hid ((Only.of_below HB2.out).trans ho)
  clear hU1 ho
  go_wp2_with fail
  refine (high_any _ w3 (by simp; have := HZ.out; omega)).mono ?_
  rintro e w4 ⟨rfl, hb⟩
  rw [HV.out]
  go_wp2
  go_ret
  exact ⟨rfl, heap_step HU3.out hb, HO3.out.trans (Only.of_below hb)⟩
end Go.Proofs.YtjcggkfinhkcoaaGreat
