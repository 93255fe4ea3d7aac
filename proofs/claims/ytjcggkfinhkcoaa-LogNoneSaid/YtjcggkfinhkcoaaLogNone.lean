/-
  The walk of the law LogNone.
-/
import Derived.Test.YtjcggkfinhkcoaaLog8
import Derived.Lib.MinMax
namespace Go.Proofs.Ytjcggkfinhkcoaa
open Go.RowKit
set_option linter.unusedVariables false
set_option linter.unusedSimpArgs false

section
variable {w : World} {t : Nat}
theorem may_nil : Calls Try.prog 29 #[.pointer none] w (RetB w (.int .i64 1)) := by
  go_enter Try.func29, Try.ntmps29
  go_wp2
  go_ret
  exact ⟨rfl, Below.refl _ _⟩
theorem may_z (h : w.heap[t]? = some (.cells #[.pointer none, .int .i64 0, .int .i64 0, .int .u64 0, .int .i64 0, .int .i64 0, .int .i64 0] 44)) : Calls Try.prog 29 #[.pointer (some ⟨t, 0, none⟩)] w (RetB w (.int .i64 1)) := by
  obtain ⟨c0, c1, c2, c3, c4, c5, c6⟩ := row7 h
  clear h
  go_enter Try.func29, Try.ntmps29
  go_wp2
  go_ret
  exact ⟨rfl, Below.refl _ _⟩
theorem App_nil (v : Value) : Calls Try.prog 11 #[.pointer none, v] w (RetB w (.int .i64 1)) := by
  go_enter Try.func11, Try.ntmps11
  go_wp2_with fail
  refine (may_nil).mono ?_
  rintro e w1 ⟨rfl, hb⟩
  go_wp2
  go_ret
  exact ⟨rfl, hb⟩
theorem App_z (v : Value) (h : w.heap[t]? = some (.cells #[.pointer none, .int .i64 0, .int .i64 0, .int .u64 0, .int .i64 0, .int .i64 0, .int .i64 0] 44)) : Calls Try.prog 11 #[.pointer (some ⟨t, 0, none⟩), v] w (RetB w (.int .i64 1)) := by
  go_enter Try.func11, Try.ntmps11
  go_wp2_with fail
  refine (may_z h).mono ?_
  rintro e w1 ⟨rfl, hb⟩
  go_wp2
  go_ret
  exact ⟨rfl, hb⟩
theorem gflush_nil : Calls Try.prog 17 #[.pointer none] w (RetB w (.int .i64 1)) := by
  go_enter Try.func17, Try.ntmps17
  go_wp2_with fail
  refine (may_nil).mono ?_
  rintro e w1 ⟨rfl, hb⟩
  go_wp2
  go_ret
  exact ⟨rfl, hb⟩
theorem gflush_z (h : w.heap[t]? = some (.cells #[.pointer none, .int .i64 0, .int .i64 0, .int .u64 0, .int .i64 0, .int .i64 0, .int .i64 0] 44)) : Calls Try.prog 17 #[.pointer (some ⟨t, 0, none⟩)] w (RetB w (.int .i64 1)) := by
  go_enter Try.func17, Try.ntmps17
  go_wp2_with fail
  refine (may_z h).mono ?_
  rintro e w1 ⟨rfl, hb⟩
  go_wp2
  go_ret
  exact ⟨rfl, hb⟩
theorem left_nil : Calls Try.prog 13 #[.pointer none] w (RetB w (.int .i64 0)) := by
  go_enter Try.func13, Try.ntmps13
  go_wp2
  go_ret
  exact ⟨rfl, Below.refl _ _⟩
set_option maxRecDepth 100000 in
theorem left_z (h : w.heap[t]? = some (.cells #[.pointer none, .int .i64 0, .int .i64 0, .int .u64 0, .int .i64 0, .int .i64 0, .int .i64 0] 44)) : Calls Try.prog 13 #[.pointer (some ⟨t, 0, none⟩)] w (RetB w (.int .i64 0)) := by
  obtain ⟨c0, c1, c2, c3, c4, c5, c6⟩ := row7 h
  clear h
  go_enter Try.func13, Try.ntmps13
  go_wp2_with fail
  refine wp_region_inv (R := Blw) (S := (fun w' => Below w.heap.size w w' ∧ w'.cell? ⟨t, 2, none⟩ = some (.int .i64 0) ∧ w'.cell? ⟨t, 4, none⟩ = some (.int .i64 0))) 10 (Spec.val ?_ :: Spec.val ?_ :: Spec.val ?_ :: Spec.val ?_ :: Spec.val ?_ :: Spec.val ?_ :: Spec.val ?_ :: Spec.val ?_ :: Spec.val ?_ :: Spec.val ?_ :: []) (by kernel_rfl) (by kernel_rfl) rfl (fun w1 w2 h hb => ⟨chain h.1 hb, cell_step h.2.1 hb, cell_step h.2.2 hb⟩) (⟨(Below.refl _ _).drew, c2, c4⟩) ?hm1
  case' hm1 => skip
  refine inv_val (i := 0) (by kernel_rfl) rfl rfl (fun w1 hS hd K hK => ?_) ?_
  · (try dsimp only at hS); go_simp; exact hK.out _ _ (by simp only [Act.put, List.setIfInBounds_toArray, List.set_cons_zero, List.set_cons_succ, List.nil_append, List.cons_append]; rfl) (Below.refl _ _)
  simp only [Act.put, List.setIfInBounds_toArray, List.set_cons_zero, List.set_cons_succ, List.nil_append, List.cons_append]
  refine inv_val (i := 1) (by kernel_rfl) rfl rfl (fun w1 hS hd K hK => ?_) ?_
  · (try dsimp only at hS); go_simp; exact hK.out _ _ (by simp only [Act.put, List.setIfInBounds_toArray, List.set_cons_zero, List.set_cons_succ, List.nil_append, List.cons_append]; rfl) (Below.refl _ _)
  simp only [Act.put, List.setIfInBounds_toArray, List.set_cons_zero, List.set_cons_succ, List.nil_append, List.cons_append]
  refine inv_val (i := 2) (by kernel_rfl) rfl rfl (fun w1 hS hd K hK => ?_) ?_
  · (try dsimp only at hS); go_simp; exact hK.out _ _ (by simp only [Act.put, List.setIfInBounds_toArray, List.set_cons_zero, List.set_cons_succ, List.nil_append, List.cons_append]; rfl) (Below.refl _ _)
  simp only [Act.put, List.setIfInBounds_toArray, List.set_cons_zero, List.set_cons_succ, List.nil_append, List.cons_append]
  refine inv_val (i := 3) (by kernel_rfl) rfl rfl (fun w1 hS hd K hK => ?_) ?_
  · (try dsimp only at hS); go_simp; exact hK.out _ _ (by simp only [Act.put, List.setIfInBounds_toArray, List.set_cons_zero, List.set_cons_succ, List.nil_append, List.cons_append]; rfl) (Below.refl _ _)
  simp only [Act.put, List.setIfInBounds_toArray, List.set_cons_zero, List.set_cons_succ, List.nil_append, List.cons_append]
  refine inv_val (i := 4) (by kernel_rfl) rfl rfl (fun w1 hS hd K hK => ?_) ?_
  · (try dsimp only at hS); go_simp; exact hK.out _ _ (by simp only [Act.put, List.setIfInBounds_toArray, List.set_cons_zero, List.set_cons_succ, List.nil_append, List.cons_append]; rfl) (Below.refl _ _)
  simp only [Act.put, List.setIfInBounds_toArray, List.set_cons_zero, List.set_cons_succ, List.nil_append, List.cons_append]
  refine inv_val (i := 5) (by kernel_rfl) rfl rfl (fun w1 hS hd K hK => ?_) ?_
  · (try dsimp only at hS); go_simp; exact hK.out _ _ (by simp only [Act.put, List.setIfInBounds_toArray, List.set_cons_zero, List.set_cons_succ, List.nil_append, List.cons_append]; rfl) (Below.refl _ _)
  simp only [Act.put, List.setIfInBounds_toArray, List.set_cons_zero, List.set_cons_succ, List.nil_append, List.cons_append]
  refine inv_val (i := 6) (by kernel_rfl) rfl rfl (fun w1 hS hd K hK => ?_) ?_
  · (try dsimp only at hS); go_simp; exact hK.out _ _ (by simp only [Act.put, List.setIfInBounds_toArray, List.set_cons_zero, List.set_cons_succ, List.nil_append, List.cons_append]; rfl) (Below.refl _ _)
  simp only [Act.put, List.setIfInBounds_toArray, List.set_cons_zero, List.set_cons_succ, List.nil_append, List.cons_append]
  refine inv_val (i := 7) (by kernel_rfl) rfl rfl (fun w1 hS hd K hK => ?_) ?_
  · (try dsimp only at hS); go_simp; exact hK.out _ _ (by simp only [Act.put, List.setIfInBounds_toArray, List.set_cons_zero, List.set_cons_succ, List.nil_append, List.cons_append]; rfl) (Below.refl _ _)
  simp only [Act.put, List.setIfInBounds_toArray, List.set_cons_zero, List.set_cons_succ, List.nil_append, List.cons_append]
  refine inv_val (i := 8) (by kernel_rfl) rfl rfl (fun w1 hS hd K hK => ?_) ?_
  · (try dsimp only at hS); go_simp; exact hK.out _ _ (by simp only [Act.put, List.setIfInBounds_toArray, List.set_cons_zero, List.set_cons_succ, List.nil_append, List.cons_append]; rfl) (Below.refl _ _)
  simp only [Act.put, List.setIfInBounds_toArray, List.set_cons_zero, List.set_cons_succ, List.nil_append, List.cons_append]
  refine inv_val (i := 9) (by kernel_rfl) rfl rfl (fun w1 hS hd K hK => ?_) ?_
  · (try dsimp only at hS); go_simp; exact hK.out _ _ (by simp only [Act.put, List.setIfInBounds_toArray, List.set_cons_zero, List.set_cons_succ, List.nil_append, List.cons_append]; rfl) (Below.refl _ _)
  simp only [Act.put, List.setIfInBounds_toArray, List.set_cons_zero, List.set_cons_succ, List.nil_append, List.cons_append]
  refine inv_done (by kernel_rfl) (fun w2 hS hd => ?_)
  have HB := Lib.hid hS.1
  clear hS hd
  go_wp2
  go_ret
  exact ⟨rfl, HB.out⟩
theorem len_nil : Calls Try.prog 14 #[.pointer none] w (RetB w (.int .i64 0)) := by
  go_enter Try.func14, Try.ntmps14
  go_wp2
  go_ret
  exact ⟨rfl, Below.refl _ _⟩
theorem len_z (h : w.heap[t]? = some (.cells #[.pointer none, .int .i64 0, .int .i64 0, .int .u64 0, .int .i64 0, .int .i64 0, .int .i64 0] 44)) : Calls Try.prog 14 #[.pointer (some ⟨t, 0, none⟩)] w (RetB w (.int .i64 0)) := by
  obtain ⟨c0, c1, c2, c3, c4, c5, c6⟩ := row7 h
  clear h
  go_enter Try.func14, Try.ntmps14
  go_wp2
  go_ret
  exact ⟨rfl, Below.refl _ _⟩
theorem gen_nil : Calls Try.prog 19 #[.pointer none] w (RetB w (.int .u64 0)) := by
  go_enter Try.func19, Try.ntmps19
  go_wp2
  go_ret
  exact ⟨rfl, Below.refl _ _⟩
theorem gen_z (h : w.heap[t]? = some (.cells #[.pointer none, .int .i64 0, .int .i64 0, .int .u64 0, .int .i64 0, .int .i64 0, .int .i64 0] 44)) : Calls Try.prog 19 #[.pointer (some ⟨t, 0, none⟩)] w (RetB w (.int .u64 0)) := by
  obtain ⟨c0, c1, c2, c3, c4, c5, c6⟩ := row7 h
  clear h
  go_enter Try.func19, Try.ntmps19
  go_wp2
  go_ret
  exact ⟨rfl, Below.refl _ _⟩
theorem broken_nil : Calls Try.prog 20 #[.pointer none] w (RetB w (.bool false)) := by
  go_enter Try.func20, Try.ntmps20
  go_wp2
  go_ret
  exact ⟨rfl, Below.refl _ _⟩
theorem blocks_neg : Calls Try.prog 12 #[.int .i64 (-1)] w (RetB w (.int .i64 0)) := by
  go_enter Try.func12, Try.ntmps12
  go_wp2
  go_ret
  exact ⟨rfl, Below.refl _ _⟩
end
set_option maxRecDepth 100000 in
set_option maxHeartbeats 8000000 in
theorem walkLogNone (n : Int) (wn : (Lit.int .i64 n).wf = true) (w : World) : Calls Try.prog 5 #[.int .i64 n] w (BoolPost w true) := by
  have hI := wf64' wn
  have HMIN := Lib.hid (show ¬ ((0 : Int) < 1 ∧ 1 ≤ min n 0 ∧ min n 0 ≤ 4096) by omega)
  clear wn
  go_enter Try.func5, Try.ntmps5
  go_wp2_with fail
  refine (lread_nil 0 5 1).mono ?_
  rintro e w1 ⟨rfl, hb1⟩
  have HZ1 := Lib.hid (heap_step (heap_alloc_new w (.cells #[.pointer none, .int .i64 0, .int .i64 0, .int .u64 0, .int .i64 0, .int .i64 0, .int .i64 0] 44)) hb1)
  have HB1 := Lib.hid (chain (bel_new w _) hb1)
  clear hb1
  go_wp2_with fail
  refine (new_nil 0 5 1).mono ?_
  rintro e w2 ⟨rfl, hb2⟩
  have HZ2 := Lib.hid (heap_step HZ1.out hb2)
  have HB2 := Lib.hid (chain HB1.out hb2)
  clear hb2
  go_wp2_with fail
  refine (new_any 9 _ (by omega)).mono ?_
  rintro e w3 ⟨q, rfl, hD, hb3⟩
  have HZ3 := Lib.hid (heap_step HZ2.out hb3)
  have HB3 := Lib.hid (chain HB2.out hb3)
  clear hD hb3
  go_wp2_with fail
  refine (new_no 0 (min n 0) 1 HMIN.out).mono ?_
  rintro e w4 ⟨rfl, hb4⟩
  have HZ4 := Lib.hid (heap_step HZ3.out hb4)
  have HB4 := Lib.hid (chain HB3.out hb4)
  clear hb4
  go_wp2_with fail
  refine (alive_any _).mono ?_
  rintro e w5 ⟨rfl, hb5⟩
  have HZ5 := Lib.hid (heap_step HZ4.out hb5)
  have HB5 := Lib.hid (chain HB4.out hb5)
  clear hb5
  go_wp2_with fail
  refine (App_nil _).mono ?_
  rintro e w6 ⟨rfl, hb6'⟩
  have hb6 := chain (bel_new w5 _) hb6'
  have HZ6 := Lib.hid (heap_step HZ5.out hb6)
  have HB6 := Lib.hid (chain HB5.out hb6)
  clear hb6
  go_wp2_with fail
  refine (App_z _ (heap_step HZ6.out (bel_new _ _))).mono ?_
  rintro e w7 ⟨rfl, hb7'⟩
  have hb7 := chain (bel_new w6 _) hb7'
  have HZ7 := Lib.hid (heap_step HZ6.out hb7)
  have HB7 := Lib.hid (chain HB6.out hb7)
  clear hb7
  go_wp2_with fail
  refine (gflush_nil).mono ?_
  rintro e w8 ⟨rfl, hb8⟩
  have HZ8 := Lib.hid (heap_step HZ7.out hb8)
  have HB8 := Lib.hid (chain HB7.out hb8)
  clear hb8
  go_wp2_with fail
  refine (gflush_z HZ8.out).mono ?_
  rintro e w9 ⟨rfl, hb9⟩
  have HZ9 := Lib.hid (heap_step HZ8.out hb9)
  have HB9 := Lib.hid (chain HB8.out hb9)
  clear hb9
  go_wp2_with fail
  refine (left_nil).mono ?_
  rintro e w10 ⟨rfl, hb10⟩
  have HZ10 := Lib.hid (heap_step HZ9.out hb10)
  have HB10 := Lib.hid (chain HB9.out hb10)
  clear hb10
  go_wp2_with fail
  refine (len_nil).mono ?_
  rintro e w11 ⟨rfl, hb11⟩
  have HZ11 := Lib.hid (heap_step HZ10.out hb11)
  have HB11 := Lib.hid (chain HB10.out hb11)
  clear hb11
  go_wp2_with fail
  refine (left_z HZ11.out).mono ?_
  rintro e w12 ⟨rfl, hb12⟩
  have HZ12 := Lib.hid (heap_step HZ11.out hb12)
  have HB12 := Lib.hid (chain HB11.out hb12)
  clear hb12
  go_wp2_with fail
  refine (len_z HZ12.out).mono ?_
  rintro e w13 ⟨rfl, hb13⟩
  have HZ13 := Lib.hid (heap_step HZ12.out hb13)
  have HB13 := Lib.hid (chain HB12.out hb13)
  clear hb13
  go_wp2_with fail
  refine (gen_nil).mono ?_
  rintro e w14 ⟨rfl, hb14⟩
  have HZ14 := Lib.hid (heap_step HZ13.out hb14)
  have HB14 := Lib.hid (chain HB13.out hb14)
  clear hb14
  go_wp2_with fail
  refine (gen_z HZ14.out).mono ?_
  rintro e w15 ⟨rfl, hb15⟩
  have HZ15 := Lib.hid (heap_step HZ14.out hb15)
  have HB15 := Lib.hid (chain HB14.out hb15)
  clear hb15
  go_wp2_with fail
  refine (broken_nil).mono ?_
  rintro e w16 ⟨rfl, hb16⟩
  have HZ16 := Lib.hid (heap_step HZ15.out hb16)
  have HB16 := Lib.hid (chain HB15.out hb16)
  clear hb16
  go_wp2_with fail
  refine (blocks_neg).mono ?_
  rintro e w17 ⟨rfl, hb17⟩
  have HZ17 := Lib.hid (heap_step HZ16.out hb17)
  have HB17 := Lib.hid (chain HB16.out hb17)
  clear hb17
  go_wp2_with fail
  refine (blocks_any 0 _ (by decide)).mono ?_
  rintro e w18 ⟨rfl, hb18⟩
  rw [show ((blks 0 : Nat) : Int) = 1 from rfl]
  have HB18 := Lib.hid (chain HB17.out hb18)
  clear hb18
  go_wp2
  go_ret
  exact ⟨rfl, HB18.out⟩
end Go.Proofs.Ytjcggkfinhkcoaa
