/-
  The walk of the law CrcLong.
-/
import Derived.Test.YtajmaipboleaiaaCrcLaws1
import Derived.Deep.DeepCutAuto
namespace Go.Proofs.Ytajmaipboleaiaa
open Go.RowKit
set_option linter.unusedVariables false
set_option linter.unusedSimpArgs false

/-- What Open answers: a text and an error; what is known of them. -/
theorem open_facts (b : ByteArray) (hb : b.size ≤ 1000000) : ∃ (t : ByteArray) (e : Int), (∀ w, Calls Try.prog 11 #[.string b] w (RetB w (.tuple #[.string t, .int .i64 e]))) ∧
    (e = 0 ∨ e = 5 ∨ e = 7) ∧ (e = 0 → 4 ≤ b.size ∧ t = b.extract 0 (b.size - 4)) ∧ (b.size < 4 → e = 5) := by
  by_cases h : b.size < 4
  · exact ⟨ByteArray.empty, 5, fun w => open_short b w h, .inr (.inl rfl), fun h => absurd h (by decide), fun _ => rfl⟩
  · obtain ⟨n, hn⟩ : ∃ n, b.size = n + 4 := ⟨b.size - 4, by omega⟩
    have h1 := fun w => open_long b _ _ n w hn (by omega) rfl rfl
    by_cases he : b.extract n (n + 4) = fourS (crcSum (b.extract 0 n).data.toList)
    · refine ⟨b.extract 0 n, 0, fun w => ?_, .inl rfl, fun _ => ⟨by omega, by rw [hn]; rfl⟩, fun h' => absurd h' h⟩
      have := h1 w; rwa [if_pos he] at this
    · refine ⟨ByteArray.empty, 7, fun w => ?_, .inr (.inr rfl), fun h => absurd h (by decide), fun h' => absurd h' h⟩
      have := h1 w; rwa [if_neg he] at this

set_option maxRecDepth 100000 in
set_option maxHeartbeats 4000000 in
theorem walkCrcLongIn (s more : ByteArray) (cut : Int) (w : World) (h1 : s.size ≤ 3000) (h2 : more.size ≤ 300) (h3 : 0 ≤ cut) (h4 : cut ≤ 9223372036854775807) (hm : more.size ≠ 0) :
    Calls Try.prog 6 #[.string s, .string more, .int .i64 cut] w (BoolPost w true) := by
  obtain ⟨n, hn⟩ : ∃ n, s.size = n := ⟨_, rfl⟩
  obtain ⟨m, hmm⟩ : ∃ m, more.size = m := ⟨_, rfl⟩
  have hB := closeS_size s
  obtain ⟨B, hBe⟩ : ∃ B, B = closeS s := ⟨_, rfl⟩
  have hcl := fun w => close_any s w (by omega)
  rw [← hBe] at hB hcl
  have HCL := Lib.hid hcl
  have happ : (B ++ more).size = n + 4 + m := by rw [ByteArray.size_append]; omega
  obtain ⟨t, e, ho, he, he0, _⟩ := open_facts (B ++ more) (by omega)
  obtain ⟨K, hK⟩ : ∃ K : Nat, cut % ((n : Int) + 4 + 1) = K := ⟨(cut % ((n : Int) + 4 + 1)).toNat, by have := Int.emod_nonneg cut (show ((n : Int) + 4 + 1) ≠ 0 by omega); omega⟩
  have hK2 : K < n + 5 := by have := Int.emod_lt_of_pos cut (show 0 < ((n : Int) + 4 + 1) by omega); omega
  have hbk : (B.extract 0 K).size = K := by rw [ByteArray.size_extract]; omega
  obtain ⟨u, f, hu, hf, hf0, hf5⟩ := open_facts (B.extract 0 K) (by omega)
  have HO := Lib.hid ho
  have HU := Lib.hid hu
  have hsI : (s.size : Int) = n := by omega
  have hmI : (more.size : Int) = m := by omega
  have hBI : (B.size : Int) = (n : Int) + 4 := by omega
  have hn3 : (n : Int) ≤ 3000 := by omega
  have hm3 : (m : Int) ≤ 300 := by omega
  have hm1 : 1 ≤ (m : Int) := by omega
  have hcat : B.size + more.size ≤ 9223372036854775807 := by omega
  have hne : (more.toList == []) = false := by
    simp only [beq_eq_false_iff_ne]; intro h; rw [ByteArray.toList_eq] at h
    exact hm (by show more.data.size = 0; rw [← Array.length_toList, h]; rfl)
  clear hBe hcl ho hu
  go_enter Try.func6, Try.ntmps6
  go_wp2_with fail
  refine (HCL.out _).mono ?_
  rintro x w1 ⟨rfl, hb1⟩
  go_wp2_with fail
  refine (HO.out _).mono ?_
  rintro x w2 ⟨rfl, hb2⟩
  have hb := chain hb1 hb2
  have HB2 := Lib.hid hb
  clear hb1 hb2 hb
  go_upto_region 7 with (fail)
  have HE := Lib.hid he
  have HE0 := Lib.hid he0
  have HF := Lib.hid hf
  have HF0 := Lib.hid hf0
  have HF5 := Lib.hid hf5
  clear he he0 hf hf0 hf5
  have hT4 : (B ++ more).extract 0 ((B ++ more).size - 4) = B.extract 0 (n + 4) ++ more.extract 0 (m - min m 4) ∨ m < 4 := by
    by_cases h : m < 4
    · exact .inr h
    · refine .inl (data_inj ?_)
      have hb : B.data.toList.length = n + 4 := by rw [Array.length_toList]; show B.size = _; omega
      have e1 : m - min m 4 = m - 4 := by omega
      have e2 : n + 4 + m - 4 = (n + 4) + (m - 4) := by omega
      rw [happ, e1, e2, ByteArray.data_append, Array.toList_append, Lib.extract_data, Lib.extract_data, Lib.extract_data, ByteArray.data_append, Array.toList_append]
      simp only [List.drop_zero, Nat.sub_zero]
      rw [← hb, List.take_length_add_append, List.take_length]
  have hmin : (0 : Int) ≤ (m : Int) - min (m : Int) 4 ∧ (m : Int) - min (m : Int) 4 ≤ m := by omega
  obtain ⟨N, hN⟩ : ∃ N, N = n + 4 := ⟨_, rfl⟩
  obtain ⟨R, hR⟩ : ∃ R, R = m - min m 4 := ⟨_, rfl⟩
  have hw1 : IntKind.i64.wrap ((n : Int) + 4) = (N : Int) := by rw [IntKind.wrap_i64]; omega
  have hw2 : IntKind.i64.wrap ((m : Int) - min (m : Int) 4) = (R : Int) := by rw [IntKind.wrap_i64]; omega
  have hw3 : (N : Int) ≤ (n : Int) + 4 ∧ (R : Int) ≤ m := by omega
  have hw5 : (B.extract 0 N).size + (more.extract 0 R).size ≤ 9223372036854775807 := by rw [ByteArray.size_extract, ByteArray.size_extract]; omega
  have hadd := fun w => run_string_add_sum (P := Try.prog) w (B.extract 0 N) (more.extract 0 R) hw5
  clear hw5
  rw [← hN, ← hR] at hT4
  have HNR := Lib.hid (And.intro hN hR)
  clear hN hR
  go_cut [69] (fun y wx => y = .bool false ∧ Below w.heap.size w wx)
  case first =>
    by_cases q0 : e = 0
    · subst q0
      by_cases q1 : m < 4
      · have q2 : (m : Int) < 4 := by omega
        cases hq : (t.toList == (B.extract 0 N ++ more.extract 0 R).toList)
        · clear hT4 q1
          refine wp_region_inv (S := (fun w' => Below w.heap.size w w')) 29 (Spec.val ?_ :: Spec.val ?_ :: Spec.val ?_ :: Spec.val ?_ :: Spec.val ?_ :: Spec.val ?_ :: Spec.val ?_ :: Spec.val ?_ :: Spec.val ?_ :: Spec.val ?_ :: Spec.val ?_ :: Spec.val ?_ :: Spec.val ?_ :: Spec.val ?_ :: Spec.val ?_ :: Spec.val ?_ :: Spec.val ?_ :: Spec.val ?_ :: Spec.val ?_ :: Spec.val ?_ :: Spec.val ?_ :: Spec.val ?_ :: Spec.val ?_ :: Spec.val ?_ :: Spec.val ?_ :: Spec.val ?_ :: Spec.val ?_ :: Spec.val ?_ :: Spec.val ?_ :: []) (by kernel_rfl) (by kernel_rfl) rfl (fun w1 w2 h hb => chain h hb) (HB2.out.drew) ?hm1
          case' hm1 => skip
          -- op 0: t41 := Op.move (tmp 9)
          refine inv_val (i := 0) (by kernel_rfl) rfl rfl (fun w1 hS hd K hK => ?_) ?_
          · (try dsimp only at hS)
            go_simp
            exact hK.out _ _ (by simp only [Act.put, List.setIfInBounds_toArray, List.set_cons_zero, List.set_cons_succ, List.nil_append, List.cons_append]; rfl) (Below.refl _ _)
          simp only [Act.put, List.setIfInBounds_toArray, List.set_cons_zero, List.set_cons_succ, List.nil_append, List.cons_append]
          -- op 1: t42 := Op.binOp BinOp.eql 31 (tmp 41) (const (Value.int IntKi
          refine inv_val (i := 1) (by kernel_rfl) rfl rfl (fun w1 hS hd K hK => ?_) ?_
          · (try dsimp only at hS)
            go_simp
            exact hK.out _ _ (by simp only [Act.put, List.setIfInBounds_toArray, List.set_cons_zero, List.set_cons_succ, List.nil_append, List.cons_append]; rfl) (Below.refl _ _)
          simp only [Act.put, List.setIfInBounds_toArray, List.set_cons_zero, List.set_cons_succ, List.nil_append, List.cons_append]
          -- op 2: t43 := Op.move (tmp 42)
          refine inv_val (i := 2) (by kernel_rfl) rfl rfl (fun w1 hS hd K hK => ?_) ?_
          · (try dsimp only at hS)
            go_simp
            exact hK.out _ _ (by simp only [Act.put, List.setIfInBounds_toArray, List.set_cons_zero, List.set_cons_succ, List.nil_append, List.cons_append]; rfl) (Below.refl _ _)
          simp only [Act.put, List.setIfInBounds_toArray, List.set_cons_zero, List.set_cons_succ, List.nil_append, List.cons_append]
          -- op 3: t44 := Op.move (tmp 8)
          refine inv_val (i := 3) (by kernel_rfl) rfl rfl (fun w1 hS hd K hK => ?_) ?_
          · (try dsimp only at hS)
            go_simp
            exact hK.out _ _ (by simp only [Act.put, List.setIfInBounds_toArray, List.set_cons_zero, List.set_cons_succ, List.nil_append, List.cons_append]; rfl) (Below.refl _ _)
          simp only [Act.put, List.setIfInBounds_toArray, List.set_cons_zero, List.set_cons_succ, List.nil_append, List.cons_append]
          -- op 4: t45 := Op.move (tmp 7)
          refine inv_val (i := 4) (by kernel_rfl) rfl rfl (fun w1 hS hd K hK => ?_) ?_
          · (try dsimp only at hS)
            go_simp
            exact hK.out _ _ (by simp only [Act.put, List.setIfInBounds_toArray, List.set_cons_zero, List.set_cons_succ, List.nil_append, List.cons_append]; rfl) (Below.refl _ _)
          simp only [Act.put, List.setIfInBounds_toArray, List.set_cons_zero, List.set_cons_succ, List.nil_append, List.cons_append]
          -- op 5: t46 := Op.move (tmp 0)
          refine inv_val (i := 5) (by kernel_rfl) rfl rfl (fun w1 hS hd K hK => ?_) ?_
          · (try dsimp only at hS)
            go_simp
            exact hK.out _ _ (by simp only [Act.put, List.setIfInBounds_toArray, List.set_cons_zero, List.set_cons_succ, List.nil_append, List.cons_append]; rfl) (Below.refl _ _)
          simp only [Act.put, List.setIfInBounds_toArray, List.set_cons_zero, List.set_cons_succ, List.nil_append, List.cons_append]
          -- op 6: t47 := Op.call { callee := Callee.builtin Builtin.len, args := #[tmp 
          refine inv_val (i := 6) (by kernel_rfl) rfl rfl (fun w1 hS hd K hK => ?_) ?_
          · (try dsimp only at hS)
            go_simp
            exact hK.out _ _ (by simp only [Act.put, List.setIfInBounds_toArray, List.set_cons_zero, List.set_cons_succ, List.nil_append, List.cons_append]; rfl) (Below.refl _ _)
          simp only [Act.put, List.setIfInBounds_toArray, List.set_cons_zero, List.set_cons_succ, List.nil_append, List.cons_append]
          -- op 7: t48 := Op.binOp BinOp.add 3 (tmp 47) (const (Value.int IntKin
          refine inv_val (i := 7) (by kernel_rfl) rfl rfl (fun w1 hS hd K hK => ?_) ?_
          · (try dsimp only at hS)
            go_simp
            exact hK.out _ _ (by simp only [Act.put, List.setIfInBounds_toArray, List.set_cons_zero, List.set_cons_succ, List.nil_append, List.cons_append]; rfl) (Below.refl _ _)
          simp only [Act.put, List.setIfInBounds_toArray, List.set_cons_zero, List.set_cons_succ, List.nil_append, List.cons_append]
          -- op 8: t49 := Op.slice 9 (tmp 45) none (some (tmp 48)) none
          refine inv_val (i := 8) (by kernel_rfl) rfl rfl (fun w1 hS hd K hK => ?_) ?_
          · (try dsimp only at hS)
            go_simp
            exact hK.out _ _ (by simp only [Act.put, List.setIfInBounds_toArray, List.set_cons_zero, List.set_cons_succ, List.nil_append, List.cons_append]; rfl) (Below.refl _ _)
          simp only [Act.put, List.setIfInBounds_toArray, List.set_cons_zero, List.set_cons_succ, List.nil_append, List.cons_append]
          -- op 9: t50 := Op.move (tmp 1)
          refine inv_val (i := 9) (by kernel_rfl) rfl rfl (fun w1 hS hd K hK => ?_) ?_
          · (try dsimp only at hS)
            go_simp
            exact hK.out _ _ (by simp only [Act.put, List.setIfInBounds_toArray, List.set_cons_zero, List.set_cons_succ, List.nil_append, List.cons_append]; rfl) (Below.refl _ _)
          simp only [Act.put, List.setIfInBounds_toArray, List.set_cons_zero, List.set_cons_succ, List.nil_append, List.cons_append]
          -- op 10: t51 := Op.move (tmp 1)
          refine inv_val (i := 10) (by kernel_rfl) rfl rfl (fun w1 hS hd K hK => ?_) ?_
          · (try dsimp only at hS)
            go_simp
            exact hK.out _ _ (by simp only [Act.put, List.setIfInBounds_toArray, List.set_cons_zero, List.set_cons_succ, List.nil_append, List.cons_append]; rfl) (Below.refl _ _)
          simp only [Act.put, List.setIfInBounds_toArray, List.set_cons_zero, List.set_cons_succ, List.nil_append, List.cons_append]
          -- op 11: t52 := Op.call { callee := Callee.builtin Builtin.len, args := #[tmp 
          refine inv_val (i := 11) (by kernel_rfl) rfl rfl (fun w1 hS hd K hK => ?_) ?_
          · (try dsimp only at hS)
            go_simp
            exact hK.out _ _ (by simp only [Act.put, List.setIfInBounds_toArray, List.set_cons_zero, List.set_cons_succ, List.nil_append, List.cons_append]; rfl) (Below.refl _ _)
          simp only [Act.put, List.setIfInBounds_toArray, List.set_cons_zero, List.set_cons_succ, List.nil_append, List.cons_append]
          -- op 12: t53 := Op.move (tmp 1)
          refine inv_val (i := 12) (by kernel_rfl) rfl rfl (fun w1 hS hd K hK => ?_) ?_
          · (try dsimp only at hS)
            go_simp
            exact hK.out _ _ (by simp only [Act.put, List.setIfInBounds_toArray, List.set_cons_zero, List.set_cons_succ, List.nil_append, List.cons_append]; rfl) (Below.refl _ _)
          simp only [Act.put, List.setIfInBounds_toArray, List.set_cons_zero, List.set_cons_succ, List.nil_append, List.cons_append]
          -- op 13: t54 := Op.call { callee := Callee.builtin Builtin.len, args := #[tmp 
          refine inv_val (i := 13) (by kernel_rfl) rfl rfl (fun w1 hS hd K hK => ?_) ?_
          · (try dsimp only at hS)
            go_simp
            exact hK.out _ _ (by simp only [Act.put, List.setIfInBounds_toArray, List.set_cons_zero, List.set_cons_succ, List.nil_append, List.cons_append]; rfl) (Below.refl _ _)
          simp only [Act.put, List.setIfInBounds_toArray, List.set_cons_zero, List.set_cons_succ, List.nil_append, List.cons_append]
          -- op 14: t55 := Op.call { callee := Callee.builtin Builtin.min, args := #[tmp 
          refine inv_val (i := 14) (by kernel_rfl) rfl rfl (fun w1 hS hd K hK => ?_) ?_
          · (try dsimp only at hS)
            go_simp
            exact hK.out _ _ (by simp only [Act.put, List.setIfInBounds_toArray, List.set_cons_zero, List.set_cons_succ, List.nil_append, List.cons_append]; rfl) (Below.refl _ _)
          simp only [Act.put, List.setIfInBounds_toArray, List.set_cons_zero, List.set_cons_succ, List.nil_append, List.cons_append]
          -- op 15: t56 := Op.binOp BinOp.sub 3 (tmp 52) (tmp 55) 3
          refine inv_val (i := 15) (by kernel_rfl) rfl rfl (fun w1 hS hd K hK => ?_) ?_
          · (try dsimp only at hS)
            go_simp
            exact hK.out _ _ (by simp only [Act.put, List.setIfInBounds_toArray, List.set_cons_zero, List.set_cons_succ, List.nil_append, List.cons_append]; rfl) (Below.refl _ _)
          simp only [Act.put, List.setIfInBounds_toArray, List.set_cons_zero, List.set_cons_succ, List.nil_append, List.cons_append]
          -- op 16: t57 := Op.slice 9 (tmp 50) none (some (tmp 56)) none
          refine inv_val (i := 16) (by kernel_rfl) rfl rfl (fun w1 hS hd K hK => ?_) ?_
          · (try dsimp only at hS)
            go_simp
            exact hK.out _ _ (by simp only [Act.put, List.setIfInBounds_toArray, List.set_cons_zero, List.set_cons_succ, List.nil_append, List.cons_append]; rfl) (Below.refl _ _)
          simp only [Act.put, List.setIfInBounds_toArray, List.set_cons_zero, List.set_cons_succ, List.nil_append, List.cons_append]
          -- op 17: t58 := Op.binOp BinOp.add 9 (tmp 49) (tmp 57) 9
          refine inv_val (i := 17) (by kernel_rfl) rfl rfl (fun w1 hS hd K hK => ?_) ?_
          · (try dsimp only at hS)
            go_simp
            exact hK.out _ _ (by simp only [Act.put, List.setIfInBounds_toArray, List.set_cons_zero, List.set_cons_succ, List.nil_append, List.cons_append]; rfl) (Below.refl _ _)
          simp only [Act.put, List.setIfInBounds_toArray, List.set_cons_zero, List.set_cons_succ, List.nil_append, List.cons_append]
          -- op 18: t59 := Op.binOp BinOp.neq 9 (tmp 44) (tmp 58) 9
          refine inv_val (i := 18) (by kernel_rfl) rfl rfl (fun w1 hS hd K hK => ?_) ?_
          · (try dsimp only at hS)
            go_simp
            exact hK.out _ _ (by simp only [Act.put, List.setIfInBounds_toArray, List.set_cons_zero, List.set_cons_succ, List.nil_append, List.cons_append]; rfl) (Below.refl _ _)
          simp only [Act.put, List.setIfInBounds_toArray, List.set_cons_zero, List.set_cons_succ, List.nil_append, List.cons_append]
          -- op 19: t60 := Op.pick (tmp 43) (tmp 59) (const (Value.bool f
          refine inv_val (i := 19) (by kernel_rfl) rfl rfl (fun w1 hS hd K hK => ?_) ?_
          · (try dsimp only at hS)
            go_simp
            exact hK.out _ _ (by simp only [Act.put, List.setIfInBounds_toArray, List.set_cons_zero, List.set_cons_succ, List.nil_append, List.cons_append]; rfl) (Below.refl _ _)
          simp only [Act.put, List.setIfInBounds_toArray, List.set_cons_zero, List.set_cons_succ, List.nil_append, List.cons_append]
          -- op 20: t61 := Op.move (tmp 60)
          refine inv_val (i := 20) (by kernel_rfl) rfl rfl (fun w1 hS hd K hK => ?_) ?_
          · (try dsimp only at hS)
            go_simp
            exact hK.out _ _ (by simp only [Act.put, List.setIfInBounds_toArray, List.set_cons_zero, List.set_cons_succ, List.nil_append, List.cons_append]; rfl) (Below.refl _ _)
          simp only [Act.put, List.setIfInBounds_toArray, List.set_cons_zero, List.set_cons_succ, List.nil_append, List.cons_append]
          -- op 21: t62 := Op.move (tmp 1)
          refine inv_val (i := 21) (by kernel_rfl) rfl rfl (fun w1 hS hd K hK => ?_) ?_
          · (try dsimp only at hS)
            go_simp
            exact hK.out _ _ (by simp only [Act.put, List.setIfInBounds_toArray, List.set_cons_zero, List.set_cons_succ, List.nil_append, List.cons_append]; rfl) (Below.refl _ _)
          simp only [Act.put, List.setIfInBounds_toArray, List.set_cons_zero, List.set_cons_succ, List.nil_append, List.cons_append]
          -- op 22: t63 := Op.binOp BinOp.neq 9 (tmp 62) (const (Value.string { d
          refine inv_val (i := 22) (by kernel_rfl) rfl rfl (fun w1 hS hd K hK => ?_) ?_
          · (try dsimp only at hS)
            go_simp
            exact hK.out _ _ (by simp only [Act.put, List.setIfInBounds_toArray, List.set_cons_zero, List.set_cons_succ, List.nil_append, List.cons_append]; rfl) (Below.refl _ _)
          simp only [Act.put, List.setIfInBounds_toArray, List.set_cons_zero, List.set_cons_succ, List.nil_append, List.cons_append]
          -- op 23: t64 := Op.pick (tmp 61) (tmp 63) (const (Value.bool f
          refine inv_val (i := 23) (by kernel_rfl) rfl rfl (fun w1 hS hd K hK => ?_) ?_
          · (try dsimp only at hS)
            go_simp
            exact hK.out _ _ (by simp only [Act.put, List.setIfInBounds_toArray, List.set_cons_zero, List.set_cons_succ, List.nil_append, List.cons_append]; rfl) (Below.refl _ _)
          simp only [Act.put, List.setIfInBounds_toArray, List.set_cons_zero, List.set_cons_succ, List.nil_append, List.cons_append]
          -- op 24: t65 := Op.move (tmp 64)
          refine inv_val (i := 24) (by kernel_rfl) rfl rfl (fun w1 hS hd K hK => ?_) ?_
          · (try dsimp only at hS)
            go_simp
            exact hK.out _ _ (by simp only [Act.put, List.setIfInBounds_toArray, List.set_cons_zero, List.set_cons_succ, List.nil_append, List.cons_append]; rfl) (Below.refl _ _)
          simp only [Act.put, List.setIfInBounds_toArray, List.set_cons_zero, List.set_cons_succ, List.nil_append, List.cons_append]
          -- op 25: t66 := Op.move (tmp 1)
          refine inv_val (i := 25) (by kernel_rfl) rfl rfl (fun w1 hS hd K hK => ?_) ?_
          · (try dsimp only at hS)
            go_simp
            exact hK.out _ _ (by simp only [Act.put, List.setIfInBounds_toArray, List.set_cons_zero, List.set_cons_succ, List.nil_append, List.cons_append]; rfl) (Below.refl _ _)
          simp only [Act.put, List.setIfInBounds_toArray, List.set_cons_zero, List.set_cons_succ, List.nil_append, List.cons_append]
          -- op 26: t67 := Op.call { callee := Callee.builtin Builtin.len, args := #[tmp 
          refine inv_val (i := 26) (by kernel_rfl) rfl rfl (fun w1 hS hd K hK => ?_) ?_
          · (try dsimp only at hS)
            go_simp
            exact hK.out _ _ (by simp only [Act.put, List.setIfInBounds_toArray, List.set_cons_zero, List.set_cons_succ, List.nil_append, List.cons_append]; rfl) (Below.refl _ _)
          simp only [Act.put, List.setIfInBounds_toArray, List.set_cons_zero, List.set_cons_succ, List.nil_append, List.cons_append]
          -- op 27: t68 := Op.binOp BinOp.geq 3 (tmp 67) (const (Value.int IntKin
          refine inv_val (i := 27) (by kernel_rfl) rfl rfl (fun w1 hS hd K hK => ?_) ?_
          · (try dsimp only at hS)
            go_simp
            exact hK.out _ _ (by simp only [Act.put, List.setIfInBounds_toArray, List.set_cons_zero, List.set_cons_succ, List.nil_append, List.cons_append]; rfl) (Below.refl _ _)
          simp only [Act.put, List.setIfInBounds_toArray, List.set_cons_zero, List.set_cons_succ, List.nil_append, List.cons_append]
          -- op 28: t69 := Op.pick (tmp 65) (tmp 68) (const (Value.bool f
          refine inv_val (i := 28) (by kernel_rfl) rfl rfl (fun w1 hS hd K hK => ?_) ?_
          · (try dsimp only at hS)
            go_simp
            exact hK.out _ _ (by simp only [Act.put, List.setIfInBounds_toArray, List.set_cons_zero, List.set_cons_succ, List.nil_append, List.cons_append]; rfl) (Below.refl _ _)
          simp only [Act.put, List.setIfInBounds_toArray, List.set_cons_zero, List.set_cons_succ, List.nil_append, List.cons_append]
          refine inv_done (by kernel_rfl) (fun w3 hS hd => ?_)
          go_wp2_with fail
          go_meet
          exact ⟨by first | rfl | (congr 1; simp; omega), hS⟩
        · clear hT4 q1
          refine wp_region_inv (S := (fun w' => Below w.heap.size w w')) 29 (Spec.val ?_ :: Spec.val ?_ :: Spec.val ?_ :: Spec.val ?_ :: Spec.val ?_ :: Spec.val ?_ :: Spec.val ?_ :: Spec.val ?_ :: Spec.val ?_ :: Spec.val ?_ :: Spec.val ?_ :: Spec.val ?_ :: Spec.val ?_ :: Spec.val ?_ :: Spec.val ?_ :: Spec.val ?_ :: Spec.val ?_ :: Spec.val ?_ :: Spec.val ?_ :: Spec.val ?_ :: Spec.val ?_ :: Spec.val ?_ :: Spec.val ?_ :: Spec.val ?_ :: Spec.val ?_ :: Spec.val ?_ :: Spec.val ?_ :: Spec.val ?_ :: Spec.val ?_ :: []) (by kernel_rfl) (by kernel_rfl) rfl (fun w1 w2 h hb => chain h hb) (HB2.out.drew) ?hm2
          case' hm2 => skip
          -- op 0: t41 := Op.move (tmp 9)
          refine inv_val (i := 0) (by kernel_rfl) rfl rfl (fun w1 hS hd K hK => ?_) ?_
          · (try dsimp only at hS)
            go_simp
            exact hK.out _ _ (by simp only [Act.put, List.setIfInBounds_toArray, List.set_cons_zero, List.set_cons_succ, List.nil_append, List.cons_append]; rfl) (Below.refl _ _)
          simp only [Act.put, List.setIfInBounds_toArray, List.set_cons_zero, List.set_cons_succ, List.nil_append, List.cons_append]
          -- op 1: t42 := Op.binOp BinOp.eql 31 (tmp 41) (const (Value.int IntKi
          refine inv_val (i := 1) (by kernel_rfl) rfl rfl (fun w1 hS hd K hK => ?_) ?_
          · (try dsimp only at hS)
            go_simp
            exact hK.out _ _ (by simp only [Act.put, List.setIfInBounds_toArray, List.set_cons_zero, List.set_cons_succ, List.nil_append, List.cons_append]; rfl) (Below.refl _ _)
          simp only [Act.put, List.setIfInBounds_toArray, List.set_cons_zero, List.set_cons_succ, List.nil_append, List.cons_append]
          -- op 2: t43 := Op.move (tmp 42)
          refine inv_val (i := 2) (by kernel_rfl) rfl rfl (fun w1 hS hd K hK => ?_) ?_
          · (try dsimp only at hS)
            go_simp
            exact hK.out _ _ (by simp only [Act.put, List.setIfInBounds_toArray, List.set_cons_zero, List.set_cons_succ, List.nil_append, List.cons_append]; rfl) (Below.refl _ _)
          simp only [Act.put, List.setIfInBounds_toArray, List.set_cons_zero, List.set_cons_succ, List.nil_append, List.cons_append]
          -- op 3: t44 := Op.move (tmp 8)
          refine inv_val (i := 3) (by kernel_rfl) rfl rfl (fun w1 hS hd K hK => ?_) ?_
          · (try dsimp only at hS)
            go_simp
            exact hK.out _ _ (by simp only [Act.put, List.setIfInBounds_toArray, List.set_cons_zero, List.set_cons_succ, List.nil_append, List.cons_append]; rfl) (Below.refl _ _)
          simp only [Act.put, List.setIfInBounds_toArray, List.set_cons_zero, List.set_cons_succ, List.nil_append, List.cons_append]
          -- op 4: t45 := Op.move (tmp 7)
          refine inv_val (i := 4) (by kernel_rfl) rfl rfl (fun w1 hS hd K hK => ?_) ?_
          · (try dsimp only at hS)
            go_simp
            exact hK.out _ _ (by simp only [Act.put, List.setIfInBounds_toArray, List.set_cons_zero, List.set_cons_succ, List.nil_append, List.cons_append]; rfl) (Below.refl _ _)
          simp only [Act.put, List.setIfInBounds_toArray, List.set_cons_zero, List.set_cons_succ, List.nil_append, List.cons_append]
          -- op 5: t46 := Op.move (tmp 0)
          refine inv_val (i := 5) (by kernel_rfl) rfl rfl (fun w1 hS hd K hK => ?_) ?_
          · (try dsimp only at hS)
            go_simp
            exact hK.out _ _ (by simp only [Act.put, List.setIfInBounds_toArray, List.set_cons_zero, List.set_cons_succ, List.nil_append, List.cons_append]; rfl) (Below.refl _ _)
          simp only [Act.put, List.setIfInBounds_toArray, List.set_cons_zero, List.set_cons_succ, List.nil_append, List.cons_append]
          -- op 6: t47 := Op.call { callee := Callee.builtin Builtin.len, args := #[tmp 
          refine inv_val (i := 6) (by kernel_rfl) rfl rfl (fun w1 hS hd K hK => ?_) ?_
          · (try dsimp only at hS)
            go_simp
            exact hK.out _ _ (by simp only [Act.put, List.setIfInBounds_toArray, List.set_cons_zero, List.set_cons_succ, List.nil_append, List.cons_append]; rfl) (Below.refl _ _)
          simp only [Act.put, List.setIfInBounds_toArray, List.set_cons_zero, List.set_cons_succ, List.nil_append, List.cons_append]
          -- op 7: t48 := Op.binOp BinOp.add 3 (tmp 47) (const (Value.int IntKin
          refine inv_val (i := 7) (by kernel_rfl) rfl rfl (fun w1 hS hd K hK => ?_) ?_
          · (try dsimp only at hS)
            go_simp
            exact hK.out _ _ (by simp only [Act.put, List.setIfInBounds_toArray, List.set_cons_zero, List.set_cons_succ, List.nil_append, List.cons_append]; rfl) (Below.refl _ _)
          simp only [Act.put, List.setIfInBounds_toArray, List.set_cons_zero, List.set_cons_succ, List.nil_append, List.cons_append]
          -- op 8: t49 := Op.slice 9 (tmp 45) none (some (tmp 48)) none
          refine inv_val (i := 8) (by kernel_rfl) rfl rfl (fun w1 hS hd K hK => ?_) ?_
          · (try dsimp only at hS)
            go_simp
            exact hK.out _ _ (by simp only [Act.put, List.setIfInBounds_toArray, List.set_cons_zero, List.set_cons_succ, List.nil_append, List.cons_append]; rfl) (Below.refl _ _)
          simp only [Act.put, List.setIfInBounds_toArray, List.set_cons_zero, List.set_cons_succ, List.nil_append, List.cons_append]
          -- op 9: t50 := Op.move (tmp 1)
          refine inv_val (i := 9) (by kernel_rfl) rfl rfl (fun w1 hS hd K hK => ?_) ?_
          · (try dsimp only at hS)
            go_simp
            exact hK.out _ _ (by simp only [Act.put, List.setIfInBounds_toArray, List.set_cons_zero, List.set_cons_succ, List.nil_append, List.cons_append]; rfl) (Below.refl _ _)
          simp only [Act.put, List.setIfInBounds_toArray, List.set_cons_zero, List.set_cons_succ, List.nil_append, List.cons_append]
          -- op 10: t51 := Op.move (tmp 1)
          refine inv_val (i := 10) (by kernel_rfl) rfl rfl (fun w1 hS hd K hK => ?_) ?_
          · (try dsimp only at hS)
            go_simp
            exact hK.out _ _ (by simp only [Act.put, List.setIfInBounds_toArray, List.set_cons_zero, List.set_cons_succ, List.nil_append, List.cons_append]; rfl) (Below.refl _ _)
          simp only [Act.put, List.setIfInBounds_toArray, List.set_cons_zero, List.set_cons_succ, List.nil_append, List.cons_append]
          -- op 11: t52 := Op.call { callee := Callee.builtin Builtin.len, args := #[tmp 
          refine inv_val (i := 11) (by kernel_rfl) rfl rfl (fun w1 hS hd K hK => ?_) ?_
          · (try dsimp only at hS)
            go_simp
            exact hK.out _ _ (by simp only [Act.put, List.setIfInBounds_toArray, List.set_cons_zero, List.set_cons_succ, List.nil_append, List.cons_append]; rfl) (Below.refl _ _)
          simp only [Act.put, List.setIfInBounds_toArray, List.set_cons_zero, List.set_cons_succ, List.nil_append, List.cons_append]
          -- op 12: t53 := Op.move (tmp 1)
          refine inv_val (i := 12) (by kernel_rfl) rfl rfl (fun w1 hS hd K hK => ?_) ?_
          · (try dsimp only at hS)
            go_simp
            exact hK.out _ _ (by simp only [Act.put, List.setIfInBounds_toArray, List.set_cons_zero, List.set_cons_succ, List.nil_append, List.cons_append]; rfl) (Below.refl _ _)
          simp only [Act.put, List.setIfInBounds_toArray, List.set_cons_zero, List.set_cons_succ, List.nil_append, List.cons_append]
          -- op 13: t54 := Op.call { callee := Callee.builtin Builtin.len, args := #[tmp 
          refine inv_val (i := 13) (by kernel_rfl) rfl rfl (fun w1 hS hd K hK => ?_) ?_
          · (try dsimp only at hS)
            go_simp
            exact hK.out _ _ (by simp only [Act.put, List.setIfInBounds_toArray, List.set_cons_zero, List.set_cons_succ, List.nil_append, List.cons_append]; rfl) (Below.refl _ _)
          simp only [Act.put, List.setIfInBounds_toArray, List.set_cons_zero, List.set_cons_succ, List.nil_append, List.cons_append]
          -- op 14: t55 := Op.call { callee := Callee.builtin Builtin.min, args := #[tmp 
          refine inv_val (i := 14) (by kernel_rfl) rfl rfl (fun w1 hS hd K hK => ?_) ?_
          · (try dsimp only at hS)
            go_simp
            exact hK.out _ _ (by simp only [Act.put, List.setIfInBounds_toArray, List.set_cons_zero, List.set_cons_succ, List.nil_append, List.cons_append]; rfl) (Below.refl _ _)
          simp only [Act.put, List.setIfInBounds_toArray, List.set_cons_zero, List.set_cons_succ, List.nil_append, List.cons_append]
          -- op 15: t56 := Op.binOp BinOp.sub 3 (tmp 52) (tmp 55) 3
          refine inv_val (i := 15) (by kernel_rfl) rfl rfl (fun w1 hS hd K hK => ?_) ?_
          · (try dsimp only at hS)
            go_simp
            exact hK.out _ _ (by simp only [Act.put, List.setIfInBounds_toArray, List.set_cons_zero, List.set_cons_succ, List.nil_append, List.cons_append]; rfl) (Below.refl _ _)
          simp only [Act.put, List.setIfInBounds_toArray, List.set_cons_zero, List.set_cons_succ, List.nil_append, List.cons_append]
          -- op 16: t57 := Op.slice 9 (tmp 50) none (some (tmp 56)) none
          refine inv_val (i := 16) (by kernel_rfl) rfl rfl (fun w1 hS hd K hK => ?_) ?_
          · (try dsimp only at hS)
            go_simp
            exact hK.out _ _ (by simp only [Act.put, List.setIfInBounds_toArray, List.set_cons_zero, List.set_cons_succ, List.nil_append, List.cons_append]; rfl) (Below.refl _ _)
          simp only [Act.put, List.setIfInBounds_toArray, List.set_cons_zero, List.set_cons_succ, List.nil_append, List.cons_append]
          -- op 17: t58 := Op.binOp BinOp.add 9 (tmp 49) (tmp 57) 9
          refine inv_val (i := 17) (by kernel_rfl) rfl rfl (fun w1 hS hd K hK => ?_) ?_
          · (try dsimp only at hS)
            go_simp
            exact hK.out _ _ (by simp only [Act.put, List.setIfInBounds_toArray, List.set_cons_zero, List.set_cons_succ, List.nil_append, List.cons_append]; rfl) (Below.refl _ _)
          simp only [Act.put, List.setIfInBounds_toArray, List.set_cons_zero, List.set_cons_succ, List.nil_append, List.cons_append]
          -- op 18: t59 := Op.binOp BinOp.neq 9 (tmp 44) (tmp 58) 9
          refine inv_val (i := 18) (by kernel_rfl) rfl rfl (fun w1 hS hd K hK => ?_) ?_
          · (try dsimp only at hS)
            go_simp
            exact hK.out _ _ (by simp only [Act.put, List.setIfInBounds_toArray, List.set_cons_zero, List.set_cons_succ, List.nil_append, List.cons_append]; rfl) (Below.refl _ _)
          simp only [Act.put, List.setIfInBounds_toArray, List.set_cons_zero, List.set_cons_succ, List.nil_append, List.cons_append]
          -- op 19: t60 := Op.pick (tmp 43) (tmp 59) (const (Value.bool f
          refine inv_val (i := 19) (by kernel_rfl) rfl rfl (fun w1 hS hd K hK => ?_) ?_
          · (try dsimp only at hS)
            go_simp
            exact hK.out _ _ (by simp only [Act.put, List.setIfInBounds_toArray, List.set_cons_zero, List.set_cons_succ, List.nil_append, List.cons_append]; rfl) (Below.refl _ _)
          simp only [Act.put, List.setIfInBounds_toArray, List.set_cons_zero, List.set_cons_succ, List.nil_append, List.cons_append]
          -- op 20: t61 := Op.move (tmp 60)
          refine inv_val (i := 20) (by kernel_rfl) rfl rfl (fun w1 hS hd K hK => ?_) ?_
          · (try dsimp only at hS)
            go_simp
            exact hK.out _ _ (by simp only [Act.put, List.setIfInBounds_toArray, List.set_cons_zero, List.set_cons_succ, List.nil_append, List.cons_append]; rfl) (Below.refl _ _)
          simp only [Act.put, List.setIfInBounds_toArray, List.set_cons_zero, List.set_cons_succ, List.nil_append, List.cons_append]
          -- op 21: t62 := Op.move (tmp 1)
          refine inv_val (i := 21) (by kernel_rfl) rfl rfl (fun w1 hS hd K hK => ?_) ?_
          · rw [if_neg (by simp [Region.wanted, yielded])]; exact hK.out _ _ (by rfl) (Below.refl _ _)
          simp only [Act.put, List.setIfInBounds_toArray, List.set_cons_zero, List.set_cons_succ, List.nil_append, List.cons_append]
          -- op 22: t63 := Op.binOp BinOp.neq 9 (tmp 62) (const (Value.string { d
          refine inv_val (i := 22) (by kernel_rfl) rfl rfl (fun w1 hS hd K hK => ?_) ?_
          · rw [if_neg (by simp [Region.wanted, yielded])]; exact hK.out _ _ (by rfl) (Below.refl _ _)
          simp only [Act.put, List.setIfInBounds_toArray, List.set_cons_zero, List.set_cons_succ, List.nil_append, List.cons_append]
          -- op 23: t64 := Op.pick (tmp 61) (tmp 63) (const (Value.bool f
          refine inv_val (i := 23) (by kernel_rfl) rfl rfl (fun w1 hS hd K hK => ?_) ?_
          · (try dsimp only at hS)
            go_simp
            exact hK.out _ _ (by simp only [Act.put, List.setIfInBounds_toArray, List.set_cons_zero, List.set_cons_succ, List.nil_append, List.cons_append]; rfl) (Below.refl _ _)
          simp only [Act.put, List.setIfInBounds_toArray, List.set_cons_zero, List.set_cons_succ, List.nil_append, List.cons_append]
          -- op 24: t65 := Op.move (tmp 64)
          refine inv_val (i := 24) (by kernel_rfl) rfl rfl (fun w1 hS hd K hK => ?_) ?_
          · (try dsimp only at hS)
            go_simp
            exact hK.out _ _ (by simp only [Act.put, List.setIfInBounds_toArray, List.set_cons_zero, List.set_cons_succ, List.nil_append, List.cons_append]; rfl) (Below.refl _ _)
          simp only [Act.put, List.setIfInBounds_toArray, List.set_cons_zero, List.set_cons_succ, List.nil_append, List.cons_append]
          -- op 25: t66 := Op.move (tmp 1)
          refine inv_val (i := 25) (by kernel_rfl) rfl rfl (fun w1 hS hd K hK => ?_) ?_
          · rw [if_neg (by simp [Region.wanted, yielded])]; exact hK.out _ _ (by rfl) (Below.refl _ _)
          simp only [Act.put, List.setIfInBounds_toArray, List.set_cons_zero, List.set_cons_succ, List.nil_append, List.cons_append]
          -- op 26: t67 := Op.call { callee := Callee.builtin Builtin.len, args := #[tmp 
          refine inv_val (i := 26) (by kernel_rfl) rfl rfl (fun w1 hS hd K hK => ?_) ?_
          · rw [if_neg (by simp [Region.wanted, yielded])]; exact hK.out _ _ (by rfl) (Below.refl _ _)
          simp only [Act.put, List.setIfInBounds_toArray, List.set_cons_zero, List.set_cons_succ, List.nil_append, List.cons_append]
          -- op 27: t68 := Op.binOp BinOp.geq 3 (tmp 67) (const (Value.int IntKin
          refine inv_val (i := 27) (by kernel_rfl) rfl rfl (fun w1 hS hd K hK => ?_) ?_
          · rw [if_neg (by simp [Region.wanted, yielded])]; exact hK.out _ _ (by rfl) (Below.refl _ _)
          simp only [Act.put, List.setIfInBounds_toArray, List.set_cons_zero, List.set_cons_succ, List.nil_append, List.cons_append]
          -- op 28: t69 := Op.pick (tmp 65) (tmp 68) (const (Value.bool f
          refine inv_val (i := 28) (by kernel_rfl) rfl rfl (fun w1 hS hd K hK => ?_) ?_
          · (try dsimp only at hS)
            go_simp
            exact hK.out _ _ (by simp only [Act.put, List.setIfInBounds_toArray, List.set_cons_zero, List.set_cons_succ, List.nil_append, List.cons_append]; rfl) (Below.refl _ _)
          simp only [Act.put, List.setIfInBounds_toArray, List.set_cons_zero, List.set_cons_succ, List.nil_append, List.cons_append]
          refine inv_done (by kernel_rfl) (fun w3 hS hd => ?_)
          go_wp2_with fail
          go_meet
          exact ⟨by first | rfl | (congr 1; simp; omega), hS⟩
      · have hq : (t.toList == (B.extract 0 N ++ more.extract 0 R).toList) = true := by
          rw [(HE0.out rfl).2, hT4.resolve_right q1]; simp
        clear hT4 q1
        refine wp_region_inv (S := (fun w' => Below w.heap.size w w')) 29 (Spec.val ?_ :: Spec.val ?_ :: Spec.val ?_ :: Spec.val ?_ :: Spec.val ?_ :: Spec.val ?_ :: Spec.val ?_ :: Spec.val ?_ :: Spec.val ?_ :: Spec.val ?_ :: Spec.val ?_ :: Spec.val ?_ :: Spec.val ?_ :: Spec.val ?_ :: Spec.val ?_ :: Spec.val ?_ :: Spec.val ?_ :: Spec.val ?_ :: Spec.val ?_ :: Spec.val ?_ :: Spec.val ?_ :: Spec.val ?_ :: Spec.val ?_ :: Spec.val ?_ :: Spec.val ?_ :: Spec.val ?_ :: Spec.val ?_ :: Spec.val ?_ :: Spec.val ?_ :: []) (by kernel_rfl) (by kernel_rfl) rfl (fun w1 w2 h hb => chain h hb) (HB2.out.drew) ?hm3
        case' hm3 => skip
        -- op 0: t41 := Op.move (tmp 9)
        refine inv_val (i := 0) (by kernel_rfl) rfl rfl (fun w1 hS hd K hK => ?_) ?_
        · (try dsimp only at hS)
          go_simp
          exact hK.out _ _ (by simp only [Act.put, List.setIfInBounds_toArray, List.set_cons_zero, List.set_cons_succ, List.nil_append, List.cons_append]; rfl) (Below.refl _ _)
        simp only [Act.put, List.setIfInBounds_toArray, List.set_cons_zero, List.set_cons_succ, List.nil_append, List.cons_append]
        -- op 1: t42 := Op.binOp BinOp.eql 31 (tmp 41) (const (Value.int IntKi
        refine inv_val (i := 1) (by kernel_rfl) rfl rfl (fun w1 hS hd K hK => ?_) ?_
        · (try dsimp only at hS)
          go_simp
          exact hK.out _ _ (by simp only [Act.put, List.setIfInBounds_toArray, List.set_cons_zero, List.set_cons_succ, List.nil_append, List.cons_append]; rfl) (Below.refl _ _)
        simp only [Act.put, List.setIfInBounds_toArray, List.set_cons_zero, List.set_cons_succ, List.nil_append, List.cons_append]
        -- op 2: t43 := Op.move (tmp 42)
        refine inv_val (i := 2) (by kernel_rfl) rfl rfl (fun w1 hS hd K hK => ?_) ?_
        · (try dsimp only at hS)
          go_simp
          exact hK.out _ _ (by simp only [Act.put, List.setIfInBounds_toArray, List.set_cons_zero, List.set_cons_succ, List.nil_append, List.cons_append]; rfl) (Below.refl _ _)
        simp only [Act.put, List.setIfInBounds_toArray, List.set_cons_zero, List.set_cons_succ, List.nil_append, List.cons_append]
        -- op 3: t44 := Op.move (tmp 8)
        refine inv_val (i := 3) (by kernel_rfl) rfl rfl (fun w1 hS hd K hK => ?_) ?_
        · (try dsimp only at hS)
          go_simp
          exact hK.out _ _ (by simp only [Act.put, List.setIfInBounds_toArray, List.set_cons_zero, List.set_cons_succ, List.nil_append, List.cons_append]; rfl) (Below.refl _ _)
        simp only [Act.put, List.setIfInBounds_toArray, List.set_cons_zero, List.set_cons_succ, List.nil_append, List.cons_append]
        -- op 4: t45 := Op.move (tmp 7)
        refine inv_val (i := 4) (by kernel_rfl) rfl rfl (fun w1 hS hd K hK => ?_) ?_
        · (try dsimp only at hS)
          go_simp
          exact hK.out _ _ (by simp only [Act.put, List.setIfInBounds_toArray, List.set_cons_zero, List.set_cons_succ, List.nil_append, List.cons_append]; rfl) (Below.refl _ _)
        simp only [Act.put, List.setIfInBounds_toArray, List.set_cons_zero, List.set_cons_succ, List.nil_append, List.cons_append]
        -- op 5: t46 := Op.move (tmp 0)
        refine inv_val (i := 5) (by kernel_rfl) rfl rfl (fun w1 hS hd K hK => ?_) ?_
        · (try dsimp only at hS)
          go_simp
          exact hK.out _ _ (by simp only [Act.put, List.setIfInBounds_toArray, List.set_cons_zero, List.set_cons_succ, List.nil_append, List.cons_append]; rfl) (Below.refl _ _)
        simp only [Act.put, List.setIfInBounds_toArray, List.set_cons_zero, List.set_cons_succ, List.nil_append, List.cons_append]
        -- op 6: t47 := Op.call { callee := Callee.builtin Builtin.len, args := #[tmp 
        refine inv_val (i := 6) (by kernel_rfl) rfl rfl (fun w1 hS hd K hK => ?_) ?_
        · (try dsimp only at hS)
          go_simp
          exact hK.out _ _ (by simp only [Act.put, List.setIfInBounds_toArray, List.set_cons_zero, List.set_cons_succ, List.nil_append, List.cons_append]; rfl) (Below.refl _ _)
        simp only [Act.put, List.setIfInBounds_toArray, List.set_cons_zero, List.set_cons_succ, List.nil_append, List.cons_append]
        -- op 7: t48 := Op.binOp BinOp.add 3 (tmp 47) (const (Value.int IntKin
        refine inv_val (i := 7) (by kernel_rfl) rfl rfl (fun w1 hS hd K hK => ?_) ?_
        · (try dsimp only at hS)
          go_simp
          exact hK.out _ _ (by simp only [Act.put, List.setIfInBounds_toArray, List.set_cons_zero, List.set_cons_succ, List.nil_append, List.cons_append]; rfl) (Below.refl _ _)
        simp only [Act.put, List.setIfInBounds_toArray, List.set_cons_zero, List.set_cons_succ, List.nil_append, List.cons_append]
        -- op 8: t49 := Op.slice 9 (tmp 45) none (some (tmp 48)) none
        refine inv_val (i := 8) (by kernel_rfl) rfl rfl (fun w1 hS hd K hK => ?_) ?_
        · (try dsimp only at hS)
          go_simp
          exact hK.out _ _ (by simp only [Act.put, List.setIfInBounds_toArray, List.set_cons_zero, List.set_cons_succ, List.nil_append, List.cons_append]; rfl) (Below.refl _ _)
        simp only [Act.put, List.setIfInBounds_toArray, List.set_cons_zero, List.set_cons_succ, List.nil_append, List.cons_append]
        -- op 9: t50 := Op.move (tmp 1)
        refine inv_val (i := 9) (by kernel_rfl) rfl rfl (fun w1 hS hd K hK => ?_) ?_
        · (try dsimp only at hS)
          go_simp
          exact hK.out _ _ (by simp only [Act.put, List.setIfInBounds_toArray, List.set_cons_zero, List.set_cons_succ, List.nil_append, List.cons_append]; rfl) (Below.refl _ _)
        simp only [Act.put, List.setIfInBounds_toArray, List.set_cons_zero, List.set_cons_succ, List.nil_append, List.cons_append]
        -- op 10: t51 := Op.move (tmp 1)
        refine inv_val (i := 10) (by kernel_rfl) rfl rfl (fun w1 hS hd K hK => ?_) ?_
        · (try dsimp only at hS)
          go_simp
          exact hK.out _ _ (by simp only [Act.put, List.setIfInBounds_toArray, List.set_cons_zero, List.set_cons_succ, List.nil_append, List.cons_append]; rfl) (Below.refl _ _)
        simp only [Act.put, List.setIfInBounds_toArray, List.set_cons_zero, List.set_cons_succ, List.nil_append, List.cons_append]
        -- op 11: t52 := Op.call { callee := Callee.builtin Builtin.len, args := #[tmp 
        refine inv_val (i := 11) (by kernel_rfl) rfl rfl (fun w1 hS hd K hK => ?_) ?_
        · (try dsimp only at hS)
          go_simp
          exact hK.out _ _ (by simp only [Act.put, List.setIfInBounds_toArray, List.set_cons_zero, List.set_cons_succ, List.nil_append, List.cons_append]; rfl) (Below.refl _ _)
        simp only [Act.put, List.setIfInBounds_toArray, List.set_cons_zero, List.set_cons_succ, List.nil_append, List.cons_append]
        -- op 12: t53 := Op.move (tmp 1)
        refine inv_val (i := 12) (by kernel_rfl) rfl rfl (fun w1 hS hd K hK => ?_) ?_
        · (try dsimp only at hS)
          go_simp
          exact hK.out _ _ (by simp only [Act.put, List.setIfInBounds_toArray, List.set_cons_zero, List.set_cons_succ, List.nil_append, List.cons_append]; rfl) (Below.refl _ _)
        simp only [Act.put, List.setIfInBounds_toArray, List.set_cons_zero, List.set_cons_succ, List.nil_append, List.cons_append]
        -- op 13: t54 := Op.call { callee := Callee.builtin Builtin.len, args := #[tmp 
        refine inv_val (i := 13) (by kernel_rfl) rfl rfl (fun w1 hS hd K hK => ?_) ?_
        · (try dsimp only at hS)
          go_simp
          exact hK.out _ _ (by simp only [Act.put, List.setIfInBounds_toArray, List.set_cons_zero, List.set_cons_succ, List.nil_append, List.cons_append]; rfl) (Below.refl _ _)
        simp only [Act.put, List.setIfInBounds_toArray, List.set_cons_zero, List.set_cons_succ, List.nil_append, List.cons_append]
        -- op 14: t55 := Op.call { callee := Callee.builtin Builtin.min, args := #[tmp 
        refine inv_val (i := 14) (by kernel_rfl) rfl rfl (fun w1 hS hd K hK => ?_) ?_
        · (try dsimp only at hS)
          go_simp
          exact hK.out _ _ (by simp only [Act.put, List.setIfInBounds_toArray, List.set_cons_zero, List.set_cons_succ, List.nil_append, List.cons_append]; rfl) (Below.refl _ _)
        simp only [Act.put, List.setIfInBounds_toArray, List.set_cons_zero, List.set_cons_succ, List.nil_append, List.cons_append]
        -- op 15: t56 := Op.binOp BinOp.sub 3 (tmp 52) (tmp 55) 3
        refine inv_val (i := 15) (by kernel_rfl) rfl rfl (fun w1 hS hd K hK => ?_) ?_
        · (try dsimp only at hS)
          go_simp
          exact hK.out _ _ (by simp only [Act.put, List.setIfInBounds_toArray, List.set_cons_zero, List.set_cons_succ, List.nil_append, List.cons_append]; rfl) (Below.refl _ _)
        simp only [Act.put, List.setIfInBounds_toArray, List.set_cons_zero, List.set_cons_succ, List.nil_append, List.cons_append]
        -- op 16: t57 := Op.slice 9 (tmp 50) none (some (tmp 56)) none
        refine inv_val (i := 16) (by kernel_rfl) rfl rfl (fun w1 hS hd K hK => ?_) ?_
        · (try dsimp only at hS)
          go_simp
          exact hK.out _ _ (by simp only [Act.put, List.setIfInBounds_toArray, List.set_cons_zero, List.set_cons_succ, List.nil_append, List.cons_append]; rfl) (Below.refl _ _)
        simp only [Act.put, List.setIfInBounds_toArray, List.set_cons_zero, List.set_cons_succ, List.nil_append, List.cons_append]
        -- op 17: t58 := Op.binOp BinOp.add 9 (tmp 49) (tmp 57) 9
        refine inv_val (i := 17) (by kernel_rfl) rfl rfl (fun w1 hS hd K hK => ?_) ?_
        · (try dsimp only at hS)
          go_simp
          exact hK.out _ _ (by simp only [Act.put, List.setIfInBounds_toArray, List.set_cons_zero, List.set_cons_succ, List.nil_append, List.cons_append]; rfl) (Below.refl _ _)
        simp only [Act.put, List.setIfInBounds_toArray, List.set_cons_zero, List.set_cons_succ, List.nil_append, List.cons_append]
        -- op 18: t59 := Op.binOp BinOp.neq 9 (tmp 44) (tmp 58) 9
        refine inv_val (i := 18) (by kernel_rfl) rfl rfl (fun w1 hS hd K hK => ?_) ?_
        · (try dsimp only at hS)
          go_simp
          exact hK.out _ _ (by simp only [Act.put, List.setIfInBounds_toArray, List.set_cons_zero, List.set_cons_succ, List.nil_append, List.cons_append]; rfl) (Below.refl _ _)
        simp only [Act.put, List.setIfInBounds_toArray, List.set_cons_zero, List.set_cons_succ, List.nil_append, List.cons_append]
        -- op 19: t60 := Op.pick (tmp 43) (tmp 59) (const (Value.bool f
        refine inv_val (i := 19) (by kernel_rfl) rfl rfl (fun w1 hS hd K hK => ?_) ?_
        · (try dsimp only at hS)
          go_simp
          exact hK.out _ _ (by simp only [Act.put, List.setIfInBounds_toArray, List.set_cons_zero, List.set_cons_succ, List.nil_append, List.cons_append]; rfl) (Below.refl _ _)
        simp only [Act.put, List.setIfInBounds_toArray, List.set_cons_zero, List.set_cons_succ, List.nil_append, List.cons_append]
        -- op 20: t61 := Op.move (tmp 60)
        refine inv_val (i := 20) (by kernel_rfl) rfl rfl (fun w1 hS hd K hK => ?_) ?_
        · (try dsimp only at hS)
          go_simp
          exact hK.out _ _ (by simp only [Act.put, List.setIfInBounds_toArray, List.set_cons_zero, List.set_cons_succ, List.nil_append, List.cons_append]; rfl) (Below.refl _ _)
        simp only [Act.put, List.setIfInBounds_toArray, List.set_cons_zero, List.set_cons_succ, List.nil_append, List.cons_append]
        -- op 21: t62 := Op.move (tmp 1)
        refine inv_val (i := 21) (by kernel_rfl) rfl rfl (fun w1 hS hd K hK => ?_) ?_
        · rw [if_neg (by simp [Region.wanted, yielded])]; exact hK.out _ _ (by rfl) (Below.refl _ _)
        simp only [Act.put, List.setIfInBounds_toArray, List.set_cons_zero, List.set_cons_succ, List.nil_append, List.cons_append]
        -- op 22: t63 := Op.binOp BinOp.neq 9 (tmp 62) (const (Value.string { d
        refine inv_val (i := 22) (by kernel_rfl) rfl rfl (fun w1 hS hd K hK => ?_) ?_
        · rw [if_neg (by simp [Region.wanted, yielded])]; exact hK.out _ _ (by rfl) (Below.refl _ _)
        simp only [Act.put, List.setIfInBounds_toArray, List.set_cons_zero, List.set_cons_succ, List.nil_append, List.cons_append]
        -- op 23: t64 := Op.pick (tmp 61) (tmp 63) (const (Value.bool f
        refine inv_val (i := 23) (by kernel_rfl) rfl rfl (fun w1 hS hd K hK => ?_) ?_
        · (try dsimp only at hS)
          go_simp
          exact hK.out _ _ (by simp only [Act.put, List.setIfInBounds_toArray, List.set_cons_zero, List.set_cons_succ, List.nil_append, List.cons_append]; rfl) (Below.refl _ _)
        simp only [Act.put, List.setIfInBounds_toArray, List.set_cons_zero, List.set_cons_succ, List.nil_append, List.cons_append]
        -- op 24: t65 := Op.move (tmp 64)
        refine inv_val (i := 24) (by kernel_rfl) rfl rfl (fun w1 hS hd K hK => ?_) ?_
        · (try dsimp only at hS)
          go_simp
          exact hK.out _ _ (by simp only [Act.put, List.setIfInBounds_toArray, List.set_cons_zero, List.set_cons_succ, List.nil_append, List.cons_append]; rfl) (Below.refl _ _)
        simp only [Act.put, List.setIfInBounds_toArray, List.set_cons_zero, List.set_cons_succ, List.nil_append, List.cons_append]
        -- op 25: t66 := Op.move (tmp 1)
        refine inv_val (i := 25) (by kernel_rfl) rfl rfl (fun w1 hS hd K hK => ?_) ?_
        · rw [if_neg (by simp [Region.wanted, yielded])]; exact hK.out _ _ (by rfl) (Below.refl _ _)
        simp only [Act.put, List.setIfInBounds_toArray, List.set_cons_zero, List.set_cons_succ, List.nil_append, List.cons_append]
        -- op 26: t67 := Op.call { callee := Callee.builtin Builtin.len, args := #[tmp 
        refine inv_val (i := 26) (by kernel_rfl) rfl rfl (fun w1 hS hd K hK => ?_) ?_
        · rw [if_neg (by simp [Region.wanted, yielded])]; exact hK.out _ _ (by rfl) (Below.refl _ _)
        simp only [Act.put, List.setIfInBounds_toArray, List.set_cons_zero, List.set_cons_succ, List.nil_append, List.cons_append]
        -- op 27: t68 := Op.binOp BinOp.geq 3 (tmp 67) (const (Value.int IntKin
        refine inv_val (i := 27) (by kernel_rfl) rfl rfl (fun w1 hS hd K hK => ?_) ?_
        · rw [if_neg (by simp [Region.wanted, yielded])]; exact hK.out _ _ (by rfl) (Below.refl _ _)
        simp only [Act.put, List.setIfInBounds_toArray, List.set_cons_zero, List.set_cons_succ, List.nil_append, List.cons_append]
        -- op 28: t69 := Op.pick (tmp 65) (tmp 68) (const (Value.bool f
        refine inv_val (i := 28) (by kernel_rfl) rfl rfl (fun w1 hS hd K hK => ?_) ?_
        · (try dsimp only at hS)
          go_simp
          exact hK.out _ _ (by simp only [Act.put, List.setIfInBounds_toArray, List.set_cons_zero, List.set_cons_succ, List.nil_append, List.cons_append]; rfl) (Below.refl _ _)
        simp only [Act.put, List.setIfInBounds_toArray, List.set_cons_zero, List.set_cons_succ, List.nil_append, List.cons_append]
        refine inv_done (by kernel_rfl) (fun w3 hS hd => ?_)
        go_wp2_with fail
        go_meet
        exact ⟨rfl, hS⟩
    · have q2 : (e == 0) = false := by simpa using q0
      clear hT4 q0
      refine wp_region_inv (S := (fun w' => Below w.heap.size w w')) 29 (Spec.val ?_ :: Spec.val ?_ :: Spec.val ?_ :: Spec.val ?_ :: Spec.val ?_ :: Spec.val ?_ :: Spec.val ?_ :: Spec.val ?_ :: Spec.val ?_ :: Spec.val ?_ :: Spec.val ?_ :: Spec.val ?_ :: Spec.val ?_ :: Spec.val ?_ :: Spec.val ?_ :: Spec.val ?_ :: Spec.val ?_ :: Spec.val ?_ :: Spec.val ?_ :: Spec.val ?_ :: Spec.val ?_ :: Spec.val ?_ :: Spec.val ?_ :: Spec.val ?_ :: Spec.val ?_ :: Spec.val ?_ :: Spec.val ?_ :: Spec.val ?_ :: Spec.val ?_ :: []) (by kernel_rfl) (by kernel_rfl) rfl (fun w1 w2 h hb => chain h hb) (HB2.out.drew) ?hm4
      case' hm4 => skip
      -- op 0: t41 := Op.move (tmp 9)
      refine inv_val (i := 0) (by kernel_rfl) rfl rfl (fun w1 hS hd K hK => ?_) ?_
      · (try dsimp only at hS)
        go_simp
        exact hK.out _ _ (by simp only [Act.put, List.setIfInBounds_toArray, List.set_cons_zero, List.set_cons_succ, List.nil_append, List.cons_append]; rfl) (Below.refl _ _)
      simp only [Act.put, List.setIfInBounds_toArray, List.set_cons_zero, List.set_cons_succ, List.nil_append, List.cons_append]
      -- op 1: t42 := Op.binOp BinOp.eql 31 (tmp 41) (const (Value.int IntKi
      refine inv_val (i := 1) (by kernel_rfl) rfl rfl (fun w1 hS hd K hK => ?_) ?_
      · (try dsimp only at hS)
        go_simp
        exact hK.out _ _ (by simp only [Act.put, List.setIfInBounds_toArray, List.set_cons_zero, List.set_cons_succ, List.nil_append, List.cons_append]; rfl) (Below.refl _ _)
      simp only [Act.put, List.setIfInBounds_toArray, List.set_cons_zero, List.set_cons_succ, List.nil_append, List.cons_append]
      -- op 2: t43 := Op.move (tmp 42)
      refine inv_val (i := 2) (by kernel_rfl) rfl rfl (fun w1 hS hd K hK => ?_) ?_
      · (try dsimp only at hS)
        go_simp
        exact hK.out _ _ (by simp only [Act.put, List.setIfInBounds_toArray, List.set_cons_zero, List.set_cons_succ, List.nil_append, List.cons_append]; rfl) (Below.refl _ _)
      simp only [Act.put, List.setIfInBounds_toArray, List.set_cons_zero, List.set_cons_succ, List.nil_append, List.cons_append]
      -- op 3: t44 := Op.move (tmp 8)
      refine inv_val (i := 3) (by kernel_rfl) rfl rfl (fun w1 hS hd K hK => ?_) ?_
      · rw [if_neg (by simp [Region.wanted, yielded])]; exact hK.out _ _ (by rfl) (Below.refl _ _)
      simp only [Act.put, List.setIfInBounds_toArray, List.set_cons_zero, List.set_cons_succ, List.nil_append, List.cons_append]
      -- op 4: t45 := Op.move (tmp 7)
      refine inv_val (i := 4) (by kernel_rfl) rfl rfl (fun w1 hS hd K hK => ?_) ?_
      · rw [if_neg (by simp [Region.wanted, yielded])]; exact hK.out _ _ (by rfl) (Below.refl _ _)
      simp only [Act.put, List.setIfInBounds_toArray, List.set_cons_zero, List.set_cons_succ, List.nil_append, List.cons_append]
      -- op 5: t46 := Op.move (tmp 0)
      refine inv_val (i := 5) (by kernel_rfl) rfl rfl (fun w1 hS hd K hK => ?_) ?_
      · rw [if_neg (by simp [Region.wanted, yielded])]; exact hK.out _ _ (by rfl) (Below.refl _ _)
      simp only [Act.put, List.setIfInBounds_toArray, List.set_cons_zero, List.set_cons_succ, List.nil_append, List.cons_append]
      -- op 6: t47 := Op.call { callee := Callee.builtin Builtin.len, args := #[tmp 
      refine inv_val (i := 6) (by kernel_rfl) rfl rfl (fun w1 hS hd K hK => ?_) ?_
      · rw [if_neg (by simp [Region.wanted, yielded])]; exact hK.out _ _ (by rfl) (Below.refl _ _)
      simp only [Act.put, List.setIfInBounds_toArray, List.set_cons_zero, List.set_cons_succ, List.nil_append, List.cons_append]
      -- op 7: t48 := Op.binOp BinOp.add 3 (tmp 47) (const (Value.int IntKin
      refine inv_val (i := 7) (by kernel_rfl) rfl rfl (fun w1 hS hd K hK => ?_) ?_
      · rw [if_neg (by simp [Region.wanted, yielded])]; exact hK.out _ _ (by rfl) (Below.refl _ _)
      simp only [Act.put, List.setIfInBounds_toArray, List.set_cons_zero, List.set_cons_succ, List.nil_append, List.cons_append]
      -- op 8: t49 := Op.slice 9 (tmp 45) none (some (tmp 48)) none
      refine inv_val (i := 8) (by kernel_rfl) rfl rfl (fun w1 hS hd K hK => ?_) ?_
      · rw [if_neg (by simp [Region.wanted, yielded])]; exact hK.out _ _ (by rfl) (Below.refl _ _)
      simp only [Act.put, List.setIfInBounds_toArray, List.set_cons_zero, List.set_cons_succ, List.nil_append, List.cons_append]
      -- op 9: t50 := Op.move (tmp 1)
      refine inv_val (i := 9) (by kernel_rfl) rfl rfl (fun w1 hS hd K hK => ?_) ?_
      · rw [if_neg (by simp [Region.wanted, yielded])]; exact hK.out _ _ (by rfl) (Below.refl _ _)
      simp only [Act.put, List.setIfInBounds_toArray, List.set_cons_zero, List.set_cons_succ, List.nil_append, List.cons_append]
      -- op 10: t51 := Op.move (tmp 1)
      refine inv_val (i := 10) (by kernel_rfl) rfl rfl (fun w1 hS hd K hK => ?_) ?_
      · rw [if_neg (by simp [Region.wanted, yielded])]; exact hK.out _ _ (by rfl) (Below.refl _ _)
      simp only [Act.put, List.setIfInBounds_toArray, List.set_cons_zero, List.set_cons_succ, List.nil_append, List.cons_append]
      -- op 11: t52 := Op.call { callee := Callee.builtin Builtin.len, args := #[tmp 
      refine inv_val (i := 11) (by kernel_rfl) rfl rfl (fun w1 hS hd K hK => ?_) ?_
      · rw [if_neg (by simp [Region.wanted, yielded])]; exact hK.out _ _ (by rfl) (Below.refl _ _)
      simp only [Act.put, List.setIfInBounds_toArray, List.set_cons_zero, List.set_cons_succ, List.nil_append, List.cons_append]
      -- op 12: t53 := Op.move (tmp 1)
      refine inv_val (i := 12) (by kernel_rfl) rfl rfl (fun w1 hS hd K hK => ?_) ?_
      · rw [if_neg (by simp [Region.wanted, yielded])]; exact hK.out _ _ (by rfl) (Below.refl _ _)
      simp only [Act.put, List.setIfInBounds_toArray, List.set_cons_zero, List.set_cons_succ, List.nil_append, List.cons_append]
      -- op 13: t54 := Op.call { callee := Callee.builtin Builtin.len, args := #[tmp 
      refine inv_val (i := 13) (by kernel_rfl) rfl rfl (fun w1 hS hd K hK => ?_) ?_
      · rw [if_neg (by simp [Region.wanted, yielded])]; exact hK.out _ _ (by rfl) (Below.refl _ _)
      simp only [Act.put, List.setIfInBounds_toArray, List.set_cons_zero, List.set_cons_succ, List.nil_append, List.cons_append]
      -- op 14: t55 := Op.call { callee := Callee.builtin Builtin.min, args := #[tmp 
      refine inv_val (i := 14) (by kernel_rfl) rfl rfl (fun w1 hS hd K hK => ?_) ?_
      · rw [if_neg (by simp [Region.wanted, yielded])]; exact hK.out _ _ (by rfl) (Below.refl _ _)
      simp only [Act.put, List.setIfInBounds_toArray, List.set_cons_zero, List.set_cons_succ, List.nil_append, List.cons_append]
      -- op 15: t56 := Op.binOp BinOp.sub 3 (tmp 52) (tmp 55) 3
      refine inv_val (i := 15) (by kernel_rfl) rfl rfl (fun w1 hS hd K hK => ?_) ?_
      · rw [if_neg (by simp [Region.wanted, yielded])]; exact hK.out _ _ (by rfl) (Below.refl _ _)
      simp only [Act.put, List.setIfInBounds_toArray, List.set_cons_zero, List.set_cons_succ, List.nil_append, List.cons_append]
      -- op 16: t57 := Op.slice 9 (tmp 50) none (some (tmp 56)) none
      refine inv_val (i := 16) (by kernel_rfl) rfl rfl (fun w1 hS hd K hK => ?_) ?_
      · rw [if_neg (by simp [Region.wanted, yielded])]; exact hK.out _ _ (by rfl) (Below.refl _ _)
      simp only [Act.put, List.setIfInBounds_toArray, List.set_cons_zero, List.set_cons_succ, List.nil_append, List.cons_append]
      -- op 17: t58 := Op.binOp BinOp.add 9 (tmp 49) (tmp 57) 9
      refine inv_val (i := 17) (by kernel_rfl) rfl rfl (fun w1 hS hd K hK => ?_) ?_
      · rw [if_neg (by simp [Region.wanted, yielded])]; exact hK.out _ _ (by rfl) (Below.refl _ _)
      simp only [Act.put, List.setIfInBounds_toArray, List.set_cons_zero, List.set_cons_succ, List.nil_append, List.cons_append]
      -- op 18: t59 := Op.binOp BinOp.neq 9 (tmp 44) (tmp 58) 9
      refine inv_val (i := 18) (by kernel_rfl) rfl rfl (fun w1 hS hd K hK => ?_) ?_
      · rw [if_neg (by simp [Region.wanted, yielded])]; exact hK.out _ _ (by rfl) (Below.refl _ _)
      simp only [Act.put, List.setIfInBounds_toArray, List.set_cons_zero, List.set_cons_succ, List.nil_append, List.cons_append]
      -- op 19: t60 := Op.pick (tmp 43) (tmp 59) (const (Value.bool f
      refine inv_val (i := 19) (by kernel_rfl) rfl rfl (fun w1 hS hd K hK => ?_) ?_
      · (try dsimp only at hS)
        go_simp
        exact hK.out _ _ (by simp only [Act.put, List.setIfInBounds_toArray, List.set_cons_zero, List.set_cons_succ, List.nil_append, List.cons_append]; rfl) (Below.refl _ _)
      simp only [Act.put, List.setIfInBounds_toArray, List.set_cons_zero, List.set_cons_succ, List.nil_append, List.cons_append]
      -- op 20: t61 := Op.move (tmp 60)
      refine inv_val (i := 20) (by kernel_rfl) rfl rfl (fun w1 hS hd K hK => ?_) ?_
      · (try dsimp only at hS)
        go_simp
        exact hK.out _ _ (by simp only [Act.put, List.setIfInBounds_toArray, List.set_cons_zero, List.set_cons_succ, List.nil_append, List.cons_append]; rfl) (Below.refl _ _)
      simp only [Act.put, List.setIfInBounds_toArray, List.set_cons_zero, List.set_cons_succ, List.nil_append, List.cons_append]
      -- op 21: t62 := Op.move (tmp 1)
      refine inv_val (i := 21) (by kernel_rfl) rfl rfl (fun w1 hS hd K hK => ?_) ?_
      · rw [if_neg (by simp [Region.wanted, yielded])]; exact hK.out _ _ (by rfl) (Below.refl _ _)
      simp only [Act.put, List.setIfInBounds_toArray, List.set_cons_zero, List.set_cons_succ, List.nil_append, List.cons_append]
      -- op 22: t63 := Op.binOp BinOp.neq 9 (tmp 62) (const (Value.string { d
      refine inv_val (i := 22) (by kernel_rfl) rfl rfl (fun w1 hS hd K hK => ?_) ?_
      · rw [if_neg (by simp [Region.wanted, yielded])]; exact hK.out _ _ (by rfl) (Below.refl _ _)
      simp only [Act.put, List.setIfInBounds_toArray, List.set_cons_zero, List.set_cons_succ, List.nil_append, List.cons_append]
      -- op 23: t64 := Op.pick (tmp 61) (tmp 63) (const (Value.bool f
      refine inv_val (i := 23) (by kernel_rfl) rfl rfl (fun w1 hS hd K hK => ?_) ?_
      · (try dsimp only at hS)
        go_simp
        exact hK.out _ _ (by simp only [Act.put, List.setIfInBounds_toArray, List.set_cons_zero, List.set_cons_succ, List.nil_append, List.cons_append]; rfl) (Below.refl _ _)
      simp only [Act.put, List.setIfInBounds_toArray, List.set_cons_zero, List.set_cons_succ, List.nil_append, List.cons_append]
      -- op 24: t65 := Op.move (tmp 64)
      refine inv_val (i := 24) (by kernel_rfl) rfl rfl (fun w1 hS hd K hK => ?_) ?_
      · (try dsimp only at hS)
        go_simp
        exact hK.out _ _ (by simp only [Act.put, List.setIfInBounds_toArray, List.set_cons_zero, List.set_cons_succ, List.nil_append, List.cons_append]; rfl) (Below.refl _ _)
      simp only [Act.put, List.setIfInBounds_toArray, List.set_cons_zero, List.set_cons_succ, List.nil_append, List.cons_append]
      -- op 25: t66 := Op.move (tmp 1)
      refine inv_val (i := 25) (by kernel_rfl) rfl rfl (fun w1 hS hd K hK => ?_) ?_
      · rw [if_neg (by simp [Region.wanted, yielded])]; exact hK.out _ _ (by rfl) (Below.refl _ _)
      simp only [Act.put, List.setIfInBounds_toArray, List.set_cons_zero, List.set_cons_succ, List.nil_append, List.cons_append]
      -- op 26: t67 := Op.call { callee := Callee.builtin Builtin.len, args := #[tmp 
      refine inv_val (i := 26) (by kernel_rfl) rfl rfl (fun w1 hS hd K hK => ?_) ?_
      · rw [if_neg (by simp [Region.wanted, yielded])]; exact hK.out _ _ (by rfl) (Below.refl _ _)
      simp only [Act.put, List.setIfInBounds_toArray, List.set_cons_zero, List.set_cons_succ, List.nil_append, List.cons_append]
      -- op 27: t68 := Op.binOp BinOp.geq 3 (tmp 67) (const (Value.int IntKin
      refine inv_val (i := 27) (by kernel_rfl) rfl rfl (fun w1 hS hd K hK => ?_) ?_
      · rw [if_neg (by simp [Region.wanted, yielded])]; exact hK.out _ _ (by rfl) (Below.refl _ _)
      simp only [Act.put, List.setIfInBounds_toArray, List.set_cons_zero, List.set_cons_succ, List.nil_append, List.cons_append]
      -- op 28: t69 := Op.pick (tmp 65) (tmp 68) (const (Value.bool f
      refine inv_val (i := 28) (by kernel_rfl) rfl rfl (fun w1 hS hd K hK => ?_) ?_
      · (try dsimp only at hS)
        go_simp
        exact hK.out _ _ (by simp only [Act.put, List.setIfInBounds_toArray, List.set_cons_zero, List.set_cons_succ, List.nil_append, List.cons_append]; rfl) (Below.refl _ _)
      simp only [Act.put, List.setIfInBounds_toArray, List.set_cons_zero, List.set_cons_succ, List.nil_append, List.cons_append]
      refine inv_done (by kernel_rfl) (fun w3 hS hd => ?_)
      go_wp2_with fail
      go_meet
      exact ⟨rfl, hS⟩
  case rest =>
    obtain ⟨rfl, hb3⟩ := hcut
    have hb4 := hb3
    clear hb3 hT4
    have HB4 := Lib.hid hb4
    have hKI : (K : Int) < n + 5 := by omega
    go_wp2_with fail
    refine (HU.out _).mono ?_
    rintro x w4 ⟨rfl, hb5⟩
    have HB5 := Lib.hid (chain HB4.out hb5)
    clear hb5
    go_wp2_with fail
    refine (alive_any _).mono ?_
    rintro x w5 ⟨rfl, hb6⟩
    have HB6 := Lib.hid (chain HB5.out hb6)
    clear hb6
    by_cases q1 : f = 0
    · have q2 := HF0.out q1
      subst q1
      have q3 : u.size + 4 = K := by have := q2.1; rw [q2.2, ByteArray.size_extract]; omega
      have q4 : (u.size : Int) + 4 = K := by omega
      clear q2
      go_wp2
      go_ret
      exact ⟨(ret_bool (by have := HNR.out.1; simp; omega) : Ending.returned (.bool ((n : Int) + 4 == (N : Int))) = _), HB6.out⟩
    · by_cases q3 : K < 4
      · have q2 : f = 5 := HF5.out (by omega)
        subst q2
        go_wp2
        go_ret
        exact ⟨(ret_bool (by have := HNR.out.1; simp; omega) : Ending.returned (.bool ((n : Int) + 4 == (N : Int))) = _), HB6.out⟩
      · have q4 : 4 ≤ (K : Int) := by omega
        go_wp2
        go_ret
        exact ⟨(ret_bool (by have := HNR.out.1; simp; omega) : Ending.returned (.bool ((n : Int) + 4 == (N : Int))) = _), HB6.out⟩
set_option maxRecDepth 100000 in
set_option maxHeartbeats 4000000 in
theorem walkCrcLongIn0 (s more : ByteArray) (cut : Int) (w : World) (h1 : s.size ≤ 3000) (h2 : more.size ≤ 300) (h3 : 0 ≤ cut) (h4 : cut ≤ 9223372036854775807) (hm : more.size = 0) :
    Calls Try.prog 6 #[.string s, .string more, .int .i64 cut] w (BoolPost w true) := by
  obtain ⟨n, hn⟩ : ∃ n, s.size = n := ⟨_, rfl⟩
  obtain ⟨m, hmm⟩ : ∃ m, more.size = m := ⟨_, rfl⟩
  have hB := closeS_size s
  obtain ⟨B, hBe⟩ : ∃ B, B = closeS s := ⟨_, rfl⟩
  have hcl := fun w => close_any s w (by omega)
  rw [← hBe] at hB hcl
  have HCL := Lib.hid hcl
  have happ : (B ++ more).size = n + 4 + m := by rw [ByteArray.size_append]; omega
  have hmore : more = ByteArray.empty := data_inj (List.eq_nil_of_length_eq_zero (by rw [Array.length_toList]; exact hm))
  have ho : ∀ w, Calls Try.prog 11 #[.string (B ++ more)] w (RetB w (.tuple #[.string s, .int .i64 0])) := fun w => by
    rw [hmore, ByteArray.append_empty, hBe]; exact open_close s w (by omega)
  have hss : (s.toList == s.toList) = true := by simp
  obtain ⟨K, hK⟩ : ∃ K : Nat, cut % ((n : Int) + 4 + 1) = K := ⟨(cut % ((n : Int) + 4 + 1)).toNat, by have := Int.emod_nonneg cut (show ((n : Int) + 4 + 1) ≠ 0 by omega); omega⟩
  have hK2 : K < n + 5 := by have := Int.emod_lt_of_pos cut (show 0 < ((n : Int) + 4 + 1) by omega); omega
  have hbk : (B.extract 0 K).size = K := by rw [ByteArray.size_extract]; omega
  obtain ⟨u, f, hu, hf, hf0, hf5⟩ := open_facts (B.extract 0 K) (by omega)
  have HO := Lib.hid ho
  have HU := Lib.hid hu
  have hsI : (s.size : Int) = n := by omega
  have hmI : (more.size : Int) = m := by omega
  have hBI : (B.size : Int) = (n : Int) + 4 := by omega
  have hn3 : (n : Int) ≤ 3000 := by omega
  have hm3 : (m : Int) ≤ 300 := by omega
  have hcat : B.size + more.size ≤ 9223372036854775807 := by omega
  have hne : (more.toList == []) = true := by rw [hmore, ByteArray.toList_eq]; rfl
  clear hmore hm
  clear hBe hcl ho hu
  go_enter Try.func6, Try.ntmps6
  go_wp2_with fail
  refine (HCL.out _).mono ?_
  rintro x w1 ⟨rfl, hb1⟩
  go_wp2_with fail
  refine (HO.out _).mono ?_
  rintro x w2 ⟨rfl, hb2⟩
  have hb := chain hb1 hb2
  have HB2 := Lib.hid hb
  clear hb1 hb2 hb
  go_upto_region 7 with (fail)
  have HF := Lib.hid hf
  have HF0 := Lib.hid hf0
  have HF5 := Lib.hid hf5
  clear hf hf0 hf5
  have hmin : (0 : Int) ≤ (m : Int) - min (m : Int) 4 ∧ (m : Int) - min (m : Int) 4 ≤ m := by omega
  obtain ⟨N, hN⟩ : ∃ N, N = n + 4 := ⟨_, rfl⟩
  obtain ⟨R, hR⟩ : ∃ R, R = m - min m 4 := ⟨_, rfl⟩
  have hw1 : IntKind.i64.wrap ((n : Int) + 4) = (N : Int) := by rw [IntKind.wrap_i64]; omega
  have hw2 : IntKind.i64.wrap ((m : Int) - min (m : Int) 4) = (R : Int) := by rw [IntKind.wrap_i64]; omega
  have hw3 : (N : Int) ≤ (n : Int) + 4 ∧ (R : Int) ≤ m := by omega
  have hw5 : (B.extract 0 N).size + (more.extract 0 R).size ≤ 9223372036854775807 := by rw [ByteArray.size_extract, ByteArray.size_extract]; omega
  have hadd := fun w => run_string_add_sum (P := Try.prog) w (B.extract 0 N) (more.extract 0 R) hw5
  clear hw5
  have HNR := Lib.hid (And.intro hN hR)
  clear hN hR
  go_cut [69] (fun y wx => y = .bool false ∧ Below w.heap.size w wx)
  case first =>
    cases hq : (s.toList == (B.extract 0 N ++ more.extract 0 R).toList)
    · refine wp_region_inv (S := (fun w' => Below w.heap.size w w')) 29 (Spec.val ?_ :: Spec.val ?_ :: Spec.val ?_ :: Spec.val ?_ :: Spec.val ?_ :: Spec.val ?_ :: Spec.val ?_ :: Spec.val ?_ :: Spec.val ?_ :: Spec.val ?_ :: Spec.val ?_ :: Spec.val ?_ :: Spec.val ?_ :: Spec.val ?_ :: Spec.val ?_ :: Spec.val ?_ :: Spec.val ?_ :: Spec.val ?_ :: Spec.val ?_ :: Spec.val ?_ :: Spec.val ?_ :: Spec.val ?_ :: Spec.val ?_ :: Spec.val ?_ :: Spec.val ?_ :: Spec.val ?_ :: Spec.val ?_ :: Spec.val ?_ :: Spec.val ?_ :: []) (by kernel_rfl) (by kernel_rfl) rfl (fun w1 w2 h hb => chain h hb) (HB2.out.drew) ?hm5
      case' hm5 => skip
      -- op 0: t41 := Op.move (tmp 9)
      refine inv_val (i := 0) (by kernel_rfl) rfl rfl (fun w1 hS hd K hK => ?_) ?_
      · (try dsimp only at hS)
        go_simp
        exact hK.out _ _ (by simp only [Act.put, List.setIfInBounds_toArray, List.set_cons_zero, List.set_cons_succ, List.nil_append, List.cons_append]; rfl) (Below.refl _ _)
      simp only [Act.put, List.setIfInBounds_toArray, List.set_cons_zero, List.set_cons_succ, List.nil_append, List.cons_append]
      -- op 1: t42 := Op.binOp BinOp.eql 31 (tmp 41) (const (Value.int IntKi
      refine inv_val (i := 1) (by kernel_rfl) rfl rfl (fun w1 hS hd K hK => ?_) ?_
      · (try dsimp only at hS)
        go_simp
        exact hK.out _ _ (by simp only [Act.put, List.setIfInBounds_toArray, List.set_cons_zero, List.set_cons_succ, List.nil_append, List.cons_append]; rfl) (Below.refl _ _)
      simp only [Act.put, List.setIfInBounds_toArray, List.set_cons_zero, List.set_cons_succ, List.nil_append, List.cons_append]
      -- op 2: t43 := Op.move (tmp 42)
      refine inv_val (i := 2) (by kernel_rfl) rfl rfl (fun w1 hS hd K hK => ?_) ?_
      · (try dsimp only at hS)
        go_simp
        exact hK.out _ _ (by simp only [Act.put, List.setIfInBounds_toArray, List.set_cons_zero, List.set_cons_succ, List.nil_append, List.cons_append]; rfl) (Below.refl _ _)
      simp only [Act.put, List.setIfInBounds_toArray, List.set_cons_zero, List.set_cons_succ, List.nil_append, List.cons_append]
      -- op 3: t44 := Op.move (tmp 8)
      refine inv_val (i := 3) (by kernel_rfl) rfl rfl (fun w1 hS hd K hK => ?_) ?_
      · (try dsimp only at hS)
        go_simp
        exact hK.out _ _ (by simp only [Act.put, List.setIfInBounds_toArray, List.set_cons_zero, List.set_cons_succ, List.nil_append, List.cons_append]; rfl) (Below.refl _ _)
      simp only [Act.put, List.setIfInBounds_toArray, List.set_cons_zero, List.set_cons_succ, List.nil_append, List.cons_append]
      -- op 4: t45 := Op.move (tmp 7)
      refine inv_val (i := 4) (by kernel_rfl) rfl rfl (fun w1 hS hd K hK => ?_) ?_
      · (try dsimp only at hS)
        go_simp
        exact hK.out _ _ (by simp only [Act.put, List.setIfInBounds_toArray, List.set_cons_zero, List.set_cons_succ, List.nil_append, List.cons_append]; rfl) (Below.refl _ _)
      simp only [Act.put, List.setIfInBounds_toArray, List.set_cons_zero, List.set_cons_succ, List.nil_append, List.cons_append]
      -- op 5: t46 := Op.move (tmp 0)
      refine inv_val (i := 5) (by kernel_rfl) rfl rfl (fun w1 hS hd K hK => ?_) ?_
      · (try dsimp only at hS)
        go_simp
        exact hK.out _ _ (by simp only [Act.put, List.setIfInBounds_toArray, List.set_cons_zero, List.set_cons_succ, List.nil_append, List.cons_append]; rfl) (Below.refl _ _)
      simp only [Act.put, List.setIfInBounds_toArray, List.set_cons_zero, List.set_cons_succ, List.nil_append, List.cons_append]
      -- op 6: t47 := Op.call { callee := Callee.builtin Builtin.len, args := #[tmp 
      refine inv_val (i := 6) (by kernel_rfl) rfl rfl (fun w1 hS hd K hK => ?_) ?_
      · (try dsimp only at hS)
        go_simp
        exact hK.out _ _ (by simp only [Act.put, List.setIfInBounds_toArray, List.set_cons_zero, List.set_cons_succ, List.nil_append, List.cons_append]; rfl) (Below.refl _ _)
      simp only [Act.put, List.setIfInBounds_toArray, List.set_cons_zero, List.set_cons_succ, List.nil_append, List.cons_append]
      -- op 7: t48 := Op.binOp BinOp.add 3 (tmp 47) (const (Value.int IntKin
      refine inv_val (i := 7) (by kernel_rfl) rfl rfl (fun w1 hS hd K hK => ?_) ?_
      · (try dsimp only at hS)
        go_simp
        exact hK.out _ _ (by simp only [Act.put, List.setIfInBounds_toArray, List.set_cons_zero, List.set_cons_succ, List.nil_append, List.cons_append]; rfl) (Below.refl _ _)
      simp only [Act.put, List.setIfInBounds_toArray, List.set_cons_zero, List.set_cons_succ, List.nil_append, List.cons_append]
      -- op 8: t49 := Op.slice 9 (tmp 45) none (some (tmp 48)) none
      refine inv_val (i := 8) (by kernel_rfl) rfl rfl (fun w1 hS hd K hK => ?_) ?_
      · (try dsimp only at hS)
        go_simp
        exact hK.out _ _ (by simp only [Act.put, List.setIfInBounds_toArray, List.set_cons_zero, List.set_cons_succ, List.nil_append, List.cons_append]; rfl) (Below.refl _ _)
      simp only [Act.put, List.setIfInBounds_toArray, List.set_cons_zero, List.set_cons_succ, List.nil_append, List.cons_append]
      -- op 9: t50 := Op.move (tmp 1)
      refine inv_val (i := 9) (by kernel_rfl) rfl rfl (fun w1 hS hd K hK => ?_) ?_
      · (try dsimp only at hS)
        go_simp
        exact hK.out _ _ (by simp only [Act.put, List.setIfInBounds_toArray, List.set_cons_zero, List.set_cons_succ, List.nil_append, List.cons_append]; rfl) (Below.refl _ _)
      simp only [Act.put, List.setIfInBounds_toArray, List.set_cons_zero, List.set_cons_succ, List.nil_append, List.cons_append]
      -- op 10: t51 := Op.move (tmp 1)
      refine inv_val (i := 10) (by kernel_rfl) rfl rfl (fun w1 hS hd K hK => ?_) ?_
      · (try dsimp only at hS)
        go_simp
        exact hK.out _ _ (by simp only [Act.put, List.setIfInBounds_toArray, List.set_cons_zero, List.set_cons_succ, List.nil_append, List.cons_append]; rfl) (Below.refl _ _)
      simp only [Act.put, List.setIfInBounds_toArray, List.set_cons_zero, List.set_cons_succ, List.nil_append, List.cons_append]
      -- op 11: t52 := Op.call { callee := Callee.builtin Builtin.len, args := #[tmp 
      refine inv_val (i := 11) (by kernel_rfl) rfl rfl (fun w1 hS hd K hK => ?_) ?_
      · (try dsimp only at hS)
        go_simp
        exact hK.out _ _ (by simp only [Act.put, List.setIfInBounds_toArray, List.set_cons_zero, List.set_cons_succ, List.nil_append, List.cons_append]; rfl) (Below.refl _ _)
      simp only [Act.put, List.setIfInBounds_toArray, List.set_cons_zero, List.set_cons_succ, List.nil_append, List.cons_append]
      -- op 12: t53 := Op.move (tmp 1)
      refine inv_val (i := 12) (by kernel_rfl) rfl rfl (fun w1 hS hd K hK => ?_) ?_
      · (try dsimp only at hS)
        go_simp
        exact hK.out _ _ (by simp only [Act.put, List.setIfInBounds_toArray, List.set_cons_zero, List.set_cons_succ, List.nil_append, List.cons_append]; rfl) (Below.refl _ _)
      simp only [Act.put, List.setIfInBounds_toArray, List.set_cons_zero, List.set_cons_succ, List.nil_append, List.cons_append]
      -- op 13: t54 := Op.call { callee := Callee.builtin Builtin.len, args := #[tmp 
      refine inv_val (i := 13) (by kernel_rfl) rfl rfl (fun w1 hS hd K hK => ?_) ?_
      · (try dsimp only at hS)
        go_simp
        exact hK.out _ _ (by simp only [Act.put, List.setIfInBounds_toArray, List.set_cons_zero, List.set_cons_succ, List.nil_append, List.cons_append]; rfl) (Below.refl _ _)
      simp only [Act.put, List.setIfInBounds_toArray, List.set_cons_zero, List.set_cons_succ, List.nil_append, List.cons_append]
      -- op 14: t55 := Op.call { callee := Callee.builtin Builtin.min, args := #[tmp 
      refine inv_val (i := 14) (by kernel_rfl) rfl rfl (fun w1 hS hd K hK => ?_) ?_
      · (try dsimp only at hS)
        go_simp
        exact hK.out _ _ (by simp only [Act.put, List.setIfInBounds_toArray, List.set_cons_zero, List.set_cons_succ, List.nil_append, List.cons_append]; rfl) (Below.refl _ _)
      simp only [Act.put, List.setIfInBounds_toArray, List.set_cons_zero, List.set_cons_succ, List.nil_append, List.cons_append]
      -- op 15: t56 := Op.binOp BinOp.sub 3 (tmp 52) (tmp 55) 3
      refine inv_val (i := 15) (by kernel_rfl) rfl rfl (fun w1 hS hd K hK => ?_) ?_
      · (try dsimp only at hS)
        go_simp
        exact hK.out _ _ (by simp only [Act.put, List.setIfInBounds_toArray, List.set_cons_zero, List.set_cons_succ, List.nil_append, List.cons_append]; rfl) (Below.refl _ _)
      simp only [Act.put, List.setIfInBounds_toArray, List.set_cons_zero, List.set_cons_succ, List.nil_append, List.cons_append]
      -- op 16: t57 := Op.slice 9 (tmp 50) none (some (tmp 56)) none
      refine inv_val (i := 16) (by kernel_rfl) rfl rfl (fun w1 hS hd K hK => ?_) ?_
      · (try dsimp only at hS)
        go_simp
        exact hK.out _ _ (by simp only [Act.put, List.setIfInBounds_toArray, List.set_cons_zero, List.set_cons_succ, List.nil_append, List.cons_append]; rfl) (Below.refl _ _)
      simp only [Act.put, List.setIfInBounds_toArray, List.set_cons_zero, List.set_cons_succ, List.nil_append, List.cons_append]
      -- op 17: t58 := Op.binOp BinOp.add 9 (tmp 49) (tmp 57) 9
      refine inv_val (i := 17) (by kernel_rfl) rfl rfl (fun w1 hS hd K hK => ?_) ?_
      · (try dsimp only at hS)
        go_simp
        exact hK.out _ _ (by simp only [Act.put, List.setIfInBounds_toArray, List.set_cons_zero, List.set_cons_succ, List.nil_append, List.cons_append]; rfl) (Below.refl _ _)
      simp only [Act.put, List.setIfInBounds_toArray, List.set_cons_zero, List.set_cons_succ, List.nil_append, List.cons_append]
      -- op 18: t59 := Op.binOp BinOp.neq 9 (tmp 44) (tmp 58) 9
      refine inv_val (i := 18) (by kernel_rfl) rfl rfl (fun w1 hS hd K hK => ?_) ?_
      · (try dsimp only at hS)
        go_simp
        exact hK.out _ _ (by simp only [Act.put, List.setIfInBounds_toArray, List.set_cons_zero, List.set_cons_succ, List.nil_append, List.cons_append]; rfl) (Below.refl _ _)
      simp only [Act.put, List.setIfInBounds_toArray, List.set_cons_zero, List.set_cons_succ, List.nil_append, List.cons_append]
      -- op 19: t60 := Op.pick (tmp 43) (tmp 59) (const (Value.bool f
      refine inv_val (i := 19) (by kernel_rfl) rfl rfl (fun w1 hS hd K hK => ?_) ?_
      · (try dsimp only at hS)
        go_simp
        exact hK.out _ _ (by simp only [Act.put, List.setIfInBounds_toArray, List.set_cons_zero, List.set_cons_succ, List.nil_append, List.cons_append]; rfl) (Below.refl _ _)
      simp only [Act.put, List.setIfInBounds_toArray, List.set_cons_zero, List.set_cons_succ, List.nil_append, List.cons_append]
      -- op 20: t61 := Op.move (tmp 60)
      refine inv_val (i := 20) (by kernel_rfl) rfl rfl (fun w1 hS hd K hK => ?_) ?_
      · (try dsimp only at hS)
        go_simp
        exact hK.out _ _ (by simp only [Act.put, List.setIfInBounds_toArray, List.set_cons_zero, List.set_cons_succ, List.nil_append, List.cons_append]; rfl) (Below.refl _ _)
      simp only [Act.put, List.setIfInBounds_toArray, List.set_cons_zero, List.set_cons_succ, List.nil_append, List.cons_append]
      -- op 21: t62 := Op.move (tmp 1)
      refine inv_val (i := 21) (by kernel_rfl) rfl rfl (fun w1 hS hd K hK => ?_) ?_
      · (try dsimp only at hS)
        go_simp
        exact hK.out _ _ (by simp only [Act.put, List.setIfInBounds_toArray, List.set_cons_zero, List.set_cons_succ, List.nil_append, List.cons_append]; rfl) (Below.refl _ _)
      simp only [Act.put, List.setIfInBounds_toArray, List.set_cons_zero, List.set_cons_succ, List.nil_append, List.cons_append]
      -- op 22: t63 := Op.binOp BinOp.neq 9 (tmp 62) (const (Value.string { d
      refine inv_val (i := 22) (by kernel_rfl) rfl rfl (fun w1 hS hd K hK => ?_) ?_
      · (try dsimp only at hS)
        go_simp
        exact hK.out _ _ (by simp only [Act.put, List.setIfInBounds_toArray, List.set_cons_zero, List.set_cons_succ, List.nil_append, List.cons_append]; rfl) (Below.refl _ _)
      simp only [Act.put, List.setIfInBounds_toArray, List.set_cons_zero, List.set_cons_succ, List.nil_append, List.cons_append]
      -- op 23: t64 := Op.pick (tmp 61) (tmp 63) (const (Value.bool f
      refine inv_val (i := 23) (by kernel_rfl) rfl rfl (fun w1 hS hd K hK => ?_) ?_
      · (try dsimp only at hS)
        go_simp
        exact hK.out _ _ (by simp only [Act.put, List.setIfInBounds_toArray, List.set_cons_zero, List.set_cons_succ, List.nil_append, List.cons_append]; rfl) (Below.refl _ _)
      simp only [Act.put, List.setIfInBounds_toArray, List.set_cons_zero, List.set_cons_succ, List.nil_append, List.cons_append]
      -- op 24: t65 := Op.move (tmp 64)
      refine inv_val (i := 24) (by kernel_rfl) rfl rfl (fun w1 hS hd K hK => ?_) ?_
      · (try dsimp only at hS)
        go_simp
        exact hK.out _ _ (by simp only [Act.put, List.setIfInBounds_toArray, List.set_cons_zero, List.set_cons_succ, List.nil_append, List.cons_append]; rfl) (Below.refl _ _)
      simp only [Act.put, List.setIfInBounds_toArray, List.set_cons_zero, List.set_cons_succ, List.nil_append, List.cons_append]
      -- op 25: t66 := Op.move (tmp 1)
      refine inv_val (i := 25) (by kernel_rfl) rfl rfl (fun w1 hS hd K hK => ?_) ?_
      · rw [if_neg (by simp [Region.wanted, yielded])]; exact hK.out _ _ (by rfl) (Below.refl _ _)
      simp only [Act.put, List.setIfInBounds_toArray, List.set_cons_zero, List.set_cons_succ, List.nil_append, List.cons_append]
      -- op 26: t67 := Op.call { callee := Callee.builtin Builtin.len, args := #[tmp 
      refine inv_val (i := 26) (by kernel_rfl) rfl rfl (fun w1 hS hd K hK => ?_) ?_
      · rw [if_neg (by simp [Region.wanted, yielded])]; exact hK.out _ _ (by rfl) (Below.refl _ _)
      simp only [Act.put, List.setIfInBounds_toArray, List.set_cons_zero, List.set_cons_succ, List.nil_append, List.cons_append]
      -- op 27: t68 := Op.binOp BinOp.geq 3 (tmp 67) (const (Value.int IntKin
      refine inv_val (i := 27) (by kernel_rfl) rfl rfl (fun w1 hS hd K hK => ?_) ?_
      · rw [if_neg (by simp [Region.wanted, yielded])]; exact hK.out _ _ (by rfl) (Below.refl _ _)
      simp only [Act.put, List.setIfInBounds_toArray, List.set_cons_zero, List.set_cons_succ, List.nil_append, List.cons_append]
      -- op 28: t69 := Op.pick (tmp 65) (tmp 68) (const (Value.bool f
      refine inv_val (i := 28) (by kernel_rfl) rfl rfl (fun w1 hS hd K hK => ?_) ?_
      · (try dsimp only at hS)
        go_simp
        exact hK.out _ _ (by simp only [Act.put, List.setIfInBounds_toArray, List.set_cons_zero, List.set_cons_succ, List.nil_append, List.cons_append]; rfl) (Below.refl _ _)
      simp only [Act.put, List.setIfInBounds_toArray, List.set_cons_zero, List.set_cons_succ, List.nil_append, List.cons_append]
      refine inv_done (by kernel_rfl) (fun w3 hS hd => ?_)
      go_wp2_with fail
      go_meet
      exact ⟨rfl, hS⟩
    · refine wp_region_inv (S := (fun w' => Below w.heap.size w w')) 29 (Spec.val ?_ :: Spec.val ?_ :: Spec.val ?_ :: Spec.val ?_ :: Spec.val ?_ :: Spec.val ?_ :: Spec.val ?_ :: Spec.val ?_ :: Spec.val ?_ :: Spec.val ?_ :: Spec.val ?_ :: Spec.val ?_ :: Spec.val ?_ :: Spec.val ?_ :: Spec.val ?_ :: Spec.val ?_ :: Spec.val ?_ :: Spec.val ?_ :: Spec.val ?_ :: Spec.val ?_ :: Spec.val ?_ :: Spec.val ?_ :: Spec.val ?_ :: Spec.val ?_ :: Spec.val ?_ :: Spec.val ?_ :: Spec.val ?_ :: Spec.val ?_ :: Spec.val ?_ :: []) (by kernel_rfl) (by kernel_rfl) rfl (fun w1 w2 h hb => chain h hb) (HB2.out.drew) ?hm6
      case' hm6 => skip
      -- op 0: t41 := Op.move (tmp 9)
      refine inv_val (i := 0) (by kernel_rfl) rfl rfl (fun w1 hS hd K hK => ?_) ?_
      · (try dsimp only at hS)
        go_simp
        exact hK.out _ _ (by simp only [Act.put, List.setIfInBounds_toArray, List.set_cons_zero, List.set_cons_succ, List.nil_append, List.cons_append]; rfl) (Below.refl _ _)
      simp only [Act.put, List.setIfInBounds_toArray, List.set_cons_zero, List.set_cons_succ, List.nil_append, List.cons_append]
      -- op 1: t42 := Op.binOp BinOp.eql 31 (tmp 41) (const (Value.int IntKi
      refine inv_val (i := 1) (by kernel_rfl) rfl rfl (fun w1 hS hd K hK => ?_) ?_
      · (try dsimp only at hS)
        go_simp
        exact hK.out _ _ (by simp only [Act.put, List.setIfInBounds_toArray, List.set_cons_zero, List.set_cons_succ, List.nil_append, List.cons_append]; rfl) (Below.refl _ _)
      simp only [Act.put, List.setIfInBounds_toArray, List.set_cons_zero, List.set_cons_succ, List.nil_append, List.cons_append]
      -- op 2: t43 := Op.move (tmp 42)
      refine inv_val (i := 2) (by kernel_rfl) rfl rfl (fun w1 hS hd K hK => ?_) ?_
      · (try dsimp only at hS)
        go_simp
        exact hK.out _ _ (by simp only [Act.put, List.setIfInBounds_toArray, List.set_cons_zero, List.set_cons_succ, List.nil_append, List.cons_append]; rfl) (Below.refl _ _)
      simp only [Act.put, List.setIfInBounds_toArray, List.set_cons_zero, List.set_cons_succ, List.nil_append, List.cons_append]
      -- op 3: t44 := Op.move (tmp 8)
      refine inv_val (i := 3) (by kernel_rfl) rfl rfl (fun w1 hS hd K hK => ?_) ?_
      · (try dsimp only at hS)
        go_simp
        exact hK.out _ _ (by simp only [Act.put, List.setIfInBounds_toArray, List.set_cons_zero, List.set_cons_succ, List.nil_append, List.cons_append]; rfl) (Below.refl _ _)
      simp only [Act.put, List.setIfInBounds_toArray, List.set_cons_zero, List.set_cons_succ, List.nil_append, List.cons_append]
      -- op 4: t45 := Op.move (tmp 7)
      refine inv_val (i := 4) (by kernel_rfl) rfl rfl (fun w1 hS hd K hK => ?_) ?_
      · (try dsimp only at hS)
        go_simp
        exact hK.out _ _ (by simp only [Act.put, List.setIfInBounds_toArray, List.set_cons_zero, List.set_cons_succ, List.nil_append, List.cons_append]; rfl) (Below.refl _ _)
      simp only [Act.put, List.setIfInBounds_toArray, List.set_cons_zero, List.set_cons_succ, List.nil_append, List.cons_append]
      -- op 5: t46 := Op.move (tmp 0)
      refine inv_val (i := 5) (by kernel_rfl) rfl rfl (fun w1 hS hd K hK => ?_) ?_
      · (try dsimp only at hS)
        go_simp
        exact hK.out _ _ (by simp only [Act.put, List.setIfInBounds_toArray, List.set_cons_zero, List.set_cons_succ, List.nil_append, List.cons_append]; rfl) (Below.refl _ _)
      simp only [Act.put, List.setIfInBounds_toArray, List.set_cons_zero, List.set_cons_succ, List.nil_append, List.cons_append]
      -- op 6: t47 := Op.call { callee := Callee.builtin Builtin.len, args := #[tmp 
      refine inv_val (i := 6) (by kernel_rfl) rfl rfl (fun w1 hS hd K hK => ?_) ?_
      · (try dsimp only at hS)
        go_simp
        exact hK.out _ _ (by simp only [Act.put, List.setIfInBounds_toArray, List.set_cons_zero, List.set_cons_succ, List.nil_append, List.cons_append]; rfl) (Below.refl _ _)
      simp only [Act.put, List.setIfInBounds_toArray, List.set_cons_zero, List.set_cons_succ, List.nil_append, List.cons_append]
      -- op 7: t48 := Op.binOp BinOp.add 3 (tmp 47) (const (Value.int IntKin
      refine inv_val (i := 7) (by kernel_rfl) rfl rfl (fun w1 hS hd K hK => ?_) ?_
      · (try dsimp only at hS)
        go_simp
        exact hK.out _ _ (by simp only [Act.put, List.setIfInBounds_toArray, List.set_cons_zero, List.set_cons_succ, List.nil_append, List.cons_append]; rfl) (Below.refl _ _)
      simp only [Act.put, List.setIfInBounds_toArray, List.set_cons_zero, List.set_cons_succ, List.nil_append, List.cons_append]
      -- op 8: t49 := Op.slice 9 (tmp 45) none (some (tmp 48)) none
      refine inv_val (i := 8) (by kernel_rfl) rfl rfl (fun w1 hS hd K hK => ?_) ?_
      · (try dsimp only at hS)
        go_simp
        exact hK.out _ _ (by simp only [Act.put, List.setIfInBounds_toArray, List.set_cons_zero, List.set_cons_succ, List.nil_append, List.cons_append]; rfl) (Below.refl _ _)
      simp only [Act.put, List.setIfInBounds_toArray, List.set_cons_zero, List.set_cons_succ, List.nil_append, List.cons_append]
      -- op 9: t50 := Op.move (tmp 1)
      refine inv_val (i := 9) (by kernel_rfl) rfl rfl (fun w1 hS hd K hK => ?_) ?_
      · (try dsimp only at hS)
        go_simp
        exact hK.out _ _ (by simp only [Act.put, List.setIfInBounds_toArray, List.set_cons_zero, List.set_cons_succ, List.nil_append, List.cons_append]; rfl) (Below.refl _ _)
      simp only [Act.put, List.setIfInBounds_toArray, List.set_cons_zero, List.set_cons_succ, List.nil_append, List.cons_append]
      -- op 10: t51 := Op.move (tmp 1)
      refine inv_val (i := 10) (by kernel_rfl) rfl rfl (fun w1 hS hd K hK => ?_) ?_
      · (try dsimp only at hS)
        go_simp
        exact hK.out _ _ (by simp only [Act.put, List.setIfInBounds_toArray, List.set_cons_zero, List.set_cons_succ, List.nil_append, List.cons_append]; rfl) (Below.refl _ _)
      simp only [Act.put, List.setIfInBounds_toArray, List.set_cons_zero, List.set_cons_succ, List.nil_append, List.cons_append]
      -- op 11: t52 := Op.call { callee := Callee.builtin Builtin.len, args := #[tmp 
      refine inv_val (i := 11) (by kernel_rfl) rfl rfl (fun w1 hS hd K hK => ?_) ?_
      · (try dsimp only at hS)
        go_simp
        exact hK.out _ _ (by simp only [Act.put, List.setIfInBounds_toArray, List.set_cons_zero, List.set_cons_succ, List.nil_append, List.cons_append]; rfl) (Below.refl _ _)
      simp only [Act.put, List.setIfInBounds_toArray, List.set_cons_zero, List.set_cons_succ, List.nil_append, List.cons_append]
      -- op 12: t53 := Op.move (tmp 1)
      refine inv_val (i := 12) (by kernel_rfl) rfl rfl (fun w1 hS hd K hK => ?_) ?_
      · (try dsimp only at hS)
        go_simp
        exact hK.out _ _ (by simp only [Act.put, List.setIfInBounds_toArray, List.set_cons_zero, List.set_cons_succ, List.nil_append, List.cons_append]; rfl) (Below.refl _ _)
      simp only [Act.put, List.setIfInBounds_toArray, List.set_cons_zero, List.set_cons_succ, List.nil_append, List.cons_append]
      -- op 13: t54 := Op.call { callee := Callee.builtin Builtin.len, args := #[tmp 
      refine inv_val (i := 13) (by kernel_rfl) rfl rfl (fun w1 hS hd K hK => ?_) ?_
      · (try dsimp only at hS)
        go_simp
        exact hK.out _ _ (by simp only [Act.put, List.setIfInBounds_toArray, List.set_cons_zero, List.set_cons_succ, List.nil_append, List.cons_append]; rfl) (Below.refl _ _)
      simp only [Act.put, List.setIfInBounds_toArray, List.set_cons_zero, List.set_cons_succ, List.nil_append, List.cons_append]
      -- op 14: t55 := Op.call { callee := Callee.builtin Builtin.min, args := #[tmp 
      refine inv_val (i := 14) (by kernel_rfl) rfl rfl (fun w1 hS hd K hK => ?_) ?_
      · (try dsimp only at hS)
        go_simp
        exact hK.out _ _ (by simp only [Act.put, List.setIfInBounds_toArray, List.set_cons_zero, List.set_cons_succ, List.nil_append, List.cons_append]; rfl) (Below.refl _ _)
      simp only [Act.put, List.setIfInBounds_toArray, List.set_cons_zero, List.set_cons_succ, List.nil_append, List.cons_append]
      -- op 15: t56 := Op.binOp BinOp.sub 3 (tmp 52) (tmp 55) 3
      refine inv_val (i := 15) (by kernel_rfl) rfl rfl (fun w1 hS hd K hK => ?_) ?_
      · (try dsimp only at hS)
        go_simp
        exact hK.out _ _ (by simp only [Act.put, List.setIfInBounds_toArray, List.set_cons_zero, List.set_cons_succ, List.nil_append, List.cons_append]; rfl) (Below.refl _ _)
      simp only [Act.put, List.setIfInBounds_toArray, List.set_cons_zero, List.set_cons_succ, List.nil_append, List.cons_append]
      -- op 16: t57 := Op.slice 9 (tmp 50) none (some (tmp 56)) none
      refine inv_val (i := 16) (by kernel_rfl) rfl rfl (fun w1 hS hd K hK => ?_) ?_
      · (try dsimp only at hS)
        go_simp
        exact hK.out _ _ (by simp only [Act.put, List.setIfInBounds_toArray, List.set_cons_zero, List.set_cons_succ, List.nil_append, List.cons_append]; rfl) (Below.refl _ _)
      simp only [Act.put, List.setIfInBounds_toArray, List.set_cons_zero, List.set_cons_succ, List.nil_append, List.cons_append]
      -- op 17: t58 := Op.binOp BinOp.add 9 (tmp 49) (tmp 57) 9
      refine inv_val (i := 17) (by kernel_rfl) rfl rfl (fun w1 hS hd K hK => ?_) ?_
      · (try dsimp only at hS)
        go_simp
        exact hK.out _ _ (by simp only [Act.put, List.setIfInBounds_toArray, List.set_cons_zero, List.set_cons_succ, List.nil_append, List.cons_append]; rfl) (Below.refl _ _)
      simp only [Act.put, List.setIfInBounds_toArray, List.set_cons_zero, List.set_cons_succ, List.nil_append, List.cons_append]
      -- op 18: t59 := Op.binOp BinOp.neq 9 (tmp 44) (tmp 58) 9
      refine inv_val (i := 18) (by kernel_rfl) rfl rfl (fun w1 hS hd K hK => ?_) ?_
      · (try dsimp only at hS)
        go_simp
        exact hK.out _ _ (by simp only [Act.put, List.setIfInBounds_toArray, List.set_cons_zero, List.set_cons_succ, List.nil_append, List.cons_append]; rfl) (Below.refl _ _)
      simp only [Act.put, List.setIfInBounds_toArray, List.set_cons_zero, List.set_cons_succ, List.nil_append, List.cons_append]
      -- op 19: t60 := Op.pick (tmp 43) (tmp 59) (const (Value.bool f
      refine inv_val (i := 19) (by kernel_rfl) rfl rfl (fun w1 hS hd K hK => ?_) ?_
      · (try dsimp only at hS)
        go_simp
        exact hK.out _ _ (by simp only [Act.put, List.setIfInBounds_toArray, List.set_cons_zero, List.set_cons_succ, List.nil_append, List.cons_append]; rfl) (Below.refl _ _)
      simp only [Act.put, List.setIfInBounds_toArray, List.set_cons_zero, List.set_cons_succ, List.nil_append, List.cons_append]
      -- op 20: t61 := Op.move (tmp 60)
      refine inv_val (i := 20) (by kernel_rfl) rfl rfl (fun w1 hS hd K hK => ?_) ?_
      · (try dsimp only at hS)
        go_simp
        exact hK.out _ _ (by simp only [Act.put, List.setIfInBounds_toArray, List.set_cons_zero, List.set_cons_succ, List.nil_append, List.cons_append]; rfl) (Below.refl _ _)
      simp only [Act.put, List.setIfInBounds_toArray, List.set_cons_zero, List.set_cons_succ, List.nil_append, List.cons_append]
      -- op 21: t62 := Op.move (tmp 1)
      refine inv_val (i := 21) (by kernel_rfl) rfl rfl (fun w1 hS hd K hK => ?_) ?_
      · rw [if_neg (by simp [Region.wanted, yielded])]; exact hK.out _ _ (by rfl) (Below.refl _ _)
      simp only [Act.put, List.setIfInBounds_toArray, List.set_cons_zero, List.set_cons_succ, List.nil_append, List.cons_append]
      -- op 22: t63 := Op.binOp BinOp.neq 9 (tmp 62) (const (Value.string { d
      refine inv_val (i := 22) (by kernel_rfl) rfl rfl (fun w1 hS hd K hK => ?_) ?_
      · rw [if_neg (by simp [Region.wanted, yielded])]; exact hK.out _ _ (by rfl) (Below.refl _ _)
      simp only [Act.put, List.setIfInBounds_toArray, List.set_cons_zero, List.set_cons_succ, List.nil_append, List.cons_append]
      -- op 23: t64 := Op.pick (tmp 61) (tmp 63) (const (Value.bool f
      refine inv_val (i := 23) (by kernel_rfl) rfl rfl (fun w1 hS hd K hK => ?_) ?_
      · (try dsimp only at hS)
        go_simp
        exact hK.out _ _ (by simp only [Act.put, List.setIfInBounds_toArray, List.set_cons_zero, List.set_cons_succ, List.nil_append, List.cons_append]; rfl) (Below.refl _ _)
      simp only [Act.put, List.setIfInBounds_toArray, List.set_cons_zero, List.set_cons_succ, List.nil_append, List.cons_append]
      -- op 24: t65 := Op.move (tmp 64)
      refine inv_val (i := 24) (by kernel_rfl) rfl rfl (fun w1 hS hd K hK => ?_) ?_
      · (try dsimp only at hS)
        go_simp
        exact hK.out _ _ (by simp only [Act.put, List.setIfInBounds_toArray, List.set_cons_zero, List.set_cons_succ, List.nil_append, List.cons_append]; rfl) (Below.refl _ _)
      simp only [Act.put, List.setIfInBounds_toArray, List.set_cons_zero, List.set_cons_succ, List.nil_append, List.cons_append]
      -- op 25: t66 := Op.move (tmp 1)
      refine inv_val (i := 25) (by kernel_rfl) rfl rfl (fun w1 hS hd K hK => ?_) ?_
      · rw [if_neg (by simp [Region.wanted, yielded])]; exact hK.out _ _ (by rfl) (Below.refl _ _)
      simp only [Act.put, List.setIfInBounds_toArray, List.set_cons_zero, List.set_cons_succ, List.nil_append, List.cons_append]
      -- op 26: t67 := Op.call { callee := Callee.builtin Builtin.len, args := #[tmp 
      refine inv_val (i := 26) (by kernel_rfl) rfl rfl (fun w1 hS hd K hK => ?_) ?_
      · rw [if_neg (by simp [Region.wanted, yielded])]; exact hK.out _ _ (by rfl) (Below.refl _ _)
      simp only [Act.put, List.setIfInBounds_toArray, List.set_cons_zero, List.set_cons_succ, List.nil_append, List.cons_append]
      -- op 27: t68 := Op.binOp BinOp.geq 3 (tmp 67) (const (Value.int IntKin
      refine inv_val (i := 27) (by kernel_rfl) rfl rfl (fun w1 hS hd K hK => ?_) ?_
      · rw [if_neg (by simp [Region.wanted, yielded])]; exact hK.out _ _ (by rfl) (Below.refl _ _)
      simp only [Act.put, List.setIfInBounds_toArray, List.set_cons_zero, List.set_cons_succ, List.nil_append, List.cons_append]
      -- op 28: t69 := Op.pick (tmp 65) (tmp 68) (const (Value.bool f
      refine inv_val (i := 28) (by kernel_rfl) rfl rfl (fun w1 hS hd K hK => ?_) ?_
      · (try dsimp only at hS)
        go_simp
        exact hK.out _ _ (by simp only [Act.put, List.setIfInBounds_toArray, List.set_cons_zero, List.set_cons_succ, List.nil_append, List.cons_append]; rfl) (Below.refl _ _)
      simp only [Act.put, List.setIfInBounds_toArray, List.set_cons_zero, List.set_cons_succ, List.nil_append, List.cons_append]
      refine inv_done (by kernel_rfl) (fun w3 hS hd => ?_)
      go_wp2_with fail
      go_meet
      exact ⟨rfl, hS⟩
  case rest =>
    obtain ⟨rfl, hb3⟩ := hcut
    have hb4 := hb3
    clear hb3
    have HB4 := Lib.hid hb4
    have hKI : (K : Int) < n + 5 := by omega
    go_wp2_with fail
    refine (HU.out _).mono ?_
    rintro x w4 ⟨rfl, hb5⟩
    have HB5 := Lib.hid (chain HB4.out hb5)
    clear hb5
    go_wp2_with fail
    refine (alive_any _).mono ?_
    rintro x w5 ⟨rfl, hb6⟩
    have HB6 := Lib.hid (chain HB5.out hb6)
    clear hb6
    by_cases q1 : f = 0
    · have q2 := HF0.out q1
      subst q1
      have q3 : u.size + 4 = K := by have := q2.1; rw [q2.2, ByteArray.size_extract]; omega
      have q4 : (u.size : Int) + 4 = K := by omega
      clear q2
      go_wp2
      go_ret
      exact ⟨(ret_bool (by have := HNR.out.1; simp; omega) : Ending.returned (.bool ((n : Int) + 4 == (N : Int))) = _), HB6.out⟩
    · by_cases q3 : K < 4
      · have q2 : f = 5 := HF5.out (by omega)
        subst q2
        go_wp2
        go_ret
        exact ⟨(ret_bool (by have := HNR.out.1; simp; omega) : Ending.returned (.bool ((n : Int) + 4 == (N : Int))) = _), HB6.out⟩
      · have q4 : 4 ≤ (K : Int) := by omega
        go_wp2
        go_ret
        exact ⟨(ret_bool (by have := HNR.out.1; simp; omega) : Ending.returned (.bool ((n : Int) + 4 == (N : Int))) = _), HB6.out⟩

set_option maxRecDepth 100000 in
set_option maxHeartbeats 1000000 in
theorem walkCrcLong (s : ByteArray) (more : ByteArray) (cut : Int) (wc : (Lit.int .i64 cut).wf = true) (w : World) (hs : s.size ≤ 9223372036854775807) (hm : more.size ≤ 9223372036854775807) : Calls Try.prog 6 #[.string s, .string more, .int .i64 cut] w (BoolPost w true) := by
  have hcut := wf64' wc
  by_cases hin : s.size ≤ 3000 ∧ more.size ≤ 300 ∧ 0 ≤ cut
  · by_cases h0 : more.size = 0
    · exact walkCrcLongIn0 s more cut w hin.1 hin.2.1 hin.2.2 hcut.2 h0
    · exact walkCrcLongIn s more cut w hin.1 hin.2.1 hin.2.2 hcut.2 h0
  · by_cases h1 : (3000 : Int) < s.size
    all_goals by_cases h2 : (300 : Int) < more.size
    all_goals by_cases h3 : cut < 0
    all_goals first
      | (exfalso; omega)
      | (clear hin
         go_enter Try.func6, Try.ntmps6
         go_wp2_with fail
         refine (alive_any _).mono ?_
         rintro e w9 ⟨rfl, hb9⟩
         go_wp2
         go_ret
         exact ⟨rfl, hb9⟩)
end Go.Proofs.Ytajmaipboleaiaa
