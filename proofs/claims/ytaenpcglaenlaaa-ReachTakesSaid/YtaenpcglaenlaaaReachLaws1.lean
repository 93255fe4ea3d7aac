/-
  The walks of the laws ReachTakes and ReachLater.
-/
import Derived.Test.YtaenpcglaenlaaaReachAlive
namespace Go.Proofs.Ytaenpcglaenlaaa
open Go.RowKit
set_option linter.unusedVariables false
set_option linter.unusedSimpArgs false

theorem gfloor_one (t : Int) (h : I64 t) : gfloor t 1 = t := by
  unfold gfloor I64 at *
  rw [if_neg (by omega)]
  split <;> omega
theorem web_takes (now t : Int) (s : ByteArray) (h0 : 0 ≤ now) (ht : I64 t) :
    ((webR now).takes s t = 0 ∧ 0 ≤ t ∧ t ≤ now ∧ (webR now).from 0 ≤ t ∧ (webR now).start 0 t = (t, true)) ∨
    ((webR now).takes s t = 25 ∧ now < t) ∨ ((webR now).takes s t = 24 ∧ t < (webR now).from 0) ∨ (webR now).takes s t = 1 := by
  unfold RV.takes
  by_cases h1 : nameOk s = false ∨ t < 0
  · rw [if_pos h1]; exact .inr (.inr (.inr rfl))
  · rw [if_neg h1]
    by_cases h2 : (webR now).now < t
    · rw [if_pos h2]; exact .inr (.inl ⟨rfl, h2⟩)
    · rw [if_neg h2]
      have hi : (webR now).is 0 = true := rfl
      have h2' : t ≤ now := by have : (webR now).now = now := rfl; omega
      by_cases h3 : t < (webR now).from 0
      · rw [if_pos (.inr h3)]; exact .inr (.inr (.inl ⟨rfl, h3⟩))
      · rw [if_neg (by rw [hi]; simp; omega)]
        refine .inl ⟨rfl, by omega, h2', by omega, ?_⟩
        unfold RV.start
        rw [if_pos ⟨hi, by omega⟩]
        have e : ((webR now).l.getD (0 : Int).toNat TierV.zero).every = 1 := rfl
        rw [e, gfloor_one t ht]
        simp; omega

set_option maxRecDepth 100000 in
set_option maxHeartbeats 1000000 in
theorem walkReachTakes (now : Int) (wn : (Lit.int .i64 now).wf = true) (s : ByteArray) (t x : Int) (w : World) (hs : s.size ≤ 9223372036854775807) (ht : I64 t) (hx : I64 x) :
    Calls Try.prog 5 #[.int .i64 now, .agg #[.string s, .int .i64 t, .int .i64 x]] w (BoolPost w true) := by
  have hn := wf64' wn
  clear wn
  by_cases hin : (s.size : Int) ≤ 60 ∧ 0 ≤ now
  · obtain ⟨i1, i2⟩ := hin
    have hw := web_takes now t s i2 ht
    obtain ⟨r, hr⟩ : ∃ r, r = webR now := ⟨_, rfl⟩
    have HRE := Lib.hid hr
    have hrn : now = r.now := by rw [hr]; rfl
    rw [← hr] at hw
    obtain ⟨E, hE⟩ : ∃ E, E = r.takes s t := ⟨_, rfl⟩
    rw [← hE] at hw
    have HE := Lib.hid hE
    have N := Lib.hid (show I64 r.now by rw [← hrn]; exact hn)
    have HW := Lib.hid hw
    have HT := Lib.hid ht
    have HS := Lib.hid hs
    have K0 := Lib.hid (show I64 0 by unfold I64; omega)
    have NW := Lib.hid (show webR now = ⟨now, nWeb, webL, []⟩ from rfl)
    have htt := ht
    unfold I64 at htt
    clear hw hr hE hs ht hx hrn
    go_enter Try.func5, Try.ntmps5
    go_wp2_with fail
    refine (web_any _).mono ?_
    rintro e w1 ⟨u, rfl, hp, hb⟩
    have HP := Lib.hid hp
    have HB := Lib.hid (chain (bel_new _ _) hb)
    have hsb := heap_step (heap_new_at rfl) hb
    have HSB := Lib.hid hsb
    clear hp hb hsb
    go_wp2_with fail
    refine (of_any u (.slice none 0 0) now nWeb webL [] _ HP.out (ints_nil _) (by decide) (by decide)).mono ?_
    rintro e w2 ⟨u2, rfl, hu, hb⟩
    have HR := Lib.hid (show ReachAt w2 u2 r by rw [HRE.out, NW.out]; exact hu.at)
    obtain ⟨a, c, fa, fc, rfl⟩ := HR.out.form
    have HX := Lib.hid (RBox.new rfl HR.out)
    have HB3 := Lib.hid (chain (chain HB.out hb) (bel_new w2 (.cells #[.int .i64 r.now, .string r.name, .slice a r.l.length c, .slice fa r.fl.length fc] 34)))
    have HS3 := Lib.hid (heap_step (heap_step HSB.out hb) (bel_new w2 (.cells #[.int .i64 r.now, .string r.name, .slice a r.l.length c, .slice fa r.fl.length fc] 34)))
    obtain ⟨c0, c1, c2, c3⟩ := HX.out.cells
    have HX3 := HX
    clear HX
    obtain ⟨d0, d1, d2⟩ := row3 HS3.out
    clear hu hb
    go_wp2_with fail
    refine (takes_any _ r s t x _ HX3.out.lies N.out HS.out HT.out).mono ?_
    rintro e w4 ⟨rfl, hb⟩
    rw [← HE.out]
    clear c0 c1 c2 c3 d0 d1 d2; have HX4 := Lib.hid (HX3.out.step hb); have HB4 := Lib.hid (chain HB3.out hb); have HS4 := Lib.hid (heap_step HS3.out hb); obtain ⟨c0, c1, c2, c3⟩ := HX4.out.cells; obtain ⟨d0, d1, d2⟩ := row3 HS4.out; clear hb
    rcases HW.out with ⟨q1, q2, q3, q4, q5⟩ | ⟨q1, q2⟩ | ⟨q1, q2⟩ | q1
    · rw [q1]
      have Q5 := Lib.hid q5
      obtain ⟨F, hF⟩ : ∃ F, F = r.from 0 := ⟨_, rfl⟩
      rw [← hF] at q4
      have HF := Lib.hid hF
      clear q1 q5 hF
      go_wp2_with fail
      refine (start_any _ r 0 t _ HX4.out.lies N.out K0.out HT.out).mono ?_
      rintro e w5 ⟨rfl, hb⟩
      rw [Q5.out]
      clear c0 c1 c2 c3 d0 d1 d2; have HX5 := Lib.hid (HX4.out.step hb); have HB5 := Lib.hid (chain HB4.out hb); have HS5 := Lib.hid (heap_step HS4.out hb); obtain ⟨c0, c1, c2, c3⟩ := HX5.out.cells; obtain ⟨d0, d1, d2⟩ := row3 HS5.out; clear hb
      go_wp2_with fail
      have q4' := Lib.hid q4
      refine wp_region_inv (S := (fun w' => (Below w.heap.size w w' ∧ RBox w' w2.heap.size a c fa fc r) ∧ w'.cell? ⟨w2.heap.size, 0, none⟩ = some (.int .i64 r.now) ∧ w'.cell? ⟨w2.heap.size, 1, none⟩ = some (.string r.name) ∧ w'.cell? ⟨w2.heap.size, 2, none⟩ = some (.slice a r.l.length c) ∧ w'.cell? ⟨w2.heap.size, 3, none⟩ = some (.slice fa r.fl.length fc) ∧ w'.cell? ⟨w.heap.size, 1, none⟩ = some (.int .i64 t))) 24 (Spec.val ?_ :: Spec.val ?_ :: Spec.val ?_ :: Spec.val ?_ :: Spec.val ?_ :: Spec.val ?_ :: Spec.val ?_ :: Spec.val ?_ :: Spec.val ?_ :: Spec.val ?_ :: Spec.val ?_ :: Spec.val ?_ :: Spec.val ?_ :: Spec.val ?_ :: Spec.val ?_ :: Spec.val ?_ :: Spec.val ?_ :: Spec.val ?_ :: Spec.val ?_ :: Spec.val ?_ :: Spec.val ?_ :: Spec.val ?_ :: Spec.val ?_ :: Spec.val ?_ :: []) (by kernel_rfl) (by kernel_rfl) rfl (fun w1 w2 h hb => ⟨⟨chain h.1.1 hb, h.1.2.step hb⟩, cell_step h.2.1 hb, cell_step h.2.2.1 hb, cell_step h.2.2.2.1 hb, cell_step h.2.2.2.2.1 hb, cell_step h.2.2.2.2.2 hb⟩) (⟨⟨HB5.out.drew, HX5.out.step (Below.refl _ _).drew⟩, c0, c1, c2, c3, d1⟩) ?hm1
      case' hm1 => skip
      -- op 0: t33 := Op.call { callee := Callee.value (func 10), args := #[], argTy
      refine inv_val (i := 0) (by kernel_rfl) rfl rfl (fun w1 hS hd K hK => ?_) ?_
      · (try dsimp only at hS)
        go_simp
        refine (alive_any _).mono ?_; rintro e w2 ⟨rfl, hb⟩; exact hK.out _ _ (by simp only [Act.put, List.setIfInBounds_toArray, List.set_cons_zero, List.set_cons_succ, List.nil_append, List.cons_append]; rfl) hb
      simp only [Act.put, List.setIfInBounds_toArray, List.set_cons_zero, List.set_cons_succ, List.nil_append, List.cons_append]
      -- op 1: t34 := Op.move (tmp 33)
      refine inv_val (i := 1) (by kernel_rfl) rfl rfl (fun w1 hS hd K hK => ?_) ?_
      · (try dsimp only at hS)
        go_simp
        exact hK.out _ _ (by simp only [Act.put, List.setIfInBounds_toArray, List.set_cons_zero, List.set_cons_succ, List.nil_append, List.cons_append]; rfl) (Below.refl _ _)
      simp only [Act.put, List.setIfInBounds_toArray, List.set_cons_zero, List.set_cons_succ, List.nil_append, List.cons_append]
      -- op 2: t35 := Op.fieldAddr 41 (tmp 3) 1
      refine inv_val (i := 2) (by kernel_rfl) rfl rfl (fun w1 hS hd K hK => ?_) ?_
      · (try dsimp only at hS)
        go_simp
        exact hK.out _ _ (by simp only [Act.put, List.setIfInBounds_toArray, List.set_cons_zero, List.set_cons_succ, List.nil_append, List.cons_append]; rfl) (Below.refl _ _)
      simp only [Act.put, List.setIfInBounds_toArray, List.set_cons_zero, List.set_cons_succ, List.nil_append, List.cons_append]
      -- op 3: t36 := Op.load 3 (tmp 35)
      refine inv_val (i := 3) (by kernel_rfl) rfl rfl (fun w1 hS hd K hK => ?_) ?_
      · (try dsimp only at hS)
        go_simp
        exact hK.out _ _ (by simp only [Act.put, List.setIfInBounds_toArray, List.set_cons_zero, List.set_cons_succ, List.nil_append, List.cons_append]; rfl) (Below.refl _ _)
      simp only [Act.put, List.setIfInBounds_toArray, List.set_cons_zero, List.set_cons_succ, List.nil_append, List.cons_append]
      -- op 4: t37 := Op.move (tmp 0)
      refine inv_val (i := 4) (by kernel_rfl) rfl rfl (fun w1 hS hd K hK => ?_) ?_
      · (try dsimp only at hS)
        go_simp
        exact hK.out _ _ (by simp only [Act.put, List.setIfInBounds_toArray, List.set_cons_zero, List.set_cons_succ, List.nil_append, List.cons_append]; rfl) (Below.refl _ _)
      simp only [Act.put, List.setIfInBounds_toArray, List.set_cons_zero, List.set_cons_succ, List.nil_append, List.cons_append]
      -- op 5: t38 := Op.binOp BinOp.leq 3 (tmp 36) (tmp 37) 3
      refine inv_val (i := 5) (by kernel_rfl) rfl rfl (fun w1 hS hd K hK => ?_) ?_
      · (try dsimp only at hS)
        go_simp
        exact hK.out _ _ (by simp only [Act.put, List.setIfInBounds_toArray, List.set_cons_zero, List.set_cons_succ, List.nil_append, List.cons_append]; rfl) (Below.refl _ _)
      simp only [Act.put, List.setIfInBounds_toArray, List.set_cons_zero, List.set_cons_succ, List.nil_append, List.cons_append]
      -- op 6: t39 := Op.pick (tmp 34) (tmp 38) (const (Value.bool f
      refine inv_val (i := 6) (by kernel_rfl) rfl rfl (fun w1 hS hd K hK => ?_) ?_
      · (try dsimp only at hS)
        go_simp
        exact hK.out _ _ (by simp only [Act.put, List.setIfInBounds_toArray, List.set_cons_zero, List.set_cons_succ, List.nil_append, List.cons_append]; rfl) (Below.refl _ _)
      simp only [Act.put, List.setIfInBounds_toArray, List.set_cons_zero, List.set_cons_succ, List.nil_append, List.cons_append]
      -- op 7: t40 := Op.move (tmp 39)
      refine inv_val (i := 7) (by kernel_rfl) rfl rfl (fun w1 hS hd K hK => ?_) ?_
      · (try dsimp only at hS)
        go_simp
        exact hK.out _ _ (by simp only [Act.put, List.setIfInBounds_toArray, List.set_cons_zero, List.set_cons_succ, List.nil_append, List.cons_append]; rfl) (Below.refl _ _)
      simp only [Act.put, List.setIfInBounds_toArray, List.set_cons_zero, List.set_cons_succ, List.nil_append, List.cons_append]
      -- op 8: t41 := Op.fieldAddr 41 (tmp 3) 1
      refine inv_val (i := 8) (by kernel_rfl) rfl rfl (fun w1 hS hd K hK => ?_) ?_
      · (try dsimp only at hS)
        go_simp
        exact hK.out _ _ (by simp only [Act.put, List.setIfInBounds_toArray, List.set_cons_zero, List.set_cons_succ, List.nil_append, List.cons_append]; rfl) (Below.refl _ _)
      simp only [Act.put, List.setIfInBounds_toArray, List.set_cons_zero, List.set_cons_succ, List.nil_append, List.cons_append]
      -- op 9: t42 := Op.load 3 (tmp 41)
      refine inv_val (i := 9) (by kernel_rfl) rfl rfl (fun w1 hS hd K hK => ?_) ?_
      · (try dsimp only at hS)
        go_simp
        exact hK.out _ _ (by simp only [Act.put, List.setIfInBounds_toArray, List.set_cons_zero, List.set_cons_succ, List.nil_append, List.cons_append]; rfl) (Below.refl _ _)
      simp only [Act.put, List.setIfInBounds_toArray, List.set_cons_zero, List.set_cons_succ, List.nil_append, List.cons_append]
      -- op 10: t43 := Op.load 34 (tmp 5)
      refine inv_val (i := 10) (by kernel_rfl) rfl rfl (fun w1 hS hd K hK => ?_) ?_
      · (try dsimp only at hS)
        go_simp
        exact hK.out _ _ (by simp only [Act.put, List.setIfInBounds_toArray, List.set_cons_zero, List.set_cons_succ, List.nil_append, List.cons_append]; rfl) (Below.refl _ _)
      simp only [Act.put, List.setIfInBounds_toArray, List.set_cons_zero, List.set_cons_succ, List.nil_append, List.cons_append]
      -- op 11: t44 := Op.call { callee := Callee.value (func 14), args := #[
      refine inv_val (i := 11) (by kernel_rfl) rfl rfl (fun w1 hS hd K hK => ?_) ?_
      · (try dsimp only at hS)
        go_simp
        refine (from_any _ r 0 _ hS.1.2.lies N.out K0.out).mono ?_; rintro e w2 ⟨rfl, hb⟩; rw [← HF.out]; exact hK.out _ _ (by simp only [Act.put, List.setIfInBounds_toArray, List.set_cons_zero, List.set_cons_succ, List.nil_append, List.cons_append]; rfl) hb
      simp only [Act.put, List.setIfInBounds_toArray, List.set_cons_zero, List.set_cons_succ, List.nil_append, List.cons_append]
      -- op 12: t45 := Op.binOp BinOp.geq 3 (tmp 42) (tmp 44) 3
      refine inv_val (i := 12) (by kernel_rfl) rfl rfl (fun w1 hS hd K hK => ?_) ?_
      · (try dsimp only at hS)
        go_simp
        exact hK.out _ _ (by simp only [Act.put, List.setIfInBounds_toArray, List.set_cons_zero, List.set_cons_succ, List.nil_append, List.cons_append]; rfl) (Below.refl _ _)
      simp only [Act.put, List.setIfInBounds_toArray, List.set_cons_zero, List.set_cons_succ, List.nil_append, List.cons_append]
      -- op 13: t46 := Op.pick (tmp 40) (tmp 45) (const (Value.bool f
      refine inv_val (i := 13) (by kernel_rfl) rfl rfl (fun w1 hS hd K hK => ?_) ?_
      · (try dsimp only at hS)
        go_simp
        exact hK.out _ _ (by simp only [Act.put, List.setIfInBounds_toArray, List.set_cons_zero, List.set_cons_succ, List.nil_append, List.cons_append]; rfl) (Below.refl _ _)
      simp only [Act.put, List.setIfInBounds_toArray, List.set_cons_zero, List.set_cons_succ, List.nil_append, List.cons_append]
      -- op 14: t47 := Op.move (tmp 46)
      refine inv_val (i := 14) (by kernel_rfl) rfl rfl (fun w1 hS hd K hK => ?_) ?_
      · (try dsimp only at hS)
        go_simp
        exact hK.out _ _ (by simp only [Act.put, List.setIfInBounds_toArray, List.set_cons_zero, List.set_cons_succ, List.nil_append, List.cons_append]; rfl) (Below.refl _ _)
      simp only [Act.put, List.setIfInBounds_toArray, List.set_cons_zero, List.set_cons_succ, List.nil_append, List.cons_append]
      -- op 15: t48 := Op.move (tmp 8)
      refine inv_val (i := 15) (by kernel_rfl) rfl rfl (fun w1 hS hd K hK => ?_) ?_
      · (try dsimp only at hS)
        go_simp
        exact hK.out _ _ (by simp only [Act.put, List.setIfInBounds_toArray, List.set_cons_zero, List.set_cons_succ, List.nil_append, List.cons_append]; rfl) (Below.refl _ _)
      simp only [Act.put, List.setIfInBounds_toArray, List.set_cons_zero, List.set_cons_succ, List.nil_append, List.cons_append]
      -- op 16: t49 := Op.pick (tmp 47) (tmp 48) (const (Value.bool f
      refine inv_val (i := 16) (by kernel_rfl) rfl rfl (fun w1 hS hd K hK => ?_) ?_
      · (try dsimp only at hS)
        go_simp
        exact hK.out _ _ (by simp only [Act.put, List.setIfInBounds_toArray, List.set_cons_zero, List.set_cons_succ, List.nil_append, List.cons_append]; rfl) (Below.refl _ _)
      simp only [Act.put, List.setIfInBounds_toArray, List.set_cons_zero, List.set_cons_succ, List.nil_append, List.cons_append]
      -- op 17: t50 := Op.move (tmp 49)
      refine inv_val (i := 17) (by kernel_rfl) rfl rfl (fun w1 hS hd K hK => ?_) ?_
      · (try dsimp only at hS)
        go_simp
        exact hK.out _ _ (by simp only [Act.put, List.setIfInBounds_toArray, List.set_cons_zero, List.set_cons_succ, List.nil_append, List.cons_append]; rfl) (Below.refl _ _)
      simp only [Act.put, List.setIfInBounds_toArray, List.set_cons_zero, List.set_cons_succ, List.nil_append, List.cons_append]
      -- op 18: t51 := Op.move (tmp 7)
      refine inv_val (i := 18) (by kernel_rfl) rfl rfl (fun w1 hS hd K hK => ?_) ?_
      · (try dsimp only at hS)
        go_simp
        exact hK.out _ _ (by simp only [Act.put, List.setIfInBounds_toArray, List.set_cons_zero, List.set_cons_succ, List.nil_append, List.cons_append]; rfl) (Below.refl _ _)
      simp only [Act.put, List.setIfInBounds_toArray, List.set_cons_zero, List.set_cons_succ, List.nil_append, List.cons_append]
      -- op 19: t52 := Op.fieldAddr 41 (tmp 3) 1
      refine inv_val (i := 19) (by kernel_rfl) rfl rfl (fun w1 hS hd K hK => ?_) ?_
      · (try dsimp only at hS)
        go_simp
        exact hK.out _ _ (by simp only [Act.put, List.setIfInBounds_toArray, List.set_cons_zero, List.set_cons_succ, List.nil_append, List.cons_append]; rfl) (Below.refl _ _)
      simp only [Act.put, List.setIfInBounds_toArray, List.set_cons_zero, List.set_cons_succ, List.nil_append, List.cons_append]
      -- op 20: t53 := Op.load 3 (tmp 52)
      refine inv_val (i := 20) (by kernel_rfl) rfl rfl (fun w1 hS hd K hK => ?_) ?_
      · (try dsimp only at hS)
        go_simp
        exact hK.out _ _ (by simp only [Act.put, List.setIfInBounds_toArray, List.set_cons_zero, List.set_cons_succ, List.nil_append, List.cons_append]; rfl) (Below.refl _ _)
      simp only [Act.put, List.setIfInBounds_toArray, List.set_cons_zero, List.set_cons_succ, List.nil_append, List.cons_append]
      -- op 21: t54 := Op.binOp BinOp.eql 3 (tmp 51) (tmp 53) 3
      refine inv_val (i := 21) (by kernel_rfl) rfl rfl (fun w1 hS hd K hK => ?_) ?_
      · (try dsimp only at hS)
        go_simp
        exact hK.out _ _ (by simp only [Act.put, List.setIfInBounds_toArray, List.set_cons_zero, List.set_cons_succ, List.nil_append, List.cons_append]; rfl) (Below.refl _ _)
      simp only [Act.put, List.setIfInBounds_toArray, List.set_cons_zero, List.set_cons_succ, List.nil_append, List.cons_append]
      -- op 22: t55 := Op.pick (tmp 50) (tmp 54) (const (Value.bool f
      refine inv_val (i := 22) (by kernel_rfl) rfl rfl (fun w1 hS hd K hK => ?_) ?_
      · (try dsimp only at hS)
        go_simp
        exact hK.out _ _ (by simp only [Act.put, List.setIfInBounds_toArray, List.set_cons_zero, List.set_cons_succ, List.nil_append, List.cons_append]; rfl) (Below.refl _ _)
      simp only [Act.put, List.setIfInBounds_toArray, List.set_cons_zero, List.set_cons_succ, List.nil_append, List.cons_append]
      -- op 23: t4 := Op.assign (tmp 55)
      refine inv_val (i := 23) (by kernel_rfl) rfl rfl (fun w1 hS hd K hK => ?_) ?_
      · (try dsimp only at hS)
        go_simp
        exact hK.out _ _ (by simp only [Act.put, List.setIfInBounds_toArray, List.set_cons_zero, List.set_cons_succ, List.nil_append, List.cons_append]; rfl) (Below.refl _ _)
      simp only [Act.put, List.setIfInBounds_toArray, List.set_cons_zero, List.set_cons_succ, List.nil_append, List.cons_append]
      refine inv_done (by kernel_rfl) (fun w3 hS hd => ?_); have HB9 := Lib.hid hS.1.1; clear hS hd c0 c1 c2 c3 d0 d1 d2; go_wp2; go_ret; exact ⟨rfl, HB9.out⟩
    · rw [q1]
      clear q1
      go_wp2_with fail
      refine (alive_any _).mono ?_
      rintro e w5 ⟨rfl, hb⟩
      clear c0 c1 c2 c3 d0 d1 d2; have HX5 := Lib.hid (HX4.out.step hb); have HB5 := Lib.hid (chain HB4.out hb); have HS5 := Lib.hid (heap_step HS4.out hb); obtain ⟨c0, c1, c2, c3⟩ := HX5.out.cells; obtain ⟨d0, d1, d2⟩ := row3 HS5.out; clear hb
      go_wp2
      go_ret
      exact ⟨rfl, HB5.out⟩
    · rw [q1]
      obtain ⟨F, hF⟩ : ∃ F, F = r.from 0 := ⟨_, rfl⟩
      rw [← hF] at q2
      have HF := Lib.hid hF
      clear q1 hF
      go_wp2_with fail
      refine wp_region_inv (S := (fun w' => (Below w.heap.size w w' ∧ RBox w' w2.heap.size a c fa fc r) ∧ w'.cell? ⟨w2.heap.size, 0, none⟩ = some (.int .i64 r.now) ∧ w'.cell? ⟨w2.heap.size, 1, none⟩ = some (.string r.name) ∧ w'.cell? ⟨w2.heap.size, 2, none⟩ = some (.slice a r.l.length c) ∧ w'.cell? ⟨w2.heap.size, 3, none⟩ = some (.slice fa r.fl.length fc) ∧ w'.cell? ⟨w.heap.size, 1, none⟩ = some (.int .i64 t))) 17 (Spec.val ?_ :: Spec.val ?_ :: Spec.val ?_ :: Spec.val ?_ :: Spec.val ?_ :: Spec.val ?_ :: Spec.val ?_ :: Spec.val ?_ :: Spec.val ?_ :: Spec.val ?_ :: Spec.val ?_ :: Spec.val ?_ :: Spec.val ?_ :: Spec.val ?_ :: Spec.val ?_ :: Spec.val ?_ :: Spec.val ?_ :: []) (by kernel_rfl) (by kernel_rfl) rfl (fun w1 w2 h hb => ⟨⟨chain h.1.1 hb, h.1.2.step hb⟩, cell_step h.2.1 hb, cell_step h.2.2.1 hb, cell_step h.2.2.2.1 hb, cell_step h.2.2.2.2.1 hb, cell_step h.2.2.2.2.2 hb⟩) (⟨⟨HB4.out.drew, HX4.out.step (Below.refl _ _).drew⟩, c0, c1, c2, c3, d1⟩) ?hm2
      case' hm2 => skip
      -- op 0: t65 := Op.call { callee := Callee.value (func 10), args := #[], argTy
      refine inv_val (i := 0) (by kernel_rfl) rfl rfl (fun w1 hS hd K hK => ?_) ?_
      · (try dsimp only at hS)
        go_simp
        refine (alive_any _).mono ?_; rintro e w2 ⟨rfl, hb⟩; exact hK.out _ _ (by simp only [Act.put, List.setIfInBounds_toArray, List.set_cons_zero, List.set_cons_succ, List.nil_append, List.cons_append]; rfl) hb
      simp only [Act.put, List.setIfInBounds_toArray, List.set_cons_zero, List.set_cons_succ, List.nil_append, List.cons_append]
      -- op 1: t66 := Op.move (tmp 65)
      refine inv_val (i := 1) (by kernel_rfl) rfl rfl (fun w1 hS hd K hK => ?_) ?_
      · (try dsimp only at hS)
        go_simp
        exact hK.out _ _ (by simp only [Act.put, List.setIfInBounds_toArray, List.set_cons_zero, List.set_cons_succ, List.nil_append, List.cons_append]; rfl) (Below.refl _ _)
      simp only [Act.put, List.setIfInBounds_toArray, List.set_cons_zero, List.set_cons_succ, List.nil_append, List.cons_append]
      -- op 2: t67 := Op.move (tmp 6)
      refine inv_val (i := 2) (by kernel_rfl) rfl rfl (fun w1 hS hd K hK => ?_) ?_
      · (try dsimp only at hS)
        go_simp
        exact hK.out _ _ (by simp only [Act.put, List.setIfInBounds_toArray, List.set_cons_zero, List.set_cons_succ, List.nil_append, List.cons_append]; rfl) (Below.refl _ _)
      simp only [Act.put, List.setIfInBounds_toArray, List.set_cons_zero, List.set_cons_succ, List.nil_append, List.cons_append]
      -- op 3: t68 := Op.binOp BinOp.eql 28 (tmp 67) (const (Value.int IntKi
      refine inv_val (i := 3) (by kernel_rfl) rfl rfl (fun w1 hS hd K hK => ?_) ?_
      · (try dsimp only at hS)
        go_simp
        exact hK.out _ _ (by simp only [Act.put, List.setIfInBounds_toArray, List.set_cons_zero, List.set_cons_succ, List.nil_append, List.cons_append]; rfl) (Below.refl _ _)
      simp only [Act.put, List.setIfInBounds_toArray, List.set_cons_zero, List.set_cons_succ, List.nil_append, List.cons_append]
      -- op 4: t69 := Op.move (tmp 68)
      refine inv_val (i := 4) (by kernel_rfl) rfl rfl (fun w1 hS hd K hK => ?_) ?_
      · (try dsimp only at hS)
        go_simp
        exact hK.out _ _ (by simp only [Act.put, List.setIfInBounds_toArray, List.set_cons_zero, List.set_cons_succ, List.nil_append, List.cons_append]; rfl) (Below.refl _ _)
      simp only [Act.put, List.setIfInBounds_toArray, List.set_cons_zero, List.set_cons_succ, List.nil_append, List.cons_append]
      -- op 5: t70 := Op.fieldAddr 41 (tmp 3) 1
      refine inv_val (i := 5) (by kernel_rfl) rfl rfl (fun w1 hS hd K hK => ?_) ?_
      · (try dsimp only at hS)
        go_simp
        exact hK.out _ _ (by simp only [Act.put, List.setIfInBounds_toArray, List.set_cons_zero, List.set_cons_succ, List.nil_append, List.cons_append]; rfl) (Below.refl _ _)
      simp only [Act.put, List.setIfInBounds_toArray, List.set_cons_zero, List.set_cons_succ, List.nil_append, List.cons_append]
      -- op 6: t71 := Op.load 3 (tmp 70)
      refine inv_val (i := 6) (by kernel_rfl) rfl rfl (fun w1 hS hd K hK => ?_) ?_
      · (try dsimp only at hS)
        go_simp
        exact hK.out _ _ (by simp only [Act.put, List.setIfInBounds_toArray, List.set_cons_zero, List.set_cons_succ, List.nil_append, List.cons_append]; rfl) (Below.refl _ _)
      simp only [Act.put, List.setIfInBounds_toArray, List.set_cons_zero, List.set_cons_succ, List.nil_append, List.cons_append]
      -- op 7: t72 := Op.load 34 (tmp 5)
      refine inv_val (i := 7) (by kernel_rfl) rfl rfl (fun w1 hS hd K hK => ?_) ?_
      · (try dsimp only at hS)
        go_simp
        exact hK.out _ _ (by simp only [Act.put, List.setIfInBounds_toArray, List.set_cons_zero, List.set_cons_succ, List.nil_append, List.cons_append]; rfl) (Below.refl _ _)
      simp only [Act.put, List.setIfInBounds_toArray, List.set_cons_zero, List.set_cons_succ, List.nil_append, List.cons_append]
      -- op 8: t73 := Op.call { callee := Callee.value (func 14), args := #[
      refine inv_val (i := 8) (by kernel_rfl) rfl rfl (fun w1 hS hd K hK => ?_) ?_
      · (try dsimp only at hS)
        go_simp
        refine (from_any _ r 0 _ hS.1.2.lies N.out K0.out).mono ?_; rintro e w2 ⟨rfl, hb⟩; rw [← HF.out]; exact hK.out _ _ (by simp only [Act.put, List.setIfInBounds_toArray, List.set_cons_zero, List.set_cons_succ, List.nil_append, List.cons_append]; rfl) hb
      simp only [Act.put, List.setIfInBounds_toArray, List.set_cons_zero, List.set_cons_succ, List.nil_append, List.cons_append]
      -- op 9: t74 := Op.binOp BinOp.lss 3 (tmp 71) (tmp 73) 3
      refine inv_val (i := 9) (by kernel_rfl) rfl rfl (fun w1 hS hd K hK => ?_) ?_
      · (try dsimp only at hS)
        go_simp
        exact hK.out _ _ (by simp only [Act.put, List.setIfInBounds_toArray, List.set_cons_zero, List.set_cons_succ, List.nil_append, List.cons_append]; rfl) (Below.refl _ _)
      simp only [Act.put, List.setIfInBounds_toArray, List.set_cons_zero, List.set_cons_succ, List.nil_append, List.cons_append]
      -- op 10: t75 := Op.pick (tmp 69) (tmp 74) (const (Value.bool f
      refine inv_val (i := 10) (by kernel_rfl) rfl rfl (fun w1 hS hd K hK => ?_) ?_
      · (try dsimp only at hS)
        go_simp
        exact hK.out _ _ (by simp only [Act.put, List.setIfInBounds_toArray, List.set_cons_zero, List.set_cons_succ, List.nil_append, List.cons_append]; rfl) (Below.refl _ _)
      simp only [Act.put, List.setIfInBounds_toArray, List.set_cons_zero, List.set_cons_succ, List.nil_append, List.cons_append]
      -- op 11: t76 := Op.move (tmp 75)
      refine inv_val (i := 11) (by kernel_rfl) rfl rfl (fun w1 hS hd K hK => ?_) ?_
      · (try dsimp only at hS)
        go_simp
        exact hK.out _ _ (by simp only [Act.put, List.setIfInBounds_toArray, List.set_cons_zero, List.set_cons_succ, List.nil_append, List.cons_append]; rfl) (Below.refl _ _)
      simp only [Act.put, List.setIfInBounds_toArray, List.set_cons_zero, List.set_cons_succ, List.nil_append, List.cons_append]
      -- op 12: t77 := Op.move (tmp 6)
      refine inv_val (i := 12) (by kernel_rfl) rfl rfl (fun w1 hS hd K hK => ?_) ?_
      · rw [if_neg (by simp [Region.wanted, yielded])]; exact hK.out _ _ (by rfl) (Below.refl _ _)
      simp only [Act.put, List.setIfInBounds_toArray, List.set_cons_zero, List.set_cons_succ, List.nil_append, List.cons_append]
      -- op 13: t78 := Op.binOp BinOp.eql 28 (tmp 77) (const (Value.int IntKi
      refine inv_val (i := 13) (by kernel_rfl) rfl rfl (fun w1 hS hd K hK => ?_) ?_
      · rw [if_neg (by simp [Region.wanted, yielded])]; exact hK.out _ _ (by rfl) (Below.refl _ _)
      simp only [Act.put, List.setIfInBounds_toArray, List.set_cons_zero, List.set_cons_succ, List.nil_append, List.cons_append]
      -- op 14: t79 := Op.pick (tmp 76) (const (Value.bool true)) (tm
      refine inv_val (i := 14) (by kernel_rfl) rfl rfl (fun w1 hS hd K hK => ?_) ?_
      · (try dsimp only at hS)
        go_simp
        exact hK.out _ _ (by simp only [Act.put, List.setIfInBounds_toArray, List.set_cons_zero, List.set_cons_succ, List.nil_append, List.cons_append]; rfl) (Below.refl _ _)
      simp only [Act.put, List.setIfInBounds_toArray, List.set_cons_zero, List.set_cons_succ, List.nil_append, List.cons_append]
      -- op 15: t80 := Op.pick (tmp 66) (tmp 79) (const (Value.bool f
      refine inv_val (i := 15) (by kernel_rfl) rfl rfl (fun w1 hS hd K hK => ?_) ?_
      · (try dsimp only at hS)
        go_simp
        exact hK.out _ _ (by simp only [Act.put, List.setIfInBounds_toArray, List.set_cons_zero, List.set_cons_succ, List.nil_append, List.cons_append]; rfl) (Below.refl _ _)
      simp only [Act.put, List.setIfInBounds_toArray, List.set_cons_zero, List.set_cons_succ, List.nil_append, List.cons_append]
      -- op 16: t4 := Op.assign (tmp 80)
      refine inv_val (i := 16) (by kernel_rfl) rfl rfl (fun w1 hS hd K hK => ?_) ?_
      · (try dsimp only at hS)
        go_simp
        exact hK.out _ _ (by simp only [Act.put, List.setIfInBounds_toArray, List.set_cons_zero, List.set_cons_succ, List.nil_append, List.cons_append]; rfl) (Below.refl _ _)
      simp only [Act.put, List.setIfInBounds_toArray, List.set_cons_zero, List.set_cons_succ, List.nil_append, List.cons_append]
      refine inv_done (by kernel_rfl) (fun w3 hS hd => ?_); have HB9 := Lib.hid hS.1.1; clear hS hd c0 c1 c2 c3 d0 d1 d2; go_wp2; go_ret; exact ⟨rfl, HB9.out⟩
    · rw [q1]
      clear q1
      go_wp2_with fail
      refine wp_region_inv (S := (fun w' => (Below w.heap.size w w' ∧ RBox w' w2.heap.size a c fa fc r) ∧ w'.cell? ⟨w2.heap.size, 0, none⟩ = some (.int .i64 r.now) ∧ w'.cell? ⟨w2.heap.size, 1, none⟩ = some (.string r.name) ∧ w'.cell? ⟨w2.heap.size, 2, none⟩ = some (.slice a r.l.length c) ∧ w'.cell? ⟨w2.heap.size, 3, none⟩ = some (.slice fa r.fl.length fc) ∧ w'.cell? ⟨w.heap.size, 1, none⟩ = some (.int .i64 t))) 17 (Spec.val ?_ :: Spec.val ?_ :: Spec.val ?_ :: Spec.val ?_ :: Spec.val ?_ :: Spec.val ?_ :: Spec.val ?_ :: Spec.val ?_ :: Spec.val ?_ :: Spec.val ?_ :: Spec.val ?_ :: Spec.val ?_ :: Spec.val ?_ :: Spec.val ?_ :: Spec.val ?_ :: Spec.val ?_ :: Spec.val ?_ :: []) (by kernel_rfl) (by kernel_rfl) rfl (fun w1 w2 h hb => ⟨⟨chain h.1.1 hb, h.1.2.step hb⟩, cell_step h.2.1 hb, cell_step h.2.2.1 hb, cell_step h.2.2.2.1 hb, cell_step h.2.2.2.2.1 hb, cell_step h.2.2.2.2.2 hb⟩) (⟨⟨HB4.out.drew, HX4.out.step (Below.refl _ _).drew⟩, c0, c1, c2, c3, d1⟩) ?hm3
      case' hm3 => skip
      -- op 0: t65 := Op.call { callee := Callee.value (func 10), args := #[], argTy
      refine inv_val (i := 0) (by kernel_rfl) rfl rfl (fun w1 hS hd K hK => ?_) ?_
      · (try dsimp only at hS)
        go_simp
        refine (alive_any _).mono ?_; rintro e w2 ⟨rfl, hb⟩; exact hK.out _ _ (by simp only [Act.put, List.setIfInBounds_toArray, List.set_cons_zero, List.set_cons_succ, List.nil_append, List.cons_append]; rfl) hb
      simp only [Act.put, List.setIfInBounds_toArray, List.set_cons_zero, List.set_cons_succ, List.nil_append, List.cons_append]
      -- op 1: t66 := Op.move (tmp 65)
      refine inv_val (i := 1) (by kernel_rfl) rfl rfl (fun w1 hS hd K hK => ?_) ?_
      · (try dsimp only at hS)
        go_simp
        exact hK.out _ _ (by simp only [Act.put, List.setIfInBounds_toArray, List.set_cons_zero, List.set_cons_succ, List.nil_append, List.cons_append]; rfl) (Below.refl _ _)
      simp only [Act.put, List.setIfInBounds_toArray, List.set_cons_zero, List.set_cons_succ, List.nil_append, List.cons_append]
      -- op 2: t67 := Op.move (tmp 6)
      refine inv_val (i := 2) (by kernel_rfl) rfl rfl (fun w1 hS hd K hK => ?_) ?_
      · (try dsimp only at hS)
        go_simp
        exact hK.out _ _ (by simp only [Act.put, List.setIfInBounds_toArray, List.set_cons_zero, List.set_cons_succ, List.nil_append, List.cons_append]; rfl) (Below.refl _ _)
      simp only [Act.put, List.setIfInBounds_toArray, List.set_cons_zero, List.set_cons_succ, List.nil_append, List.cons_append]
      -- op 3: t68 := Op.binOp BinOp.eql 28 (tmp 67) (const (Value.int IntKi
      refine inv_val (i := 3) (by kernel_rfl) rfl rfl (fun w1 hS hd K hK => ?_) ?_
      · (try dsimp only at hS)
        go_simp
        exact hK.out _ _ (by simp only [Act.put, List.setIfInBounds_toArray, List.set_cons_zero, List.set_cons_succ, List.nil_append, List.cons_append]; rfl) (Below.refl _ _)
      simp only [Act.put, List.setIfInBounds_toArray, List.set_cons_zero, List.set_cons_succ, List.nil_append, List.cons_append]
      -- op 4: t69 := Op.move (tmp 68)
      refine inv_val (i := 4) (by kernel_rfl) rfl rfl (fun w1 hS hd K hK => ?_) ?_
      · (try dsimp only at hS)
        go_simp
        exact hK.out _ _ (by simp only [Act.put, List.setIfInBounds_toArray, List.set_cons_zero, List.set_cons_succ, List.nil_append, List.cons_append]; rfl) (Below.refl _ _)
      simp only [Act.put, List.setIfInBounds_toArray, List.set_cons_zero, List.set_cons_succ, List.nil_append, List.cons_append]
      -- op 5: t70 := Op.fieldAddr 41 (tmp 3) 1
      refine inv_val (i := 5) (by kernel_rfl) rfl rfl (fun w1 hS hd K hK => ?_) ?_
      · rw [if_neg (by simp [Region.wanted, yielded])]; exact hK.out _ _ (by rfl) (Below.refl _ _)
      simp only [Act.put, List.setIfInBounds_toArray, List.set_cons_zero, List.set_cons_succ, List.nil_append, List.cons_append]
      -- op 6: t71 := Op.load 3 (tmp 70)
      refine inv_val (i := 6) (by kernel_rfl) rfl rfl (fun w1 hS hd K hK => ?_) ?_
      · rw [if_neg (by simp [Region.wanted, yielded])]; exact hK.out _ _ (by rfl) (Below.refl _ _)
      simp only [Act.put, List.setIfInBounds_toArray, List.set_cons_zero, List.set_cons_succ, List.nil_append, List.cons_append]
      -- op 7: t72 := Op.load 34 (tmp 5)
      refine inv_val (i := 7) (by kernel_rfl) rfl rfl (fun w1 hS hd K hK => ?_) ?_
      · rw [if_neg (by simp [Region.wanted, yielded])]; exact hK.out _ _ (by rfl) (Below.refl _ _)
      simp only [Act.put, List.setIfInBounds_toArray, List.set_cons_zero, List.set_cons_succ, List.nil_append, List.cons_append]
      -- op 8: t73 := Op.call { callee := Callee.value (func 14), args := #[
      refine inv_val (i := 8) (by kernel_rfl) rfl rfl (fun w1 hS hd K hK => ?_) ?_
      · rw [if_neg (by simp [Region.wanted, yielded])]; exact hK.out _ _ (by rfl) (Below.refl _ _)
      simp only [Act.put, List.setIfInBounds_toArray, List.set_cons_zero, List.set_cons_succ, List.nil_append, List.cons_append]
      -- op 9: t74 := Op.binOp BinOp.lss 3 (tmp 71) (tmp 73) 3
      refine inv_val (i := 9) (by kernel_rfl) rfl rfl (fun w1 hS hd K hK => ?_) ?_
      · rw [if_neg (by simp [Region.wanted, yielded])]; exact hK.out _ _ (by rfl) (Below.refl _ _)
      simp only [Act.put, List.setIfInBounds_toArray, List.set_cons_zero, List.set_cons_succ, List.nil_append, List.cons_append]
      -- op 10: t75 := Op.pick (tmp 69) (tmp 74) (const (Value.bool f
      refine inv_val (i := 10) (by kernel_rfl) rfl rfl (fun w1 hS hd K hK => ?_) ?_
      · (try dsimp only at hS)
        go_simp
        exact hK.out _ _ (by simp only [Act.put, List.setIfInBounds_toArray, List.set_cons_zero, List.set_cons_succ, List.nil_append, List.cons_append]; rfl) (Below.refl _ _)
      simp only [Act.put, List.setIfInBounds_toArray, List.set_cons_zero, List.set_cons_succ, List.nil_append, List.cons_append]
      -- op 11: t76 := Op.move (tmp 75)
      refine inv_val (i := 11) (by kernel_rfl) rfl rfl (fun w1 hS hd K hK => ?_) ?_
      · (try dsimp only at hS)
        go_simp
        exact hK.out _ _ (by simp only [Act.put, List.setIfInBounds_toArray, List.set_cons_zero, List.set_cons_succ, List.nil_append, List.cons_append]; rfl) (Below.refl _ _)
      simp only [Act.put, List.setIfInBounds_toArray, List.set_cons_zero, List.set_cons_succ, List.nil_append, List.cons_append]
      -- op 12: t77 := Op.move (tmp 6)
      refine inv_val (i := 12) (by kernel_rfl) rfl rfl (fun w1 hS hd K hK => ?_) ?_
      · (try dsimp only at hS)
        go_simp
        exact hK.out _ _ (by simp only [Act.put, List.setIfInBounds_toArray, List.set_cons_zero, List.set_cons_succ, List.nil_append, List.cons_append]; rfl) (Below.refl _ _)
      simp only [Act.put, List.setIfInBounds_toArray, List.set_cons_zero, List.set_cons_succ, List.nil_append, List.cons_append]
      -- op 13: t78 := Op.binOp BinOp.eql 28 (tmp 77) (const (Value.int IntKi
      refine inv_val (i := 13) (by kernel_rfl) rfl rfl (fun w1 hS hd K hK => ?_) ?_
      · (try dsimp only at hS)
        go_simp
        exact hK.out _ _ (by simp only [Act.put, List.setIfInBounds_toArray, List.set_cons_zero, List.set_cons_succ, List.nil_append, List.cons_append]; rfl) (Below.refl _ _)
      simp only [Act.put, List.setIfInBounds_toArray, List.set_cons_zero, List.set_cons_succ, List.nil_append, List.cons_append]
      -- op 14: t79 := Op.pick (tmp 76) (const (Value.bool true)) (tm
      refine inv_val (i := 14) (by kernel_rfl) rfl rfl (fun w1 hS hd K hK => ?_) ?_
      · (try dsimp only at hS)
        go_simp
        exact hK.out _ _ (by simp only [Act.put, List.setIfInBounds_toArray, List.set_cons_zero, List.set_cons_succ, List.nil_append, List.cons_append]; rfl) (Below.refl _ _)
      simp only [Act.put, List.setIfInBounds_toArray, List.set_cons_zero, List.set_cons_succ, List.nil_append, List.cons_append]
      -- op 15: t80 := Op.pick (tmp 66) (tmp 79) (const (Value.bool f
      refine inv_val (i := 15) (by kernel_rfl) rfl rfl (fun w1 hS hd K hK => ?_) ?_
      · (try dsimp only at hS)
        go_simp
        exact hK.out _ _ (by simp only [Act.put, List.setIfInBounds_toArray, List.set_cons_zero, List.set_cons_succ, List.nil_append, List.cons_append]; rfl) (Below.refl _ _)
      simp only [Act.put, List.setIfInBounds_toArray, List.set_cons_zero, List.set_cons_succ, List.nil_append, List.cons_append]
      -- op 16: t4 := Op.assign (tmp 80)
      refine inv_val (i := 16) (by kernel_rfl) rfl rfl (fun w1 hS hd K hK => ?_) ?_
      · (try dsimp only at hS)
        go_simp
        exact hK.out _ _ (by simp only [Act.put, List.setIfInBounds_toArray, List.set_cons_zero, List.set_cons_succ, List.nil_append, List.cons_append]; rfl) (Below.refl _ _)
      simp only [Act.put, List.setIfInBounds_toArray, List.set_cons_zero, List.set_cons_succ, List.nil_append, List.cons_append]
      refine inv_done (by kernel_rfl) (fun w3 hS hd => ?_); have HB9 := Lib.hid hS.1.1; clear hS hd c0 c1 c2 c3 d0 d1 d2; go_wp2; go_ret; exact ⟨rfl, HB9.out⟩
  · by_cases h1 : (60 : Int) < s.size
    · clear hin
      go_enter Try.func5, Try.ntmps5
      go_wp2_with fail
      refine (alive_any _).mono ?_
      rintro e w9 ⟨rfl, hb⟩
      have HB := Lib.hid (chain (bel_new _ _) hb)
      clear hb
      go_wp2
      go_ret
      exact ⟨rfl, HB.out⟩
    · have h2 : now < 0 := by omega
      clear hin
      go_enter Try.func5, Try.ntmps5
      go_wp2_with fail
      refine (alive_any _).mono ?_
      rintro e w9 ⟨rfl, hb⟩
      have HB := Lib.hid (chain (bel_new _ _) hb)
      clear hb
      go_wp2
      go_ret
      exact ⟨rfl, HB.out⟩
end Go.Proofs.Ytaenpcglaenlaaa
