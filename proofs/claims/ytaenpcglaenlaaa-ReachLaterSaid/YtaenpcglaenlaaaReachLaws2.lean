/-
  The walk of the law ReachLater.
-/
import Derived.Test.YtaenpcglaenlaaaReachAlive
namespace Go.Proofs.Ytaenpcglaenlaaa
open Go.RowKit
set_option linter.unusedVariables false
set_option linter.unusedSimpArgs false

theorem small_len {n : ByteArray} {l : List TierV} (h : smallP n l = true) : l.length ≤ 10 ∧ n.size ≤ 60 := by
  unfold smallP at h
  rw [Bool.and_eq_true, decide_eq_true_eq] at h
  exact h.2

set_option maxRecDepth 100000 in
set_option maxHeartbeats 4000000 in
theorem walkReachLater (v : Value) (n : ByteArray) (l : List TierV) (now : Int) (wn : (Lit.int .i64 now).wf = true) (later : Int) (wl : (Lit.int .i64 later).wf = true) (fv : Value) (fl : List Int) (tier : Int) (wt : (Lit.int .i64 tier).wf = true) (w : World)
    (hp : PolAt w v n l) (hns : n.size ≤ 9223372036854775807) (hf : IntsAt w fv fl) :
    Calls Try.prog 8 #[v, .int .i64 now, .int .i64 later, fv, .int .i64 tier] w (BoolPost w true) := by
  have hn := wf64' wn
  have hl := wf64' wl
  have ht := wf64' wt
  clear wn wl wt
  have HP := Lib.hid hp
  have HFV := Lib.hid hf
  have HNS := Lib.hid hns
  obtain ⟨pv, rfl, htv⟩ := hp
  obtain ⟨pa, pc, rfl, _⟩ := htv
  obtain ⟨ffa, ffc, rfl, _, hfc, _⟩ := hf
  obtain ⟨q, hq⟩ : ∃ q, q = smallP n l := ⟨_, rfl⟩
  have HQ := Lib.hid hq
  have KN := Lib.hid (show I64 now from hn)
  have KT := Lib.hid (show I64 tier from ht)
  clear hq hns
  go_enter Try.func8, Try.ntmps8
  go_wp2_with fail
  refine (small_pol _ n l _ (HP.out.below (bel_new _ _)) HNS.out).mono ?_
  rintro e w1 ⟨rfl, hb⟩
  rw [← HQ.out]
  obtain ⟨h1, hbw⟩ := one_new hb
  have H1 := Lib.hid h1
  have HB1 := Lib.hid hbw
  obtain ⟨p0, p1⟩ := row2 h1
  clear hb hbw h1
  cases q
  · go_wp2_with fail
    refine (alive_any _).mono ?_
    rintro e w9 ⟨rfl, hb⟩
    have HB := Lib.hid (chain HB1.out hb)
    clear hb
    go_wp2
    go_ret
    exact ⟨rfl, HB.out⟩
  · by_cases g1 : (12 : Int) < fl.length
    · go_wp2_with fail
      refine (alive_any _).mono ?_
      rintro e w9 ⟨rfl, hb⟩
      have HB := Lib.hid (chain HB1.out hb)
      clear hb
      go_wp2
      go_ret
      exact ⟨rfl, HB.out⟩
    · have hsm := small_len HQ.out.symm
      have hln : l.length ≤ 1000000 := by omega
      have hfn : fl.length ≤ 1000000 := by omega
      have HLN := Lib.hid hln
      have HFN := Lib.hid hfn
      obtain ⟨r, hr⟩ : ∃ r : RV, r = ⟨max now later, n, l, fl⟩ := ⟨_, rfl⟩
      have HR := Lib.hid hr
      have N := Lib.hid (show I64 r.now by rw [hr]; unfold I64; dsimp only; omega)
      have HL := Lib.hid (show r.l.length ≤ 1000000 by rw [hr]; exact hln)
      obtain ⟨F, hF⟩ : ∃ F, F = r.from tier := ⟨_, rfl⟩
      have HF := Lib.hid hF
      obtain ⟨C, hC⟩ : ∃ F, F = r.cover now := ⟨_, rfl⟩
      have HC := Lib.hid hC
      clear hr hF hC hln hfn hsm
      go_wp2_with fail
      refine (of_any _ _ now n l fl _ (HP.out.below HB1.out) (HFV.out.below HB1.out) HLN.out HFN.out).mono ?_
      rintro e w2 ⟨u, rfl, hu, hb⟩
      have HU := Lib.hid hu.at
      obtain ⟨za, zc, zfa, zfc, hz⟩ := HU.out.form
      dsimp only at hz
      subst hz
      have H2 := Lib.hid (heap_step H1.out hb)
      have HB2 := Lib.hid (chain HB1.out hb)
      obtain ⟨p0, p1⟩ := row2 H2.out
      clear hu hb
      go_wp2_with fail
      refine (later_any _ ⟨now, n, l, fl⟩ later _ HU.out HLN.out HFN.out).mono ?_
      rintro e w3 ⟨u, rfl, hu, hb⟩
      have HU2 := Lib.hid (show ReachAt w3 u r by rw [HR.out, Int.max_comm]; exact hu.at)
      obtain ⟨a, c, fa, fc, hz⟩ := HU2.out.form
      subst hz
      have H3 := Lib.hid (heap_step (heap_step H2.out hb) (bel_new w3 (.cells #[.int .i64 r.now, .string r.name, .slice a r.l.length c, .slice fa r.fl.length fc] 34)))
      have HB3 := Lib.hid (chain (chain HB2.out hb) (bel_new w3 (.cells #[.int .i64 r.now, .string r.name, .slice a r.l.length c, .slice fa r.fl.length fc] 34)))
      have HX := Lib.hid (RBox.new rfl HU2.out)
      obtain ⟨p0, p1⟩ := row2 H3.out
      clear hu hb
      go_wp2_with fail
      refine (of_any _ _ (max now later) n l fl _ (HP.out.below HB3.out) (HFV.out.below HB3.out) HLN.out HFN.out).mono ?_
      rintro e w4 ⟨u, rfl, hu, hb⟩
      have HU4 := Lib.hid (show ReachAt w4 u r by rw [HR.out]; exact hu.at)
      obtain ⟨ya, yc, yfa, yfc, hz⟩ := HU4.out.form
      subst hz
      have HX4 := Lib.hid ((HX.out.step hb).step (bel_new w4 (.cells #[.int .i64 r.now, .string r.name, .slice ya r.l.length yc, .slice yfa r.fl.length yfc] 34)))
      have HB4 := Lib.hid (chain (chain HB3.out hb) (bel_new w4 (.cells #[.int .i64 r.now, .string r.name, .slice ya r.l.length yc, .slice yfa r.fl.length yfc] 34)))
      have HY4 := Lib.hid (RBox.new rfl HU4.out)
      obtain ⟨c0, c1, c2, c3⟩ := HX4.out.cells
      obtain ⟨d0, d1, d2, d3⟩ := HY4.out.cells
      clear hu hb p0 p1
      go_wp2_with fail
      have hsame : decide (r.all = r.all) = true := by simp
      have HSA := Lib.hid hsame
      clear hsame
      refine wp_region_inv (S := (fun w' => (Below w.heap.size w w' ∧ RBox w' w3.heap.size a c fa fc r ∧ RBox w' w4.heap.size ya yc yfa yfc r) ∧ w'.cell? ⟨w3.heap.size, 0, none⟩ = some (.int .i64 r.now) ∧ w'.cell? ⟨w3.heap.size, 1, none⟩ = some (.string r.name) ∧ w'.cell? ⟨w3.heap.size, 2, none⟩ = some (.slice a r.l.length c) ∧ w'.cell? ⟨w3.heap.size, 3, none⟩ = some (.slice fa r.fl.length fc) ∧ w'.cell? ⟨w4.heap.size, 0, none⟩ = some (.int .i64 r.now) ∧ w'.cell? ⟨w4.heap.size, 1, none⟩ = some (.string r.name) ∧ w'.cell? ⟨w4.heap.size, 2, none⟩ = some (.slice ya r.l.length yc) ∧ w'.cell? ⟨w4.heap.size, 3, none⟩ = some (.slice yfa r.fl.length yfc))) 34 (Spec.val ?_ :: Spec.val ?_ :: Spec.val ?_ :: Spec.val ?_ :: Spec.val ?_ :: Spec.val ?_ :: Spec.val ?_ :: Spec.val ?_ :: Spec.val ?_ :: Spec.val ?_ :: Spec.val ?_ :: Spec.val ?_ :: Spec.val ?_ :: Spec.val ?_ :: Spec.val ?_ :: Spec.val ?_ :: Spec.val ?_ :: Spec.val ?_ :: Spec.val ?_ :: (intsS r.all) :: Spec.val ?_ :: (intsS r.all) :: Spec.val ?_ :: Spec.val ?_ :: Spec.val ?_ :: Spec.val ?_ :: Spec.val ?_ :: Spec.val ?_ :: Spec.val ?_ :: Spec.val ?_ :: Spec.val ?_ :: Spec.val ?_ :: Spec.val ?_ :: Spec.val ?_ :: []) (by kernel_rfl) (by kernel_rfl) rfl (fun w1 w2 h hb => ⟨⟨chain h.1.1 hb, h.1.2.1.step hb, h.1.2.2.step hb⟩, cell_step h.2.1 hb, cell_step h.2.2.1 hb, cell_step h.2.2.2.1 hb, cell_step h.2.2.2.2.1 hb, cell_step h.2.2.2.2.2.1 hb, cell_step h.2.2.2.2.2.2.1 hb, cell_step h.2.2.2.2.2.2.2.1 hb, cell_step h.2.2.2.2.2.2.2.2 hb⟩) (⟨⟨HB4.out.drew, HX4.out.step (Below.refl _ _).drew, HY4.out.step (Below.refl _ _).drew⟩, c0, c1, c2, c3, d0, d1, d2, d3⟩) ?hm1
      case' hm1 => skip
      -- op 0: t34 := Op.call { callee := Callee.value (func 10), args := #[], argTy
      refine inv_val (i := 0) (by kernel_rfl) rfl rfl (fun w1 hS hd K hK => ?_) ?_
      · (try dsimp only at hS)
        go_simp
        refine (alive_any _).mono ?_; rintro e w2 ⟨rfl, hb⟩; exact hK.out _ _ (by simp only [Act.put, List.setIfInBounds_toArray, List.set_cons_zero, List.set_cons_succ, List.nil_append, List.cons_append]; rfl) hb
      simp only [Act.put, List.setIfInBounds_toArray, List.set_cons_zero, List.set_cons_succ, List.nil_append, List.cons_append]
      -- op 1: t35 := Op.move (tmp 34)
      refine inv_val (i := 1) (by kernel_rfl) rfl rfl (fun w1 hS hd K hK => ?_) ?_
      · (try dsimp only at hS)
        go_simp
        exact hK.out _ _ (by simp only [Act.put, List.setIfInBounds_toArray, List.set_cons_zero, List.set_cons_succ, List.nil_append, List.cons_append]; rfl) (Below.refl _ _)
      simp only [Act.put, List.setIfInBounds_toArray, List.set_cons_zero, List.set_cons_succ, List.nil_append, List.cons_append]
      -- op 2: t36 := Op.fieldAddr 34 (tmp 11) 0
      refine inv_val (i := 2) (by kernel_rfl) rfl rfl (fun w1 hS hd K hK => ?_) ?_
      · (try dsimp only at hS)
        go_simp
        exact hK.out _ _ (by simp only [Act.put, List.setIfInBounds_toArray, List.set_cons_zero, List.set_cons_succ, List.nil_append, List.cons_append]; rfl) (Below.refl _ _)
      simp only [Act.put, List.setIfInBounds_toArray, List.set_cons_zero, List.set_cons_succ, List.nil_append, List.cons_append]
      -- op 3: t37 := Op.load 3 (tmp 36)
      refine inv_val (i := 3) (by kernel_rfl) rfl rfl (fun w1 hS hd K hK => ?_) ?_
      · (try dsimp only at hS)
        go_simp
        exact hK.out _ _ (by simp only [Act.put, List.setIfInBounds_toArray, List.set_cons_zero, List.set_cons_succ, List.nil_append, List.cons_append]; rfl) (Below.refl _ _)
      simp only [Act.put, List.setIfInBounds_toArray, List.set_cons_zero, List.set_cons_succ, List.nil_append, List.cons_append]
      -- op 4: t38 := Op.fieldAddr 34 (tmp 12) 0
      refine inv_val (i := 4) (by kernel_rfl) rfl rfl (fun w1 hS hd K hK => ?_) ?_
      · (try dsimp only at hS)
        go_simp
        exact hK.out _ _ (by simp only [Act.put, List.setIfInBounds_toArray, List.set_cons_zero, List.set_cons_succ, List.nil_append, List.cons_append]; rfl) (Below.refl _ _)
      simp only [Act.put, List.setIfInBounds_toArray, List.set_cons_zero, List.set_cons_succ, List.nil_append, List.cons_append]
      -- op 5: t39 := Op.load 3 (tmp 38)
      refine inv_val (i := 5) (by kernel_rfl) rfl rfl (fun w1 hS hd K hK => ?_) ?_
      · (try dsimp only at hS)
        go_simp
        exact hK.out _ _ (by simp only [Act.put, List.setIfInBounds_toArray, List.set_cons_zero, List.set_cons_succ, List.nil_append, List.cons_append]; rfl) (Below.refl _ _)
      simp only [Act.put, List.setIfInBounds_toArray, List.set_cons_zero, List.set_cons_succ, List.nil_append, List.cons_append]
      -- op 6: t40 := Op.binOp BinOp.eql 3 (tmp 37) (tmp 39) 3
      refine inv_val (i := 6) (by kernel_rfl) rfl rfl (fun w1 hS hd K hK => ?_) ?_
      · (try dsimp only at hS)
        go_simp
        exact hK.out _ _ (by simp only [Act.put, List.setIfInBounds_toArray, List.set_cons_zero, List.set_cons_succ, List.nil_append, List.cons_append]; rfl) (Below.refl _ _)
      simp only [Act.put, List.setIfInBounds_toArray, List.set_cons_zero, List.set_cons_succ, List.nil_append, List.cons_append]
      -- op 7: t41 := Op.pick (tmp 35) (tmp 40) (const (Value.bool f
      refine inv_val (i := 7) (by kernel_rfl) rfl rfl (fun w1 hS hd K hK => ?_) ?_
      · (try dsimp only at hS)
        go_simp
        exact hK.out _ _ (by simp only [Act.put, List.setIfInBounds_toArray, List.set_cons_zero, List.set_cons_succ, List.nil_append, List.cons_append]; rfl) (Below.refl _ _)
      simp only [Act.put, List.setIfInBounds_toArray, List.set_cons_zero, List.set_cons_succ, List.nil_append, List.cons_append]
      -- op 8: t42 := Op.move (tmp 41)
      refine inv_val (i := 8) (by kernel_rfl) rfl rfl (fun w1 hS hd K hK => ?_) ?_
      · (try dsimp only at hS)
        go_simp
        exact hK.out _ _ (by simp only [Act.put, List.setIfInBounds_toArray, List.set_cons_zero, List.set_cons_succ, List.nil_append, List.cons_append]; rfl) (Below.refl _ _)
      simp only [Act.put, List.setIfInBounds_toArray, List.set_cons_zero, List.set_cons_succ, List.nil_append, List.cons_append]
      -- op 9: t43 := Op.load 34 (tmp 11)
      refine inv_val (i := 9) (by kernel_rfl) rfl rfl (fun w1 hS hd K hK => ?_) ?_
      · (try dsimp only at hS)
        go_simp
        exact hK.out _ _ (by simp only [Act.put, List.setIfInBounds_toArray, List.set_cons_zero, List.set_cons_succ, List.nil_append, List.cons_append]; rfl) (Below.refl _ _)
      simp only [Act.put, List.setIfInBounds_toArray, List.set_cons_zero, List.set_cons_succ, List.nil_append, List.cons_append]
      -- op 10: t44 := Op.move (tmp 4)
      refine inv_val (i := 10) (by kernel_rfl) rfl rfl (fun w1 hS hd K hK => ?_) ?_
      · (try dsimp only at hS)
        go_simp
        exact hK.out _ _ (by simp only [Act.put, List.setIfInBounds_toArray, List.set_cons_zero, List.set_cons_succ, List.nil_append, List.cons_append]; rfl) (Below.refl _ _)
      simp only [Act.put, List.setIfInBounds_toArray, List.set_cons_zero, List.set_cons_succ, List.nil_append, List.cons_append]
      -- op 11: t45 := Op.call { callee := Callee.value (func 14), args := #[
      refine inv_val (i := 11) (by kernel_rfl) rfl rfl (fun w1 hS hd K hK => ?_) ?_
      · (try dsimp only at hS)
        go_simp
        refine (from_any _ r tier _ hS.1.2.1.lies N.out KT.out).mono ?_; rintro e w2 ⟨rfl, hb⟩; rw [← HF.out]; exact hK.out _ _ (by simp only [Act.put, List.setIfInBounds_toArray, List.set_cons_zero, List.set_cons_succ, List.nil_append, List.cons_append]; rfl) hb
      simp only [Act.put, List.setIfInBounds_toArray, List.set_cons_zero, List.set_cons_succ, List.nil_append, List.cons_append]
      -- op 12: t46 := Op.load 34 (tmp 12)
      refine inv_val (i := 12) (by kernel_rfl) rfl rfl (fun w1 hS hd K hK => ?_) ?_
      · (try dsimp only at hS)
        go_simp
        exact hK.out _ _ (by simp only [Act.put, List.setIfInBounds_toArray, List.set_cons_zero, List.set_cons_succ, List.nil_append, List.cons_append]; rfl) (Below.refl _ _)
      simp only [Act.put, List.setIfInBounds_toArray, List.set_cons_zero, List.set_cons_succ, List.nil_append, List.cons_append]
      -- op 13: t47 := Op.move (tmp 4)
      refine inv_val (i := 13) (by kernel_rfl) rfl rfl (fun w1 hS hd K hK => ?_) ?_
      · (try dsimp only at hS)
        go_simp
        exact hK.out _ _ (by simp only [Act.put, List.setIfInBounds_toArray, List.set_cons_zero, List.set_cons_succ, List.nil_append, List.cons_append]; rfl) (Below.refl _ _)
      simp only [Act.put, List.setIfInBounds_toArray, List.set_cons_zero, List.set_cons_succ, List.nil_append, List.cons_append]
      -- op 14: t48 := Op.call { callee := Callee.value (func 14), args := #[
      refine inv_val (i := 14) (by kernel_rfl) rfl rfl (fun w1 hS hd K hK => ?_) ?_
      · (try dsimp only at hS)
        go_simp
        refine (from_any _ r tier _ hS.1.2.2.lies N.out KT.out).mono ?_; rintro e w2 ⟨rfl, hb⟩; rw [← HF.out]; exact hK.out _ _ (by simp only [Act.put, List.setIfInBounds_toArray, List.set_cons_zero, List.set_cons_succ, List.nil_append, List.cons_append]; rfl) hb
      simp only [Act.put, List.setIfInBounds_toArray, List.set_cons_zero, List.set_cons_succ, List.nil_append, List.cons_append]
      -- op 15: t49 := Op.binOp BinOp.eql 3 (tmp 45) (tmp 48) 3
      refine inv_val (i := 15) (by kernel_rfl) rfl rfl (fun w1 hS hd K hK => ?_) ?_
      · (try dsimp only at hS)
        go_simp
        exact hK.out _ _ (by simp only [Act.put, List.setIfInBounds_toArray, List.set_cons_zero, List.set_cons_succ, List.nil_append, List.cons_append]; rfl) (Below.refl _ _)
      simp only [Act.put, List.setIfInBounds_toArray, List.set_cons_zero, List.set_cons_succ, List.nil_append, List.cons_append]
      -- op 16: t50 := Op.pick (tmp 42) (tmp 49) (const (Value.bool f
      refine inv_val (i := 16) (by kernel_rfl) rfl rfl (fun w1 hS hd K hK => ?_) ?_
      · (try dsimp only at hS)
        go_simp
        exact hK.out _ _ (by simp only [Act.put, List.setIfInBounds_toArray, List.set_cons_zero, List.set_cons_succ, List.nil_append, List.cons_append]; rfl) (Below.refl _ _)
      simp only [Act.put, List.setIfInBounds_toArray, List.set_cons_zero, List.set_cons_succ, List.nil_append, List.cons_append]
      -- op 17: t51 := Op.move (tmp 50)
      refine inv_val (i := 17) (by kernel_rfl) rfl rfl (fun w1 hS hd K hK => ?_) ?_
      · (try dsimp only at hS)
        go_simp
        exact hK.out _ _ (by simp only [Act.put, List.setIfInBounds_toArray, List.set_cons_zero, List.set_cons_succ, List.nil_append, List.cons_append]; rfl) (Below.refl _ _)
      simp only [Act.put, List.setIfInBounds_toArray, List.set_cons_zero, List.set_cons_succ, List.nil_append, List.cons_append]
      -- op 18: t52 := Op.load 34 (tmp 11)
      refine inv_val (i := 18) (by kernel_rfl) rfl rfl (fun w1 hS hd K hK => ?_) ?_
      · (try dsimp only at hS)
        go_simp
        exact hK.out _ _ (by simp only [Act.put, List.setIfInBounds_toArray, List.set_cons_zero, List.set_cons_succ, List.nil_append, List.cons_append]; rfl) (Below.refl _ _)
      simp only [Act.put, List.setIfInBounds_toArray, List.set_cons_zero, List.set_cons_succ, List.nil_append, List.cons_append]
      -- op 19: t53 := Op.call { callee := Callee.value (func 18), args := #[
      refine inv_rel (i := 19) (by kernel_rfl) rfl rfl (fun w1 hS hd K hK => ?_) (fun v19 => ?_)
      · (try dsimp only at hS)
        go_simp
        refine (all_any _ r _ hS.1.2.1.lies N.out HL.out).mono ?_; rintro e w2 ⟨u, rfl, hu, hb⟩; refine hK.out _ _ _ (by simp only [Act.put, List.setIfInBounds_toArray, List.set_cons_zero, List.set_cons_succ, List.nil_append, List.cons_append]; rfl) ?_ hb; exact hu.2
      simp only [Act.put, List.setIfInBounds_toArray, List.set_cons_zero, List.set_cons_succ, List.nil_append, List.cons_append]
      -- op 20: t54 := Op.load 34 (tmp 12)
      refine inv_val (i := 20) (by kernel_rfl) rfl rfl (fun w1 hS hd K hK => ?_) ?_
      · (try dsimp only at hS)
        go_simp
        exact hK.out _ _ (by simp only [Act.put, List.setIfInBounds_toArray, List.set_cons_zero, List.set_cons_succ, List.nil_append, List.cons_append]; rfl) (Below.refl _ _)
      simp only [Act.put, List.setIfInBounds_toArray, List.set_cons_zero, List.set_cons_succ, List.nil_append, List.cons_append]
      -- op 21: t55 := Op.call { callee := Callee.value (func 18), args := #[
      refine inv_rel (i := 21) (by kernel_rfl) rfl rfl (fun w1 hS hd K hK => ?_) (fun v21 => ?_)
      · (try dsimp only at hS)
        go_simp
        refine (all_any _ r _ hS.1.2.2.lies N.out HL.out).mono ?_; rintro e w2 ⟨u, rfl, hu, hb⟩; refine hK.out _ _ _ (by simp only [Act.put, List.setIfInBounds_toArray, List.set_cons_zero, List.set_cons_succ, List.nil_append, List.cons_append]; rfl) ?_ hb; exact hu.2
      simp only [Act.put, List.setIfInBounds_toArray, List.set_cons_zero, List.set_cons_succ, List.nil_append, List.cons_append]
      -- op 22: t56 := Op.call { callee := Callee.value (func 26), args := #[
      refine inv_val (i := 22) (by kernel_rfl) rfl rfl (fun w1 hS hd K hK => ?_) ?_
      · (try dsimp only at hS)
        go_simp
        refine (same_ints _ _ r.all r.all _ (hd.out 19 (by kernel_rfl)) (hd.out 21 (by kernel_rfl))).mono ?_; rintro e w2 ⟨rfl, hb⟩; rw [HSA.out]; exact hK.out _ _ (by simp only [Act.put, List.setIfInBounds_toArray, List.set_cons_zero, List.set_cons_succ, List.nil_append, List.cons_append]; rfl) hb
      simp only [Act.put, List.setIfInBounds_toArray, List.set_cons_zero, List.set_cons_succ, List.nil_append, List.cons_append]
      -- op 23: t57 := Op.pick (tmp 51) (tmp 56) (const (Value.bool f
      refine inv_val (i := 23) (by kernel_rfl) rfl rfl (fun w1 hS hd K hK => ?_) ?_
      · (try dsimp only at hS)
        go_simp
        exact hK.out _ _ (by simp only [Act.put, List.setIfInBounds_toArray, List.set_cons_zero, List.set_cons_succ, List.nil_append, List.cons_append]; rfl) (Below.refl _ _)
      simp only [Act.put, List.setIfInBounds_toArray, List.set_cons_zero, List.set_cons_succ, List.nil_append, List.cons_append]
      -- op 24: t58 := Op.move (tmp 57)
      refine inv_val (i := 24) (by kernel_rfl) rfl rfl (fun w1 hS hd K hK => ?_) ?_
      · (try dsimp only at hS)
        go_simp
        exact hK.out _ _ (by simp only [Act.put, List.setIfInBounds_toArray, List.set_cons_zero, List.set_cons_succ, List.nil_append, List.cons_append]; rfl) (Below.refl _ _)
      simp only [Act.put, List.setIfInBounds_toArray, List.set_cons_zero, List.set_cons_succ, List.nil_append, List.cons_append]
      -- op 25: t59 := Op.load 34 (tmp 11)
      refine inv_val (i := 25) (by kernel_rfl) rfl rfl (fun w1 hS hd K hK => ?_) ?_
      · (try dsimp only at hS)
        go_simp
        exact hK.out _ _ (by simp only [Act.put, List.setIfInBounds_toArray, List.set_cons_zero, List.set_cons_succ, List.nil_append, List.cons_append]; rfl) (Below.refl _ _)
      simp only [Act.put, List.setIfInBounds_toArray, List.set_cons_zero, List.set_cons_succ, List.nil_append, List.cons_append]
      -- op 26: t60 := Op.move (tmp 1)
      refine inv_val (i := 26) (by kernel_rfl) rfl rfl (fun w1 hS hd K hK => ?_) ?_
      · (try dsimp only at hS)
        go_simp
        exact hK.out _ _ (by simp only [Act.put, List.setIfInBounds_toArray, List.set_cons_zero, List.set_cons_succ, List.nil_append, List.cons_append]; rfl) (Below.refl _ _)
      simp only [Act.put, List.setIfInBounds_toArray, List.set_cons_zero, List.set_cons_succ, List.nil_append, List.cons_append]
      -- op 27: t61 := Op.call { callee := Callee.value (func 15), args := #[
      refine inv_val (i := 27) (by kernel_rfl) rfl rfl (fun w1 hS hd K hK => ?_) ?_
      · (try dsimp only at hS)
        go_simp
        refine (cover_any _ r now _ hS.1.2.1.lies N.out KN.out HL.out).mono ?_; rintro e w2 ⟨rfl, hb⟩; rw [← HC.out]; exact hK.out _ _ (by simp only [Act.put, List.setIfInBounds_toArray, List.set_cons_zero, List.set_cons_succ, List.nil_append, List.cons_append]; rfl) hb
      simp only [Act.put, List.setIfInBounds_toArray, List.set_cons_zero, List.set_cons_succ, List.nil_append, List.cons_append]
      -- op 28: t62 := Op.load 34 (tmp 12)
      refine inv_val (i := 28) (by kernel_rfl) rfl rfl (fun w1 hS hd K hK => ?_) ?_
      · (try dsimp only at hS)
        go_simp
        exact hK.out _ _ (by simp only [Act.put, List.setIfInBounds_toArray, List.set_cons_zero, List.set_cons_succ, List.nil_append, List.cons_append]; rfl) (Below.refl _ _)
      simp only [Act.put, List.setIfInBounds_toArray, List.set_cons_zero, List.set_cons_succ, List.nil_append, List.cons_append]
      -- op 29: t63 := Op.move (tmp 1)
      refine inv_val (i := 29) (by kernel_rfl) rfl rfl (fun w1 hS hd K hK => ?_) ?_
      · (try dsimp only at hS)
        go_simp
        exact hK.out _ _ (by simp only [Act.put, List.setIfInBounds_toArray, List.set_cons_zero, List.set_cons_succ, List.nil_append, List.cons_append]; rfl) (Below.refl _ _)
      simp only [Act.put, List.setIfInBounds_toArray, List.set_cons_zero, List.set_cons_succ, List.nil_append, List.cons_append]
      -- op 30: t64 := Op.call { callee := Callee.value (func 15), args := #[
      refine inv_val (i := 30) (by kernel_rfl) rfl rfl (fun w1 hS hd K hK => ?_) ?_
      · (try dsimp only at hS)
        go_simp
        refine (cover_any _ r now _ hS.1.2.2.lies N.out KN.out HL.out).mono ?_; rintro e w2 ⟨rfl, hb⟩; rw [← HC.out]; exact hK.out _ _ (by simp only [Act.put, List.setIfInBounds_toArray, List.set_cons_zero, List.set_cons_succ, List.nil_append, List.cons_append]; rfl) hb
      simp only [Act.put, List.setIfInBounds_toArray, List.set_cons_zero, List.set_cons_succ, List.nil_append, List.cons_append]
      -- op 31: t65 := Op.binOp BinOp.eql 3 (tmp 61) (tmp 64) 3
      refine inv_val (i := 31) (by kernel_rfl) rfl rfl (fun w1 hS hd K hK => ?_) ?_
      · (try dsimp only at hS)
        go_simp
        exact hK.out _ _ (by simp only [Act.put, List.setIfInBounds_toArray, List.set_cons_zero, List.set_cons_succ, List.nil_append, List.cons_append]; rfl) (Below.refl _ _)
      simp only [Act.put, List.setIfInBounds_toArray, List.set_cons_zero, List.set_cons_succ, List.nil_append, List.cons_append]
      -- op 32: t66 := Op.pick (tmp 58) (tmp 65) (const (Value.bool f
      refine inv_val (i := 32) (by kernel_rfl) rfl rfl (fun w1 hS hd K hK => ?_) ?_
      · (try dsimp only at hS)
        go_simp
        exact hK.out _ _ (by simp only [Act.put, List.setIfInBounds_toArray, List.set_cons_zero, List.set_cons_succ, List.nil_append, List.cons_append]; rfl) (Below.refl _ _)
      simp only [Act.put, List.setIfInBounds_toArray, List.set_cons_zero, List.set_cons_succ, List.nil_append, List.cons_append]
      -- op 33: t10 := Op.assign (tmp 66)
      refine inv_val (i := 33) (by kernel_rfl) rfl rfl (fun w1 hS hd K hK => ?_) ?_
      · (try dsimp only at hS)
        go_simp
        exact hK.out _ _ (by simp only [Act.put, List.setIfInBounds_toArray, List.set_cons_zero, List.set_cons_succ, List.nil_append, List.cons_append]; rfl) (Below.refl _ _)
      simp only [Act.put, List.setIfInBounds_toArray, List.set_cons_zero, List.set_cons_succ, List.nil_append, List.cons_append]
      refine inv_done (by kernel_rfl) (fun w3 hS hd => ?_)
      have HB9 := Lib.hid hS.1.1
      clear hS hd c0 c1 c2 c3 d0 d1 d2 d3
      go_wp2
      go_ret
      exact ⟨rfl, HB9.out⟩
end Go.Proofs.Ytaenpcglaenlaaa
