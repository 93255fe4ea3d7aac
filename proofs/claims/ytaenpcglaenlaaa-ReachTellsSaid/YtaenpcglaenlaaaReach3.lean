/-
  The contracts of Reach.Takes, of the law's Web and alive, and of sedimentbook.Small.
-/
import Derived.Test.YtaenpcglaenlaaaReach2
import Derived.Test.YtaenpcglaenlaaaNames
namespace Go.Proofs.Ytaenpcglaenlaaa
open Go.RowKit
set_option linter.unusedVariables false
set_option linter.unusedSimpArgs false

def RV.takes (r : RV) (name : ByteArray) (t : Int) : Int :=
  if nameOk name = false ∨ t < 0 then 1 else if r.now < t then 25 else if r.is 0 = false ∨ t < r.from 0 then 24 else 0

set_option maxRecDepth 100000 in
set_option maxHeartbeats 1000000 in
theorem takes_any (v : Value) (r : RV) (name : ByteArray) (t x : Int) (w : World) (hv : ReachAt w v r) (hn : I64 r.now) (hs : name.size ≤ 9223372036854775807) (ht : I64 t) :
    Calls Try.prog 16 #[v, .agg #[.string name, .int .i64 t, .int .i64 x]] w (RetB w (.int .i64 (r.takes name t))) := by
  have hv0 := hv
  have HFI := Lib.hid (RV.from_I64 hv hn 0)
  obtain ⟨tv, fv, rfl, htv, hf⟩ := hv
  obtain ⟨a, c, rfl, hok, hlen, hc⟩ := htv
  obtain ⟨fa, fc, rfl, hfk, hflen, hfc⟩ := hf
  have HV := Lib.hid hv0
  have HN := Lib.hid hn
  have HS := Lib.hid hs
  clear hc hfc hok hfk hv0 hlen hflen hs
  unfold I64 at hn ht
  obtain ⟨q, hq⟩ : ∃ q, q = nameOk name := ⟨_, rfl⟩
  have HQ := Lib.hid hq
  clear hq
  go_enter Try.func16, Try.ntmps16
  go_wp2_with fail
  refine (valid_any _ [name] _ (texts_new (l := [name]) (by simp) (by rfl) (by intro s hs; simp at hs; subst hs; exact HS.out) (by simp))).mono ?_
  rintro e w1 ⟨rfl, hb1⟩
  rw [show [name].all nameOk = q by rw [HQ.out]; simp]
  obtain ⟨h1, h2, hbw⟩ := two_new (Below.trans (bel_new _ _ |>.mono (Nat.le_refl _)) (hb1.mono (by simp)))
  obtain ⟨c0, c1, c2, c3⟩ := row4 h1
  obtain ⟨d0, d1, d2⟩ := row3 h2
  have HB1 := Lib.hid hbw
  clear hb1 hbw
  cases q
  · go_wp2
    go_ret
    exact ⟨ret_int (by unfold RV.takes; rw [if_pos (.inl HQ.out.symm)]), HB1.out⟩
  · by_cases g1 : t < 0
    · go_wp2
      go_ret
      exact ⟨ret_int (by unfold RV.takes; rw [if_pos (.inr g1)]), HB1.out⟩
    · by_cases g2 : r.now < t
      · go_wp2
        go_ret
        exact ⟨ret_int (by unfold RV.takes; rw [if_neg (by rw [← HQ.out]; simp; omega), if_pos g2]), HB1.out⟩
      · have H1 := Lib.hid h1
        have H2 := Lib.hid h2
        clear h1 h2
        obtain ⟨i, hi⟩ : ∃ i, i = r.is 0 := ⟨_, rfl⟩
        have HI := Lib.hid hi
        have hfi := HFI.out
        obtain ⟨F, hF⟩ : ∃ F, F = r.from 0 := ⟨_, rfl⟩
        rw [← hF] at hfi
        have HF := Lib.hid hF
        unfold I64 at hfi
        clear hi hF
        have hz : I64 0 := by unfold I64; omega
        have HZ := Lib.hid hz
        clear hz
        cases i
        · go_wp2_with fail
          refine wp_region_inv (R := Blw) (S := (fun w' => Below w.heap.size w w' ∧ w'.cell? ⟨w.heap.size, 0, none⟩ = some (.int .i64 r.now) ∧ w'.cell? ⟨w.heap.size, 1, none⟩ = some (.string r.name) ∧ w'.cell? ⟨w.heap.size, 2, none⟩ = some (.slice a r.l.length c) ∧ w'.cell? ⟨w.heap.size, 3, none⟩ = some (.slice fa r.fl.length fc) ∧ w'.cell? ⟨w.heap.size + 1, 1, none⟩ = some (.int .i64 t))) 11 (Spec.val ?_ :: Spec.val ?_ :: Spec.val ?_ :: Spec.val ?_ :: Spec.val ?_ :: Spec.val ?_ :: Spec.val ?_ :: Spec.val ?_ :: Spec.val ?_ :: Spec.val ?_ :: Spec.val ?_ :: []) (by kernel_rfl) (by kernel_rfl) rfl (fun w1 w2 h hb => ⟨chain h.1 hb, cell_step h.2.1 hb, cell_step h.2.2.1 hb, cell_step h.2.2.2.1 hb, cell_step h.2.2.2.2.1 hb, cell_step h.2.2.2.2.2 hb⟩) (⟨HB1.out.drew, c0, c1, c2, c3, d1⟩) ?hm2
          case' hm2 => skip
          refine inv_val (i := 0) (by kernel_rfl) rfl rfl (fun w1 hS hd K hK => ?_) ?_
          · (try dsimp only at hS); go_simp; exact hK.out _ _ (by simp only [Act.put, List.setIfInBounds_toArray, List.set_cons_zero, List.set_cons_succ, List.nil_append, List.cons_append]; rfl) (Below.refl _ _)
          simp only [Act.put, List.setIfInBounds_toArray, List.set_cons_zero, List.set_cons_succ, List.nil_append, List.cons_append]
          refine inv_val (i := 1) (by kernel_rfl) rfl rfl (fun w1 hS hd K hK => ?_) ?_
          · (try dsimp only at hS); go_simp; refine (is_any _ r 0 _ (HV.out.below hS.1) HZ.out).mono ?_; rintro e w2 ⟨rfl, hb⟩; rw [← HI.out]; exact hK.out _ _ (by simp only [Act.put, List.setIfInBounds_toArray, List.set_cons_zero, List.set_cons_succ, List.nil_append, List.cons_append]; rfl) hb
          simp only [Act.put, List.setIfInBounds_toArray, List.set_cons_zero, List.set_cons_succ, List.nil_append, List.cons_append]
          refine inv_val (i := 2) (by kernel_rfl) rfl rfl (fun w1 hS hd K hK => ?_) ?_
          · (try dsimp only at hS); go_simp; exact hK.out _ _ (by simp only [Act.put, List.setIfInBounds_toArray, List.set_cons_zero, List.set_cons_succ, List.nil_append, List.cons_append]; rfl) (Below.refl _ _)
          simp only [Act.put, List.setIfInBounds_toArray, List.set_cons_zero, List.set_cons_succ, List.nil_append, List.cons_append]
          refine inv_val (i := 3) (by kernel_rfl) rfl rfl (fun w1 hS hd K hK => ?_) ?_
          · (try dsimp only at hS); go_simp; exact hK.out _ _ (by simp only [Act.put, List.setIfInBounds_toArray, List.set_cons_zero, List.set_cons_succ, List.nil_append, List.cons_append]; rfl) (Below.refl _ _)
          simp only [Act.put, List.setIfInBounds_toArray, List.set_cons_zero, List.set_cons_succ, List.nil_append, List.cons_append]
          refine inv_val (i := 4) (by kernel_rfl) rfl rfl (fun w1 hS hd K hK => ?_) ?_
          · rw [if_neg (by simp [Region.wanted, yielded])]; exact hK.out _ _ (by rfl) (Below.refl _ _)
          simp only [Act.put, List.setIfInBounds_toArray, List.set_cons_zero, List.set_cons_succ, List.nil_append, List.cons_append]
          refine inv_val (i := 5) (by kernel_rfl) rfl rfl (fun w1 hS hd K hK => ?_) ?_
          · rw [if_neg (by simp [Region.wanted, yielded])]; exact hK.out _ _ (by rfl) (Below.refl _ _)
          simp only [Act.put, List.setIfInBounds_toArray, List.set_cons_zero, List.set_cons_succ, List.nil_append, List.cons_append]
          refine inv_val (i := 6) (by kernel_rfl) rfl rfl (fun w1 hS hd K hK => ?_) ?_
          · rw [if_neg (by simp [Region.wanted, yielded])]; exact hK.out _ _ (by rfl) (Below.refl _ _)
          simp only [Act.put, List.setIfInBounds_toArray, List.set_cons_zero, List.set_cons_succ, List.nil_append, List.cons_append]
          refine inv_val (i := 7) (by kernel_rfl) rfl rfl (fun w1 hS hd K hK => ?_) ?_
          · rw [if_neg (by simp [Region.wanted, yielded])]; exact hK.out _ _ (by rfl) (Below.refl _ _)
          simp only [Act.put, List.setIfInBounds_toArray, List.set_cons_zero, List.set_cons_succ, List.nil_append, List.cons_append]
          refine inv_val (i := 8) (by kernel_rfl) rfl rfl (fun w1 hS hd K hK => ?_) ?_
          · rw [if_neg (by simp [Region.wanted, yielded])]; exact hK.out _ _ (by rfl) (Below.refl _ _)
          simp only [Act.put, List.setIfInBounds_toArray, List.set_cons_zero, List.set_cons_succ, List.nil_append, List.cons_append]
          refine inv_val (i := 9) (by kernel_rfl) rfl rfl (fun w1 hS hd K hK => ?_) ?_
          · (try dsimp only at hS); go_simp; exact hK.out _ _ (by simp only [Act.put, List.setIfInBounds_toArray, List.set_cons_zero, List.set_cons_succ, List.nil_append, List.cons_append]; rfl) (Below.refl _ _)
          simp only [Act.put, List.setIfInBounds_toArray, List.set_cons_zero, List.set_cons_succ, List.nil_append, List.cons_append]
          refine inv_val (i := 10) (by kernel_rfl) rfl rfl (fun w1 hS hd K hK => ?_) ?_
          · (try dsimp only at hS); go_simp; exact hK.out _ _ (by simp only [Act.put, List.setIfInBounds_toArray, List.set_cons_zero, List.set_cons_succ, List.nil_append, List.cons_append]; rfl) (Below.refl _ _)
          simp only [Act.put, List.setIfInBounds_toArray, List.set_cons_zero, List.set_cons_succ, List.nil_append, List.cons_append]
          refine inv_done (by kernel_rfl) (fun w3 hS hd => ?_)
          have HB3 := Lib.hid hS.1
          clear hS hd c0 c1 c2 c3 d0 d1 d2
          go_wp2
          go_ret
          exact ⟨ret_int (by unfold RV.takes; rw [if_neg (by rw [← HQ.out]; simp; omega), if_neg (by omega), if_pos (.inl HI.out.symm)]), HB3.out⟩
        · by_cases g3 : t < F
          · go_wp2_with fail
            refine wp_region_inv (R := Blw) (S := (fun w' => Below w.heap.size w w' ∧ w'.cell? ⟨w.heap.size, 0, none⟩ = some (.int .i64 r.now) ∧ w'.cell? ⟨w.heap.size, 1, none⟩ = some (.string r.name) ∧ w'.cell? ⟨w.heap.size, 2, none⟩ = some (.slice a r.l.length c) ∧ w'.cell? ⟨w.heap.size, 3, none⟩ = some (.slice fa r.fl.length fc) ∧ w'.cell? ⟨w.heap.size + 1, 1, none⟩ = some (.int .i64 t))) 11 (Spec.val ?_ :: Spec.val ?_ :: Spec.val ?_ :: Spec.val ?_ :: Spec.val ?_ :: Spec.val ?_ :: Spec.val ?_ :: Spec.val ?_ :: Spec.val ?_ :: Spec.val ?_ :: Spec.val ?_ :: []) (by kernel_rfl) (by kernel_rfl) rfl (fun w1 w2 h hb => ⟨chain h.1 hb, cell_step h.2.1 hb, cell_step h.2.2.1 hb, cell_step h.2.2.2.1 hb, cell_step h.2.2.2.2.1 hb, cell_step h.2.2.2.2.2 hb⟩) (⟨HB1.out.drew, c0, c1, c2, c3, d1⟩) ?hm3
            case' hm3 => skip
            refine inv_val (i := 0) (by kernel_rfl) rfl rfl (fun w1 hS hd K hK => ?_) ?_
            · (try dsimp only at hS); go_simp; exact hK.out _ _ (by simp only [Act.put, List.setIfInBounds_toArray, List.set_cons_zero, List.set_cons_succ, List.nil_append, List.cons_append]; rfl) (Below.refl _ _)
            simp only [Act.put, List.setIfInBounds_toArray, List.set_cons_zero, List.set_cons_succ, List.nil_append, List.cons_append]
            refine inv_val (i := 1) (by kernel_rfl) rfl rfl (fun w1 hS hd K hK => ?_) ?_
            · (try dsimp only at hS); go_simp; refine (is_any _ r 0 _ (HV.out.below hS.1) HZ.out).mono ?_; rintro e w2 ⟨rfl, hb⟩; rw [← HI.out]; exact hK.out _ _ (by simp only [Act.put, List.setIfInBounds_toArray, List.set_cons_zero, List.set_cons_succ, List.nil_append, List.cons_append]; rfl) hb
            simp only [Act.put, List.setIfInBounds_toArray, List.set_cons_zero, List.set_cons_succ, List.nil_append, List.cons_append]
            refine inv_val (i := 2) (by kernel_rfl) rfl rfl (fun w1 hS hd K hK => ?_) ?_
            · (try dsimp only at hS); go_simp; exact hK.out _ _ (by simp only [Act.put, List.setIfInBounds_toArray, List.set_cons_zero, List.set_cons_succ, List.nil_append, List.cons_append]; rfl) (Below.refl _ _)
            simp only [Act.put, List.setIfInBounds_toArray, List.set_cons_zero, List.set_cons_succ, List.nil_append, List.cons_append]
            refine inv_val (i := 3) (by kernel_rfl) rfl rfl (fun w1 hS hd K hK => ?_) ?_
            · (try dsimp only at hS); go_simp; exact hK.out _ _ (by simp only [Act.put, List.setIfInBounds_toArray, List.set_cons_zero, List.set_cons_succ, List.nil_append, List.cons_append]; rfl) (Below.refl _ _)
            simp only [Act.put, List.setIfInBounds_toArray, List.set_cons_zero, List.set_cons_succ, List.nil_append, List.cons_append]
            refine inv_val (i := 4) (by kernel_rfl) rfl rfl (fun w1 hS hd K hK => ?_) ?_
            · (try dsimp only at hS); go_simp; exact hK.out _ _ (by simp only [Act.put, List.setIfInBounds_toArray, List.set_cons_zero, List.set_cons_succ, List.nil_append, List.cons_append]; rfl) (Below.refl _ _)
            simp only [Act.put, List.setIfInBounds_toArray, List.set_cons_zero, List.set_cons_succ, List.nil_append, List.cons_append]
            refine inv_val (i := 5) (by kernel_rfl) rfl rfl (fun w1 hS hd K hK => ?_) ?_
            · (try dsimp only at hS); go_simp; exact hK.out _ _ (by simp only [Act.put, List.setIfInBounds_toArray, List.set_cons_zero, List.set_cons_succ, List.nil_append, List.cons_append]; rfl) (Below.refl _ _)
            simp only [Act.put, List.setIfInBounds_toArray, List.set_cons_zero, List.set_cons_succ, List.nil_append, List.cons_append]
            refine inv_val (i := 6) (by kernel_rfl) rfl rfl (fun w1 hS hd K hK => ?_) ?_
            · (try dsimp only at hS); go_simp; exact hK.out _ _ (by simp only [Act.put, List.setIfInBounds_toArray, List.set_cons_zero, List.set_cons_succ, List.nil_append, List.cons_append]; rfl) (Below.refl _ _)
            simp only [Act.put, List.setIfInBounds_toArray, List.set_cons_zero, List.set_cons_succ, List.nil_append, List.cons_append]
            refine inv_val (i := 7) (by kernel_rfl) rfl rfl (fun w1 hS hd K hK => ?_) ?_
            · (try dsimp only at hS); go_simp; refine (from_any _ r 0 _ (HV.out.below hS.1) HN.out HZ.out).mono ?_; rintro e w2 ⟨rfl, hb⟩; rw [← HF.out]; exact hK.out _ _ (by simp only [Act.put, List.setIfInBounds_toArray, List.set_cons_zero, List.set_cons_succ, List.nil_append, List.cons_append]; rfl) hb
            simp only [Act.put, List.setIfInBounds_toArray, List.set_cons_zero, List.set_cons_succ, List.nil_append, List.cons_append]
            refine inv_val (i := 8) (by kernel_rfl) rfl rfl (fun w1 hS hd K hK => ?_) ?_
            · (try dsimp only at hS); go_simp; exact hK.out _ _ (by simp only [Act.put, List.setIfInBounds_toArray, List.set_cons_zero, List.set_cons_succ, List.nil_append, List.cons_append]; rfl) (Below.refl _ _)
            simp only [Act.put, List.setIfInBounds_toArray, List.set_cons_zero, List.set_cons_succ, List.nil_append, List.cons_append]
            refine inv_val (i := 9) (by kernel_rfl) rfl rfl (fun w1 hS hd K hK => ?_) ?_
            · (try dsimp only at hS); go_simp; exact hK.out _ _ (by simp only [Act.put, List.setIfInBounds_toArray, List.set_cons_zero, List.set_cons_succ, List.nil_append, List.cons_append]; rfl) (Below.refl _ _)
            simp only [Act.put, List.setIfInBounds_toArray, List.set_cons_zero, List.set_cons_succ, List.nil_append, List.cons_append]
            refine inv_val (i := 10) (by kernel_rfl) rfl rfl (fun w1 hS hd K hK => ?_) ?_
            · (try dsimp only at hS); go_simp; exact hK.out _ _ (by simp only [Act.put, List.setIfInBounds_toArray, List.set_cons_zero, List.set_cons_succ, List.nil_append, List.cons_append]; rfl) (Below.refl _ _)
            simp only [Act.put, List.setIfInBounds_toArray, List.set_cons_zero, List.set_cons_succ, List.nil_append, List.cons_append]
            refine inv_done (by kernel_rfl) (fun w3 hS hd => ?_)
            have HB3 := Lib.hid hS.1
            clear hS hd c0 c1 c2 c3 d0 d1 d2
            go_wp2
            go_ret
            exact ⟨ret_int (by unfold RV.takes; rw [if_neg (by rw [← HQ.out]; simp; omega), if_neg (by omega), if_pos (.inr (by rw [← HF.out]; exact g3))]), HB3.out⟩
          · go_wp2_with fail
            refine wp_region_inv (R := Blw) (S := (fun w' => Below w.heap.size w w' ∧ w'.cell? ⟨w.heap.size, 0, none⟩ = some (.int .i64 r.now) ∧ w'.cell? ⟨w.heap.size, 1, none⟩ = some (.string r.name) ∧ w'.cell? ⟨w.heap.size, 2, none⟩ = some (.slice a r.l.length c) ∧ w'.cell? ⟨w.heap.size, 3, none⟩ = some (.slice fa r.fl.length fc) ∧ w'.cell? ⟨w.heap.size + 1, 1, none⟩ = some (.int .i64 t))) 11 (Spec.val ?_ :: Spec.val ?_ :: Spec.val ?_ :: Spec.val ?_ :: Spec.val ?_ :: Spec.val ?_ :: Spec.val ?_ :: Spec.val ?_ :: Spec.val ?_ :: Spec.val ?_ :: Spec.val ?_ :: []) (by kernel_rfl) (by kernel_rfl) rfl (fun w1 w2 h hb => ⟨chain h.1 hb, cell_step h.2.1 hb, cell_step h.2.2.1 hb, cell_step h.2.2.2.1 hb, cell_step h.2.2.2.2.1 hb, cell_step h.2.2.2.2.2 hb⟩) (⟨HB1.out.drew, c0, c1, c2, c3, d1⟩) ?hm4
            case' hm4 => skip
            refine inv_val (i := 0) (by kernel_rfl) rfl rfl (fun w1 hS hd K hK => ?_) ?_
            · (try dsimp only at hS); go_simp; exact hK.out _ _ (by simp only [Act.put, List.setIfInBounds_toArray, List.set_cons_zero, List.set_cons_succ, List.nil_append, List.cons_append]; rfl) (Below.refl _ _)
            simp only [Act.put, List.setIfInBounds_toArray, List.set_cons_zero, List.set_cons_succ, List.nil_append, List.cons_append]
            refine inv_val (i := 1) (by kernel_rfl) rfl rfl (fun w1 hS hd K hK => ?_) ?_
            · (try dsimp only at hS); go_simp; refine (is_any _ r 0 _ (HV.out.below hS.1) HZ.out).mono ?_; rintro e w2 ⟨rfl, hb⟩; rw [← HI.out]; exact hK.out _ _ (by simp only [Act.put, List.setIfInBounds_toArray, List.set_cons_zero, List.set_cons_succ, List.nil_append, List.cons_append]; rfl) hb
            simp only [Act.put, List.setIfInBounds_toArray, List.set_cons_zero, List.set_cons_succ, List.nil_append, List.cons_append]
            refine inv_val (i := 2) (by kernel_rfl) rfl rfl (fun w1 hS hd K hK => ?_) ?_
            · (try dsimp only at hS); go_simp; exact hK.out _ _ (by simp only [Act.put, List.setIfInBounds_toArray, List.set_cons_zero, List.set_cons_succ, List.nil_append, List.cons_append]; rfl) (Below.refl _ _)
            simp only [Act.put, List.setIfInBounds_toArray, List.set_cons_zero, List.set_cons_succ, List.nil_append, List.cons_append]
            refine inv_val (i := 3) (by kernel_rfl) rfl rfl (fun w1 hS hd K hK => ?_) ?_
            · (try dsimp only at hS); go_simp; exact hK.out _ _ (by simp only [Act.put, List.setIfInBounds_toArray, List.set_cons_zero, List.set_cons_succ, List.nil_append, List.cons_append]; rfl) (Below.refl _ _)
            simp only [Act.put, List.setIfInBounds_toArray, List.set_cons_zero, List.set_cons_succ, List.nil_append, List.cons_append]
            refine inv_val (i := 4) (by kernel_rfl) rfl rfl (fun w1 hS hd K hK => ?_) ?_
            · (try dsimp only at hS); go_simp; exact hK.out _ _ (by simp only [Act.put, List.setIfInBounds_toArray, List.set_cons_zero, List.set_cons_succ, List.nil_append, List.cons_append]; rfl) (Below.refl _ _)
            simp only [Act.put, List.setIfInBounds_toArray, List.set_cons_zero, List.set_cons_succ, List.nil_append, List.cons_append]
            refine inv_val (i := 5) (by kernel_rfl) rfl rfl (fun w1 hS hd K hK => ?_) ?_
            · (try dsimp only at hS); go_simp; exact hK.out _ _ (by simp only [Act.put, List.setIfInBounds_toArray, List.set_cons_zero, List.set_cons_succ, List.nil_append, List.cons_append]; rfl) (Below.refl _ _)
            simp only [Act.put, List.setIfInBounds_toArray, List.set_cons_zero, List.set_cons_succ, List.nil_append, List.cons_append]
            refine inv_val (i := 6) (by kernel_rfl) rfl rfl (fun w1 hS hd K hK => ?_) ?_
            · (try dsimp only at hS); go_simp; exact hK.out _ _ (by simp only [Act.put, List.setIfInBounds_toArray, List.set_cons_zero, List.set_cons_succ, List.nil_append, List.cons_append]; rfl) (Below.refl _ _)
            simp only [Act.put, List.setIfInBounds_toArray, List.set_cons_zero, List.set_cons_succ, List.nil_append, List.cons_append]
            refine inv_val (i := 7) (by kernel_rfl) rfl rfl (fun w1 hS hd K hK => ?_) ?_
            · (try dsimp only at hS); go_simp; refine (from_any _ r 0 _ (HV.out.below hS.1) HN.out HZ.out).mono ?_; rintro e w2 ⟨rfl, hb⟩; rw [← HF.out]; exact hK.out _ _ (by simp only [Act.put, List.setIfInBounds_toArray, List.set_cons_zero, List.set_cons_succ, List.nil_append, List.cons_append]; rfl) hb
            simp only [Act.put, List.setIfInBounds_toArray, List.set_cons_zero, List.set_cons_succ, List.nil_append, List.cons_append]
            refine inv_val (i := 8) (by kernel_rfl) rfl rfl (fun w1 hS hd K hK => ?_) ?_
            · (try dsimp only at hS); go_simp; exact hK.out _ _ (by simp only [Act.put, List.setIfInBounds_toArray, List.set_cons_zero, List.set_cons_succ, List.nil_append, List.cons_append]; rfl) (Below.refl _ _)
            simp only [Act.put, List.setIfInBounds_toArray, List.set_cons_zero, List.set_cons_succ, List.nil_append, List.cons_append]
            refine inv_val (i := 9) (by kernel_rfl) rfl rfl (fun w1 hS hd K hK => ?_) ?_
            · (try dsimp only at hS); go_simp; exact hK.out _ _ (by simp only [Act.put, List.setIfInBounds_toArray, List.set_cons_zero, List.set_cons_succ, List.nil_append, List.cons_append]; rfl) (Below.refl _ _)
            simp only [Act.put, List.setIfInBounds_toArray, List.set_cons_zero, List.set_cons_succ, List.nil_append, List.cons_append]
            refine inv_val (i := 10) (by kernel_rfl) rfl rfl (fun w1 hS hd K hK => ?_) ?_
            · (try dsimp only at hS); go_simp; exact hK.out _ _ (by simp only [Act.put, List.setIfInBounds_toArray, List.set_cons_zero, List.set_cons_succ, List.nil_append, List.cons_append]; rfl) (Below.refl _ _)
            simp only [Act.put, List.setIfInBounds_toArray, List.set_cons_zero, List.set_cons_succ, List.nil_append, List.cons_append]
            refine inv_done (by kernel_rfl) (fun w3 hS hd => ?_)
            have HB3 := Lib.hid hS.1
            clear hS hd c0 c1 c2 c3 d0 d1 d2
            go_wp2
            go_ret
            exact ⟨ret_int (by unfold RV.takes; rw [if_neg (by rw [← HQ.out]; simp; omega), if_neg (by omega), if_neg (by rw [← HI.out, ← HF.out]; simp; omega)]), HB3.out⟩

def smallT (l : List TierV) : Bool := l.all (fun t => decide (t.name.size ≤ 60))
def smallP (n : ByteArray) (l : List TierV) : Bool := smallT (l.take 12) && decide (l.length ≤ 10 ∧ n.size ≤ 60)

theorem take_snocT {l : List TierV} {k : Nat} (h : k < l.length) : l.take (k + 1) = l.take k ++ [l.getD k TierV.zero] := by
  rw [List.take_succ_eq_append_getElem h]; simp [h]

set_option maxRecDepth 100000 in
set_option maxHeartbeats 1000000 in
theorem small_pol (v : Value) (n : ByteArray) (l : List TierV) (w : World) (hv : PolAt w v n l) (hn : n.size ≤ 9223372036854775807) : Calls Try.prog 9 #[v] w (RetB w (.bool (smallP n l))) := by
  obtain ⟨tv, rfl, htv⟩ := hv
  obtain ⟨a, c, rfl, hok, hlen, hc⟩ := htv
  have HC := Lib.hid hc
  have HOK := Lib.hid hok
  clear hc hok
  go_enter Try.func9, Try.ntmps9
  go_wp2
  go_loopw [3] (fun i wr => ∃ (k : Nat), k ≤ l.length ∧ k ≤ 12 ∧ i = .int .i64 k ∧ Hid (smallT (l.take k) = true) ∧ wr.heap[w.heap.size]? = some (.cells #[.string n, .slice a l.length c] 24) ∧ Below w.heap.size w wr) (fun i _ => l.length - (intOf i).toNat)
  case atStart => exact ⟨0, Nat.zero_le _, by omega, rfl, Lib.hid rfl, heap_new_at rfl, bel_new _ _⟩
  case round =>
    obtain ⟨k, hk, hk2, rfl, HA, hX, hB⟩ := hrel
    obtain ⟨c0, c1⟩ := row2 hX
    by_cases hlt : k < l.length
    · by_cases hlt2 : k < 12
      · obtain ⟨b, o, rfl, hbw, hcl⟩ := HC.out (by intro h; simp [h] at hlt)
        obtain ⟨x0, _, _, _⟩ := hcl k hlt
        have hx := cell_step x0 hB
        have hok := (HOK.out (l.getD k TierV.zero) (by rw [List.getD_eq_getElem?_getD, List.getElem?_eq_getElem hlt]; exact List.getElem_mem _)).1
        have HT := Lib.hid (take_snocT hlt)
        have HG := Lib.hid (show 60 < (l.getD k TierV.zero).name.size → smallP n l = false by
          intro h
          unfold smallP
          rw [Bool.and_eq_false_iff]
          left
          unfold smallT
          rw [List.all_eq_false]
          refine ⟨l.getD k TierV.zero, ?_, by rw [decide_eq_true_eq]; omega⟩
          rw [List.mem_iff_getElem]
          exact ⟨k, by simp; omega, by simp [hlt]⟩)
        obtain ⟨s, hs⟩ : ∃ s, s = (l.getD k TierV.zero).name := ⟨_, rfl⟩
        rw [← hs] at hx hok HG
        have HSE := Lib.hid hs
        clear hs hcl x0
        by_cases h1 : 60 < s.size
        · have h1' : 60 < (s.size : Int) := by omega
          go_wp2
          go_ret
          exact ⟨ret_bool (by rw [HG.out h1]), hB⟩
        · have h1' : (s.size : Int) ≤ 60 := by omega
          go_wp2
          go_roundw
          case rel => exact ⟨k + 1, by omega, by omega, by go_num, Lib.hid (by rw [HT.out]; have := HA.out; unfold smallT at this ⊢; rw [List.all_append, this]; simp; rw [← List.getD_eq_getElem?_getD, ← HSE.out]; omega), hX, hB⟩
          case measure => simp [intOf]; omega
      · have e12 : k = 12 := by omega
        subst e12
        have HP := Lib.hid (show smallP n l = false by unfold smallP; rw [Bool.and_eq_false_iff]; right; simp; omega)
        go_wp2
        go_ret
        exact ⟨ret_bool (by rw [HP.out]), hB⟩
    · have hkl : k = l.length := by omega
      subst hkl
      have HP := Lib.hid (show smallP n l = decide (l.length ≤ 10 ∧ n.size ≤ 60) by
        have := HA.out
        rw [List.take_length] at this
        unfold smallP
        rw [List.take_of_length_le (by omega), this]; simp)
      by_cases h1 : l.length ≤ 10
      · go_wp2
        go_ret
        exact ⟨ret_bool (by rw [HP.out, Bool.eq_iff_iff]; simp; omega), hB⟩
      · go_wp2
        go_ret
        exact ⟨ret_bool (by rw [HP.out, Bool.eq_iff_iff]; simp; omega), hB⟩

def nWeb : ByteArray := ⟨#[119, 101, 98]⟩
def webL : List TierV := [⟨⟨#[114, 97, 119]⟩, 1, 100, 2⟩, ⟨⟨#[116, 101, 110, 115]⟩, 10, 1000, 1⟩]
set_option maxRecDepth 100000 in
set_option maxHeartbeats 1000000 in
theorem web_any (w : World) : Calls Try.prog 17 #[] w (RetP w (fun u w' => PolAt w' u nWeb webL)) := by
  go_enter Try.func17, Try.ntmps17
  go_wp2_with fail
  refine bodyPost_ret (v := .agg #[.string nWeb, .slice (some ⟨w.heap.size + 1, 0, none⟩) 2 2]) (results_cell_row Try.results17 _ _ w.heap.size 24 #[.string nWeb, .slice (some ⟨w.heap.size + 1, 0, none⟩) 2 2] (0, 0) _ rfl (heap_step (heap_new_at rfl) (bel_new _ _)) Try.underlying24 rfl (by kernel_rfl)) rfl ?_
  refine ⟨_, rfl, ⟨_, rfl, ⟨_, 2, rfl, ?_, by decide, fun _ => ⟨w.heap.size + 1, 0, rfl, by simp, fun j hj => ?_⟩⟩⟩, chain (bel_new _ _) (bel_new _ _)⟩
  · intro x hx
    simp only [webL, List.mem_cons, List.not_mem_nil, or_false] at hx
    rcases hx with rfl | rfl <;> (unfold TierV.ok I64; dsimp only; decide)
  · have hr := fun k => cell_of_row _ (w.heap.size + 1) k _ _ _ (heap_new_at (w := w.alloc (Obj.cells #[Value.string { data := #[119, 101, 98] }, Value.slice (some { block := w.heap.size + 1, off := 0 }) 2 2] 24)) (o := Obj.cells #[Value.string { data := #[114, 97, 119] }, Value.int IntKind.i64 1, Value.int IntKind.i64 100, Value.int IntKind.i64 2, Value.string { data := #[116, 101, 110, 115] }, Value.int IntKind.i64 10, Value.int IntKind.i64 1000, Value.int IntKind.i64 1] 32) (b := w.heap.size + 1) (by simp))
    match j, hj with
    | 0, _ => exact ⟨hr 0, hr 1, hr 2, hr 3⟩
    | 1, _ => exact ⟨hr 4, hr 5, hr 6, hr 7⟩
    | j + 2, h => exact absurd h (by show ¬ j + 2 < 2; omega)
end Go.Proofs.Ytaenpcglaenlaaa
