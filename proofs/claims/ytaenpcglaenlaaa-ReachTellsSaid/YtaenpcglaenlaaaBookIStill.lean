/-
  A book's lists of ints: are they what they were, and are they marked?
-/
import Derived.Test.YtaenpcglaenlaaaBookIPut
namespace Go.Proofs.Ytaenpcglaenlaaa
open Go.RowKit
set_option linter.unusedVariables false
set_option linter.unusedSimpArgs false
theorem dec_i (l : List Int) : decide (l = l) = true := decide_eq_true rfl
set_option maxRecDepth 100000 in
set_option maxHeartbeats 4000000 in
theorem still_i {w : World} {B p n : Nat} {cs : Array Value} {vs us : Nat → Value} {ls : Nat → List Int} {uv : Value} (h : BK_i w B p cs n vs ls) (hu : cs[3]? = some uv) (hur : OwnL w B 25 1 uv n ((List.range n).map us)) (hus : ∀ i, i < n → IntsAt w (us i) (ls i)) :
    Calls Try.prog 45 #[.pointer (some ⟨p, 0, none⟩)] w (RetB w (.bool true)) := by
  have H := Lib.hid h
  have HU := Lib.hid hus
  obtain ⟨lv, hlv, hrow⟩ := h.row
  have HR := Lib.hid hrow
  have HUR := Lib.hid hur
  obtain ⟨la, lc, rfl⟩ := hrow.form
  obtain ⟨ua, uc, rfl⟩ := hur.form
  have d2 := (h.at hlv).1
  have d3 : w.cell? ⟨p, 3, none⟩ = some (.slice ua n uc) := by rw [cell_of_row w p _ _ _ _ h.blk]; exact hu
  have hn := h.few
  clear h hlv hrow hu hur hus
  have D2 := Lib.hid d2
  have D3 := Lib.hid d3
  go_enter Try.func45, Try.ntmps45
  go_wp2
  clear d2 d3
  go_loopw [3] (fun x wr => ∃ (i : Nat), i ≤ n ∧ x = .int .i64 i ∧ Hid (Below w.heap.size w wr)) (fun x _ => n - (intOf x).toNat)
  case atStart => exact ⟨0, Nat.zero_le _, rfl, Lib.hid (Below.refl _ _)⟩
  case round =>
    obtain ⟨i, hi, rfl, HB⟩ := hrel
    have c2 := cell_step D2.out HB.out
    have c3 := cell_step D3.out HB.out
    by_cases hlt : i < n
    · obtain ⟨g, c, e1, hnc, hc, hg, hcell⟩ := rowAt HR.out hlt
      injection e1 with e1 _ e2
      subst e1
      subst e2
      obtain ⟨g2, c2', e1, hnc2, hc2, hg2, hcell2⟩ := rowAt HUR.out hlt
      injection e1 with e1 _ e2
      subst e1
      subst e2
      have k1 := cell_step hcell HB.out
      have k2 := cell_step hcell2 HB.out
      have k3 := Lib.hid ((H.out.list hlt).below HB.out)
      have k4 := Lib.hid ((HU.out i hlt).below HB.out)
      obtain ⟨ao, ca, hvi⟩ := (H.out.fam.own i hlt).form
      have hui := HU.out i hlt
      obtain ⟨bo, cb, hui, _⟩ := hui
      (try dsimp only at hvi)
      have hcp := H.out.fam.own i hlt
      rw [hvi] at hcp
      have hcp := hcp.cap.2
      rw [hvi] at k1 k3
      rw [hui] at k2 k4
      obtain ⟨l, hl⟩ : ∃ l, l = ls i := ⟨_, rfl⟩
      rw [← hl] at k1 k2 k3 k4 hcp
      clear hcell hcell2 hvi hui hl hg hg2
      go_wp2_with fail
      refine wp_region_inv (R := Blw) (S := (fun w' => Below wr.heap.size wr w' ∧ w'.cell? ⟨p, 2, none⟩ = some (.slice (some ⟨g, 0, none⟩) n lc) ∧ w'.cell? ⟨p, 3, none⟩ = some (.slice (some ⟨g2, 0, none⟩) n uc) ∧ w'.cell? ⟨g, i, none⟩ = some (.slice ao l.length ca) ∧ w'.cell? ⟨g2, i, none⟩ = some (.slice bo l.length cb) ∧ Hid (IntsAt w' (.slice ao l.length ca) l) ∧ Hid (IntsAt w' (.slice bo l.length cb) l))) 16 (Spec.val ?_ :: Spec.val ?_ :: Spec.val ?_ :: Spec.val ?_ :: Spec.val ?_ :: Spec.val ?_ :: Spec.val ?_ :: Spec.val ?_ :: Spec.val ?_ :: Spec.val ?_ :: Spec.val ?_ :: Spec.val ?_ :: Spec.val ?_ :: Spec.val ?_ :: Spec.val ?_ :: Spec.val ?_ :: []) (by kernel_rfl) (by kernel_rfl) rfl (fun w1 w2 h hb => ⟨chain h.1 hb, cell_step h.2.1 hb, cell_step h.2.2.1 hb, cell_step h.2.2.2.1 hb, cell_step h.2.2.2.2.1 hb, Lib.hid (h.2.2.2.2.2.1.out.below hb), Lib.hid (h.2.2.2.2.2.2.out.below hb)⟩) (⟨(Below.refl _ _).drew, c2, c3, k1, k2, Lib.hid k3.out, Lib.hid k4.out⟩) ?hm11
      case' hm11 => skip
      refine inv_val (i := 0) (by kernel_rfl) rfl rfl (fun w1 hS hd K hK => ?_) ?_
      · (try dsimp only at hS); go_simp; exact hK.out _ _ (by simp only [Act.put, List.setIfInBounds_toArray, List.set_cons_zero, List.set_cons_succ, List.nil_append, List.cons_append]; rfl) (Below.refl _ _)
      simp only [Act.put, List.setIfInBounds_toArray, List.set_cons_zero, List.set_cons_succ, List.nil_append, List.cons_append]
      refine inv_val (i := 1) (by kernel_rfl) rfl rfl (fun w1 hS hd K hK => ?_) ?_
      · (try dsimp only at hS); go_simp; exact hK.out _ _ (by simp only [Act.put, List.setIfInBounds_toArray, List.set_cons_zero, List.set_cons_succ, List.nil_append, List.cons_append]; rfl) (Below.refl _ _)
      simp only [Act.put, List.setIfInBounds_toArray, List.set_cons_zero, List.set_cons_succ, List.nil_append, List.cons_append]
      refine inv_val (i := 2) (by kernel_rfl) rfl rfl (fun w1 hS hd K hK => ?_) ?_
      · (try dsimp only at hS); go_simp; exact hK.out _ _ (by simp only [Act.put, List.setIfInBounds_toArray, List.set_cons_zero, List.set_cons_succ, List.nil_append, List.cons_append]; rfl) (Below.refl _ _)
      simp only [Act.put, List.setIfInBounds_toArray, List.set_cons_zero, List.set_cons_succ, List.nil_append, List.cons_append]
      refine inv_val (i := 3) (by kernel_rfl) rfl rfl (fun w1 hS hd K hK => ?_) ?_
      · (try dsimp only at hS); go_simp; exact hK.out _ _ (by simp only [Act.put, List.setIfInBounds_toArray, List.set_cons_zero, List.set_cons_succ, List.nil_append, List.cons_append]; rfl) (Below.refl _ _)
      simp only [Act.put, List.setIfInBounds_toArray, List.set_cons_zero, List.set_cons_succ, List.nil_append, List.cons_append]
      refine inv_val (i := 4) (by kernel_rfl) rfl rfl (fun w1 hS hd K hK => ?_) ?_
      · (try dsimp only at hS); go_simp; exact hK.out _ _ (by simp only [Act.put, List.setIfInBounds_toArray, List.set_cons_zero, List.set_cons_succ, List.nil_append, List.cons_append]; rfl) (Below.refl _ _)
      simp only [Act.put, List.setIfInBounds_toArray, List.set_cons_zero, List.set_cons_succ, List.nil_append, List.cons_append]
      refine inv_val (i := 5) (by kernel_rfl) rfl rfl (fun w1 hS hd K hK => ?_) ?_
      · (try dsimp only at hS); go_simp; exact hK.out _ _ (by simp only [Act.put, List.setIfInBounds_toArray, List.set_cons_zero, List.set_cons_succ, List.nil_append, List.cons_append]; rfl) (Below.refl _ _)
      simp only [Act.put, List.setIfInBounds_toArray, List.set_cons_zero, List.set_cons_succ, List.nil_append, List.cons_append]
      refine inv_val (i := 6) (by kernel_rfl) rfl rfl (fun w1 hS hd K hK => ?_) ?_
      · (try dsimp only at hS); go_simp; exact hK.out _ _ (by simp only [Act.put, List.setIfInBounds_toArray, List.set_cons_zero, List.set_cons_succ, List.nil_append, List.cons_append]; rfl) (Below.refl _ _)
      simp only [Act.put, List.setIfInBounds_toArray, List.set_cons_zero, List.set_cons_succ, List.nil_append, List.cons_append]
      refine inv_val (i := 7) (by kernel_rfl) rfl rfl (fun w1 hS hd K hK => ?_) ?_
      · (try dsimp only at hS); go_simp; exact hK.out _ _ (by simp only [Act.put, List.setIfInBounds_toArray, List.set_cons_zero, List.set_cons_succ, List.nil_append, List.cons_append]; rfl) (Below.refl _ _)
      simp only [Act.put, List.setIfInBounds_toArray, List.set_cons_zero, List.set_cons_succ, List.nil_append, List.cons_append]
      refine inv_val (i := 8) (by kernel_rfl) rfl rfl (fun w1 hS hd K hK => ?_) ?_
      · (try dsimp only at hS); go_simp; exact hK.out _ _ (by simp only [Act.put, List.setIfInBounds_toArray, List.set_cons_zero, List.set_cons_succ, List.nil_append, List.cons_append]; rfl) (Below.refl _ _)
      simp only [Act.put, List.setIfInBounds_toArray, List.set_cons_zero, List.set_cons_succ, List.nil_append, List.cons_append]
      refine inv_val (i := 9) (by kernel_rfl) rfl rfl (fun w1 hS hd K hK => ?_) ?_
      · (try dsimp only at hS); go_simp; exact hK.out _ _ (by simp only [Act.put, List.setIfInBounds_toArray, List.set_cons_zero, List.set_cons_succ, List.nil_append, List.cons_append]; rfl) (Below.refl _ _)
      simp only [Act.put, List.setIfInBounds_toArray, List.set_cons_zero, List.set_cons_succ, List.nil_append, List.cons_append]
      refine inv_val (i := 10) (by kernel_rfl) rfl rfl (fun w1 hS hd K hK => ?_) ?_
      · (try dsimp only at hS); go_simp; exact hK.out _ _ (by simp only [Act.put, List.setIfInBounds_toArray, List.set_cons_zero, List.set_cons_succ, List.nil_append, List.cons_append]; rfl) (Below.refl _ _)
      simp only [Act.put, List.setIfInBounds_toArray, List.set_cons_zero, List.set_cons_succ, List.nil_append, List.cons_append]
      refine inv_val (i := 11) (by kernel_rfl) rfl rfl (fun w1 hS hd K hK => ?_) ?_
      · (try dsimp only at hS); go_simp; exact hK.out _ _ (by simp only [Act.put, List.setIfInBounds_toArray, List.set_cons_zero, List.set_cons_succ, List.nil_append, List.cons_append]; rfl) (Below.refl _ _)
      simp only [Act.put, List.setIfInBounds_toArray, List.set_cons_zero, List.set_cons_succ, List.nil_append, List.cons_append]
      refine inv_val (i := 12) (by kernel_rfl) rfl rfl (fun w1 hS hd K hK => ?_) ?_
      · (try dsimp only at hS); go_simp; exact hK.out _ _ (by simp only [Act.put, List.setIfInBounds_toArray, List.set_cons_zero, List.set_cons_succ, List.nil_append, List.cons_append]; rfl) (Below.refl _ _)
      simp only [Act.put, List.setIfInBounds_toArray, List.set_cons_zero, List.set_cons_succ, List.nil_append, List.cons_append]
      refine inv_val (i := 13) (by kernel_rfl) rfl rfl (fun w1 hS hd K hK => ?_) ?_
      · (try dsimp only at hS); go_simp; exact hK.out _ _ (by simp only [Act.put, List.setIfInBounds_toArray, List.set_cons_zero, List.set_cons_succ, List.nil_append, List.cons_append]; rfl) (Below.refl _ _)
      simp only [Act.put, List.setIfInBounds_toArray, List.set_cons_zero, List.set_cons_succ, List.nil_append, List.cons_append]
      refine inv_val (i := 14) (by kernel_rfl) rfl rfl (fun w1 hS hd K hK => ?_) ?_
      · (try dsimp only at hS); go_simp; refine (same_ints _ _ l l _ hS.2.2.2.2.2.1.out hS.2.2.2.2.2.2.out).mono ?_; rintro e w2 ⟨rfl, hb⟩; rw [dec_i]; exact hK.out _ _ (by simp only [Act.put, List.setIfInBounds_toArray, List.set_cons_zero, List.set_cons_succ, List.nil_append, List.cons_append]; rfl) hb
      simp only [Act.put, List.setIfInBounds_toArray, List.set_cons_zero, List.set_cons_succ, List.nil_append, List.cons_append]
      refine inv_val (i := 15) (by kernel_rfl) rfl rfl (fun w1 hS hd K hK => ?_) ?_
      · (try dsimp only at hS); go_simp; exact hK.out _ _ (by simp only [Act.put, List.setIfInBounds_toArray, List.set_cons_zero, List.set_cons_succ, List.nil_append, List.cons_append]; rfl) (Below.refl _ _)
      simp only [Act.put, List.setIfInBounds_toArray, List.set_cons_zero, List.set_cons_succ, List.nil_append, List.cons_append]
      refine inv_done (by kernel_rfl) (fun w3 hS hd => ?_)
      have HB3 := Lib.hid (chain HB.out hS.1)
      clear hS hd
      go_wp2
      go_roundw
      case rel => exact ⟨i + 1, hlt, by go_num, HB3⟩
      case measure => simp [intOf]; omega
    · obtain rfl : i = n := by omega
      go_wp2
      go_ret
      exact ⟨rfl, HB.out⟩
set_option maxRecDepth 100000 in
set_option maxHeartbeats 4000000 in
theorem marked_i {w : World} {B n : Nat} {lv : Value} {gs : Nat → Value} {ns : Nat → Nat} (h : OwnL w B 25 1 lv n ((List.range n).map gs)) (hg : ∀ i, i < n → IntsAt w (gs i) (marksI i 0 (ns i))) (hn : n ≤ 300) (hns : ∀ i, i < n → ns i ≤ 200000) :
    Calls Try.prog 69 #[lv] w (RetB w (.bool true)) := by
  have HR := Lib.hid h
  have HG := Lib.hid hg
  have HN := Lib.hid hns
  obtain ⟨la, lc, rfl⟩ := h.form
  clear h hg hns
  go_enter Try.func69, Try.ntmps69
  go_wp2
  go_loopw [3] (fun x wr => ∃ (i : Nat), i ≤ n ∧ x = .int .i64 i ∧ Hid (Below w.heap.size w wr)) (fun x _ => n - (intOf x).toNat)
  case atStart => exact ⟨0, Nat.zero_le _, rfl, Lib.hid (Below.refl _ _)⟩
  case round =>
    obtain ⟨i, hi, rfl, HB⟩ := hrel
    by_cases hlt : i < n
    · obtain ⟨g, c, e1, hnc, hc, hg, hcell⟩ := rowAt HR.out hlt
      injection e1 with e1 _ e2
      subst e1
      subst e2
      have k1 := cell_step hcell HB.out
      have k3 := Lib.hid ((HG.out i hlt).below HB.out)
      obtain ⟨ao, ca, hvi, _⟩ := HG.out i hlt
      obtain ⟨m, hm⟩ : ∃ m, m = ns i := ⟨_, rfl⟩
      have hm5 := HN.out i hlt
      rw [← hm] at k3 hvi hm5
      rw [marksI_len] at hvi
      rw [hvi] at k1 k3
      obtain ⟨l, hl⟩ : ∃ l, l = marksI i 0 m := ⟨_, rfl⟩
      have HL := Lib.hid hl
      rw [← hl] at k3
      have hi300 : i ≤ 300 := by omega
      clear hcell hvi hm hl hg
      go_wp2_with fail
      refine wp_region_inv (R := Blw) (S := (fun w' => Below wr.heap.size wr w' ∧ w'.cell? ⟨g, i, none⟩ = some (.slice ao m ca) ∧ Hid (IntsAt w' (.slice ao m ca) l))) 13 (Spec.val ?_ :: Spec.val ?_ :: Spec.val ?_ :: Spec.val ?_ :: Spec.val ?_ :: Spec.val ?_ :: Spec.val ?_ :: Spec.val ?_ :: Spec.val ?_ :: Spec.val ?_ :: (intsS l) :: Spec.val ?_ :: Spec.val ?_ :: []) (by kernel_rfl) (by kernel_rfl) rfl (fun w1 w2 h hb => ⟨chain h.1 hb, cell_step h.2.1 hb, Lib.hid (h.2.2.out.below hb)⟩) (⟨(Below.refl _ _).drew, k1, Lib.hid k3.out⟩) ?hm12
      case' hm12 => skip
      refine inv_val (i := 0) (by kernel_rfl) rfl rfl (fun w1 hS hd K hK => ?_) ?_
      · (try dsimp only at hS); go_simp; exact hK.out _ _ (by simp only [Act.put, List.setIfInBounds_toArray, List.set_cons_zero, List.set_cons_succ, List.nil_append, List.cons_append]; rfl) (Below.refl _ _)
      simp only [Act.put, List.setIfInBounds_toArray, List.set_cons_zero, List.set_cons_succ, List.nil_append, List.cons_append]
      refine inv_val (i := 1) (by kernel_rfl) rfl rfl (fun w1 hS hd K hK => ?_) ?_
      · (try dsimp only at hS); go_simp; exact hK.out _ _ (by simp only [Act.put, List.setIfInBounds_toArray, List.set_cons_zero, List.set_cons_succ, List.nil_append, List.cons_append]; rfl) (Below.refl _ _)
      simp only [Act.put, List.setIfInBounds_toArray, List.set_cons_zero, List.set_cons_succ, List.nil_append, List.cons_append]
      refine inv_val (i := 2) (by kernel_rfl) rfl rfl (fun w1 hS hd K hK => ?_) ?_
      · (try dsimp only at hS); go_simp; exact hK.out _ _ (by simp only [Act.put, List.setIfInBounds_toArray, List.set_cons_zero, List.set_cons_succ, List.nil_append, List.cons_append]; rfl) (Below.refl _ _)
      simp only [Act.put, List.setIfInBounds_toArray, List.set_cons_zero, List.set_cons_succ, List.nil_append, List.cons_append]
      refine inv_val (i := 3) (by kernel_rfl) rfl rfl (fun w1 hS hd K hK => ?_) ?_
      · (try dsimp only at hS); go_simp; exact hK.out _ _ (by simp only [Act.put, List.setIfInBounds_toArray, List.set_cons_zero, List.set_cons_succ, List.nil_append, List.cons_append]; rfl) (Below.refl _ _)
      simp only [Act.put, List.setIfInBounds_toArray, List.set_cons_zero, List.set_cons_succ, List.nil_append, List.cons_append]
      refine inv_val (i := 4) (by kernel_rfl) rfl rfl (fun w1 hS hd K hK => ?_) ?_
      · (try dsimp only at hS); go_simp; exact hK.out _ _ (by simp only [Act.put, List.setIfInBounds_toArray, List.set_cons_zero, List.set_cons_succ, List.nil_append, List.cons_append]; rfl) (Below.refl _ _)
      simp only [Act.put, List.setIfInBounds_toArray, List.set_cons_zero, List.set_cons_succ, List.nil_append, List.cons_append]
      refine inv_val (i := 5) (by kernel_rfl) rfl rfl (fun w1 hS hd K hK => ?_) ?_
      · (try dsimp only at hS); go_simp; exact hK.out _ _ (by simp only [Act.put, List.setIfInBounds_toArray, List.set_cons_zero, List.set_cons_succ, List.nil_append, List.cons_append]; rfl) (Below.refl _ _)
      simp only [Act.put, List.setIfInBounds_toArray, List.set_cons_zero, List.set_cons_succ, List.nil_append, List.cons_append]
      refine inv_val (i := 6) (by kernel_rfl) rfl rfl (fun w1 hS hd K hK => ?_) ?_
      · (try dsimp only at hS); go_simp; exact hK.out _ _ (by simp only [Act.put, List.setIfInBounds_toArray, List.set_cons_zero, List.set_cons_succ, List.nil_append, List.cons_append]; rfl) (Below.refl _ _)
      simp only [Act.put, List.setIfInBounds_toArray, List.set_cons_zero, List.set_cons_succ, List.nil_append, List.cons_append]
      refine inv_val (i := 7) (by kernel_rfl) rfl rfl (fun w1 hS hd K hK => ?_) ?_
      · (try dsimp only at hS); go_simp; exact hK.out _ _ (by simp only [Act.put, List.setIfInBounds_toArray, List.set_cons_zero, List.set_cons_succ, List.nil_append, List.cons_append]; rfl) (Below.refl _ _)
      simp only [Act.put, List.setIfInBounds_toArray, List.set_cons_zero, List.set_cons_succ, List.nil_append, List.cons_append]
      refine inv_val (i := 8) (by kernel_rfl) rfl rfl (fun w1 hS hd K hK => ?_) ?_
      · (try dsimp only at hS); go_simp; exact hK.out _ _ (by simp only [Act.put, List.setIfInBounds_toArray, List.set_cons_zero, List.set_cons_succ, List.nil_append, List.cons_append]; rfl) (Below.refl _ _)
      simp only [Act.put, List.setIfInBounds_toArray, List.set_cons_zero, List.set_cons_succ, List.nil_append, List.cons_append]
      refine inv_val (i := 9) (by kernel_rfl) rfl rfl (fun w1 hS hd K hK => ?_) ?_
      · (try dsimp only at hS); go_simp; exact hK.out _ _ (by simp only [Act.put, List.setIfInBounds_toArray, List.set_cons_zero, List.set_cons_succ, List.nil_append, List.cons_append]; rfl) (Below.refl _ _)
      simp only [Act.put, List.setIfInBounds_toArray, List.set_cons_zero, List.set_cons_succ, List.nil_append, List.cons_append]
      refine inv_rel (i := 10) (by kernel_rfl) rfl rfl (fun w1 hS hd K hK => ?_) (fun v10 => ?_)
      · (try dsimp only at hS); go_simp; refine (marks_i i 0 m _ hi300 (by omega) (by omega)).mono ?_; rintro e w2 ⟨mv, rfl, ho, hb⟩; refine hK.out _ _ _ (by simp only [Act.put, List.setIfInBounds_toArray, List.set_cons_zero, List.set_cons_succ, List.nil_append, List.cons_append]; rfl) ?_ hb; rw [HL.out]; refine ints_of_ownL (B := w1.heap.size) ?_ (marksI_ok i 0 m hi300 (by omega) (by omega)); rw [marksI_len]; exact OwnL.of_row ho
      simp only [Act.put, List.setIfInBounds_toArray, List.set_cons_zero, List.set_cons_succ, List.nil_append, List.cons_append]
      refine inv_val (i := 11) (by kernel_rfl) rfl rfl (fun w1 hS hd K hK => ?_) ?_
      · (try dsimp only at hS); go_simp; refine (same_ints _ _ l l _ hS.2.2.out (hd.out 10 (by kernel_rfl))).mono ?_; rintro e w2 ⟨rfl, hb⟩; rw [dec_i]; exact hK.out _ _ (by simp only [Act.put, List.setIfInBounds_toArray, List.set_cons_zero, List.set_cons_succ, List.nil_append, List.cons_append]; rfl) hb
      simp only [Act.put, List.setIfInBounds_toArray, List.set_cons_zero, List.set_cons_succ, List.nil_append, List.cons_append]
      refine inv_val (i := 12) (by kernel_rfl) rfl rfl (fun w1 hS hd K hK => ?_) ?_
      · (try dsimp only at hS); go_simp; exact hK.out _ _ (by simp only [Act.put, List.setIfInBounds_toArray, List.set_cons_zero, List.set_cons_succ, List.nil_append, List.cons_append]; rfl) (Below.refl _ _)
      simp only [Act.put, List.setIfInBounds_toArray, List.set_cons_zero, List.set_cons_succ, List.nil_append, List.cons_append]
      refine inv_done (by kernel_rfl) (fun w3 hS hd => ?_)
      have HB3 := Lib.hid (chain HB.out hS.1)
      clear hS hd
      go_wp2
      go_roundw
      case rel => exact ⟨i + 1, hlt, by go_num, HB3⟩
      case measure => simp [intOf]; omega
    · obtain rfl : i = n := by omega
      go_wp2
      go_ret
      exact ⟨rfl, HB.out⟩
end Go.Proofs.Ytaenpcglaenlaaa
