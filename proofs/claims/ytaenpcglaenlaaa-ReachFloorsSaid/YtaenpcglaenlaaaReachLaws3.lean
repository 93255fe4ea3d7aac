/-
  The walk of the law ReachFloors.
-/
import Derived.Test.YtaenpcglaenlaaaReachAlive
namespace Go.Proofs.Ytaenpcglaenlaaa
open Go.RowKit
set_option linter.unusedVariables false
set_option linter.unusedSimpArgs false

theorem small_len {n : ByteArray} {l : List TierV} (h : smallP n l = true) : l.length ≤ 10 ∧ n.size ≤ 60 := by
  unfold smallP at h
  rw [Bool.and_eq_true, decide_eq_true_eq] at h
  exact h.2
theorem gback_nonneg (t k e : Int) : 0 ≤ gback t k e := by
  unfold gback; split <;> omega
theorem from_floor (now : Int) (n : ByteArray) (l : List TierV) (fl : List Int) (k : Nat) (h : k < l.length) :
    (RV.mk now n l fl).from k = max ((RV.mk now n l []).from k) (if k < fl.length then fl.getD k 0 else 0) := by
  rw [RV.from_nat _ k h, RV.from_nat _ k h]
  unfold RV.fromN
  have e : (RV.mk now n l []).low k = (RV.mk now n l fl).low k := rfl
  have g : 0 ≤ (RV.mk now n l fl).low k := gback_nonneg _ _ _
  rw [e]
  dsimp only
  rw [if_neg (show ¬ k < ([] : List Int).length by simp)]
  split <;> omega

set_option maxRecDepth 100000 in
set_option maxHeartbeats 4000000 in
theorem walkReachFloors (v : Value) (n : ByteArray) (l : List TierV) (now : Int) (wn : (Lit.int .i64 now).wf = true) (fv : Value) (fl : List Int) (tier : Int) (wt : (Lit.int .i64 tier).wf = true) (w : World)
    (hp : PolAt w v n l) (hns : n.size ≤ 9223372036854775807) (hf : IntsAt w fv fl) :
    Calls Try.prog 6 #[v, .int .i64 now, fv, .int .i64 tier] w (BoolPost w true) := by
  have hn := wf64' wn
  clear wn wt
  have HP := Lib.hid hp
  have HFV := Lib.hid hf
  have HNS := Lib.hid hns
  obtain ⟨pv, rfl, htv⟩ := hp
  obtain ⟨pa, pc, rfl, _, hpc, _⟩ := htv
  obtain ⟨ffa, ffc, rfl, _, hfc, hfcl⟩ := hf
  have HFC := Lib.hid hfcl
  obtain ⟨q, hq⟩ : ∃ q, q = smallP n l := ⟨_, rfl⟩
  have HQ := Lib.hid hq
  have KN := Lib.hid (show I64 now from hn)
  clear hq hns hfcl
  go_enter Try.func6, Try.ntmps6
  go_wp2_with fail
  refine (small_pol _ n l _ (HP.out.below (bel_new _ _)) HNS.out).mono ?_
  rintro e w1 ⟨rfl, hb⟩
  rw [← HQ.out]
  obtain ⟨h1, hbw⟩ := one_new hb
  have H1 := Lib.hid h1
  have HB1 := Lib.hid hbw
  obtain ⟨p0, p1⟩ := row2 h1
  clear hb hbw h1
  cases q
  · go_wp2_with fail
    refine (alive_any _).mono ?_
    rintro e w9 ⟨rfl, hb⟩
    have HB := Lib.hid (chain HB1.out hb)
    clear hb
    go_wp2
    go_ret
    exact ⟨rfl, HB.out⟩
  · by_cases g1 : (10 : Int) < fl.length
    · go_wp2_with fail
      refine (alive_any _).mono ?_
      rintro e w9 ⟨rfl, hb⟩
      have HB := Lib.hid (chain HB1.out hb)
      clear hb
      go_wp2
      go_ret
      exact ⟨rfl, HB.out⟩
    · have hsm := small_len HQ.out.symm
      have HLN := Lib.hid (show l.length ≤ 1000000 by omega)
      have HFN := Lib.hid (show fl.length ≤ 1000000 by omega)
      obtain ⟨r, hr⟩ : ∃ r : RV, r = ⟨now, n, l, fl⟩ := ⟨_, rfl⟩
      obtain ⟨r0, hr0⟩ : ∃ r : RV, r = ⟨now, n, l, []⟩ := ⟨_, rfl⟩
      have HR := Lib.hid hr
      have HR0 := Lib.hid hr0
      have N := Lib.hid (show I64 r.now by rw [hr]; exact hn)
      have N0 := Lib.hid (show I64 r0.now by rw [hr0]; exact hn)
      have HL := Lib.hid (show r.l.length ≤ 1000000 by rw [hr]; dsimp only; omega)
      have HALL := Lib.hid (show r.all.length = l.length by rw [hr]; unfold RV.all; rw [RV.allN_len])
      have HM1 := Lib.hid (show r.from (-1) = 0 from RV.from_not _ _ (by omega))
      have HM2 := Lib.hid (show r.from (l.length : Int) = 0 from RV.from_not _ _ (by rw [hr]; dsimp only; omega))
      have HFF := Lib.hid (show ∀ k : Nat, k < l.length → r.from k = max (r0.from k) (if k < fl.length then fl.getD k 0 else 0) by rw [hr, hr0]; exact from_floor now n l fl)
      have HFI := Lib.hid (show ∀ k : Nat, k < fl.length → I64 (fl.getD k 0) from fun k hk => int_ok HFV.out k hk)
      clear hr hr0 hsm
      go_wp2_with fail
      refine (of_any _ _ now n l [] _ (HP.out.below HB1.out) (ints_nil _) HLN.out (by decide)).mono ?_
      rintro e w2 ⟨u, rfl, hu, hb⟩
      have HU := Lib.hid (show ReachAt w2 u r0 by rw [HR0.out]; exact hu.at)
      obtain ⟨a, c, fa, fc, hz⟩ := HU.out.form
      subst hz
      have H2 := Lib.hid (heap_step (heap_step H1.out hb) (bel_new w2 (.cells #[.int .i64 r0.now, .string r0.name, .slice a r0.l.length c, .slice fa r0.fl.length fc] 34)))
      have HB2 := Lib.hid (chain (chain HB1.out hb) (bel_new w2 (.cells #[.int .i64 r0.now, .string r0.name, .slice a r0.l.length c, .slice fa r0.fl.length fc] 34)))
      have HX2 := Lib.hid (RBox.new rfl HU.out)
      obtain ⟨p0, p1⟩ := row2 H2.out
      clear hu hb
      go_wp2_with fail
      refine (of_any _ _ now n l fl _ (HP.out.below HB2.out) (HFV.out.below HB2.out) HLN.out HFN.out).mono ?_
      rintro e w4 ⟨u, rfl, hu, hb⟩
      have HU4 := Lib.hid (show ReachAt w4 u r by rw [HR.out]; exact hu.at)
      obtain ⟨ya, yc, yfa, yfc, hz⟩ := HU4.out.form
      subst hz
      have HX4 := Lib.hid ((HX2.out.step hb).step (bel_new w4 (.cells #[.int .i64 r.now, .string r.name, .slice ya r.l.length yc, .slice yfa r.fl.length yfc] 34)))
      have HB4 := Lib.hid (chain (chain HB2.out hb) (bel_new w4 (.cells #[.int .i64 r.now, .string r.name, .slice ya r.l.length yc, .slice yfa r.fl.length yfc] 34)))
      have H4 := Lib.hid (heap_step (heap_step H2.out hb) (bel_new w4 (.cells #[.int .i64 r.now, .string r.name, .slice ya r.l.length yc, .slice yfa r.fl.length yfc] 34)))
      have HY4 := Lib.hid (RBox.new rfl HU4.out)
      obtain ⟨A, hA⟩ : ∃ A, A = w2.heap.size := ⟨_, rfl⟩
      obtain ⟨B, hB⟩ : ∃ B, B = w4.heap.size := ⟨_, rfl⟩
      rw [← hA] at HX4
      rw [← hB] at HY4
      clear hu hb p0 p1 HX2 HU HU4
      go_wp2_with fail
      rw [← hA, ← hB]
      clear hA hB
      go_loopw [11] (fun i wr => ∃ (k : Nat), k ≤ l.length ∧ i = .int .i64 k ∧ Hid (wr.heap[w.heap.size]? = some (.cells #[.string n, .slice pa l.length pc] 24)) ∧ Hid (RBox wr A a c fa fc r0) ∧ Hid (RBox wr B ya yc yfa yfc r) ∧ Hid (Below w.heap.size w wr)) (fun i _ => l.length - (intOf i).toNat)
      case atStart => exact ⟨0, Nat.zero_le _, rfl, H4, HX4, HY4, HB4⟩
      case round =>
        obtain ⟨k, hk, rfl, HP5, HX5, HY5, HB5⟩ := hrel
        obtain ⟨p0, p1⟩ := row2 HP5.out
        by_cases hlt : k < l.length
        · have HE := Lib.hid (HFF.out k hlt)
          have kI : I64 (k : Int) := by unfold I64; omega
          have KI := Lib.hid kI
          by_cases hlf : k < fl.length
          · obtain ⟨bb, oo, rfl, hbb, hcl⟩ := HFC.out (by intro h; simp [h] at hlf)
            have hx := (HB5.out.cell (p := ⟨bb, oo + k, none⟩) hbb).trans (hcl k hlf)
            have hxI := HFI.out k hlf
            obtain ⟨f, hfe⟩ : ∃ f, f = fl.getD k 0 := ⟨_, rfl⟩
            have HE2 := Lib.hid (show r.from k = max (r0.from k) f by rw [HE.out, if_pos hlf, hfe])
            rw [← hfe] at hx hxI
            unfold I64 at hxI kI
            obtain ⟨F, hF⟩ : ∃ F, F = r0.from k := ⟨_, rfl⟩
            have HFE := Lib.hid hF
            clear hfe hcl hF
            go_wp2_with fail
            obtain ⟨c0, c1, c2, c3⟩ := HX5.out.cells
            obtain ⟨d0, d1, d2, d3⟩ := HY5.out.cells
            refine wp_region_inv (S := (fun w' => (w'.heap[w.heap.size]? = some (.cells #[.string n, .slice pa l.length pc] 24) ∧ RBox w' A a c fa fc r0 ∧ RBox w' B ya yc yfa yfc r ∧ Below w.heap.size w w') ∧ w'.cell? ⟨A, 0, none⟩ = some (.int .i64 r0.now) ∧ w'.cell? ⟨A, 1, none⟩ = some (.string r0.name) ∧ w'.cell? ⟨A, 2, none⟩ = some (.slice a r0.l.length c) ∧ w'.cell? ⟨A, 3, none⟩ = some (.slice fa r0.fl.length fc) ∧ w'.cell? ⟨B, 0, none⟩ = some (.int .i64 r.now) ∧ w'.cell? ⟨B, 1, none⟩ = some (.string r.name) ∧ w'.cell? ⟨B, 2, none⟩ = some (.slice ya r.l.length yc) ∧ w'.cell? ⟨B, 3, none⟩ = some (.slice yfa r.fl.length yfc) ∧ w'.cell? ⟨w.heap.size, 1, none⟩ = some (.slice pa l.length pc))) 9 (Spec.val ?_ :: Spec.val ?_ :: Spec.val ?_ :: Spec.val ?_ :: Spec.val ?_ :: Spec.val ?_ :: Spec.val ?_ :: Spec.val ?_ :: Spec.val ?_ :: []) (by kernel_rfl) (by kernel_rfl) rfl (fun w1 w2 h hb => ⟨⟨heap_step h.1.1 hb, h.1.2.1.step hb, h.1.2.2.1.step hb, chain h.1.2.2.2 hb⟩, cell_step h.2.1 hb, cell_step h.2.2.1 hb, cell_step h.2.2.2.1 hb, cell_step h.2.2.2.2.1 hb, cell_step h.2.2.2.2.2.1 hb, cell_step h.2.2.2.2.2.2.1 hb, cell_step h.2.2.2.2.2.2.2.1 hb, cell_step h.2.2.2.2.2.2.2.2.1 hb, cell_step h.2.2.2.2.2.2.2.2.2 hb⟩) (⟨⟨HP5.out, HX5.out.step (Below.refl _ _).drew, HY5.out.step (Below.refl _ _).drew, HB5.out.drew⟩, c0, c1, c2, c3, d0, d1, d2, d3, p1⟩) ?hm1
            case' hm1 => skip
            -- op 0: t44 := Op.load 34 (tmp 10)
            refine inv_val (i := 0) (by kernel_rfl) rfl rfl (fun w1 hS hd K hK => ?_) ?_
            · (try dsimp only at hS)
              go_simp
              exact hK.out _ _ (by simp only [Act.put, List.setIfInBounds_toArray, List.set_cons_zero, List.set_cons_succ, List.nil_append, List.cons_append]; rfl) (Below.refl _ _)
            simp only [Act.put, List.setIfInBounds_toArray, List.set_cons_zero, List.set_cons_succ, List.nil_append, List.cons_append]
            -- op 1: t45 := Op.move (tmp 11)
            refine inv_val (i := 1) (by kernel_rfl) rfl rfl (fun w1 hS hd K hK => ?_) ?_
            · (try dsimp only at hS)
              go_simp
              exact hK.out _ _ (by simp only [Act.put, List.setIfInBounds_toArray, List.set_cons_zero, List.set_cons_succ, List.nil_append, List.cons_append]; rfl) (Below.refl _ _)
            simp only [Act.put, List.setIfInBounds_toArray, List.set_cons_zero, List.set_cons_succ, List.nil_append, List.cons_append]
            -- op 2: t46 := Op.call { callee := Callee.value (func 14), args := #[
            refine inv_val (i := 2) (by kernel_rfl) rfl rfl (fun w1 hS hd K hK => ?_) ?_
            · (try dsimp only at hS)
              go_simp
              refine (from_any _ r k _ hS.1.2.2.1.lies N.out KI.out).mono ?_; rintro e w2 ⟨rfl, hb⟩; rw [HE2.out, ← HFE.out]; exact hK.out _ _ (by simp only [Act.put, List.setIfInBounds_toArray, List.set_cons_zero, List.set_cons_succ, List.nil_append, List.cons_append]; rfl) hb
            simp only [Act.put, List.setIfInBounds_toArray, List.set_cons_zero, List.set_cons_succ, List.nil_append, List.cons_append]
            -- op 3: t47 := Op.load 34 (tmp 9)
            refine inv_val (i := 3) (by kernel_rfl) rfl rfl (fun w1 hS hd K hK => ?_) ?_
            · (try dsimp only at hS)
              go_simp
              exact hK.out _ _ (by simp only [Act.put, List.setIfInBounds_toArray, List.set_cons_zero, List.set_cons_succ, List.nil_append, List.cons_append]; rfl) (Below.refl _ _)
            simp only [Act.put, List.setIfInBounds_toArray, List.set_cons_zero, List.set_cons_succ, List.nil_append, List.cons_append]
            -- op 4: t48 := Op.move (tmp 11)
            refine inv_val (i := 4) (by kernel_rfl) rfl rfl (fun w1 hS hd K hK => ?_) ?_
            · (try dsimp only at hS)
              go_simp
              exact hK.out _ _ (by simp only [Act.put, List.setIfInBounds_toArray, List.set_cons_zero, List.set_cons_succ, List.nil_append, List.cons_append]; rfl) (Below.refl _ _)
            simp only [Act.put, List.setIfInBounds_toArray, List.set_cons_zero, List.set_cons_succ, List.nil_append, List.cons_append]
            -- op 5: t49 := Op.call { callee := Callee.value (func 14), args := #[
            refine inv_val (i := 5) (by kernel_rfl) rfl rfl (fun w1 hS hd K hK => ?_) ?_
            · (try dsimp only at hS)
              go_simp
              refine (from_any _ r0 k _ hS.1.2.1.lies N0.out KI.out).mono ?_; rintro e w2 ⟨rfl, hb⟩; rw [← HFE.out]; exact hK.out _ _ (by simp only [Act.put, List.setIfInBounds_toArray, List.set_cons_zero, List.set_cons_succ, List.nil_append, List.cons_append]; rfl) hb
            simp only [Act.put, List.setIfInBounds_toArray, List.set_cons_zero, List.set_cons_succ, List.nil_append, List.cons_append]
            -- op 6: t50 := Op.move (tmp 12)
            refine inv_val (i := 6) (by kernel_rfl) rfl rfl (fun w1 hS hd K hK => ?_) ?_
            · (try dsimp only at hS)
              go_simp
              exact hK.out _ _ (by simp only [Act.put, List.setIfInBounds_toArray, List.set_cons_zero, List.set_cons_succ, List.nil_append, List.cons_append]; rfl) (Below.refl _ _)
            simp only [Act.put, List.setIfInBounds_toArray, List.set_cons_zero, List.set_cons_succ, List.nil_append, List.cons_append]
            -- op 7: t51 := Op.call { callee := Callee.builtin Builtin.max, args := #[tmp 
            refine inv_val (i := 7) (by kernel_rfl) rfl rfl (fun w1 hS hd K hK => ?_) ?_
            · (try dsimp only at hS)
              go_simp
              exact hK.out _ _ (by simp only [Act.put, List.setIfInBounds_toArray, List.set_cons_zero, List.set_cons_succ, List.nil_append, List.cons_append]; rfl) (Below.refl _ _)
            simp only [Act.put, List.setIfInBounds_toArray, List.set_cons_zero, List.set_cons_succ, List.nil_append, List.cons_append]
            -- op 8: t52 := Op.binOp BinOp.neq 3 (tmp 46) (tmp 51) 3
            refine inv_val (i := 8) (by kernel_rfl) rfl rfl (fun w1 hS hd K hK => ?_) ?_
            · (try dsimp only at hS)
              go_simp
              exact hK.out _ _ (by simp only [Act.put, List.setIfInBounds_toArray, List.set_cons_zero, List.set_cons_succ, List.nil_append, List.cons_append]; rfl) (Below.refl _ _)
            simp only [Act.put, List.setIfInBounds_toArray, List.set_cons_zero, List.set_cons_succ, List.nil_append, List.cons_append]
            refine inv_done (by kernel_rfl) (fun w6 hS hd => ?_)
            have HS := Lib.hid hS.1
            clear hS hd c0 c1 c2 c3 d0 d1 d2 d3 p0 p1
            go_wp2
            go_roundw
            case rel => exact ⟨k + 1, by omega, by go_num, Lib.hid HS.out.1, Lib.hid HS.out.2.1, Lib.hid HS.out.2.2.1, Lib.hid HS.out.2.2.2⟩
            case measure => simp [intOf]; omega
          · obtain ⟨f, hfe⟩ : ∃ f : Int, f = 0 := ⟨_, rfl⟩
            have HE2 := Lib.hid (show r.from k = max (r0.from k) 0 by rw [HE.out, if_neg hlf])
            unfold I64 at kI
            obtain ⟨F, hF⟩ : ∃ F, F = r0.from k := ⟨_, rfl⟩
            have HFE := Lib.hid hF
            clear hfe hF
            go_wp2_with fail
            obtain ⟨c0, c1, c2, c3⟩ := HX5.out.cells
            obtain ⟨d0, d1, d2, d3⟩ := HY5.out.cells
            refine wp_region_inv (S := (fun w' => (w'.heap[w.heap.size]? = some (.cells #[.string n, .slice pa l.length pc] 24) ∧ RBox w' A a c fa fc r0 ∧ RBox w' B ya yc yfa yfc r ∧ Below w.heap.size w w') ∧ w'.cell? ⟨A, 0, none⟩ = some (.int .i64 r0.now) ∧ w'.cell? ⟨A, 1, none⟩ = some (.string r0.name) ∧ w'.cell? ⟨A, 2, none⟩ = some (.slice a r0.l.length c) ∧ w'.cell? ⟨A, 3, none⟩ = some (.slice fa r0.fl.length fc) ∧ w'.cell? ⟨B, 0, none⟩ = some (.int .i64 r.now) ∧ w'.cell? ⟨B, 1, none⟩ = some (.string r.name) ∧ w'.cell? ⟨B, 2, none⟩ = some (.slice ya r.l.length yc) ∧ w'.cell? ⟨B, 3, none⟩ = some (.slice yfa r.fl.length yfc) ∧ w'.cell? ⟨w.heap.size, 1, none⟩ = some (.slice pa l.length pc))) 9 (Spec.val ?_ :: Spec.val ?_ :: Spec.val ?_ :: Spec.val ?_ :: Spec.val ?_ :: Spec.val ?_ :: Spec.val ?_ :: Spec.val ?_ :: Spec.val ?_ :: []) (by kernel_rfl) (by kernel_rfl) rfl (fun w1 w2 h hb => ⟨⟨heap_step h.1.1 hb, h.1.2.1.step hb, h.1.2.2.1.step hb, chain h.1.2.2.2 hb⟩, cell_step h.2.1 hb, cell_step h.2.2.1 hb, cell_step h.2.2.2.1 hb, cell_step h.2.2.2.2.1 hb, cell_step h.2.2.2.2.2.1 hb, cell_step h.2.2.2.2.2.2.1 hb, cell_step h.2.2.2.2.2.2.2.1 hb, cell_step h.2.2.2.2.2.2.2.2.1 hb, cell_step h.2.2.2.2.2.2.2.2.2 hb⟩) (⟨⟨HP5.out, HX5.out.step (Below.refl _ _).drew, HY5.out.step (Below.refl _ _).drew, HB5.out.drew⟩, c0, c1, c2, c3, d0, d1, d2, d3, p1⟩) ?hm2
            case' hm2 => skip
            -- op 0: t44 := Op.load 34 (tmp 10)
            refine inv_val (i := 0) (by kernel_rfl) rfl rfl (fun w1 hS hd K hK => ?_) ?_
            · (try dsimp only at hS)
              go_simp
              exact hK.out _ _ (by simp only [Act.put, List.setIfInBounds_toArray, List.set_cons_zero, List.set_cons_succ, List.nil_append, List.cons_append]; rfl) (Below.refl _ _)
            simp only [Act.put, List.setIfInBounds_toArray, List.set_cons_zero, List.set_cons_succ, List.nil_append, List.cons_append]
            -- op 1: t45 := Op.move (tmp 11)
            refine inv_val (i := 1) (by kernel_rfl) rfl rfl (fun w1 hS hd K hK => ?_) ?_
            · (try dsimp only at hS)
              go_simp
              exact hK.out _ _ (by simp only [Act.put, List.setIfInBounds_toArray, List.set_cons_zero, List.set_cons_succ, List.nil_append, List.cons_append]; rfl) (Below.refl _ _)
            simp only [Act.put, List.setIfInBounds_toArray, List.set_cons_zero, List.set_cons_succ, List.nil_append, List.cons_append]
            -- op 2: t46 := Op.call { callee := Callee.value (func 14), args := #[
            refine inv_val (i := 2) (by kernel_rfl) rfl rfl (fun w1 hS hd K hK => ?_) ?_
            · (try dsimp only at hS)
              go_simp
              refine (from_any _ r k _ hS.1.2.2.1.lies N.out KI.out).mono ?_; rintro e w2 ⟨rfl, hb⟩; rw [HE2.out, ← HFE.out]; exact hK.out _ _ (by simp only [Act.put, List.setIfInBounds_toArray, List.set_cons_zero, List.set_cons_succ, List.nil_append, List.cons_append]; rfl) hb
            simp only [Act.put, List.setIfInBounds_toArray, List.set_cons_zero, List.set_cons_succ, List.nil_append, List.cons_append]
            -- op 3: t47 := Op.load 34 (tmp 9)
            refine inv_val (i := 3) (by kernel_rfl) rfl rfl (fun w1 hS hd K hK => ?_) ?_
            · (try dsimp only at hS)
              go_simp
              exact hK.out _ _ (by simp only [Act.put, List.setIfInBounds_toArray, List.set_cons_zero, List.set_cons_succ, List.nil_append, List.cons_append]; rfl) (Below.refl _ _)
            simp only [Act.put, List.setIfInBounds_toArray, List.set_cons_zero, List.set_cons_succ, List.nil_append, List.cons_append]
            -- op 4: t48 := Op.move (tmp 11)
            refine inv_val (i := 4) (by kernel_rfl) rfl rfl (fun w1 hS hd K hK => ?_) ?_
            · (try dsimp only at hS)
              go_simp
              exact hK.out _ _ (by simp only [Act.put, List.setIfInBounds_toArray, List.set_cons_zero, List.set_cons_succ, List.nil_append, List.cons_append]; rfl) (Below.refl _ _)
            simp only [Act.put, List.setIfInBounds_toArray, List.set_cons_zero, List.set_cons_succ, List.nil_append, List.cons_append]
            -- op 5: t49 := Op.call { callee := Callee.value (func 14), args := #[
            refine inv_val (i := 5) (by kernel_rfl) rfl rfl (fun w1 hS hd K hK => ?_) ?_
            · (try dsimp only at hS)
              go_simp
              refine (from_any _ r0 k _ hS.1.2.1.lies N0.out KI.out).mono ?_; rintro e w2 ⟨rfl, hb⟩; rw [← HFE.out]; exact hK.out _ _ (by simp only [Act.put, List.setIfInBounds_toArray, List.set_cons_zero, List.set_cons_succ, List.nil_append, List.cons_append]; rfl) hb
            simp only [Act.put, List.setIfInBounds_toArray, List.set_cons_zero, List.set_cons_succ, List.nil_append, List.cons_append]
            -- op 6: t50 := Op.move (tmp 12)
            refine inv_val (i := 6) (by kernel_rfl) rfl rfl (fun w1 hS hd K hK => ?_) ?_
            · (try dsimp only at hS)
              go_simp
              exact hK.out _ _ (by simp only [Act.put, List.setIfInBounds_toArray, List.set_cons_zero, List.set_cons_succ, List.nil_append, List.cons_append]; rfl) (Below.refl _ _)
            simp only [Act.put, List.setIfInBounds_toArray, List.set_cons_zero, List.set_cons_succ, List.nil_append, List.cons_append]
            -- op 7: t51 := Op.call { callee := Callee.builtin Builtin.max, args := #[tmp 
            refine inv_val (i := 7) (by kernel_rfl) rfl rfl (fun w1 hS hd K hK => ?_) ?_
            · (try dsimp only at hS)
              go_simp
              exact hK.out _ _ (by simp only [Act.put, List.setIfInBounds_toArray, List.set_cons_zero, List.set_cons_succ, List.nil_append, List.cons_append]; rfl) (Below.refl _ _)
            simp only [Act.put, List.setIfInBounds_toArray, List.set_cons_zero, List.set_cons_succ, List.nil_append, List.cons_append]
            -- op 8: t52 := Op.binOp BinOp.neq 3 (tmp 46) (tmp 51) 3
            refine inv_val (i := 8) (by kernel_rfl) rfl rfl (fun w1 hS hd K hK => ?_) ?_
            · (try dsimp only at hS)
              go_simp
              exact hK.out _ _ (by simp only [Act.put, List.setIfInBounds_toArray, List.set_cons_zero, List.set_cons_succ, List.nil_append, List.cons_append]; rfl) (Below.refl _ _)
            simp only [Act.put, List.setIfInBounds_toArray, List.set_cons_zero, List.set_cons_succ, List.nil_append, List.cons_append]
            refine inv_done (by kernel_rfl) (fun w6 hS hd => ?_)
            have HS := Lib.hid hS.1
            clear hS hd c0 c1 c2 c3 d0 d1 d2 d3 p0 p1
            go_wp2
            go_roundw
            case rel => exact ⟨k + 1, by omega, by go_num, Lib.hid HS.out.1, Lib.hid HS.out.2.1, Lib.hid HS.out.2.2.1, Lib.hid HS.out.2.2.2⟩
            case measure => simp [intOf]; omega
        · have hkl : k = l.length := by omega
          subst hkl
          go_wp2_with fail
          obtain ⟨d0, d1, d2, d3⟩ := HY5.out.cells
          obtain ⟨c0, c1, c2, c3⟩ := HX5.out.cells
          have LI := Lib.hid (show I64 (l.length : Int) by unfold I64; omega)
          have MI := Lib.hid (show I64 (-1) by unfold I64; omega)
          refine wp_region_inv (S := (fun w' => (w'.heap[w.heap.size]? = some (.cells #[.string n, .slice pa l.length pc] 24) ∧ RBox w' A a c fa fc r0 ∧ RBox w' B ya yc yfa yfc r ∧ Below w.heap.size w w') ∧ w'.cell? ⟨A, 0, none⟩ = some (.int .i64 r0.now) ∧ w'.cell? ⟨A, 1, none⟩ = some (.string r0.name) ∧ w'.cell? ⟨A, 2, none⟩ = some (.slice a r0.l.length c) ∧ w'.cell? ⟨A, 3, none⟩ = some (.slice fa r0.fl.length fc) ∧ w'.cell? ⟨B, 0, none⟩ = some (.int .i64 r.now) ∧ w'.cell? ⟨B, 1, none⟩ = some (.string r.name) ∧ w'.cell? ⟨B, 2, none⟩ = some (.slice ya r.l.length yc) ∧ w'.cell? ⟨B, 3, none⟩ = some (.slice yfa r.fl.length yfc) ∧ w'.cell? ⟨w.heap.size, 1, none⟩ = some (.slice pa l.length pc))) 24 (Spec.val ?_ :: Spec.val ?_ :: Spec.val ?_ :: (intsS r.all) :: Spec.val ?_ :: Spec.val ?_ :: Spec.val ?_ :: Spec.val ?_ :: Spec.val ?_ :: Spec.val ?_ :: Spec.val ?_ :: Spec.val ?_ :: Spec.val ?_ :: Spec.val ?_ :: Spec.val ?_ :: Spec.val ?_ :: Spec.val ?_ :: Spec.val ?_ :: Spec.val ?_ :: Spec.val ?_ :: Spec.val ?_ :: Spec.val ?_ :: Spec.val ?_ :: Spec.val ?_ :: []) (by kernel_rfl) (by kernel_rfl) rfl (fun w1 w2 h hb => ⟨⟨heap_step h.1.1 hb, h.1.2.1.step hb, h.1.2.2.1.step hb, chain h.1.2.2.2 hb⟩, cell_step h.2.1 hb, cell_step h.2.2.1 hb, cell_step h.2.2.2.1 hb, cell_step h.2.2.2.2.1 hb, cell_step h.2.2.2.2.2.1 hb, cell_step h.2.2.2.2.2.2.1 hb, cell_step h.2.2.2.2.2.2.2.1 hb, cell_step h.2.2.2.2.2.2.2.2.1 hb, cell_step h.2.2.2.2.2.2.2.2.2 hb⟩) (⟨⟨HP5.out, HX5.out.step (Below.refl _ _).drew, HY5.out.step (Below.refl _ _).drew, HB5.out.drew⟩, c0, c1, c2, c3, d0, d1, d2, d3, p1⟩) ?hm3
          case' hm3 => skip
          -- op 0: t53 := Op.call { callee := Callee.value (func 10), args := #[], argTy
          refine inv_val (i := 0) (by kernel_rfl) rfl rfl (fun w1 hS hd K hK => ?_) ?_
          · (try dsimp only at hS)
            go_simp
            refine (alive_any _).mono ?_; rintro e w2 ⟨rfl, hb⟩; exact hK.out _ _ (by simp only [Act.put, List.setIfInBounds_toArray, List.set_cons_zero, List.set_cons_succ, List.nil_append, List.cons_append]; rfl) hb
          simp only [Act.put, List.setIfInBounds_toArray, List.set_cons_zero, List.set_cons_succ, List.nil_append, List.cons_append]
          -- op 1: t54 := Op.move (tmp 53)
          refine inv_val (i := 1) (by kernel_rfl) rfl rfl (fun w1 hS hd K hK => ?_) ?_
          · (try dsimp only at hS)
            go_simp
            exact hK.out _ _ (by simp only [Act.put, List.setIfInBounds_toArray, List.set_cons_zero, List.set_cons_succ, List.nil_append, List.cons_append]; rfl) (Below.refl _ _)
          simp only [Act.put, List.setIfInBounds_toArray, List.set_cons_zero, List.set_cons_succ, List.nil_append, List.cons_append]
          -- op 2: t55 := Op.load 34 (tmp 10)
          refine inv_val (i := 2) (by kernel_rfl) rfl rfl (fun w1 hS hd K hK => ?_) ?_
          · (try dsimp only at hS)
            go_simp
            exact hK.out _ _ (by simp only [Act.put, List.setIfInBounds_toArray, List.set_cons_zero, List.set_cons_succ, List.nil_append, List.cons_append]; rfl) (Below.refl _ _)
          simp only [Act.put, List.setIfInBounds_toArray, List.set_cons_zero, List.set_cons_succ, List.nil_append, List.cons_append]
          -- op 3: t56 := Op.call { callee := Callee.value (func 18), args := #[
          refine inv_rel (i := 3) (by kernel_rfl) rfl rfl (fun w1 hS hd K hK => ?_) (fun v3 => ?_)
          · (try dsimp only at hS)
            go_simp
            refine (all_any _ r _ hS.1.2.2.1.lies N.out HL.out).mono ?_; rintro e w2 ⟨u, rfl, hu, hb⟩; refine hK.out _ _ _ (by simp only [Act.put, List.setIfInBounds_toArray, List.set_cons_zero, List.set_cons_succ, List.nil_append, List.cons_append]; rfl) ?_ hb; exact hu.2
          simp only [Act.put, List.setIfInBounds_toArray, List.set_cons_zero, List.set_cons_succ, List.nil_append, List.cons_append]
          -- op 4: t57 := Op.call { callee := Callee.builtin Builtin.len, args := #[tmp 
          refine inv_val (i := 4) (by kernel_rfl) rfl rfl (fun w1 hS hd K hK => ?_) ?_
          · (try dsimp only at hS)
            go_simp
            obtain ⟨a9, c9, e9, _⟩ := hd.out 3 (by kernel_rfl); rw [HALL.out] at e9; subst e9; go_simp; exact hK.out _ _ (by simp only [Act.put, List.setIfInBounds_toArray, List.set_cons_zero, List.set_cons_succ, List.nil_append, List.cons_append]; rfl) (Below.refl _ _)
          simp only [Act.put, List.setIfInBounds_toArray, List.set_cons_zero, List.set_cons_succ, List.nil_append, List.cons_append]
          -- op 5: t58 := Op.fieldAddr 24 (tmp 4) 1
          refine inv_val (i := 5) (by kernel_rfl) rfl rfl (fun w1 hS hd K hK => ?_) ?_
          · (try dsimp only at hS)
            go_simp
            exact hK.out _ _ (by simp only [Act.put, List.setIfInBounds_toArray, List.set_cons_zero, List.set_cons_succ, List.nil_append, List.cons_append]; rfl) (Below.refl _ _)
          simp only [Act.put, List.setIfInBounds_toArray, List.set_cons_zero, List.set_cons_succ, List.nil_append, List.cons_append]
          -- op 6: t59 := Op.load 22 (tmp 58)
          refine inv_val (i := 6) (by kernel_rfl) rfl rfl (fun w1 hS hd K hK => ?_) ?_
          · (try dsimp only at hS)
            go_simp
            exact hK.out _ _ (by simp only [Act.put, List.setIfInBounds_toArray, List.set_cons_zero, List.set_cons_succ, List.nil_append, List.cons_append]; rfl) (Below.refl _ _)
          simp only [Act.put, List.setIfInBounds_toArray, List.set_cons_zero, List.set_cons_succ, List.nil_append, List.cons_append]
          -- op 7: t60 := Op.call { callee := Callee.builtin Builtin.len, args := #[tmp 
          refine inv_val (i := 7) (by kernel_rfl) rfl rfl (fun w1 hS hd K hK => ?_) ?_
          · (try dsimp only at hS)
            go_simp
            exact hK.out _ _ (by simp only [Act.put, List.setIfInBounds_toArray, List.set_cons_zero, List.set_cons_succ, List.nil_append, List.cons_append]; rfl) (Below.refl _ _)
          simp only [Act.put, List.setIfInBounds_toArray, List.set_cons_zero, List.set_cons_succ, List.nil_append, List.cons_append]
          -- op 8: t61 := Op.binOp BinOp.eql 3 (tmp 57) (tmp 60) 3
          refine inv_val (i := 8) (by kernel_rfl) rfl rfl (fun w1 hS hd K hK => ?_) ?_
          · (try dsimp only at hS)
            go_simp
            exact hK.out _ _ (by simp only [Act.put, List.setIfInBounds_toArray, List.set_cons_zero, List.set_cons_succ, List.nil_append, List.cons_append]; rfl) (Below.refl _ _)
          simp only [Act.put, List.setIfInBounds_toArray, List.set_cons_zero, List.set_cons_succ, List.nil_append, List.cons_append]
          -- op 9: t62 := Op.pick (tmp 54) (tmp 61) (const (Value.bool f
          refine inv_val (i := 9) (by kernel_rfl) rfl rfl (fun w1 hS hd K hK => ?_) ?_
          · (try dsimp only at hS)
            go_simp
            exact hK.out _ _ (by simp only [Act.put, List.setIfInBounds_toArray, List.set_cons_zero, List.set_cons_succ, List.nil_append, List.cons_append]; rfl) (Below.refl _ _)
          simp only [Act.put, List.setIfInBounds_toArray, List.set_cons_zero, List.set_cons_succ, List.nil_append, List.cons_append]
          -- op 10: t63 := Op.move (tmp 62)
          refine inv_val (i := 10) (by kernel_rfl) rfl rfl (fun w1 hS hd K hK => ?_) ?_
          · (try dsimp only at hS)
            go_simp
            exact hK.out _ _ (by simp only [Act.put, List.setIfInBounds_toArray, List.set_cons_zero, List.set_cons_succ, List.nil_append, List.cons_append]; rfl) (Below.refl _ _)
          simp only [Act.put, List.setIfInBounds_toArray, List.set_cons_zero, List.set_cons_succ, List.nil_append, List.cons_append]
          -- op 11: t64 := Op.load 34 (tmp 10)
          refine inv_val (i := 11) (by kernel_rfl) rfl rfl (fun w1 hS hd K hK => ?_) ?_
          · (try dsimp only at hS)
            go_simp
            exact hK.out _ _ (by simp only [Act.put, List.setIfInBounds_toArray, List.set_cons_zero, List.set_cons_succ, List.nil_append, List.cons_append]; rfl) (Below.refl _ _)
          simp only [Act.put, List.setIfInBounds_toArray, List.set_cons_zero, List.set_cons_succ, List.nil_append, List.cons_append]
          -- op 12: t65 := Op.call { callee := Callee.value (func 14), args := #[
          refine inv_val (i := 12) (by kernel_rfl) rfl rfl (fun w1 hS hd K hK => ?_) ?_
          · (try dsimp only at hS)
            go_simp
            refine (from_any _ r (-1) _ hS.1.2.2.1.lies N.out MI.out).mono ?_; rintro e w2 ⟨rfl, hb⟩; rw [HM1.out]; exact hK.out _ _ (by simp only [Act.put, List.setIfInBounds_toArray, List.set_cons_zero, List.set_cons_succ, List.nil_append, List.cons_append]; rfl) hb
          simp only [Act.put, List.setIfInBounds_toArray, List.set_cons_zero, List.set_cons_succ, List.nil_append, List.cons_append]
          -- op 13: t66 := Op.binOp BinOp.eql 3 (tmp 65) (const (Value.int IntKin
          refine inv_val (i := 13) (by kernel_rfl) rfl rfl (fun w1 hS hd K hK => ?_) ?_
          · (try dsimp only at hS)
            go_simp
            exact hK.out _ _ (by simp only [Act.put, List.setIfInBounds_toArray, List.set_cons_zero, List.set_cons_succ, List.nil_append, List.cons_append]; rfl) (Below.refl _ _)
          simp only [Act.put, List.setIfInBounds_toArray, List.set_cons_zero, List.set_cons_succ, List.nil_append, List.cons_append]
          -- op 14: t67 := Op.pick (tmp 63) (tmp 66) (const (Value.bool f
          refine inv_val (i := 14) (by kernel_rfl) rfl rfl (fun w1 hS hd K hK => ?_) ?_
          · (try dsimp only at hS)
            go_simp
            exact hK.out _ _ (by simp only [Act.put, List.setIfInBounds_toArray, List.set_cons_zero, List.set_cons_succ, List.nil_append, List.cons_append]; rfl) (Below.refl _ _)
          simp only [Act.put, List.setIfInBounds_toArray, List.set_cons_zero, List.set_cons_succ, List.nil_append, List.cons_append]
          -- op 15: t68 := Op.move (tmp 67)
          refine inv_val (i := 15) (by kernel_rfl) rfl rfl (fun w1 hS hd K hK => ?_) ?_
          · (try dsimp only at hS)
            go_simp
            exact hK.out _ _ (by simp only [Act.put, List.setIfInBounds_toArray, List.set_cons_zero, List.set_cons_succ, List.nil_append, List.cons_append]; rfl) (Below.refl _ _)
          simp only [Act.put, List.setIfInBounds_toArray, List.set_cons_zero, List.set_cons_succ, List.nil_append, List.cons_append]
          -- op 16: t69 := Op.load 34 (tmp 10)
          refine inv_val (i := 16) (by kernel_rfl) rfl rfl (fun w1 hS hd K hK => ?_) ?_
          · (try dsimp only at hS)
            go_simp
            exact hK.out _ _ (by simp only [Act.put, List.setIfInBounds_toArray, List.set_cons_zero, List.set_cons_succ, List.nil_append, List.cons_append]; rfl) (Below.refl _ _)
          simp only [Act.put, List.setIfInBounds_toArray, List.set_cons_zero, List.set_cons_succ, List.nil_append, List.cons_append]
          -- op 17: t70 := Op.fieldAddr 24 (tmp 4) 1
          refine inv_val (i := 17) (by kernel_rfl) rfl rfl (fun w1 hS hd K hK => ?_) ?_
          · (try dsimp only at hS)
            go_simp
            exact hK.out _ _ (by simp only [Act.put, List.setIfInBounds_toArray, List.set_cons_zero, List.set_cons_succ, List.nil_append, List.cons_append]; rfl) (Below.refl _ _)
          simp only [Act.put, List.setIfInBounds_toArray, List.set_cons_zero, List.set_cons_succ, List.nil_append, List.cons_append]
          -- op 18: t71 := Op.load 22 (tmp 70)
          refine inv_val (i := 18) (by kernel_rfl) rfl rfl (fun w1 hS hd K hK => ?_) ?_
          · (try dsimp only at hS)
            go_simp
            exact hK.out _ _ (by simp only [Act.put, List.setIfInBounds_toArray, List.set_cons_zero, List.set_cons_succ, List.nil_append, List.cons_append]; rfl) (Below.refl _ _)
          simp only [Act.put, List.setIfInBounds_toArray, List.set_cons_zero, List.set_cons_succ, List.nil_append, List.cons_append]
          -- op 19: t72 := Op.call { callee := Callee.builtin Builtin.len, args := #[tmp 
          refine inv_val (i := 19) (by kernel_rfl) rfl rfl (fun w1 hS hd K hK => ?_) ?_
          · (try dsimp only at hS)
            go_simp
            exact hK.out _ _ (by simp only [Act.put, List.setIfInBounds_toArray, List.set_cons_zero, List.set_cons_succ, List.nil_append, List.cons_append]; rfl) (Below.refl _ _)
          simp only [Act.put, List.setIfInBounds_toArray, List.set_cons_zero, List.set_cons_succ, List.nil_append, List.cons_append]
          -- op 20: t73 := Op.call { callee := Callee.value (func 14), args := #[
          refine inv_val (i := 20) (by kernel_rfl) rfl rfl (fun w1 hS hd K hK => ?_) ?_
          · (try dsimp only at hS)
            go_simp
            refine (from_any _ r (l.length : Int) _ hS.1.2.2.1.lies N.out LI.out).mono ?_; rintro e w2 ⟨rfl, hb⟩; rw [HM2.out]; exact hK.out _ _ (by simp only [Act.put, List.setIfInBounds_toArray, List.set_cons_zero, List.set_cons_succ, List.nil_append, List.cons_append]; rfl) hb
          simp only [Act.put, List.setIfInBounds_toArray, List.set_cons_zero, List.set_cons_succ, List.nil_append, List.cons_append]
          -- op 21: t74 := Op.binOp BinOp.eql 3 (tmp 73) (const (Value.int IntKin
          refine inv_val (i := 21) (by kernel_rfl) rfl rfl (fun w1 hS hd K hK => ?_) ?_
          · (try dsimp only at hS)
            go_simp
            exact hK.out _ _ (by simp only [Act.put, List.setIfInBounds_toArray, List.set_cons_zero, List.set_cons_succ, List.nil_append, List.cons_append]; rfl) (Below.refl _ _)
          simp only [Act.put, List.setIfInBounds_toArray, List.set_cons_zero, List.set_cons_succ, List.nil_append, List.cons_append]
          -- op 22: t75 := Op.pick (tmp 68) (tmp 74) (const (Value.bool f
          refine inv_val (i := 22) (by kernel_rfl) rfl rfl (fun w1 hS hd K hK => ?_) ?_
          · (try dsimp only at hS)
            go_simp
            exact hK.out _ _ (by simp only [Act.put, List.setIfInBounds_toArray, List.set_cons_zero, List.set_cons_succ, List.nil_append, List.cons_append]; rfl) (Below.refl _ _)
          simp only [Act.put, List.setIfInBounds_toArray, List.set_cons_zero, List.set_cons_succ, List.nil_append, List.cons_append]
          -- op 23: t8 := Op.assign (tmp 75)
          refine inv_val (i := 23) (by kernel_rfl) rfl rfl (fun w1 hS hd K hK => ?_) ?_
          · (try dsimp only at hS)
            go_simp
            exact hK.out _ _ (by simp only [Act.put, List.setIfInBounds_toArray, List.set_cons_zero, List.set_cons_succ, List.nil_append, List.cons_append]; rfl) (Below.refl _ _)
          simp only [Act.put, List.setIfInBounds_toArray, List.set_cons_zero, List.set_cons_succ, List.nil_append, List.cons_append]
          refine inv_done (by kernel_rfl) (fun w6 hS hd => ?_)
          have HS := Lib.hid hS.1.2.2.2
          clear hS hd c0 c1 c2 c3 d0 d1 d2 d3 p0 p1
          go_wp2
          go_ret
          exact ⟨rfl, HS.out⟩
end Go.Proofs.Ytaenpcglaenlaaa
