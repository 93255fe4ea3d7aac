/-
  One more list of ints is kept.
-/
import Derived.Test.YtaenpcglaenlaaaBookIGrow
import Derived.Test.YtaenpcglaenlaaaRegion
namespace Go.Proofs.Ytaenpcglaenlaaa
open Go.RowKit
set_option linter.unusedVariables false
set_option linter.unusedSimpArgs false
theorem marked_at_i {w : World} {B i m : Nat} {v : Value} (h : OwnL w B 3 1 v m ((List.map (Value.int .i64) (marksI i 0 m)))) (hi : i ≤ 300) (hm : m ≤ 1000000) : IntsAt w v (marksI i 0 m) := ints_of_ownL (B := B) (by rw [marksI_len]; exact h) (marksI_ok i 0 m hi (by omega) hm)
/-- The same book, with the copies that were made when its lists were kept. -/
structure BB_i (w : World) (B p : Nat) (cs : Array Value) (n : Nat) (vs us : Nat → Value) (ls : Nat → List Int) : Prop where
  bk : BK_i w B p cs n vs ls
  size : cs.size = 16
  was : ∃ uv, cs[3]? = some uv ∧ OwnL w B 25 1 uv n ((List.range n).map us) ∧ (∀ i, i < n → OwnL w B 3 1 (us i) (ls i).length ((List.map (Value.int .i64) (ls i)))) ∧ ∀ lv g, cs[2]? = some lv → rowOf lv = some g → rowOf uv ≠ some g
theorem BB_i.below {w w' : World} {B p n : Nat} {cs : Array Value} {vs us : Nat → Value} {ls : Nat → List Int} (h : BB_i w B p cs n vs us ls) (hb : Below w.heap.size w w') : BB_i w' B p cs n vs us ls := by
  obtain ⟨uv, h1, h2, h3, h4⟩ := h.was
  exact ⟨h.bk.below hb, h.size, uv, h1, h2.below hb, fun i hi => (h3 i hi).below hb, h4⟩
/-- Blocks of other types than a book and its rows are as they were. -/
def BStep_i (w w' : World) : Prop := w.heap.size ≤ w'.heap.size ∧ ∀ k, k < w.heap.size → (∀ (cs : Array Value) (fr : Nat × Nat), w.heap[k]? ≠ some (Obj.cells cs 58 fr)) → (∀ (cs : Array Value) (fr : Nat × Nat), w.heap[k]? ≠ some (Obj.cells cs 25 fr)) → w'.heap[k]? = w.heap[k]?
set_option maxRecDepth 100000 in
set_option maxHeartbeats 8000000 in
theorem add_i {w : World} {B p n : Nat} {cs : Array Value} {vs us : Nat → Value} {ls : Nat → List Int} {v : Value} {l : List Int} (h : BB_i w B p cs n vs us ls) (hn : n < 250) (hv : OwnL w B 3 1 v l.length ((List.map (Value.int .i64) (l)))) (hva : ∀ i g, i < n → rowOf (vs i) = some g → rowOf v ≠ some g) (hB : B ≤ p)
    (hl : l.length ≤ 100000) (hok : ∀ x ∈ l, (fun x => -9223372036854775808 ≤ x ∧ x ≤ 9223372036854775807) x) :
    Calls Try.prog 22 #[.pointer (some ⟨p, 0, none⟩), v] w (fun x w' => x = .returned (.tuple #[]) ∧ ∃ lv uv u, BB_i w' B p ((cs.setIfInBounds 2 lv).setIfInBounds 3 uv) (n + 1) (snocF vs n v) (snocF us n u) (snocF ls n l) ∧ (∀ g, rowOf u = some g → w.heap.size ≤ g) ∧ Below B w w' ∧ BStep_i w w') := by
  obtain ⟨j0, hj, jz0, jz1, jz2⟩ := info_parts info_Li
  have H := Lib.hid h
  have HV := Lib.hid hv
  have HVA := Lib.hid hva
  have HOK := Lib.hid hok
  obtain ⟨lv, hlv, hrow⟩ := h.bk.row
  obtain ⟨uv, huv, hur, hus, hua⟩ := h.was
  have hBw := h.bk.base
  have hsz := h.size
  have hua' := hua lv
  obtain ⟨la, lc, rfl⟩ := hrow.form
  obtain ⟨ua, uc, rfl⟩ := hur.form
  obtain ⟨va, vc, rfl⟩ := hv.form
  have hlc := hrow.cap.2
  have c2 := (h.bk.at hlv).1
  have c3 : w.cell? ⟨p, 3, none⟩ = some (.slice ua n uc) := by rw [cell_of_row w p _ _ _ _ h.bk.blk]; exact huv
  have HR := Lib.hid hrow
  have HUR := Lib.hid hur
  have HUS := Lib.hid hus
  have HUA := Lib.hid (fun g => hua' g hlv)
  have HLV := Lib.hid hlv
  have HUV := Lib.hid huv
  clear hua hua' h hrow hur hus hv hva hok hlv huv
  go_enter Try.func22, Try.ntmps22
  go_wp2_with (at_builtin; refine wpList_append_two rfl (.tmp 14) (.tmp 16) 50 rfl B 25 j0 (.slice none 0 0) 1 24 Try.underlying50 hj jz0 jz1 jz2 rfl (by decide) _ n _ rfl (HR.out.below (bel_new w (.cells #[.slice va l.length vc] 25))) ⟨w.heap.size, 0, none⟩ 1 1 [.slice va l.length vc] rfl rfl ?c1 ?c2 (by decide) ?c3 ?c4 ?c5 ?_)
  (try case c1 => exact one_cell _ _ _)
  (try case c2 => simp [Value.oneCell'])
  case c3 => unfold maxLen; omega
  case c4 => omega
  case c5 => first | omega | (simp; omega)
  intro g1 cap1 w1 hown1 hcase hcap1
  have hcase := hcase.out
  have HO1 := Lib.hid (show OwnL w1 B 25 1 (.slice (some ⟨g1, 0, none⟩) (n + 1) cap1) (n + 1) ((List.range (n + 1)).map (snocF vs n (.slice va l.length vc))) by rw [snocF_row]; exact hown1)
  have HB1 := Lib.hid (show Below B w w1 by
    rcases hcase with ⟨e, hg⟩ | ⟨e, hg⟩
    · refine Below.grown (bel_alloc (o := .cells #[.slice va l.length vc] 25) (Below.refl B w) hBw) hg (by simp; omega) (fun k e2 => ?_)
      injection e2 with e2
      subst e2
      exact (HR.out.lt (by rw [e]; exact rowOf_pos hcap1)).1
    · exact Below.grown (bel_alloc (o := .cells #[.slice va l.length vc] 25) (Below.refl B w) hBw) hg (by simp; omega) (fun k e2 => by cases e2))
  have HF1 := Lib.hid (show ∀ k, k < w.heap.size → rowOf (.slice la n lc) ≠ some k → w1.heap[k]? = w.heap[k]? from fun k hk hne => by
    rcases hcase with ⟨e, hg⟩ | ⟨e, hg⟩
    · rw [hg.block k (by simp; omega) (fun e2 => hne (by injection e2 with e2; rw [e2, e]; exact rowOf_pos hcap1)), Below.heap_alloc _ _ _ hk]
    · rw [hg.block k (by simp; omega) (by simp), Below.heap_alloc _ _ _ hk])
  have HG1 := Lib.hid (show rowOf (.slice la n lc) = some g1 ∨ w.heap.size ≤ g1 from by
    rcases hcase with ⟨e, hg⟩ | ⟨e, hg⟩
    · left; rw [e]; exact rowOf_pos hcap1
    · right; rw [e]; simp)
  have HLB := Lib.hid (show rowOf (.slice la n lc) ≠ some p from fun e => by
    obtain ⟨_, _, cur, hc⟩ := HR.out.lt e
    rw [H.out.bk.blk] at hc
    injection hc with hc; injection hc with _ hc; exact absurd hc (by decide))
  have hp1 : w1.heap[p]? = some (.cells cs 58) := (HF1.out p (heap_lt H.out.bk.blk) HLB.out).trans H.out.bk.blk
  have d2 : w1.cell? ⟨p, 2, none⟩ = some (.slice la n lc) := by rw [cell_of_row w1 p _ _ _ _ hp1]; exact HLV.out
  have f2 : w1.frozen? ⟨p, 2, none⟩ = false := frozen_row hp1
  have HP1 := Lib.hid hp1
  clear hown1 hcase c2 c3 hp1
  go_wp2_with fail
  obtain ⟨W2, hW2⟩ : ∃ W, W = w1.setCell ⟨p, 2, none⟩ (.slice (some ⟨g1, 0, none⟩) (n + 1) cap1) := ⟨_, rfl⟩
  rw [← hW2]
  have HP2 := Lib.hid (show W2.heap[p]? = some (.cells (cs.setIfInBounds 2 (.slice (some ⟨g1, 0, none⟩) (n + 1) cap1)) 58) by rw [hW2]; exact set_heap HP1.out _)
  have HF2 := Lib.hid (show ∀ k, k ≠ p → W2.heap[k]? = w1.heap[k]? from fun k hk => by rw [hW2]; exact set_heap_other _ hk)
  have HS2 := Lib.hid (show W2.heap.size = w1.heap.size by rw [hW2]; simp)
  have HB2 := Lib.hid (show Below B w W2 by rw [hW2]; exact bel_set HB1.out hB)
  have hBW : B ≤ W2.heap.size := by have := HB2.out.size; omega
  have c3 : W2.cell? ⟨p, 3, none⟩ = some (.slice ua n uc) := by
    rw [cell_of_row W2 p _ _ _ _ HP2.out, Array.getElem?_setIfInBounds_ne (by decide)]; exact HUV.out
  -- the copies' row, and what is beside it
  have HPU := Lib.hid (show ∀ (T : TypeId) (s m : Nat) (y : Value) (ys : List Value), OwnL w B T s y m ys → (∀ g, rowOf y = some g → rowOf (.slice la n lc) ≠ some g) → T ≠ 58 → OwnL W2 B T s y m ys from fun T s m y ys ho hne hT => ho.frame fun g hg => by
    obtain ⟨_, hlt, cur, hc⟩ := ho.lt hg
    rw [HF2.out g (fun e => by
      subst e
      rw [H.out.bk.blk] at hc
      injection hc with hc; injection hc with _ hc; exact hT hc.symm), HF1.out g hlt (hne g hg)])
  have HTY := Lib.hid (show ∀ (T : TypeId) (s m : Nat) (y : Value) (ys : List Value), OwnL w B T s y m ys → T ≠ 25 → ∀ g, rowOf y = some g → rowOf (.slice la n lc) ≠ some g from fun T s m y ys ho hT g hg e => by
    obtain ⟨_, _, cur, hc⟩ := ho.lt hg
    obtain ⟨_, _, cur2, hc2⟩ := HR.out.lt e
    rw [hc] at hc2
    injection hc2 with hc2; injection hc2 with _ hc2; exact hT hc2)
  have HUR2 := Lib.hid (HPU.out _ _ _ _ _ HUR.out (fun g hg e => HUA.out g e hg) (by decide))
  have HUS2 := Lib.hid (show ∀ i, i < n → OwnL W2 B 3 1 (us i) (ls i).length ((List.map (Value.int .i64) (ls i))) from fun i hi => HPU.out _ _ _ _ _ (HUS.out i hi) (HTY.out _ _ _ _ _ (HUS.out i hi) (by decide)) (by decide))
  have HVS2 := Lib.hid (show ∀ i, i < n → OwnL W2 B 3 1 (vs i) (ls i).length ((List.map (Value.int .i64) (ls i))) from fun i hi => HPU.out _ _ _ _ _ (H.out.bk.fam.own i hi) (HTY.out _ _ _ _ _ (H.out.bk.fam.own i hi) (by decide)) (by decide))
  have HV2 := Lib.hid (HPU.out _ _ _ _ _ HV.out (HTY.out _ _ _ _ _ HV.out (by decide)) (by decide))
  have HO2 := Lib.hid (show OwnL W2 B 25 1 (.slice (some ⟨g1, 0, none⟩) (n + 1) cap1) (n + 1) ((List.range (n + 1)).map (snocF vs n (.slice va l.length vc))) from HO1.out.frame fun g hg => HF2.out g (fun e => by
    subst e
    obtain ⟨_, _, cur, hc⟩ := HO1.out.lt hg
    rw [HP1.out] at hc
    injection hc with hc; injection hc with _ hc; exact absurd hc (by decide)))
  have HC2 := Lib.hid (ints_of_ownL HV2.out HOK.out)
  have huc := HUR.out.cap.2
  clear d2 f2 hW2
  refine wp_region_T (S := (fun w' => w'.cell? ⟨p, 3, none⟩ = some (.slice ua n uc) ∧ Hid (IntsAt w' (.slice va l.length vc) l))) 9 (by kernel_rfl) ?_ (fun hHeld => ?_)
  · (first | exact ⟨c3, Lib.hid HC2.out⟩ | exact ⟨cell_step hHeld.1 hb3, Lib.hid (hHeld.2.out.below hb3)⟩ | exact ⟨cell_step hHeld.1 (bel_new _ _), Lib.hid (hHeld.2.out.below (bel_new _ _))⟩ | exact ⟨D4.out, Lib.hid C4.out⟩)
  -- op 0: Op.move (tmp 0)
  refine wpAnyT_take (i := 0) (v := ?_) rfl (by kernel_rfl) (fun _ _ _ h => h) (Or.inl ⟨by kernel_rfl, fun W hSW => ?_⟩) (by assumption) ?_; rotate_left
  · ((try dsimp only at hSW); go_simp; try (with_reducible rfl))
  simp only [Act.put, List.setIfInBounds_toArray, List.set_cons_zero, List.set_cons_succ]
  -- op 1: Op.move (tmp 0)
  refine wpAnyT_take (i := 1) (v := ?_) rfl (by kernel_rfl) (fun _ _ _ h => h) (Or.inl ⟨by kernel_rfl, fun W hSW => ?_⟩) (by assumption) ?_; rotate_left
  · ((try dsimp only at hSW); go_simp; try (with_reducible rfl))
  simp only [Act.put, List.setIfInBounds_toArray, List.set_cons_zero, List.set_cons_succ]
  -- op 2: Op.nilCheck (tmp 21)
  refine wpAnyT_take (i := 2) (v := ?_) rfl (by kernel_rfl) (fun _ _ _ h => h) (Or.inl ⟨by kernel_rfl, fun W hSW => ?_⟩) (by assumption) ?_; rotate_left
  · ((try dsimp only at hSW); go_simp; try (with_reducible rfl))
  simp only [Act.put, List.setIfInBounds_toArray, List.set_cons_zero, List.set_cons_succ]
  -- op 3: Op.fieldAddr 58 (tmp 22) 3
  refine wpAnyT_take (i := 3) (v := ?_) rfl (by kernel_rfl) (fun _ _ _ h => h) (Or.inl ⟨by kernel_rfl, fun W hSW => ?_⟩) (by assumption) ?_; rotate_left
  · ((try dsimp only at hSW); go_simp; try (with_reducible rfl))
  simp only [Act.put, List.setIfInBounds_toArray, List.set_cons_zero, List.set_cons_succ]
  -- op 4: Op.load 50 (tmp 23)
  refine wpAnyT_take (i := 4) (v := ?_) rfl (by kernel_rfl) (fun _ _ _ h => h) (Or.inl ⟨by kernel_rfl, fun W hSW => ?_⟩) (by assumption) ?_; rotate_left
  · ((try dsimp only at hSW); go_simp; try (with_reducible rfl))
  simp only [Act.put, List.setIfInBounds_toArray, List.set_cons_zero, List.set_cons_succ]
  -- op 5: Op.move (tmp 1)
  refine wpAnyT_take (i := 5) (v := ?_) rfl (by kernel_rfl) (fun _ _ _ h => h) (Or.inl ⟨by kernel_rfl, fun W hSW => ?_⟩) (by assumption) ?_; rotate_left
  · ((try dsimp only at hSW); go_simp; try (with_reducible rfl))
  simp only [Act.put, List.setIfInBounds_toArray, List.set_cons_zero, List.set_cons_succ]
  -- op 6: Op.call { callee := Callee.value (func 40), args := 
  refine wpAnyT_one (i := 6) rfl (by kernel_rfl) (fun K hK => ?_)
  go_simp
  refine (copy_i _ l _ hHeld.2.out (by omega)).mono ?_; rintro e w3 ⟨u, rfl, hu3, hb3⟩; obtain ⟨xa, xc, rfl⟩ := own_form hu3
  refine hK.out _ _ ?_ (fun hHeld2 => ?_)
  · (first | exact ⟨c3, Lib.hid HC2.out⟩ | exact ⟨cell_step hHeld.1 hb3, Lib.hid (hHeld.2.out.below hb3)⟩ | exact ⟨cell_step hHeld.1 (bel_new _ _), Lib.hid (hHeld.2.out.below (bel_new _ _))⟩ | exact ⟨D4.out, Lib.hid C4.out⟩)
  clear hK K hHeld
  have hHeld := hHeld2
  clear hHeld2
  try simp only [Act.put, List.setIfInBounds_toArray, List.set_cons_zero, List.set_cons_succ]
  -- op 7: Op.buildSlice 50 1 #[(0, tmp 26)]
  refine wpAnyT_one (i := 7) rfl (by kernel_rfl) (fun K hK => ?_)
  go_simp
  skip
  refine hK.out _ _ ?_ (fun hHeld2 => ?_)
  · (first | exact ⟨c3, Lib.hid HC2.out⟩ | exact ⟨cell_step hHeld.1 hb3, Lib.hid (hHeld.2.out.below hb3)⟩ | exact ⟨cell_step hHeld.1 (bel_new _ _), Lib.hid (hHeld.2.out.below (bel_new _ _))⟩ | exact ⟨D4.out, Lib.hid C4.out⟩)
  clear hK K hHeld
  have hHeld := hHeld2
  clear hHeld2
  try simp only [Act.put, List.setIfInBounds_toArray, List.set_cons_zero, List.set_cons_succ]
  -- op 8: Op.call { callee := Callee.builtin Builtin.append, args := #
  refine wpAnyT_one (i := 8) rfl (by kernel_rfl) (fun K hK => ?_)
  rw [if_pos (by simp [Region.wanted])]
  obtain ⟨w5, hw5⟩ : ∃ x, x = w3.alloc (.cells #[.slice xa l.length xc] 25) := ⟨_, rfl⟩
  rw [← hw5]
  have HB3 := Lib.hid (show Below W2.heap.size W2 w5 by rw [hw5]; exact bel_alloc ⟨hb3.os, hb3.tape, hb3.output, hb3.size, hb3.block⟩ hb3.size)
  have HU3 := Lib.hid (show OwnL w5 W2.heap.size 3 1 (.slice xa l.length xc) l.length ((List.map (Value.int .i64) (l))) by rw [hw5]; exact OwnL.below (OwnL.of_row hu3) (bel_new _ _))
  have HUR3 := Lib.hid (HUR2.out.below HB3.out)
  have hB3 : B ≤ w5.heap.size := Nat.le_trans hBW HB3.out.size
  have hnew := fun j y h => (show w5.cell? ((⟨w3.heap.size, 0, none⟩ : Addr).add j) = some y by rw [hw5]; exact one_cell w3 (.slice xa l.length xc) 25 j y h)
  refine wp_append_two (.tmp 24) (.tmp 27) 50 rfl B 25 j0 (.slice none 0 0) 1 24 Try.underlying50 hj jz0 jz1 jz2 rfl (by decide) (.slice ua n uc) n _ rfl HUR3.out ⟨w3.heap.size, 0, none⟩ 1 1 [.slice xa l.length xc] rfl rfl hnew (by intro y hy; simp only [List.mem_singleton] at hy; rw [hy]; rfl) (by decide) (by unfold maxLen; omega) (by omega) hB3 (fun g4 cap4 w4 hown4 hcase4 hcap4 => ?_)
  have HO4 := Lib.hid (show OwnL w4 B 25 1 (.slice (some ⟨g4, 0, none⟩) (n + 1) cap4) (n + 1) ((List.range (n + 1)).map (snocF us n (.slice xa l.length xc))) by rw [snocF_row]; exact hown4)
  have HF4 := Lib.hid (show ∀ k, k < w5.heap.size → rowOf (.slice ua n uc) ≠ some k → w4.heap[k]? = w5.heap[k]? from fun k hk hne => by
    rcases hcase4 with ⟨e, hg⟩ | ⟨e, hg⟩
    · exact hg.block k hk (fun e2 => hne (by injection e2 with e2; rw [e2, e]; exact rowOf_pos hcap4))
    · exact hg.block k hk (by simp))
  have HG4 := Lib.hid (show rowOf (.slice ua n uc) = some g4 ∨ w5.heap.size ≤ g4 from by
    rcases hcase4 with ⟨e, hg⟩ | ⟨e, hg⟩
    · left; rw [e]; exact rowOf_pos hcap4
    · right; omega)
  have HB4 := Lib.hid (show Below B w5 w4 by
    rcases hcase4 with ⟨e, hg⟩ | ⟨e, hg⟩
    · refine Below.grown (Below.refl B w5) hg hB3 (fun k e2 => ?_)
      injection e2 with e2
      subst e2
      exact (HUR3.out.lt (by rw [e]; exact rowOf_pos hcap4)).1
    · exact Below.grown (Below.refl B w5) hg hB3 (fun k e2 => by cases e2))
  have HUP := Lib.hid (show ∀ k, rowOf (.slice ua n uc) = some k → k < W2.heap.size ∧ ∃ cur, W2.heap[k]? = some (.cells cur 25 (0, 0)) from fun k hk => (HUR2.out.lt hk).2)
  have hp4 : w4.heap[p]? = some (.cells (cs.setIfInBounds 2 (.slice (some ⟨g1, 0, none⟩) (n + 1) cap1)) 58) := by
    have h3 := heap_step HP2.out HB3.out
    rw [HF4.out p (heap_lt h3) (fun e => by
      obtain ⟨_, cur, hc⟩ := HUP.out p e
      rw [HP2.out] at hc
      injection hc with hc; injection hc with _ hc; exact absurd hc (by decide))]
    exact h3
  have d4 : w4.cell? ⟨p, 3, none⟩ = some (.slice ua n uc) := by
    rw [cell_of_row w4 p _ _ _ _ hp4, Array.getElem?_setIfInBounds_ne (by decide)]; exact HUV.out
  have F4 := Lib.hid (show w4.frozen? ⟨p, 3, none⟩ = false from frozen_row hp4)
  have HP4 := Lib.hid hp4
  have D4 := Lib.hid d4
  have HU4 := Lib.hid (show OwnL w4 B 3 1 (.slice xa l.length xc) l.length ((List.map (Value.int .i64) (l))) from (HU3.out.mono hBW).frame fun g hg => HF4.out g (HU3.out.lt hg).2.1 (fun e => by
    have h1 := (HUP.out g e).1
    have h2 := (HU3.out.lt hg).1
    omega))
  have C4 := Lib.hid (show IntsAt w4 (.slice va l.length vc) l from ints_of_ownL (((HV2.out.below HB3.out).frame fun g hg => HF4.out g ((HV2.out.below HB3.out).lt hg).2.1 (fun e => by
    obtain ⟨_, _, cur, hc⟩ := HV2.out.lt hg
    obtain ⟨_, cur2, hc2⟩ := HUP.out g e
    rw [hc] at hc2
    injection hc2 with hc2; injection hc2 with _ hc2; exact absurd hc2 (by decide)))) HOK.out)
  clear hown4 hcase4 hp4 d4
  refine hK.out _ _ ?_ (fun hHeld2 => ?_)
  · (first | exact ⟨c3, Lib.hid HC2.out⟩ | exact ⟨cell_step hHeld.1 hb3, Lib.hid (hHeld.2.out.below hb3)⟩ | exact ⟨cell_step hHeld.1 (bel_new _ _), Lib.hid (hHeld.2.out.below (bel_new _ _))⟩ | exact ⟨D4.out, Lib.hid C4.out⟩)
  clear hK K hHeld
  have hHeld := hHeld2
  clear hHeld2
  try simp only [Act.put, List.setIfInBounds_toArray, List.set_cons_zero, List.set_cons_succ]
  refine wpAnyT_tail rfl (by kernel_rfl) (by kernel_rfl) ?_
  have d4 := hHeld.1
  have f4 := F4.out
  go_wp2
  go_end0
  have hfin : ∀ k, k < W2.heap.size → rowOf (.slice ua n uc) ≠ some k → k ≠ p → (w4.setCell ⟨p, 3, none⟩ (.slice (some ⟨g4, 0, none⟩) (n + 1) cap4)).heap[k]? = W2.heap[k]? := fun k hk hne hkp => by
    rw [set_heap_other _ hkp, HF4.out k (Nat.lt_of_lt_of_le hk HB3.out.size) hne, HB3.out.block k hk]
  have hkeep : ∀ {T : TypeId} {s m : Nat} {y : Value} {ys : List Value}, OwnL W2 B T s y m ys → (∀ g, rowOf y = some g → rowOf (.slice ua n uc) ≠ some g) → T ≠ 58 → OwnL (w4.setCell ⟨p, 3, none⟩ (.slice (some ⟨g4, 0, none⟩) (n + 1) cap4)) B T s y m ys := fun {T s m y ys} ho hne hT => ho.frame fun g hg => by
    obtain ⟨_, hlt, cur, hc⟩ := ho.lt hg
    exact hfin g hlt (hne g hg) (fun e => by
      subst e
      rw [HP2.out] at hc
      injection hc with hc; injection hc with _ hc; exact hT hc.symm)
  have hE : ∀ {s m : Nat} {y : Value} {ys : List Value}, OwnL W2 B 3 s y m ys → OwnL (w4.setCell ⟨p, 3, none⟩ (.slice (some ⟨g4, 0, none⟩) (n + 1) cap4)) B 3 s y m ys := fun {s m y ys} ho => hkeep ho (fun g hg e => by
    obtain ⟨_, _, cur, hc⟩ := ho.lt hg
    obtain ⟨_, cur2, hc2⟩ := HUP.out g e
    rw [hc] at hc2
    injection hc2 with hc2; injection hc2 with _ hc2; exact absurd hc2 (by decide)) (by decide)
  have hw4 : ∀ {T : TypeId} {s m : Nat} {y : Value} {ys : List Value}, OwnL w4 B T s y m ys → T ≠ 58 → OwnL (w4.setCell ⟨p, 3, none⟩ (.slice (some ⟨g4, 0, none⟩) (n + 1) cap4)) B T s y m ys := fun {T s m y ys} ho hT => ho.frame fun g hg => by
    obtain ⟨_, hlt, cur, hc⟩ := ho.lt hg
    exact set_heap_other _ (fun e => by
      dsimp only at e
      subst e
      rw [HP4.out] at hc
      injection hc with hc; injection hc with _ hc; exact hT hc.symm)
  have hg14 : g1 ≠ g4 := fun e => by
    rcases HG4.out with h | h
    · rw [← e] at h
      rcases HG1.out with h2 | h2
      · exact HUA.out g1 h2 h
      · have := (HUR.out.lt h).2.1; omega
    · have := (HO2.out.lt (rowOf_pos hcap1)).2.1; have := HB3.out.size; omega
  have hu4 := HU4.out
  refine ⟨rfl, .slice (some ⟨g1, 0, none⟩) (n + 1) cap1, .slice (some ⟨g4, 0, none⟩) (n + 1) cap4, .slice xa l.length xc, ⟨⟨set_heap HP4.out _, ⟨.slice (some ⟨g1, 0, none⟩) (n + 1) cap1, ?_, hkeep HO2.out (fun g hg e => ?_) (by decide)⟩, ?_, by omega, fun i hi => ?_, fun i hi => ?_, ?_⟩, by simp [hsz], .slice (some ⟨g4, 0, none⟩) (n + 1) cap4, ?_, hw4 HO4.out (by decide), fun i hi => ?_, fun lv g e1 e2 e3 => ?_⟩, fun g hg => by have := (HU3.out.lt hg).1; have := HB2.out.size; omega, ?_, ?_⟩
  · rw [Array.getElem?_setIfInBounds_ne (by decide), Array.getElem?_setIfInBounds_self, if_pos (by rw [hsz]; decide)]
  · rw [rowOf_pos hcap1] at hg
    injection hg with hg
    subst hg
    rcases HG1.out with h2 | h2
    · exact HUA.out g1 h2 e
    · have := (HUR.out.lt e).2.1; omega
  · refine Fam.snoc (v := .slice va l.length vc) (m := l.length) (zs := (List.map (Value.int .i64) (l))) ⟨fun i hi => hE (HVS2.out i hi), H.out.bk.fam.apart⟩ (hE HV2.out) ⟨snocF_last _ _ _, by rw [snocF_last], by rw [snocF_last]⟩ (fun i hi => ⟨snocF_old _ _ hi, by rw [snocF_old _ _ hi], by rw [snocF_old _ _ hi]⟩) (fun i g hi hg => HVA.out i g hi hg)
  · by_cases hin : i = n
    · subst hin; rw [snocF_last]; exact hl
    · rw [snocF_old _ _ (by omega)]; exact H.out.bk.short i (by omega)
  · by_cases hin : i = n
    · subst hin; rw [snocF_last]; exact HOK.out
    · rw [snocF_old _ _ (by omega)]; exact H.out.bk.ok i (by omega)
  · have := HB3.out.size; have := HB4.out.size; simp; omega
  · rw [Array.getElem?_setIfInBounds_self, if_pos (by simp [hsz])]
  · by_cases hin : i = n
    · subst hin; rw [snocF_last, snocF_last]; exact hw4 hu4 (by decide)
    · rw [snocF_old _ _ (show i < n by omega), snocF_old _ _ (show i < n by omega)]; exact hE (HUS2.out i (by omega))
  · rw [Array.getElem?_setIfInBounds_ne (by decide), Array.getElem?_setIfInBounds_self, if_pos (by rw [hsz]; decide)] at e1
    injection e1 with e1
    rw [← e1, rowOf_pos hcap1] at e2
    rw [rowOf_pos hcap4] at e3
    injection e2 with e2; injection e3 with e3
    exact hg14 (e2.trans e3.symm)
  · exact bel_set ((HB2.out.trans (HB3.out.mono hBW)).trans HB4.out) hB
  · refine ⟨by have := HB2.out.size; have := HB3.out.size; have := HB4.out.size; simp; omega, fun k hk h1 h2 => ?_⟩
    have hkp : k ≠ p := fun e => by subst e; exact h1 _ _ H.out.bk.blk
    rw [hfin k (by have := HB2.out.size; omega) (fun e => by
      obtain ⟨_, _, cur, hc⟩ := HUR.out.lt e
      exact h2 _ _ hc) hkp, HF2.out k hkp, HF1.out k hk (fun e => by
      obtain ⟨_, _, cur, hc⟩ := HR.out.lt e
      exact h2 _ _ hc)]
end Go.Proofs.Ytaenpcglaenlaaa
