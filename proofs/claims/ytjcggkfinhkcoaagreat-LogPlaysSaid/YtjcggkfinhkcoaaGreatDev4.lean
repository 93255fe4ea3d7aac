/-
  The contract of Write of a disk.
-/
import Derived.Test.YtjcggkfinhkcoaaGreatClone
import Derived.Test.YtjcggkfinhkcoaaGreatDev3
import Derived.Test.YtjcggkfinhkcoaaGreatRegion
namespace Go.Proofs.YtjcggkfinhkcoaaGreat
open Go.RowKit
set_option linter.unusedVariables false
set_option linter.unusedSimpArgs false
def DV.put (d : DV) (k : Int) (s : ByteArray) : DV := { d with now := updF d.now k s, waits := d.waits ++ [(k, s)] }
def DV.write (d : DV) (k : Int) (s : ByteArray) : DV × Int :=
  if d.on = false then (d, 14) else if s.size ≠ 256 then (d, 1) else if k < 0 ∨ d.blocks ≤ k then (d, 15)
  else if d.armed = true ∧ d.left ≤ 0 then (d.cut d.keep, 14) else (d.spent.put k s, 0)
theorem cell_grown {w w' : World} {b o : Nat} {v : Value} {r : Option Nat} (h : w.cell? ⟨b, o, none⟩ = some v) (hg : w.grownBy w' r) (hne : some b ≠ r) : w'.cell? ⟨b, o, none⟩ = some v := by
  have hb := World.block_lt_of_cell? w _ h
  have := hg.block b hb hne
  unfold World.cell? at h ⊢
  rw [this]; exact h
theorem two_cells (w : World) (v u : Value) (T : TypeId) : ∀ (j : Nat) (x : Value), [v, u][j]? = some x → (w.alloc (.cells #[v, u] T)).cell? ((⟨w.heap.size, 0, none⟩ : Addr).add j) = some x := by
  intro j x h
  rw [add_at, cell_of_row _ _ _ _ _ _ (heap_alloc_new w _), Nat.zero_add]
  simpa using h
theorem info_write : (Tryz.prog.info? 94).map (fun i => (i.zero, i.size, i.bytes)) = some (some (.agg #[.int .i64 0, .string ByteArray.empty]), 2, 24) := by kernel_rfl
theorem flatW_snoc (l : List (Int × ByteArray)) (k : Int) (s : ByteArray) : flatW (l ++ [(k, s)]) = flatW l ++ [.int .i64 k, .string s] := by simp [flatW]
theorem DV.put_len (d : DV) (k : Int) (s : ByteArray) : (d.put k s).waits.length = d.waits.length + 1 := by simp [DV.put]

/-- Behind a write: the map, and the list of those that wait. -/
theorem DP.wrote {w4 w5 w6 w8 : World} {B p c : Nat} {d : DV} {kv wv v' : Value} {mb lb : Nat} {k : Int} {s : ByteArray} (h : DP w4 B p c d kv wv mb lb) (hk : inI k) (hs : s.size ≤ 9223372036854775807)
    (hm : MapAt w5 mb (c + 1) (updF d.now k s)) (hg5 : w4.grownBy w5 (some mb)) (hb6 : Below w5.heap.size w5 w6) (hg8 : w6.grownBy w8 wv.ownBlock)
    (ho : w8.ownsRow B 94 2 v' (d.put k s).waits.length (flatW (d.put k s).waits)) (hv : ∀ g, v'.ownBlock = some g → wv.ownBlock = some g ∨ w4.heap.size ≤ g) :
    DP (w8.setCell ⟨p, 8, none⟩ v') B p (c + 1) (d.put k s) kv v' mb lb ∧ DStep p w4 (w8.setCell ⟨p, 8, none⟩ v') := by
  obtain ⟨a1, a2, a3, a4⟩ := h.apart
  obtain ⟨n, hn, hl⟩ := h.lasts
  have hwg : ∀ j, wv.ownBlock = some j → j < w4.heap.size := fun j hj => (own_row h.waits hj).2.1
  have s5 := hg5.size
  have s6 := hb6.size
  have s8 := hg8.size
  have same : ∀ j, j < w4.heap.size → j ≠ mb → wv.ownBlock ≠ some j → w8.heap[j]? = w4.heap[j]? := fun j hj h1 h2 => by
    rw [hg8.block j (by omega) (fun e => h2 e.symm), hb6.block j (by omega), hg5.block j hj (fun e => h1 (by injection e))]
  have hp8 := (same p h.lt a1 (fun e => (a3 p e).1 rfl)).trans h.blk
  have hpv : v'.ownBlock ≠ some p := fun e => by
    obtain ⟨_, _, cur, hc⟩ := own_row ho e
    rw [hp8] at hc
    injection hc with hc; injection hc with _ hc; exact absurd hc (by decide)
  have hmb : w8.heap[mb]? = w5.heap[mb]? := by
    have := h.now.lt
    rw [hg8.block mb (by omega) (fun e => (a3 mb e.symm).2.1 rfl), hb6.block mb (by omega)]
  have fr : ∀ j, j ≠ p → (w8.setCell ⟨p, 8, none⟩ v').heap[j]? = w8.heap[j]? := fun j hj => set_heap_other _ hj
  have hDP : DP (w8.setCell ⟨p, 8, none⟩ v') B p (c + 1) (d.put k s) kv v' mb lb := by
    refine ⟨by rw [set_heap hp8]; rfl, h.keep.step (by simp; omega) (fun b o s' m c' e hne => ?_), hm.step ((fr mb a1.symm).trans hmb), ⟨n, by rw [DV.put_len]; omega, hl.step ?_⟩, own_frame ho (fun g hg => fr g (fun e => hpv (e ▸ hg))), h.ne, h.ge, ⟨h.ok.1, h.ok.2.1, h.ok.2.2.1, ?_⟩⟩
    · obtain ⟨b1, b2, b3, b4⟩ := a4 b o s' m c' e hne
      obtain ⟨cs, frz, h6⟩ := h.keep.2 b o s' m c' e hne
      rw [fr b b1, same b (heap_lt h6) b2 b4]
    · rw [fr lb a2.symm, same lb hl.lt h.ne.symm (fun e => (a3 lb e).2.2 rfl)]
    · intro x hx
      simp only [DV.put, List.mem_append, List.mem_singleton] at hx
      rcases hx with hx | rfl
      · exact h.ok.2.2.2 x hx
      · exact ⟨hk, hs⟩
  refine ⟨hDP, h.dstep hDP ?_ ?_ ?_ (by simp; omega) (fun j hj h1 h2 h3 h4 => by rw [fr j h1, same j hj h2 h4]) (.inl rfl) (.inl rfl) hv⟩
  · exact hg8.os.trans (hb6.os.trans hg5.os)
  · exact hg8.tape.trans (hb6.tape.trans hg5.tape)
  · exact hg8.output.trans (hb6.output.trans hg5.output)

section
variable {w : World} {B p c : Nat} {d : DV}
set_option maxRecDepth 100000 in
set_option maxHeartbeats 4000000 in
theorem write_put (at_ : Int) (data : ByteArray) (h : DiskAt w B p c d) (hc : c + 1 ≤ 1000000) (ha : I64 at_) (hw : 0 ≤ d.writes ∧ d.writes ≤ 1000000000000)
    (g0 : d.on = true) (g1 : data.size = 256) (g2 : 0 ≤ at_ ∧ at_ < d.blocks) (g3 : d.armed = true → 0 < d.left) :
    Calls Tryz.prog 64 #[.pointer (some ⟨p, 0, none⟩), .int .i64 at_, .string data] w (RetD w B p (c + 1) (d.spent.put at_ data) (.int .i64 0)) := by
  obtain ⟨i0, hi, hz0, hz1, hz2⟩ := info_parts info_write
  have HD := Lib.hid h
  have HA := Lib.hid ha
  have G0 := Lib.hid g0
  have G3 := Lib.hid g3
  have hsz : (data.size : Int) = 256 := by omega
  have hbI : I64 d.blocks := by obtain ⟨kv, wv, mb, lb, h⟩ := h; exact h.ok.2.2.1
  have HW := Lib.hid hw
  have hz3 : data.size ≤ 281474976710656 := by omega
  have HZ3 := Lib.hid hz3
  unfold I64 at ha hbI
  clear h g0 g3 g1 hz3 hw
  go_enter Tryz.func64, Tryz.ntmps64
  go_wp2_with fail
  refine (off_any HD.out).mono ?_
  rintro e w1 ⟨rfl, hb⟩
  rw [G0.out]
  have HD1 := Lib.hid (HD.out.step hb)
  have HS1 := Lib.hid (HD.out.dstep hb)
  clear hb
  obtain ⟨kv, wv, mb, lb, h1⟩ := HD1.out
  obtain ⟨c0, c1, c2, c3, c4, c5, c6, c7, c8⟩ := row9 h1.blk
  clear h1
  go_wp2_with fail
  refine (goes_no HD1.out HW.out G3.out).mono ?_
  rintro e w2 ⟨rfl, hd2, hs2⟩
  have HD2 := Lib.hid hd2
  have HS2 := Lib.hid (HS1.out.trans hs2)
  clear hd2 hs2 c0 c1 c2 c3 c4 c5 c6 c7 c8
  go_wp2_with fail
  refine (clone_any data _ HZ3.out).mono ?_
  rintro e w3 ⟨rfl, hb⟩
  obtain ⟨d1, hd1⟩ : ∃ d1, d1 = d.spent := ⟨_, rfl⟩
  have HE := Lib.hid hd1
  obtain ⟨kv, wv, mb, lb, h3⟩ : DiskAt w3 B p c d1 := by rw [hd1]; exact HD2.out.step hb
  have HNT := Lib.hid (show ∀ g, wv.ownBlock = some g → g ≠ w3.heap.size from fun g hg => by have := (own_row h3.waits hg).2.1; omega)
  have HD3 := Lib.hid (h3.step (bel_new w3 (.cells #[.int .i64 at_, .string data] 94)))
  have HS3 := Lib.hid (HS2.out.trans (HD2.out.dstep (chain hb (bel_new w3 (.cells #[.int .i64 at_, .string data] 94)))))
  have HT3 := Lib.hid (show (w3.alloc (.cells #[.int .i64 at_, .string data] 94)).heap[w3.heap.size]? = some (.cells #[.int .i64 at_, .string data] 94) from heap_new_at rfl)
  clear hb hd1 h3
  go_wp2_with fail
  obtain ⟨tb, htb⟩ : ∃ tb, tb = w3.heap.size := ⟨_, rfl⟩
  rw [← htb] at HT3 HNT ⊢
  obtain ⟨w4, hw4⟩ : ∃ w4, w4 = w3.alloc (.cells #[.int .i64 at_, .string data] 94) := ⟨_, rfl⟩
  rw [← hw4] at HT3 HD3 HS3 ⊢
  have HS4 := HS3
  have HT4 := HT3
  have H4 := HD3
  clear hw4 htb HT3 HS3 HD3
  obtain ⟨c0, c1, c2, c3, c4, c5, c6, c7, c8⟩ := row9 H4.out.blk
  obtain ⟨t0, t1⟩ : w4.cell? ⟨tb, 0, none⟩ = some (.int .i64 at_) ∧ w4.cell? ⟨tb, 1, none⟩ = some (.string data) := by
    constructor <;> (rw [cell_of_row w4 tb _ _ _ _ HT4.out]; rfl)
  refine wp_region_inv (R := Blw) (S := (fun w' => (DP w' B p c d1 kv wv mb lb ∧ DStep p w w' ∧ w'.heap[tb]? = some (.cells #[.int .i64 at_, .string data] 94)) ∧ w'.cell? ⟨p, 6, none⟩ = some (.map (some mb)) ∧ w'.cell? ⟨tb, 1, none⟩ = some (.string data))) 7 (Spec.val ?_ :: Spec.val ?_ :: Spec.val ?_ :: Spec.val ?_ :: Spec.val ?_ :: Spec.val ?_ :: Spec.val ?_ :: []) (by kernel_rfl) (by kernel_rfl) rfl (fun w1 w2 h hb => ⟨⟨h.1.1.step hb, h.1.2.1.trans (DStep.of_below hb h.1.1.lt), heap_step h.1.2.2 hb⟩, cell_step h.2.1 hb, cell_step h.2.2 hb⟩) (⟨⟨H4.out.step (Below.refl _ _).drew, HS4.out.trans (DStep.of_below (Below.refl _ _).drew H4.out.lt), HT4.out⟩, c6, t1⟩) ?hm2
  case' hm2 => skip
  refine inv_val (i := 0) (by kernel_rfl) rfl rfl (fun w1 hS hd K hK => ?_) ?_
  · (try dsimp only at hS); go_simp; exact hK.out _ _ (by simp only [Act.put, List.setIfInBounds_toArray, List.set_cons_zero, List.set_cons_succ, List.nil_append, List.cons_append]; rfl) (Below.refl _ _)
  simp only [Act.put, List.setIfInBounds_toArray, List.set_cons_zero, List.set_cons_succ, List.nil_append, List.cons_append]
  refine inv_val (i := 1) (by kernel_rfl) rfl rfl (fun w1 hS hd K hK => ?_) ?_
  · (try dsimp only at hS); go_simp; exact hK.out _ _ (by simp only [Act.put, List.setIfInBounds_toArray, List.set_cons_zero, List.set_cons_succ, List.nil_append, List.cons_append]; rfl) (Below.refl _ _)
  simp only [Act.put, List.setIfInBounds_toArray, List.set_cons_zero, List.set_cons_succ, List.nil_append, List.cons_append]
  refine inv_val (i := 2) (by kernel_rfl) rfl rfl (fun w1 hS hd K hK => ?_) ?_
  · (try dsimp only at hS); go_simp; exact hK.out _ _ (by simp only [Act.put, List.setIfInBounds_toArray, List.set_cons_zero, List.set_cons_succ, List.nil_append, List.cons_append]; rfl) (Below.refl _ _)
  simp only [Act.put, List.setIfInBounds_toArray, List.set_cons_zero, List.set_cons_succ, List.nil_append, List.cons_append]
  refine inv_val (i := 3) (by kernel_rfl) rfl rfl (fun w1 hS hd K hK => ?_) ?_
  · (try dsimp only at hS); go_simp; exact hK.out _ _ (by simp only [Act.put, List.setIfInBounds_toArray, List.set_cons_zero, List.set_cons_succ, List.nil_append, List.cons_append]; rfl) (Below.refl _ _)
  simp only [Act.put, List.setIfInBounds_toArray, List.set_cons_zero, List.set_cons_succ, List.nil_append, List.cons_append]
  refine inv_val (i := 4) (by kernel_rfl) rfl rfl (fun w1 hS hd K hK => ?_) ?_
  · (try dsimp only at hS); go_simp; exact hK.out _ _ (by simp only [Act.put, List.setIfInBounds_toArray, List.set_cons_zero, List.set_cons_succ, List.nil_append, List.cons_append]; rfl) (Below.refl _ _)
  simp only [Act.put, List.setIfInBounds_toArray, List.set_cons_zero, List.set_cons_succ, List.nil_append, List.cons_append]
  refine inv_val (i := 5) (by kernel_rfl) rfl rfl (fun w1 hS hd K hK => ?_) ?_
  · (try dsimp only at hS); go_simp; exact hK.out _ _ (by simp only [Act.put, List.setIfInBounds_toArray, List.set_cons_zero, List.set_cons_succ, List.nil_append, List.cons_append]; rfl) (Below.refl _ _)
  simp only [Act.put, List.setIfInBounds_toArray, List.set_cons_zero, List.set_cons_succ, List.nil_append, List.cons_append]
  refine inv_val (i := 6) (by kernel_rfl) rfl rfl (fun w1 hS hd K hK => ?_) ?_
  · (try dsimp only at hS); go_simp; exact hK.out _ _ (by simp only [Act.put, List.setIfInBounds_toArray, List.set_cons_zero, List.set_cons_succ, List.nil_append, List.cons_append]; rfl) (Below.refl _ _)
  simp only [Act.put, List.setIfInBounds_toArray, List.set_cons_zero, List.set_cons_succ, List.nil_append, List.cons_append]
  refine inv_tail1 (by kernel_rfl) rfl (fun w5 hS hd => ?_)
  have H5 := Lib.hid (And.intro hS.1.1 (And.intro trivial hS.1.2.2))
  have HS5 := hS.1.2.1
  clear hS hd c0 c1 c2 c3 c4 c5 c6 c7 c8 t0 t1 H4 HS4 HT4
  refine wpList_put rfl (.tmp 45) (.tmp 46) (.tmp 48) rfl mb c _ at_ data rfl rfl rfl H5.out.1.now (by omega) (inI_of HA.out) (by have := HZ3.out; omega) ?_
  intro w6 hm6 hg6
  have HM6 := hm6
  have HG6 := hg6
  have hp6 : w6.heap[p]? = w5.heap[p]? := hg6.out.block p H5.out.1.lt (fun e => H5.out.1.apart.1 (by injection e))
  have hrow6 := hp6.trans H5.out.1.blk
  have HR6 := Lib.hid hrow6
  have hmbt : mb ≠ tb := fun e => by
    obtain ⟨es, ck, hl⟩ := H5.out.1.now.map
    have := H5.out.2.2; rw [← e, hl] at this; cases this
  have ht6 : w6.heap[tb]? = some (.cells #[.int .i64 at_, .string data] 94) := (hg6.out.block tb (heap_lt H5.out.2.2) (fun e => hmbt (by injection e with e; exact e.symm))).trans H5.out.2.2
  have HW6 := Lib.hid (own_frame H5.out.1.waits (fun g hg => hg6.out.block g (own_row H5.out.1.waits hg).2.1 (fun e => (H5.out.1.apart.2.2.1 g hg).2.1 (by injection e))))
  have HWL := Lib.hid (show d1.waits.length ≤ 1000000 by obtain ⟨n, hn, _⟩ := H5.out.1.lasts; omega)
  have HBS := Lib.hid (show B ≤ (w6.alloc (.cells #[.int .i64 at_, .string data] 94)).heap.size by have := H5.out.1.ge.1; have := H5.out.1.lt; have := hg6.out.size; simp; omega)
  have hnp : some p ≠ wv.ownBlock := fun e => (H5.out.1.apart.2.2.1 p e.symm).1 rfl
  have hnt : some tb ≠ wv.ownBlock := fun e => HNT.out tb e.symm rfl
  obtain ⟨c0, c1, c2, c3, c4, c5, c6, c7, c8⟩ := row9 hrow6
  obtain ⟨t0, t1⟩ : w6.cell? ⟨tb, 0, none⟩ = some (.int .i64 at_) ∧ w6.cell? ⟨tb, 1, none⟩ = some (.string data) := by
    constructor <;> (rw [cell_of_row w6 tb _ _ _ _ ht6]; rfl)
  have f8 := (free9 hrow6).2.2.2.2.2.2.2.2
  clear hm6 hg6 hp6 hrow6 hmbt ht6
  go_wp2_with fail
  refine wp_region_T (S := (fun w' => w'.cell? ⟨p, 8, none⟩ = some wv ∧ w'.cell? ⟨tb, 0, none⟩ = some (.int .i64 at_) ∧ w'.cell? ⟨tb, 1, none⟩ = some (.string data))) 10 (by kernel_rfl) ?_ (fun hHeld => ?_)
  · (first | exact ⟨c8, t0, t1⟩ | exact ⟨cell_step hHeld.1 (bel_new _ _), cell_step hHeld.2.1 (bel_new _ _), cell_step hHeld.2.2 (bel_new _ _)⟩ | exact ⟨cell_grown hHeld.1 hg8 hnp, cell_grown hHeld.2.1 hg8 hnt, cell_grown hHeld.2.2 hg8 hnt⟩)
  -- op 0: Op.move (tmp 0)
  refine wpAnyT_take (i := 0) (v := ?_) rfl (by kernel_rfl) (fun _ _ _ h => h) (Or.inl ⟨by kernel_rfl, fun W hSW => ?_⟩) (by assumption) ?_; rotate_left
  · ((try dsimp only at hSW); go_simp; try (with_reducible rfl))
  simp only [Act.put, List.setIfInBounds_toArray, List.set_cons_zero, List.set_cons_succ]
  -- op 1: Op.move (tmp 0)
  refine wpAnyT_take (i := 1) (v := ?_) rfl (by kernel_rfl) (fun _ _ _ h => h) (Or.inl ⟨by kernel_rfl, fun W hSW => ?_⟩) (by assumption) ?_; rotate_left
  · ((try dsimp only at hSW); go_simp; try (with_reducible rfl))
  simp only [Act.put, List.setIfInBounds_toArray, List.set_cons_zero, List.set_cons_succ]
  -- op 2: Op.nilCheck (tmp 50)
  refine wpAnyT_take (i := 2) (v := ?_) rfl (by kernel_rfl) (fun _ _ _ h => h) (Or.inl ⟨by kernel_rfl, fun W hSW => ?_⟩) (by assumption) ?_; rotate_left
  · ((try dsimp only at hSW); go_simp; try (with_reducible rfl))
  simp only [Act.put, List.setIfInBounds_toArray, List.set_cons_zero, List.set_cons_succ]
  -- op 3: Op.fieldAddr 64 (tmp 51) 4
  refine wpAnyT_take (i := 3) (v := ?_) rfl (by kernel_rfl) (fun _ _ _ h => h) (Or.inl ⟨by kernel_rfl, fun W hSW => ?_⟩) (by assumption) ?_; rotate_left
  · ((try dsimp only at hSW); go_simp; try (with_reducible rfl))
  simp only [Act.put, List.setIfInBounds_toArray, List.set_cons_zero, List.set_cons_succ]
  -- op 4: Op.load 62 (tmp 52)
  refine wpAnyT_take (i := 4) (v := ?_) rfl (by kernel_rfl) (fun _ _ _ h => h) (Or.inl ⟨by kernel_rfl, fun W hSW => ?_⟩) (by assumption) ?_; rotate_left
  · ((try dsimp only at hSW); go_simp; try (with_reducible rfl))
  simp only [Act.put, List.setIfInBounds_toArray, List.set_cons_zero, List.set_cons_succ]
  -- op 5: Op.load 94 (tmp 7)
  refine wpAnyT_take (i := 5) (v := ?_) rfl (by kernel_rfl) (fun _ _ _ h => h) (Or.inl ⟨by kernel_rfl, fun W hSW => ?_⟩) (by assumption) ?_; rotate_left
  · ((try dsimp only at hSW); go_simp; try (with_reducible rfl))
  simp only [Act.put, List.setIfInBounds_toArray, List.set_cons_zero, List.set_cons_succ]
  -- op 6: Op.buildSlice 62 1 #[(0, tmp 54)]
  refine wpAnyT_one (i := 6) rfl (by kernel_rfl) (fun K hK => ?_)
  go_simp
  skip
  refine hK.out _ _ ?_ (fun hHeld2 => ?_)
  · (first | exact ⟨c8, t0, t1⟩ | exact ⟨cell_step hHeld.1 (bel_new _ _), cell_step hHeld.2.1 (bel_new _ _), cell_step hHeld.2.2 (bel_new _ _)⟩ | exact ⟨cell_grown hHeld.1 hg8 hnp, cell_grown hHeld.2.1 hg8 hnt, cell_grown hHeld.2.2 hg8 hnt⟩)
  clear hK K hHeld
  have hHeld := hHeld2
  clear hHeld2
  try simp only [Act.put, List.setIfInBounds_toArray, List.set_cons_zero, List.set_cons_succ]
  -- op 7: Op.call { callee := Callee.builtin Builtin.append, args := #
  refine wpAnyT_one (i := 7) rfl (by kernel_rfl) (fun K hK => ?_)
  refine step_append_lies _ rfl (.tmp 53) (.tmp 55) 62 rfl B 94 i0 (.agg #[.int .i64 0, .string ByteArray.empty]) 2 24 Tryz.underlying62 hi hz0 hz1 hz2 rfl (by decide) wv d1.waits.length (flatW d1.waits) rfl (HW6.out.alloc _) ⟨w6.heap.size, 0, none⟩ 1 1 [.int .i64 at_, .string data] rfl rfl (two_cells _ _ _ _) (by intro u hu; simp at hu; rcases hu with rfl | rfl <;> rfl) (by decide) (by have := HWL.out; unfold maxLen; omega) (by have := HWL.out; omega) HBS.out (w6.heap.size + 1) (by simp) ?_; intro g8 cap8 w8 hown8 hg8 hor8 hlt8; (try simp only [Nat.zero_add, List.nil_append] at hown8)
  refine hK.out _ _ ?_ (fun hHeld2 => ?_)
  · (first | exact ⟨c8, t0, t1⟩ | exact ⟨cell_step hHeld.1 (bel_new _ _), cell_step hHeld.2.1 (bel_new _ _), cell_step hHeld.2.2 (bel_new _ _)⟩ | exact ⟨cell_grown hHeld.1 hg8 hnp, cell_grown hHeld.2.1 hg8 hnt, cell_grown hHeld.2.2 hg8 hnt⟩)
  clear hK K hHeld
  have hHeld := hHeld2
  clear hHeld2
  try simp only [Act.put, List.setIfInBounds_toArray, List.set_cons_zero, List.set_cons_succ]
  -- op 8: Op.nilCheck (tmp 49)
  refine wpAnyT_take (i := 8) (v := ?_) rfl (by kernel_rfl) (fun _ _ _ h => h) (Or.inl ⟨by kernel_rfl, fun W hSW => ?_⟩) (by assumption) ?_; rotate_left
  · ((try dsimp only at hSW); go_simp; try (with_reducible rfl))
  simp only [Act.put, List.setIfInBounds_toArray, List.set_cons_zero, List.set_cons_succ]
  -- op 9: Op.fieldAddr 64 (tmp 57) 4
  refine wpAnyT_take (i := 9) (v := ?_) rfl (by kernel_rfl) (fun _ _ _ h => h) (Or.inl ⟨by kernel_rfl, fun W hSW => ?_⟩) (by assumption) ?_; rotate_left
  · ((try dsimp only at hSW); go_simp; try (with_reducible rfl))
  simp only [Act.put, List.setIfInBounds_toArray, List.set_cons_zero, List.set_cons_succ]
  refine wpAnyT_tail rfl (by kernel_rfl) (by kernel_rfl) ?_
  have hrow8 := (hg8.block p (by have := heap_lt HR6.out; simp; omega) hnp).trans (heap_step (heap_step HR6.out (Below.refl _ _).drew) (bel_new w6.drew (.cells #[.int .i64 at_, .string data] 94)))
  have HG8 := Lib.hid hg8
  have HO8 := Lib.hid hown8
  have HOR := Lib.hid hor8
  have f8' := (free9 hrow8).2.2.2.2.2.2.2.2
  have c8' := hHeld.1
  clear hHeld hg8 hown8 hor8 hlt8 c0 c1 c2 c3 c4 c5 c6 c7 c8 t0 t1 f8 hrow8 hnp hnt
  go_wp2
  go_ret
  have hX := DP.wrote (v' := .slice (some ⟨g8, 0, none⟩) (d1.waits.length + 1) cap8) H5.out.1 (inI_of HA.out) (by have := HZ3.out; omega) HM6.out HG6.out (chain (Below.refl _ _).drew (bel_new w6.drew (.cells #[.int .i64 at_, .string data] 94))) HG8.out
    (by rw [DV.put_len, show (d1.put at_ data).waits = d1.waits ++ [(at_, data)] from rfl, flatW_snoc]; exact HO8.out)
    (fun g hg => by
      have hgg : g8 = g := by simpa [Value.ownBlock] using hg
      rcases HOR.out with h | h
      · exact .inl (by rw [h, hgg])
      · right; have := HG6.out.size; omega)
  rw [← HE.out]
  exact ⟨rfl, ⟨_, _, _, _, hX.1⟩, (HS5.trans hX.2)⟩
theorem ret_mono {w w' : World} {B p c c' : Nat} {d : DV} {v : Value} {e : Ending} (h : RetD w B p c d v e w') (hc : c ≤ c') : RetD w B p c' d v e w' := ⟨h.1, h.2.1.mono hc, h.2.2⟩
set_option maxRecDepth 100000 in
set_option maxHeartbeats 4000000 in
theorem write_any (at_ : Int) (data : ByteArray) (h : DiskAt w B p c d) (hc : c + 1 ≤ 1000000) (ha : I64 at_) (hw : 0 ≤ d.writes ∧ d.writes ≤ 1000000000000) (hz : data.size ≤ 9223372036854775807) :
    Calls Tryz.prog 64 #[.pointer (some ⟨p, 0, none⟩), .int .i64 at_, .string data] w (RetD w B p (c + 1) (d.write at_ data).1 (.int .i64 (d.write at_ data).2)) := by
  by_cases g0 : d.on = false
  · rw [show d.write at_ data = (d, 14) from if_pos g0]
    have HD := Lib.hid h
    have G0 := Lib.hid g0
    clear h g0
    go_enter Tryz.func64, Tryz.ntmps64
    go_wp2_with fail
    refine (off_any HD.out).mono ?_
    rintro e w1 ⟨rfl, hb⟩
    rw [G0.out]
    go_wp2
    go_ret
    exact ⟨rfl, (HD.out.step hb).mono (by omega), HD.out.dstep hb⟩
  · have g0' : d.on = true := by simpa using g0
    by_cases g1 : data.size = 256
    · by_cases g2 : 0 ≤ at_ ∧ at_ < d.blocks
      · by_cases g3 : d.armed = true ∧ d.left ≤ 0
        · rw [show d.write at_ data = (d.cut d.keep, 14) by unfold DV.write; rw [if_neg g0, if_neg (by simpa using g1), if_neg (by omega), if_pos g3]]
          have HD := Lib.hid h
          have G0 := Lib.hid g0'
          have G3 := Lib.hid g3
          have hsz : (data.size : Int) = 256 := by omega
          have hbI : I64 d.blocks := by obtain ⟨kv, wv, mb, lb, h⟩ := h; exact h.ok.2.2.1
          unfold I64 at ha hbI
          clear h g0 g0' g3 g1 hw
          go_enter Tryz.func64, Tryz.ntmps64
          go_wp2_with fail
          refine (off_any HD.out).mono ?_
          rintro e w1 ⟨rfl, hb⟩
          rw [G0.out]
          have HD1 := Lib.hid (HD.out.step hb)
          have HS1 := Lib.hid (HD.out.dstep hb)
          clear hb
          obtain ⟨kv, wv, mb, lb, h1⟩ := HD1.out
          obtain ⟨c0, c1, c2, c3, c4, c5, c6, c7, c8⟩ := row9 h1.blk
          clear h1
          go_wp2_with fail
          refine (goes_yes HD1.out G3.out.1 G3.out.2).mono ?_
          rintro e w2 ⟨rfl, hb⟩
          have HD2 := Lib.hid (HD1.out.step hb)
          have HS2 := Lib.hid (HS1.out.trans (HD1.out.dstep hb))
          clear hb c0 c1 c2 c3 c4 c5 c6 c7 c8
          obtain ⟨kv, wv, mb, lb, h2⟩ := HD2.out
          have HKO := Lib.hid h2.keep_out
          obtain ⟨c0, c1, c2, c3, c4, c5, c6, c7, c8⟩ := row9 h2.blk
          clear h2
          go_wp2_with fail
          refine (cut_any _ _ HD2.out HKO.out (by omega)).mono ?_
          rintro e w3 ⟨rfl, hd3, hs3⟩
          have HD3 := Lib.hid hd3
          have HS3 := Lib.hid (HS2.out.trans hs3)
          clear hd3 hs3 c0 c1 c2 c3 c4 c5 c6 c7 c8
          go_wp2
          go_ret
          exact ⟨rfl, HD3.out.mono (by omega), HS3.out⟩
        · rw [show d.write at_ data = (d.spent.put at_ data, 0) by unfold DV.write; rw [if_neg g0, if_neg (by simpa using g1), if_neg (by omega), if_neg g3]]
          exact write_put at_ data h hc ha hw g0' g1 g2 (fun hh => by
            by_cases hl : 0 < d.left
            · exact hl
            · exact absurd ⟨hh, by omega⟩ g3)
      · rw [show d.write at_ data = (d, 15) by unfold DV.write; rw [if_neg g0, if_neg (by simpa using g1), if_pos (by omega)]]
        have HD := Lib.hid h
        have G0 := Lib.hid g0'
        have hsz : (data.size : Int) = 256 := by omega
        have hbI : I64 d.blocks := by obtain ⟨kv, wv, mb, lb, h⟩ := h; exact h.ok.2.2.1
        unfold I64 at ha hbI
        clear h g0 g0' g1 hw
        by_cases g4 : at_ < 0
        all_goals
          (try (have g5 : d.blocks ≤ at_ := by omega))
          clear g2
          go_enter Tryz.func64, Tryz.ntmps64
          go_wp2_with fail
          refine (off_any HD.out).mono ?_
          rintro e w1 ⟨rfl, hb⟩
          rw [G0.out]
          have HD1 := Lib.hid (HD.out.step hb)
          have HS1 := Lib.hid (HD.out.dstep hb)
          clear hb
          obtain ⟨kv, wv, mb, lb, h1⟩ := HD1.out
          obtain ⟨c0, c1, c2, c3, c4, c5, c6, c7, c8⟩ := row9 h1.blk
          clear h1
          go_wp2
          go_ret
          exact ⟨rfl, HD1.out.mono (by omega), HS1.out⟩
    · rw [show d.write at_ data = (d, 1) by unfold DV.write; rw [if_neg g0, if_pos g1]]
      have HD := Lib.hid h
      have G0 := Lib.hid g0'
      have hsz : ((data.size : Int) != 256) = true := by simp; omega
      clear h g0 g0' g1
      go_enter Tryz.func64, Tryz.ntmps64
      go_wp2_with fail
      refine (off_any HD.out).mono ?_
      rintro e w1 ⟨rfl, hb⟩
      rw [G0.out]
      go_wp2
      go_ret
      exact ⟨rfl, (HD.out.step hb).mono (by omega), HD.out.dstep hb⟩
end
end Go.Proofs.YtjcggkfinhkcoaaGreat
