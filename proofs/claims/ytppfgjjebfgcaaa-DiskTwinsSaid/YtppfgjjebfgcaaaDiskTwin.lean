/-
  The contract of Twin of a disk.
-/
import Derived.Test.YtppfgjjebfgcaaaDev5
import Derived.Test.YtppfgjjebfgcaaaInv
namespace Go.Proofs.Ytppfgjjebfgcaaa
open Go.RowKit
set_option linter.unusedVariables false
set_option linter.unusedSimpArgs false

section
variable {R : World → World → Prop} {P : Program} {ops : Array Oper} {Q : Exit → Act → World → Prop} {S : World → Prop} {specs : List (Spec R)}
theorem inv_tail3 {n : Nat} {o1 o2 o3 : Oper} {vs : List Value} {a : Act} (hn : decide (ops.size = n + 1 + 1 + 1) = true) (h1 : nthOf ops.toList n = some o1) (h2 : nthOf ops.toList (n + 1) = some o2) (h3 : nthOf ops.toList (n + 1 + 1) = some o3) (h : ∀ w, S w → Shut (∀ j, relAt specs vs w j) → Shut (∀ i j, i ≠ j → apartAt specs vs i j) → wpList P ops Q [o1, o2, o3] a w) : wpInvI P ops Q S specs n n vs a := by
  refine inv_nil2 fun w hS hd ha => ?_
  rw [drop_at h1, drop_at h2, drop_at h3, drop_all (of_decide_eq_true hn)]
  exact h w hS hd ha
end
def New.map (B n : Nat) (f : Int → Option ByteArray) : Spec Blw := .new (fun v b => v = .map (some b)) (fun v w => ∃ b, v = .map (some b) ∧ B ≤ b ∧ MapAt w b n f)
  (fun v w w' ⟨b, h1, h0, h2⟩ hb => ⟨b, h1, h0, h2.step (hb.block b h2.lt)⟩) (fun v w b ⟨b', h1, _, h2⟩ h => by rw [h1] at h; injection h with h; injection h with h; subst h; exact h2.lt)
def keepS (l : List Int) : Spec Blw := .rel (fun v w => ∃ a c, v = .slice a l.length c ∧ KeepAt w v l) (fun v w w' ⟨a, c, h1, h2⟩ hb => ⟨a, c, h1, h2.step hb.size (fun b o s n c' e hne => by obtain ⟨cs, fr, h6⟩ := h2.2 b o s n c' e hne; exact hb.block b (heap_lt h6))⟩)
def waitsS (B : Nat) (l : List (Int × ByteArray)) : Spec Blw := .rel (fun v w => w.ownsRow B 56 2 v l.length (flatW l)) (fun v w w' h hb => own_step h hb)

theorem KeepAt.below {w w' : World} {v : Value} {l : List Int} (h : KeepAt w v l) (hb : Below w.heap.size w w') : KeepAt w' v l :=
  h.step hb.size (fun b o s n c' e hne => by obtain ⟨cs, fr, h6⟩ := h.2 b o s n c' e hne; exact hb.block b (heap_lt h6))
theorem own_mono {w : World} {B B' k n : Nat} {e : TypeId} {v : Value} {xs : List Value} (h : w.ownsRow B e k v n xs) (hB : B' ≤ B) : w.ownsRow B' e k v n xs := by
  obtain ⟨h1, h2⟩ := h
  refine ⟨h1, ?_⟩
  rcases h2 with h2 | ⟨g, cap, cur, h2, h3, h4, h5⟩
  · exact .inl h2
  · exact .inr ⟨g, cap, cur, h2, Nat.le_trans hB h3, h4, h5⟩
set_option maxRecDepth 100000 in
set_option maxHeartbeats 1000000 in
theorem clone_waits (B : Nat) (v : Value) (l : List (Int × ByteArray)) (w : World) (h0 : w.ownsRow B 56 2 v l.length (flatW l)) (hl : l.length ≤ 1000000) :
    Calls Try.prog 34 #[v] w (fun e' w' => ∃ u, e' = .returned u ∧ w'.ownsRow w.heap.size 56 2 u l.length (flatW l) ∧ Below w.heap.size w w') := by
  obtain ⟨i0, hi, hz0, hz1, hz2⟩ := info_parts info_write
  have q22 : ∀ (w : World) (a : Option Addr) (n c n' c' : Nat), (binOp .eql 34 (.slice a n c) (.slice none n' c')).run Try.prog w = .ok (.bool a.isNone) w := fun w a n c n' c' => Lib.run_eql_slice_nil w _ _ a n c n' c' Try.underlying34
  have u22 : ∀ w, Sem.run Try.prog (underlying 34) w = .ok (TypeDesc.slice 56) w := run_underlying Try.underlying34
  rcases h0.2 with ⟨h1, h2⟩ | ⟨g, cap, cur, h1, _⟩
  · subst h1
    obtain rfl := List.eq_nil_of_length_eq_zero h2
    go_enter Try.func34, Try.ntmps34
    go_wp2_with fail
    go_ret
    exact ⟨_, rfl, World.ownsRow_nil _ _ _ _, Below.refl _ _⟩
  · have hc : ∀ j u, (flatW l)[j]? = some u → w.cell? ((⟨g, 0, none⟩ : Addr).add j) = some u := by
      intro j u hu
      have hj : j < l.length * 2 := by rw [← flatW_len]; exact (List.getElem?_eq_some_iff.1 hu).1
      subst h1
      rw [add_at, Nat.zero_add]
      have := h0.cellAt j (by omega)
      rw [this]; exact hu
    subst h1
    have HC := Lib.hid hc
    clear hc h0
    go_enter Try.func34, Try.ntmps34
    go_wp2_with (at_builtin; refine wpList_append_own _ rfl _ _ 34 rfl w.heap.size 56 i0 (.agg #[.int .i64 0, .string ByteArray.empty]) 2 24 Try.underlying34 hi hz0 hz1 hz2 rfl (by decide) _ _ _ rfl (World.ownsRow_made w #[] 0 (Nat.le_refl _) (Nat.zero_le _) rfl) ⟨g, 0, none⟩ l.length cap (flatW l) rfl ?qc1 ?qc2 ?qc3 ?qc4 ?qc5 ?qc6 ?_)
    case qc1 => exact flatW_len l
    case qc2 =>
      intro j u hj
      exact Lib.cell?_alloc_some _ (HC.out j u hj)
    case qc3 => exact flatW_one
    case qc4 => unfold maxLen; omega
    case qc5 => omega
    case qc6 => simp
    intro v' w1 hown hgrow hnil
    have hb : Below w.heap.size w w1 := ((Below.refl _ w).alloc (Nat.le_refl _) _).grown hgrow (by simp) (by intro k hk; simp [Value.ownBlock] at hk; omega)
    have HB := Lib.hid hb
    have HO := Lib.hid (show w1.ownsRow w.heap.size 56 2 v' l.length (flatW l) by simpa using hown)
    clear hown hgrow hnil hb
    go_wp2
    go_ret
    exact ⟨v', rfl, HO.out, HB.out⟩

section
variable {w : World} {B p c : Nat} {d : DV}
set_option maxRecDepth 100000 in
set_option maxHeartbeats 4000000 in
theorem twin_any (h : DiskAt w B p c d) (hc : c ≤ 1000000) (hk : d.keep.length ≤ 1000000) :
    Calls Try.prog 24 #[.pointer (some ⟨p, 0, none⟩)] w (fun e w' => ∃ q, e = .returned (.pointer (some ⟨q, 0, none⟩)) ∧ DiskAt w' w.heap.size q c d ∧ Below w.heap.size w w') := by
  obtain ⟨kv, wv, mb, lb, h⟩ := h
  obtain ⟨ka, kc, rfl, _⟩ := h.keep.1
  obtain ⟨wa, wc, rfl⟩ := own_form h.waits
  have H := Lib.hid h
  have hwl : d.waits.length ≤ 1000000 := by obtain ⟨n, hn, _⟩ := h.lasts; omega
  obtain ⟨c0, c1, c2, c3, c4, c5, c6, c7, c8⟩ := row9 h.blk
  clear h
  go_enter Try.func24, Try.ntmps24
  go_wp2_with fail
  obtain ⟨w1, hw1⟩ : ∃ w1, w1 = w.alloc (.cells #[.bool d.on, .int .i64 d.writes, .bool d.armed, .int .i64 d.left, (.slice ka d.keep.length kc), .int .i64 d.blocks, .map (some mb), .map (some lb), (.slice wa d.waits.length wc)] 36) := ⟨_, rfl⟩
  obtain ⟨q, hq⟩ : ∃ q, q = w.heap.size := ⟨_, rfl⟩
  rw [← hw1, ← hq]
  have HB1 := Lib.hid (show Below w.heap.size w w1 by rw [hw1]; exact bel_new _ _)
  have HR1 := Lib.hid (show w1.heap[q]? = some (.cells #[.bool d.on, .int .i64 d.writes, .bool d.armed, .int .i64 d.left, (.slice ka d.keep.length kc), .int .i64 d.blocks, .map (some mb), .map (some lb), (.slice wa d.waits.length wc)] 36) by rw [hw1, hq]; exact heap_new_at rfl)
  have H1 := Lib.hid (H.out.step HB1.out)
  have HQ := Lib.hid hq
  clear hw1 hq c0 c1 c2 c3 c4 c5 c6 c7 c8
  obtain ⟨c0, c1, c2, c3, c4, c5, c6, c7, c8⟩ := row9 H1.out.blk
  clear c0 c1 c2 c3 c5 c6 c7
  refine wp_region_inv (R := Blw) (S := (fun w' => (DP w' B p c d (.slice ka d.keep.length kc) (.slice wa d.waits.length wc) mb lb ∧ w'.heap[q]? = some (.cells #[.bool d.on, .int .i64 d.writes, .bool d.armed, .int .i64 d.left, (.slice ka d.keep.length kc), .int .i64 d.blocks, .map (some mb), .map (some lb), (.slice wa d.waits.length wc)] 36) ∧ Below w.heap.size w w') ∧ w'.cell? ⟨p, 4, none⟩ = some (.slice ka d.keep.length kc) ∧ w'.cell? ⟨p, 8, none⟩ = some (.slice wa d.waits.length wc))) 13 (Spec.val ?_ :: Spec.val ?_ :: Spec.val ?_ :: Spec.val ?_ :: Spec.val ?_ :: (keepS d.keep) :: Spec.val ?_ :: Spec.val ?_ :: Spec.val ?_ :: Spec.val ?_ :: (waitsS w.heap.size d.waits) :: Spec.val ?_ :: Spec.val ?_ :: []) (by kernel_rfl) (by kernel_rfl) rfl (fun w1 w2 h hb => ⟨⟨h.1.1.step hb, heap_step h.1.2.1 hb, chain h.1.2.2 hb⟩, cell_step h.2.1 hb, cell_step h.2.2 hb⟩) (⟨⟨H1.out.step (Below.refl _ _).drew, HR1.out, HB1.out.drew⟩, c4, c8⟩) ?hm2
  case' hm2 => skip
  refine inv_val (i := 0) (by kernel_rfl) rfl rfl (fun w1 hS hd K hK => ?_) ?_
  · (try dsimp only at hS); go_simp; exact hK.out _ _ (by simp only [Act.put, List.setIfInBounds_toArray, List.set_cons_zero, List.set_cons_succ, List.nil_append, List.cons_append]; rfl) (Below.refl _ _)
  simp only [Act.put, List.setIfInBounds_toArray, List.set_cons_zero, List.set_cons_succ, List.nil_append, List.cons_append]
  refine inv_val (i := 1) (by kernel_rfl) rfl rfl (fun w1 hS hd K hK => ?_) ?_
  · (try dsimp only at hS); go_simp; exact hK.out _ _ (by simp only [Act.put, List.setIfInBounds_toArray, List.set_cons_zero, List.set_cons_succ, List.nil_append, List.cons_append]; rfl) (Below.refl _ _)
  simp only [Act.put, List.setIfInBounds_toArray, List.set_cons_zero, List.set_cons_succ, List.nil_append, List.cons_append]
  refine inv_val (i := 2) (by kernel_rfl) rfl rfl (fun w1 hS hd K hK => ?_) ?_
  · (try dsimp only at hS); go_simp; exact hK.out _ _ (by simp only [Act.put, List.setIfInBounds_toArray, List.set_cons_zero, List.set_cons_succ, List.nil_append, List.cons_append]; rfl) (Below.refl _ _)
  simp only [Act.put, List.setIfInBounds_toArray, List.set_cons_zero, List.set_cons_succ, List.nil_append, List.cons_append]
  refine inv_val (i := 3) (by kernel_rfl) rfl rfl (fun w1 hS hd K hK => ?_) ?_
  · (try dsimp only at hS); go_simp; exact hK.out _ _ (by simp only [Act.put, List.setIfInBounds_toArray, List.set_cons_zero, List.set_cons_succ, List.nil_append, List.cons_append]; rfl) (Below.refl _ _)
  simp only [Act.put, List.setIfInBounds_toArray, List.set_cons_zero, List.set_cons_succ, List.nil_append, List.cons_append]
  refine inv_val (i := 4) (by kernel_rfl) rfl rfl (fun w1 hS hd K hK => ?_) ?_
  · (try dsimp only at hS); go_simp; exact hK.out _ _ (by simp only [Act.put, List.setIfInBounds_toArray, List.set_cons_zero, List.set_cons_succ, List.nil_append, List.cons_append]; rfl) (Below.refl _ _)
  simp only [Act.put, List.setIfInBounds_toArray, List.set_cons_zero, List.set_cons_succ, List.nil_append, List.cons_append]
  refine inv_rel (i := 5) (by kernel_rfl) rfl rfl (fun w1 hS hd K hK => ?_) (fun v5 => ?_)
  · (try dsimp only at hS); go_simp; refine (clone_keep _ d.keep _ hS.1.1.keep.1 hk).mono ?_; rintro e w2 ⟨a, cc, rfl, hk2, hb⟩; exact hK.out _ _ _ (by simp only [Act.put, List.setIfInBounds_toArray, List.set_cons_zero, List.set_cons_succ, List.nil_append, List.cons_append] <;> rfl) ⟨_, _, rfl, hk2⟩ hb
  simp only [Act.put, List.setIfInBounds_toArray, List.set_cons_zero, List.set_cons_succ, List.nil_append, List.cons_append]
  refine inv_val (i := 6) (by kernel_rfl) rfl rfl (fun w1 hS hd K hK => ?_) ?_
  · (try dsimp only at hS); go_simp; exact hK.out _ _ (by simp only [Act.put, List.setIfInBounds_toArray, List.set_cons_zero, List.set_cons_succ, List.nil_append, List.cons_append]; rfl) (Below.refl _ _)
  simp only [Act.put, List.setIfInBounds_toArray, List.set_cons_zero, List.set_cons_succ, List.nil_append, List.cons_append]
  refine inv_val (i := 7) (by kernel_rfl) rfl rfl (fun w1 hS hd K hK => ?_) ?_
  · (try dsimp only at hS); go_simp; exact hK.out _ _ (by simp only [Act.put, List.setIfInBounds_toArray, List.set_cons_zero, List.set_cons_succ, List.nil_append, List.cons_append]; rfl) (Below.refl _ _)
  simp only [Act.put, List.setIfInBounds_toArray, List.set_cons_zero, List.set_cons_succ, List.nil_append, List.cons_append]
  refine inv_val (i := 8) (by kernel_rfl) rfl rfl (fun w1 hS hd K hK => ?_) ?_
  · (try dsimp only at hS); go_simp; exact hK.out _ _ (by simp only [Act.put, List.setIfInBounds_toArray, List.set_cons_zero, List.set_cons_succ, List.nil_append, List.cons_append]; rfl) (Below.refl _ _)
  simp only [Act.put, List.setIfInBounds_toArray, List.set_cons_zero, List.set_cons_succ, List.nil_append, List.cons_append]
  refine inv_val (i := 9) (by kernel_rfl) rfl rfl (fun w1 hS hd K hK => ?_) ?_
  · (try dsimp only at hS); go_simp; exact hK.out _ _ (by simp only [Act.put, List.setIfInBounds_toArray, List.set_cons_zero, List.set_cons_succ, List.nil_append, List.cons_append]; rfl) (Below.refl _ _)
  simp only [Act.put, List.setIfInBounds_toArray, List.set_cons_zero, List.set_cons_succ, List.nil_append, List.cons_append]
  refine inv_rel (i := 10) (by kernel_rfl) rfl rfl (fun w1 hS hd K hK => ?_) (fun v10 => ?_)
  · (try dsimp only at hS); go_simp; refine (clone_waits B _ d.waits _ hS.1.1.waits hwl).mono ?_; rintro e w2 ⟨u, rfl, ho, hb⟩; exact hK.out _ _ _ (by simp only [Act.put, List.setIfInBounds_toArray, List.set_cons_zero, List.set_cons_succ, List.nil_append, List.cons_append] <;> rfl) (own_mono ho hS.1.2.2.size) hb
  simp only [Act.put, List.setIfInBounds_toArray, List.set_cons_zero, List.set_cons_succ, List.nil_append, List.cons_append]
  refine inv_val (i := 11) (by kernel_rfl) rfl rfl (fun w1 hS hd K hK => ?_) ?_
  · (try dsimp only at hS); go_simp; exact hK.out _ _ (by simp only [Act.put, List.setIfInBounds_toArray, List.set_cons_zero, List.set_cons_succ, List.nil_append, List.cons_append]; rfl) (Below.refl _ _)
  simp only [Act.put, List.setIfInBounds_toArray, List.set_cons_zero, List.set_cons_succ, List.nil_append, List.cons_append]
  refine inv_val (i := 12) (by kernel_rfl) rfl rfl (fun w1 hS hd K hK => ?_) ?_
  · (try dsimp only at hS); go_simp; exact hK.out _ _ (by simp only [Act.put, List.setIfInBounds_toArray, List.set_cons_zero, List.set_cons_succ, List.nil_append, List.cons_append]; rfl) (Below.refl _ _)
  simp only [Act.put, List.setIfInBounds_toArray, List.set_cons_zero, List.set_cons_succ, List.nil_append, List.cons_append]
  refine inv_tail3 (by kernel_rfl) rfl rfl rfl (fun w2 hS hd _ => ?_)
  have h5 : ∃ a c, v5 = .slice a d.keep.length c ∧ KeepAt w2 v5 d.keep := hd.out 5
  have h10 : w2.ownsRow w.heap.size 56 2 v10 d.waits.length (flatW d.waits) := hd.out 10
  obtain ⟨a5, n5, rfl, hk5⟩ := h5
  obtain ⟨a10, n10, rfl⟩ := own_form h10
  have HK2 := Lib.hid hk5
  have HW2 := Lib.hid h10
  have HR2 := Lib.hid hS.1.2.1
  have HB2 := Lib.hid hS.1.2.2
  clear hk5 h10 hS hd H1 HB1 HR1 c4 c8
  obtain ⟨c0, c1, c2, c3, c4, c5, c6, c7, c8⟩ := row9 HR2.out
  obtain ⟨f0, f1, f2, f3, f4, f5, f6, f7, f8⟩ := free9 HR2.out
  go_wp2_with fail
  obtain ⟨w3, hw3⟩ : ∃ w3, w3 = (w2.setCell ⟨q, 4, none⟩ (.slice a5 d.keep.length n5)).setCell ⟨q, 8, none⟩ (.slice a10 d.waits.length n10) := ⟨_, rfl⟩
  rw [← hw3]
  have hge : w.heap.size ≤ q := Nat.le_of_eq HQ.out.symm
  have HB3 := Lib.hid (show Below w.heap.size w w3 by rw [hw3]; exact bel_set (bel_set HB2.out hge) hge)
  have HR3 := Lib.hid (show w3.heap[q]? = some (.cells #[.bool d.on, .int .i64 d.writes, .bool d.armed, .int .i64 d.left, (.slice a5 d.keep.length n5), .int .i64 d.blocks, .map (some mb), .map (some lb), (.slice a10 d.waits.length n10)] 36) by rw [hw3, set_heap (set_heap HR2.out _) _]; rfl)
  have hfr : ∀ k, k ≠ q → w3.heap[k]? = w2.heap[k]? := fun k hk => by rw [hw3, set_heap_other _ hk, set_heap_other _ hk]
  have HK3 := Lib.hid (show KeepAt w3 (.slice a5 d.keep.length n5) d.keep from HK2.out.step (by rw [hw3]; simp) (fun b o s m c' e hne => hfr b (fun hbq => by
    obtain ⟨cs, fr, h6⟩ := HK2.out.2 b o s m c' e hne
    rw [hbq, HR2.out] at h6
    injection h6 with h6; injection h6 with _ h6; exact absurd h6 (by decide))))
  have HW3 := Lib.hid (show w3.ownsRow w.heap.size 56 2 (.slice a10 d.waits.length n10) d.waits.length (flatW d.waits) from own_frame HW2.out (fun g hg => hfr g (fun hgq => by
    obtain ⟨_, _, cur, h6⟩ := own_row HW2.out hg
    rw [hgq, HR2.out] at h6
    injection h6 with h6; injection h6 with _ h6; exact absurd h6 (by decide))))
  have H3 := Lib.hid (H.out.step HB3.out)
  obtain ⟨n, hn, hl⟩ := H.out.lasts
  have HN := Lib.hid hn
  have HM3 := Lib.hid H3.out.now
  have HL3 := Lib.hid (hl.step (HB3.out.block _ hl.lt))
  clear hw3 hfr hl hn HK2 HW2 HR2 HB2 c0 c1 c2 c3 c4 c5 c6 c7 c8 f0 f1 f2 f3 f4 f5 f6 f7 f8
  obtain ⟨c0, c1, c2, c3, c4, c5, c6, c7, c8⟩ := row9 H3.out.blk
  clear c0 c1 c2 c3 c4 c8 H3
  refine wp_region_inv (R := Blw) (S := (fun w' => (MapAt w' mb c d.now ∧ MapAt w' lb n d.lasts ∧ w'.heap[q]? = some (.cells #[.bool d.on, .int .i64 d.writes, .bool d.armed, .int .i64 d.left, (.slice a5 d.keep.length n5), .int .i64 d.blocks, .map (some mb), .map (some lb), (.slice a10 d.waits.length n10)] 36) ∧ Below w.heap.size w w' ∧ KeepAt w' (.slice a5 d.keep.length n5) d.keep ∧ w'.ownsRow w.heap.size 56 2 (.slice a10 d.waits.length n10) d.waits.length (flatW d.waits)) ∧ w'.cell? ⟨p, 6, none⟩ = some (.map (some mb)) ∧ w'.cell? ⟨p, 7, none⟩ = some (.map (some lb)))) 11 (Spec.val ?_ :: Spec.val ?_ :: Spec.val ?_ :: Spec.val ?_ :: (New.map w.heap.size c d.now) :: Spec.val ?_ :: Spec.val ?_ :: Spec.val ?_ :: Spec.val ?_ :: (New.map w.heap.size n d.lasts) :: Spec.val ?_ :: []) (by kernel_rfl) (by kernel_rfl) rfl (fun w1 w2 h hb => ⟨⟨h.1.1.step (hb.block _ h.1.1.lt), h.1.2.1.step (hb.block _ h.1.2.1.lt), heap_step h.1.2.2.1 hb, chain h.1.2.2.2.1 hb, h.1.2.2.2.2.1.below hb, own_step h.1.2.2.2.2.2 hb⟩, cell_step h.2.1 hb, cell_step h.2.2 hb⟩) (⟨⟨HM3.out, HL3.out, HR3.out, HB3.out.drew, HK3.out, HW3.out⟩, c6, c7⟩) ?hm1
  case' hm1 => skip
  refine inv_val (i := 0) (by kernel_rfl) rfl rfl (fun w1 hS hd K hK => ?_) ?_
  · (try dsimp only at hS); go_simp; exact hK.out _ _ (by simp only [Act.put, List.setIfInBounds_toArray, List.set_cons_zero, List.set_cons_succ, List.nil_append, List.cons_append]; rfl) (Below.refl _ _)
  simp only [Act.put, List.setIfInBounds_toArray, List.set_cons_zero, List.set_cons_succ, List.nil_append, List.cons_append]
  refine inv_val (i := 1) (by kernel_rfl) rfl rfl (fun w1 hS hd K hK => ?_) ?_
  · (try dsimp only at hS); go_simp; exact hK.out _ _ (by simp only [Act.put, List.setIfInBounds_toArray, List.set_cons_zero, List.set_cons_succ, List.nil_append, List.cons_append]; rfl) (Below.refl _ _)
  simp only [Act.put, List.setIfInBounds_toArray, List.set_cons_zero, List.set_cons_succ, List.nil_append, List.cons_append]
  refine inv_val (i := 2) (by kernel_rfl) rfl rfl (fun w1 hS hd K hK => ?_) ?_
  · (try dsimp only at hS); go_simp; exact hK.out _ _ (by simp only [Act.put, List.setIfInBounds_toArray, List.set_cons_zero, List.set_cons_succ, List.nil_append, List.cons_append]; rfl) (Below.refl _ _)
  simp only [Act.put, List.setIfInBounds_toArray, List.set_cons_zero, List.set_cons_succ, List.nil_append, List.cons_append]
  refine inv_val (i := 3) (by kernel_rfl) rfl rfl (fun w1 hS hd K hK => ?_) ?_
  · (try dsimp only at hS); go_simp; exact hK.out _ _ (by simp only [Act.put, List.setIfInBounds_toArray, List.set_cons_zero, List.set_cons_succ, List.nil_append, List.cons_append]; rfl) (Below.refl _ _)
  simp only [Act.put, List.setIfInBounds_toArray, List.set_cons_zero, List.set_cons_succ, List.nil_append, List.cons_append]
  refine inv_new (i := 4) (by kernel_rfl) rfl rfl (fun w1 hS hd K hK => ?_) (fun v4 => ?_)
  · (try dsimp only at hS); go_simp; refine (mclone_any _ _ _ _ hS.1.1).mono ?_; rintro e w2 ⟨b, rfl, hge, hm, hb⟩; refine hK.out _ (.map (some b)) _ ?_ ⟨b, rfl, Nat.le_trans hS.1.2.2.2.1.size hge, hm⟩ (fun b' h => (by injection h with h; injection h with h; omega)) hb; (simp only [Act.put, List.setIfInBounds_toArray, List.set_cons_zero, List.set_cons_succ, List.nil_append, List.cons_append] <;> rfl)
  simp only [Act.put, List.setIfInBounds_toArray, List.set_cons_zero, List.set_cons_succ, List.nil_append, List.cons_append]
  refine inv_val (i := 5) (by kernel_rfl) rfl rfl (fun w1 hS hd K hK => ?_) ?_
  · (try dsimp only at hS); go_simp; exact hK.out _ _ (by simp only [Act.put, List.setIfInBounds_toArray, List.set_cons_zero, List.set_cons_succ, List.nil_append, List.cons_append]; rfl) (Below.refl _ _)
  simp only [Act.put, List.setIfInBounds_toArray, List.set_cons_zero, List.set_cons_succ, List.nil_append, List.cons_append]
  refine inv_val (i := 6) (by kernel_rfl) rfl rfl (fun w1 hS hd K hK => ?_) ?_
  · (try dsimp only at hS); go_simp; exact hK.out _ _ (by simp only [Act.put, List.setIfInBounds_toArray, List.set_cons_zero, List.set_cons_succ, List.nil_append, List.cons_append]; rfl) (Below.refl _ _)
  simp only [Act.put, List.setIfInBounds_toArray, List.set_cons_zero, List.set_cons_succ, List.nil_append, List.cons_append]
  refine inv_val (i := 7) (by kernel_rfl) rfl rfl (fun w1 hS hd K hK => ?_) ?_
  · (try dsimp only at hS); go_simp; exact hK.out _ _ (by simp only [Act.put, List.setIfInBounds_toArray, List.set_cons_zero, List.set_cons_succ, List.nil_append, List.cons_append]; rfl) (Below.refl _ _)
  simp only [Act.put, List.setIfInBounds_toArray, List.set_cons_zero, List.set_cons_succ, List.nil_append, List.cons_append]
  refine inv_val (i := 8) (by kernel_rfl) rfl rfl (fun w1 hS hd K hK => ?_) ?_
  · (try dsimp only at hS); go_simp; exact hK.out _ _ (by simp only [Act.put, List.setIfInBounds_toArray, List.set_cons_zero, List.set_cons_succ, List.nil_append, List.cons_append]; rfl) (Below.refl _ _)
  simp only [Act.put, List.setIfInBounds_toArray, List.set_cons_zero, List.set_cons_succ, List.nil_append, List.cons_append]
  refine inv_new (i := 9) (by kernel_rfl) rfl rfl (fun w1 hS hd K hK => ?_) (fun v9 => ?_)
  · (try dsimp only at hS); go_simp; refine (mclone_any _ _ _ _ hS.1.2.1).mono ?_; rintro e w2 ⟨b, rfl, hge, hm, hb⟩; refine hK.out _ (.map (some b)) _ ?_ ⟨b, rfl, Nat.le_trans hS.1.2.2.2.1.size hge, hm⟩ (fun b' h => (by injection h with h; injection h with h; omega)) hb; (simp only [Act.put, List.setIfInBounds_toArray, List.set_cons_zero, List.set_cons_succ, List.nil_append, List.cons_append] <;> rfl)
  simp only [Act.put, List.setIfInBounds_toArray, List.set_cons_zero, List.set_cons_succ, List.nil_append, List.cons_append]
  refine inv_val (i := 10) (by kernel_rfl) rfl rfl (fun w1 hS hd K hK => ?_) ?_
  · (try dsimp only at hS); go_simp; exact hK.out _ _ (by simp only [Act.put, List.setIfInBounds_toArray, List.set_cons_zero, List.set_cons_succ, List.nil_append, List.cons_append]; rfl) (Below.refl _ _)
  simp only [Act.put, List.setIfInBounds_toArray, List.set_cons_zero, List.set_cons_succ, List.nil_append, List.cons_append]
  refine inv_tail3 (by kernel_rfl) rfl rfl rfl (fun w4 hS hd hap => ?_)
  have h4 : ∃ b, v4 = .map (some b) ∧ w.heap.size ≤ b ∧ MapAt w4 b c d.now := hd.out 4
  have h9 : ∃ b, v9 = .map (some b) ∧ w.heap.size ≤ b ∧ MapAt w4 b n d.lasts := hd.out 9
  have hne : ∀ b, v4 = .map (some b) → v9 = .map (some b) → False := hap.out 4 9 (by decide)
  obtain ⟨b4, rfl, hg4, hm4⟩ := h4
  obtain ⟨b9, rfl, hg9, hm9⟩ := h9
  have hbb : b4 ≠ b9 := fun e => hne b4 rfl (by rw [e])
  have HM4 := Lib.hid hm4
  have HM9 := Lib.hid hm9
  have HK4 := Lib.hid hS.1.2.2.2.2.1
  have HW4 := Lib.hid hS.1.2.2.2.2.2
  have HR4 := Lib.hid hS.1.2.2.1
  have HB4 := Lib.hid hS.1.2.2.2.1
  clear hS hd hap hne hm4 hm9 c5 c6 c7 HM3 HL3 HR3 HB3 HK3 HW3
  obtain ⟨c0, c1, c2, c3, c4, c5, c6, c7, c8⟩ := row9 HR4.out
  obtain ⟨f0, f1, f2, f3, f4, f5, f6, f7, f8⟩ := free9 HR4.out
  go_wp2
  go_ret
  have hfr : ∀ k, k ≠ q → ((w4.setCell ⟨q, 6, none⟩ (.map (some b4))).setCell ⟨q, 7, none⟩ (.map (some b9))).heap[k]? = w4.heap[k]? := fun k hk => by rw [set_heap_other _ hk, set_heap_other _ hk]
  have hmq : ∀ m N f, MapAt w4 m N f → m ≠ q := fun m N f hm e => by
    obtain ⟨es, ck, hl⟩ := hm.map
    rw [e, HR4.out] at hl; cases hl
  refine ⟨q, rfl, ⟨_, _, b4, b9, ?_, HK4.out.step (by simp) (fun b o s m c' e hne => hfr b (fun hbq => ?_)), HM4.out.step (hfr _ (hmq _ _ _ HM4.out)), ⟨n, HN.out, HM9.out.step (hfr _ (hmq _ _ _ HM9.out))⟩, own_frame HW4.out (fun g hg => hfr g (fun hgq => ?_)), hbb, ⟨hge, hg4, hg9⟩, H.out.ok⟩, bel_set (bel_set HB4.out hge) hge⟩
  · rw [set_heap (set_heap HR4.out _) _]; rfl
  · obtain ⟨cs, fr, h6⟩ := HK4.out.2 b o s m c' e hne
    rw [hbq, HR4.out] at h6
    injection h6 with h6; injection h6 with _ h6; exact absurd h6 (by decide)
  · obtain ⟨_, _, cur, h6⟩ := own_row HW4.out hg
    rw [hgq, HR4.out] at h6
    injection h6 with h6; injection h6 with _ h6; exact absurd h6 (by decide)
end
end Go.Proofs.Ytppfgjjebfgcaaa
