/-
  The contracts of a log's append and Append.
-/
import Derived.Test.YtjcggkfinhkcoaaGreatLog3
namespace Go.Proofs.YtjcggkfinhkcoaaGreat
open Go.RowKit
set_option linter.unusedVariables false
set_option linter.unusedSimpArgs false

def layS (B : Nat) (l : List ByteArray) : Spec Blw := .rel (fun v w => w.ownsRow B 9 1 v l.length (l.map Value.string)) (fun v w w' h hb => own_step h hb)
theorem own_mono {w : World} {B B' k n : Nat} {e : TypeId} {v : Value} {xs : List Value} (h : w.ownsRow B e k v n xs) (hB : B' ≤ B) : w.ownsRow B' e k v n xs := by
  obtain ⟨h1, h2⟩ := h
  refine ⟨h1, ?_⟩
  rcases h2 with h2 | ⟨g, cap, cur, h2, h3, h4⟩
  · exact .inl h2
  · exact .inr ⟨g, cap, cur, h2, Nat.le_trans hB h3, h4⟩
def LV.at (G : LV) (k : Nat) : LV := { G with used := G.used + k }
/-- The disk, the log's number of blocks and the error behind k writes. -/
def apN (G : LV) (L : List ByteArray) (d : DV) : Nat → DV × Nat × Int
  | 0 => (d, 0, 0)
  | k + 1 =>
    let r := apN G L d k
    if r.2.2 ≠ 0 then r else
      let x := r.1.write (G.frm + (G.used + k)) (L.getD k ByteArray.empty)
      (x.1, (if x.2 = 0 then k + 1 else k), x.2)
theorem apN_err {G : LV} {L : List ByteArray} {d : DV} {k : Nat} (h : (apN G L d k).2.2 ≠ 0) : ∀ j, apN G L d (k + j) = apN G L d k
  | 0 => rfl
  | j + 1 => by
    have e := apN_err h j
    show (if (apN G L d (k + j)).2.2 ≠ 0 then apN G L d (k + j) else _) = _
    rw [e, if_pos h]
theorem apN_good {G : LV} {L : List ByteArray} {d : DV} : ∀ k, (apN G L d k).2.2 = 0 → (apN G L d k).2.1 = k
  | 0, _ => rfl
  | k + 1, h => by
    unfold apN at h ⊢
    dsimp only at h ⊢
    split at h
    · rename_i hh; exact absurd h hh
    · rename_i hh
      rw [if_neg hh]
      dsimp only at h ⊢
      rw [if_pos h]
def LV.app (G : LV) (d : DV) (s : ByteArray) : DV × LV × Int :=
  if 3000 < s.size then (d, G, 2) else if G.left < blks s.size then (d, G, 20) else
    let r := apN G (layL G.gen G.recs s) d (blks s.size)
    if r.2.2 ≠ 0 then (r.1, { G.at r.2.1 with bad := r.2.2 }, r.2.2) else (r.1, { G.at r.2.1 with recs := G.recs + 1 }, 0)
theorem apN_writes {G : LV} {L : List ByteArray} {d : DV} : ∀ k, d.writes ≤ (apN G L d k).1.writes ∧ (apN G L d k).1.writes ≤ d.writes + k
  | 0 => ⟨Int.le_refl _, by show d.writes ≤ d.writes + 0; omega⟩
  | k + 1 => by
    have h := apN_writes (G := G) (L := L) (d := d) k
    unfold apN
    dsimp only
    split
    · omega
    · have := write_writes (apN G L d k).1 (G.frm + (G.used + k)) (L.getD k ByteArray.empty)
      dsimp only; omega

section
variable {w0 w w' : World} {B q c t : Nat} {d : DV} {G : LV}
set_option maxRecDepth 100000 in
set_option maxHeartbeats 8000000 in
theorem app_any (s : ByteArray) (h : LgAt w0 w B q c d t G) (hG : G.ok) (hs : s.size ≤ 100000) (hc : c + 100 ≤ 1000000) (hw : 0 ≤ d.writes ∧ d.writes ≤ 100000000000) :
    Calls Tryz.prog 25 #[.pointer (some ⟨t, 0, none⟩), .string s] w (RetL w0 w B q (c + 14) (G.app d s).1 t (G.app d s).2.1 (.int .i64 (G.app d s).2.2)) := by
  have H := Lib.hid h
  have HG := Lib.hid hG
  have HW := Lib.hid hw
  have HC := Lib.hid hc
  obtain ⟨L, hL⟩ : ∃ L, L = layL G.gen G.recs s := ⟨_, rfl⟩
  obtain ⟨N, hN⟩ : ∃ N, N = blks s.size := ⟨_, rfl⟩
  have hLl : L.length = N := by rw [hL, hN]; exact layL_len _ _ _
  have hLz : ∀ k, k < N → (L.getD k ByteArray.empty).size = 256 := fun k hk => by
    rw [List.getD_eq_getElem?_getD, List.getElem?_eq_getElem (by omega)]
    exact layL_size G.gen G.recs s _ (by rw [← hL]; exact List.getElem_mem _)
  have hLz2 : ∀ b ∈ L, b.size ≤ 9223372036854775807 := fun b hb => by rw [layL_size G.gen G.recs s b (by rw [← hL]; exact hb)]; decide
  have HA1 := Lib.hid (fun (hh : 3000 < s.size) => show G.app d s = (d, G, 2) from if_pos hh)
  have HA2 := Lib.hid (fun (h1 : ¬ 3000 < s.size) (h2 : G.left < N) => show G.app d s = (d, G, 20) by unfold LV.app; rw [if_neg h1, if_pos (by rw [← hN]; exact h2)])
  have HA3 := Lib.hid (fun (h1 : ¬ 3000 < s.size) (h2 : ¬ G.left < N) (h3 : (apN G L d N).2.2 ≠ 0) => show G.app d s = ((apN G L d N).1, { G.at (apN G L d N).2.1 with bad := (apN G L d N).2.2 }, (apN G L d N).2.2) by unfold LV.app; rw [if_neg h1, if_neg (by rw [← hN]; exact h2), ← hN, ← hL]; dsimp only; rw [if_pos h3])
  have HA4 := Lib.hid (fun (h1 : ¬ 3000 < s.size) (h2 : ¬ G.left < N) (h3 : ¬ (apN G L d N).2.2 ≠ 0) => show G.app d s = ((apN G L d N).1, { G.at (apN G L d N).2.1 with recs := G.recs + 1 }, 0) by unfold LV.app; rw [if_neg h1, if_neg (by rw [← hN]; exact h2), ← hN, ← hL]; dsimp only; rw [if_neg h3])
  have HLL := Lib.hid hLl
  have HLZ := Lib.hid hLz
  have HLZ2 := Lib.hid hLz2
  have HLE := Lib.hid hL
  have HN := Lib.hid hN
  have HNB := Lib.hid (show 1 ≤ N ∧ N ≤ 4465 by rw [hN]; exact blks_bd (by omega))
  have HN14 := Lib.hid (fun (h1 : ¬ 3000 < s.size) => show N ≤ 14 by rw [hN]; unfold blks; split <;> omega)
  obtain ⟨⟨k1, k2⟩, ⟨k3, k4⟩, ⟨k5, k6⟩, ⟨k7, k8⟩, k9⟩ := hG
  have hs0 : (s.size : Int) ≤ 100000 := by omega
  have hrow := h.bes.2
  obtain ⟨c0, c1, c2, c3, c4, c5, c6⟩ := row7 hrow
  have HS := Lib.hid hs
  clear h hs hw hc hL hN hLl hLz hLz2 hrow
  go_enter Tryz.func25, Tryz.ntmps25
  go_wp2_with fail
  refine wp_region_inv (R := Blw) (S := (fun w' => LgAt w0 w' B q c d t G ∧ Below w.heap.size w w' ∧ w'.cell? ⟨t, 3, none⟩ = some (.int .u64 G.gen) ∧ w'.cell? ⟨t, 5, none⟩ = some (.int .i64 G.recs))) 10 (Spec.val ?_ :: Spec.val ?_ :: Spec.val ?_ :: Spec.val ?_ :: Spec.val ?_ :: Spec.val ?_ :: Spec.val ?_ :: Spec.val ?_ :: Spec.val ?_ :: (layS w.heap.size L) :: []) (by kernel_rfl) (by kernel_rfl) rfl (fun w1 w2 h hb => ⟨h.1.step_ hb, chain h.2.1 hb, cell_step h.2.2.1 hb, cell_step h.2.2.2 hb⟩) (⟨H.out.step_ (Below.refl _ _).drew, (Below.refl _ _).drew, c3, c5⟩) ?hm5
  case' hm5 => skip
  refine inv_val (i := 0) (by kernel_rfl) rfl rfl (fun w1 hS hd K hK => ?_) ?_
  · (try dsimp only at hS); go_simp; exact hK.out _ _ (by simp only [Act.put, List.setIfInBounds_toArray, List.set_cons_zero, List.set_cons_succ, List.nil_append, List.cons_append]; rfl) (Below.refl _ _)
  simp only [Act.put, List.setIfInBounds_toArray, List.set_cons_zero, List.set_cons_succ, List.nil_append, List.cons_append]
  refine inv_val (i := 1) (by kernel_rfl) rfl rfl (fun w1 hS hd K hK => ?_) ?_
  · (try dsimp only at hS); go_simp; exact hK.out _ _ (by simp only [Act.put, List.setIfInBounds_toArray, List.set_cons_zero, List.set_cons_succ, List.nil_append, List.cons_append]; rfl) (Below.refl _ _)
  simp only [Act.put, List.setIfInBounds_toArray, List.set_cons_zero, List.set_cons_succ, List.nil_append, List.cons_append]
  refine inv_val (i := 2) (by kernel_rfl) rfl rfl (fun w1 hS hd K hK => ?_) ?_
  · (try dsimp only at hS); go_simp; exact hK.out _ _ (by simp only [Act.put, List.setIfInBounds_toArray, List.set_cons_zero, List.set_cons_succ, List.nil_append, List.cons_append]; rfl) (Below.refl _ _)
  simp only [Act.put, List.setIfInBounds_toArray, List.set_cons_zero, List.set_cons_succ, List.nil_append, List.cons_append]
  refine inv_val (i := 3) (by kernel_rfl) rfl rfl (fun w1 hS hd K hK => ?_) ?_
  · (try dsimp only at hS); go_simp; exact hK.out _ _ (by simp only [Act.put, List.setIfInBounds_toArray, List.set_cons_zero, List.set_cons_succ, List.nil_append, List.cons_append]; rfl) (Below.refl _ _)
  simp only [Act.put, List.setIfInBounds_toArray, List.set_cons_zero, List.set_cons_succ, List.nil_append, List.cons_append]
  refine inv_val (i := 4) (by kernel_rfl) rfl rfl (fun w1 hS hd K hK => ?_) ?_
  · (try dsimp only at hS); go_simp; exact hK.out _ _ (by simp only [Act.put, List.setIfInBounds_toArray, List.set_cons_zero, List.set_cons_succ, List.nil_append, List.cons_append]; rfl) (Below.refl _ _)
  simp only [Act.put, List.setIfInBounds_toArray, List.set_cons_zero, List.set_cons_succ, List.nil_append, List.cons_append]
  refine inv_val (i := 5) (by kernel_rfl) rfl rfl (fun w1 hS hd K hK => ?_) ?_
  · (try dsimp only at hS); go_simp; exact hK.out _ _ (by simp only [Act.put, List.setIfInBounds_toArray, List.set_cons_zero, List.set_cons_succ, List.nil_append, List.cons_append]; rfl) (Below.refl _ _)
  simp only [Act.put, List.setIfInBounds_toArray, List.set_cons_zero, List.set_cons_succ, List.nil_append, List.cons_append]
  refine inv_val (i := 6) (by kernel_rfl) rfl rfl (fun w1 hS hd K hK => ?_) ?_
  · (try dsimp only at hS); go_simp; exact hK.out _ _ (by simp only [Act.put, List.setIfInBounds_toArray, List.set_cons_zero, List.set_cons_succ, List.nil_append, List.cons_append]; rfl) (Below.refl _ _)
  simp only [Act.put, List.setIfInBounds_toArray, List.set_cons_zero, List.set_cons_succ, List.nil_append, List.cons_append]
  refine inv_val (i := 7) (by kernel_rfl) rfl rfl (fun w1 hS hd K hK => ?_) ?_
  · (try dsimp only at hS); go_simp; exact hK.out _ _ (by simp only [Act.put, List.setIfInBounds_toArray, List.set_cons_zero, List.set_cons_succ, List.nil_append, List.cons_append]; rfl) (Below.refl _ _)
  simp only [Act.put, List.setIfInBounds_toArray, List.set_cons_zero, List.set_cons_succ, List.nil_append, List.cons_append]
  refine inv_val (i := 8) (by kernel_rfl) rfl rfl (fun w1 hS hd K hK => ?_) ?_
  · (try dsimp only at hS); go_simp; exact hK.out _ _ (by simp only [Act.put, List.setIfInBounds_toArray, List.set_cons_zero, List.set_cons_succ, List.nil_append, List.cons_append]; rfl) (Below.refl _ _)
  simp only [Act.put, List.setIfInBounds_toArray, List.set_cons_zero, List.set_cons_succ, List.nil_append, List.cons_append]
  refine inv_rel (i := 9) (by kernel_rfl) rfl rfl (fun w1 hS hd K hK => ?_) (fun v9 => ?_)
  · (try dsimp only at hS); go_simp; refine (lay_any _ _ s _ k9 ⟨k7, by omega⟩ (by have := HS.out; omega)).mono ?_; rintro e w2 ⟨v, rfl, ho, hb⟩; rw [← HLE.out] at ho; refine hK.out _ _ _ (by simp only [Act.put, List.setIfInBounds_toArray, List.set_cons_zero, List.set_cons_succ, List.nil_append, List.cons_append]; rfl) ?_ hb; exact own_mono ho hS.2.1.size
  simp only [Act.put, List.setIfInBounds_toArray, List.set_cons_zero, List.set_cons_succ, List.nil_append, List.cons_append]
  refine inv_tail1 (by kernel_rfl) rfl (fun w2 hS hd => ?_)
  have ho : w2.ownsRow w.heap.size 9 1 v9 L.length (L.map Value.string) := hd.out 9
  obtain ⟨b, cap, cur, e9, hbge, hg⟩ : ∃ b cap cur, v9 = .slice (some ⟨b, 0, none⟩) L.length cap ∧ w.heap.size ≤ b ∧ w2.heap[b]? = some (.cells cur 9) := by
    rcases ho.2 with ⟨_, h1⟩ | ⟨g, cap, cur, h1, h2, h3, _⟩
    · have := HLL.out; have := HNB.out; omega
    · exact ⟨g, cap, cur, h1, h2, h3⟩
  subst e9
  have HCL := Lib.hid (fun (w' : World) (h' : w'.heap[b]? = some (.cells cur 9)) (j : Nat) (hj : j < N) => show w'.cell? ⟨b, j, none⟩ = some (.string (L.getD j ByteArray.empty)) by
    rw [World.cell?_of_block (w := w2) (h'.trans hg.symm)]
    have hj' : j < L.length := by rw [HLL.out]; exact hj
    have := ho.cellAt (g := b) (cap := cap) j (by omega)
    rw [this]; simp [hj'])
  have HB2 := Lib.hid (show Bes w2 q b (.cells cur 9) from ⟨own_old H.out.disk hS.2.1 hbge, hg⟩)
  have HNE := Lib.hid (show b ≠ t by have := heap_lt H.out.bes.2; omega)
  have H2 := Lib.hid hS.1
  have S2 := Lib.hid (H.out.lstep hS.2.1)
  have hlen : (L.length : Int) = N := by have := HLL.out; omega
  rw [HLL.out]
  clear hS hd ho hbge hg H c0 c1 c2 c3 c4 c5 c6
  by_cases h1 : 3000 < s.size
  · have HRES := Lib.hid (HA1.out h1)
    have h1' : (3000 : Int) < s.size := by omega
    clear h1 HA1 HA2 HA3 HA4 HN14
    go_wp2
    go_ret
    exact ⟨by rw [HRES.out]; rfl, by rw [HRES.out]; exact ⟨H2.out.mono (show c ≤ c + 14 by omega), S2.out⟩⟩
  · have h1' : ¬ (3000 : Int) < s.size := by omega
    have HN15 := Lib.hid (HN14.out h1)
    have HA2' := Lib.hid (HA2.out h1)
    have HA3' := Lib.hid (HA3.out h1)
    have HA4' := Lib.hid (HA4.out h1)
    clear h1 HA1 HA2 HA3 HA4 HN14
    go_wp2_with fail
    refine (left_any H2.out.bes.2 HG.out).mono ?_
    rintro e w3 ⟨rfl, hb3⟩
    have H3 := Lib.hid (H2.out.step_ hb3)
    have S3 := Lib.hid (S2.out.trans (H2.out.lstep hb3))
    have HB3 := Lib.hid (HB2.out.ret (H2.out.disk.dstep hb3))
    clear hb3
    by_cases h2 : G.left < N
    · have HRES := Lib.hid (HA2'.out (by omega))
      clear HA2' HA3' HA4'
      go_wp2
      go_ret
      exact ⟨by rw [HRES.out]; rfl, by rw [HRES.out]; exact ⟨H3.out.mono (show c ≤ c + 14 by omega), S3.out⟩⟩
    · have HA3 := Lib.hid (HA3'.out (by omega))
      have HA4 := Lib.hid (HA4'.out (by omega))
      clear HA2' HA3' HA4'
      go_wp2
      go_loopw [31] (fun x wr => ∃ k : Nat, k ≤ N ∧ x = .int .i64 k ∧ Hid ((apN G L d k).2.2 = 0) ∧ Hid (LgAt w0 wr B q (c + k) (apN G L d k).1 t (G.at k)) ∧ Hid (Bes wr q b (.cells cur 9)) ∧ Hid (LStep q t w wr)) (fun x _ => N - (intOf x).toNat)
      case atStart => exact ⟨0, Nat.zero_le _, rfl, Lib.hid rfl, Lib.hid (by have := H3.out; rw [show G.at 0 = G by unfold LV.at; simp]; exact this), HB3, S3⟩
      case round =>
        obtain ⟨k, hk, rfl, HE, HW1, HB1, SW1⟩ := hrel
        by_cases hlt : k < N
        · have HDW := Lib.hid (apN_writes (G := G) (L := L) (d := d) k)
          have HLK := Lib.hid (HLZ.out k hlt)
          have hk1 : apN G L d (k + 1) = (((apN G L d k).1.write (G.frm + (G.used + k)) (L.getD k ByteArray.empty)).1, (if ((apN G L d k).1.write (G.frm + (G.used + k)) (L.getD k ByteArray.empty)).2 = 0 then k + 1 else k), ((apN G L d k).1.write (G.frm + (G.used + k)) (L.getD k ByteArray.empty)).2) := by
            show (if (apN G L d k).2.2 ≠ 0 then _ else _) = _
            rw [if_neg (by simpa using HE.out)]
          have hcell := HCL.out wr HB1.out.2 k hlt
          obtain ⟨Dk, hDk⟩ : ∃ D, D = (apN G L d k).1 := ⟨_, rfl⟩
          obtain ⟨Lk, hLk⟩ : ∃ x, x = L.getD k ByteArray.empty := ⟨_, rfl⟩
          obtain ⟨d', e', hde⟩ : ∃ d' e', Dk.write (G.frm + (G.used + k)) Lk = (d', e') := ⟨_, _, rfl⟩
          rw [← hDk] at HW1 HDW hk1
          rw [← hLk] at HLK hcell hk1
          rw [hde] at hk1
          dsimp only at hk1
          have HK1 := Lib.hid hk1
          have HDE := Lib.hid hde
          have hrow := HW1.out.bes.2
          obtain ⟨c0, c1, c2, c3, c4, c5, c6⟩ := row7 hrow
          have hk14 : k ≤ 14 := by have := HN15.out; omega
          have hwrap : IntKind.i64.wrap (G.frm + (G.used + k)) = G.frm + (G.used + k) := by rw [IntKind.wrap_i64]; omega
          simp only [LV.at] at c0 c1 c2 c3 c4 c5 c6
          clear hk1 hde hrow hDk hLk
          go_wp2_with fail
          refine wp_region_inv (R := Blw) (S := (fun w' => (LgAt w0 w' B q (c + k) Dk t (G.at k) ∧ Below wr.heap.size wr w') ∧ w'.cell? ⟨t, 0, none⟩ = some (.pointer (some ⟨q, 0, none⟩)) ∧ w'.cell? ⟨t, 1, none⟩ = some (.int .i64 G.frm) ∧ w'.cell? ⟨t, 4, none⟩ = some (.int .i64 (G.used + k)))) 14 (Spec.val ?_ :: Spec.val ?_ :: Spec.val ?_ :: Spec.val ?_ :: Spec.val ?_ :: Spec.val ?_ :: Spec.val ?_ :: Spec.val ?_ :: Spec.val ?_ :: Spec.val ?_ :: Spec.val ?_ :: Spec.val ?_ :: Spec.val ?_ :: Spec.val ?_ :: []) (by kernel_rfl) (by kernel_rfl) rfl (fun w1 w2 h hb => ⟨⟨h.1.1.step_ hb, chain h.1.2 hb⟩, cell_step h.2.1 hb, cell_step h.2.2.1 hb, cell_step h.2.2.2 hb⟩) (⟨⟨HW1.out.step_ (Below.refl _ _).drew, (Below.refl _ _).drew⟩, c0, c1, c4⟩) ?hm6
          case' hm6 => skip
          refine inv_val (i := 0) (by kernel_rfl) rfl rfl (fun w1 hS hd K hK => ?_) ?_
          · (try dsimp only at hS); go_simp; exact hK.out _ _ (by simp only [Act.put, List.setIfInBounds_toArray, List.set_cons_zero, List.set_cons_succ, List.nil_append, List.cons_append]; rfl) (Below.refl _ _)
          simp only [Act.put, List.setIfInBounds_toArray, List.set_cons_zero, List.set_cons_succ, List.nil_append, List.cons_append]
          refine inv_val (i := 1) (by kernel_rfl) rfl rfl (fun w1 hS hd K hK => ?_) ?_
          · (try dsimp only at hS); go_simp; exact hK.out _ _ (by simp only [Act.put, List.setIfInBounds_toArray, List.set_cons_zero, List.set_cons_succ, List.nil_append, List.cons_append]; rfl) (Below.refl _ _)
          simp only [Act.put, List.setIfInBounds_toArray, List.set_cons_zero, List.set_cons_succ, List.nil_append, List.cons_append]
          refine inv_val (i := 2) (by kernel_rfl) rfl rfl (fun w1 hS hd K hK => ?_) ?_
          · (try dsimp only at hS); go_simp; exact hK.out _ _ (by simp only [Act.put, List.setIfInBounds_toArray, List.set_cons_zero, List.set_cons_succ, List.nil_append, List.cons_append]; rfl) (Below.refl _ _)
          simp only [Act.put, List.setIfInBounds_toArray, List.set_cons_zero, List.set_cons_succ, List.nil_append, List.cons_append]
          refine inv_val (i := 3) (by kernel_rfl) rfl rfl (fun w1 hS hd K hK => ?_) ?_
          · (try dsimp only at hS); go_simp; exact hK.out _ _ (by simp only [Act.put, List.setIfInBounds_toArray, List.set_cons_zero, List.set_cons_succ, List.nil_append, List.cons_append]; rfl) (Below.refl _ _)
          simp only [Act.put, List.setIfInBounds_toArray, List.set_cons_zero, List.set_cons_succ, List.nil_append, List.cons_append]
          refine inv_val (i := 4) (by kernel_rfl) rfl rfl (fun w1 hS hd K hK => ?_) ?_
          · (try dsimp only at hS); go_simp; exact hK.out _ _ (by simp only [Act.put, List.setIfInBounds_toArray, List.set_cons_zero, List.set_cons_succ, List.nil_append, List.cons_append]; rfl) (Below.refl _ _)
          simp only [Act.put, List.setIfInBounds_toArray, List.set_cons_zero, List.set_cons_succ, List.nil_append, List.cons_append]
          refine inv_val (i := 5) (by kernel_rfl) rfl rfl (fun w1 hS hd K hK => ?_) ?_
          · (try dsimp only at hS); go_simp; exact hK.out _ _ (by simp only [Act.put, List.setIfInBounds_toArray, List.set_cons_zero, List.set_cons_succ, List.nil_append, List.cons_append]; rfl) (Below.refl _ _)
          simp only [Act.put, List.setIfInBounds_toArray, List.set_cons_zero, List.set_cons_succ, List.nil_append, List.cons_append]
          refine inv_val (i := 6) (by kernel_rfl) rfl rfl (fun w1 hS hd K hK => ?_) ?_
          · (try dsimp only at hS); go_simp; exact hK.out _ _ (by simp only [Act.put, List.setIfInBounds_toArray, List.set_cons_zero, List.set_cons_succ, List.nil_append, List.cons_append]; rfl) (Below.refl _ _)
          simp only [Act.put, List.setIfInBounds_toArray, List.set_cons_zero, List.set_cons_succ, List.nil_append, List.cons_append]
          refine inv_val (i := 7) (by kernel_rfl) rfl rfl (fun w1 hS hd K hK => ?_) ?_
          · (try dsimp only at hS); go_simp; exact hK.out _ _ (by simp only [Act.put, List.setIfInBounds_toArray, List.set_cons_zero, List.set_cons_succ, List.nil_append, List.cons_append]; rfl) (Below.refl _ _)
          simp only [Act.put, List.setIfInBounds_toArray, List.set_cons_zero, List.set_cons_succ, List.nil_append, List.cons_append]
          refine inv_val (i := 8) (by kernel_rfl) rfl rfl (fun w1 hS hd K hK => ?_) ?_
          · (try dsimp only at hS); go_simp; exact hK.out _ _ (by simp only [Act.put, List.setIfInBounds_toArray, List.set_cons_zero, List.set_cons_succ, List.nil_append, List.cons_append]; rfl) (Below.refl _ _)
          simp only [Act.put, List.setIfInBounds_toArray, List.set_cons_zero, List.set_cons_succ, List.nil_append, List.cons_append]
          refine inv_val (i := 9) (by kernel_rfl) rfl rfl (fun w1 hS hd K hK => ?_) ?_
          · (try dsimp only at hS); go_simp; exact hK.out _ _ (by simp only [Act.put, List.setIfInBounds_toArray, List.set_cons_zero, List.set_cons_succ, List.nil_append, List.cons_append]; rfl) (Below.refl _ _)
          simp only [Act.put, List.setIfInBounds_toArray, List.set_cons_zero, List.set_cons_succ, List.nil_append, List.cons_append]
          refine inv_val (i := 10) (by kernel_rfl) rfl rfl (fun w1 hS hd K hK => ?_) ?_
          · (try dsimp only at hS); go_simp; exact hK.out _ _ (by simp only [Act.put, List.setIfInBounds_toArray, List.set_cons_zero, List.set_cons_succ, List.nil_append, List.cons_append]; rfl) (Below.refl _ _)
          simp only [Act.put, List.setIfInBounds_toArray, List.set_cons_zero, List.set_cons_succ, List.nil_append, List.cons_append]
          refine inv_val (i := 11) (by kernel_rfl) rfl rfl (fun w1 hS hd K hK => ?_) ?_
          · (try dsimp only at hS); go_simp; exact hK.out _ _ (by simp only [Act.put, List.setIfInBounds_toArray, List.set_cons_zero, List.set_cons_succ, List.nil_append, List.cons_append]; rfl) (Below.refl _ _)
          simp only [Act.put, List.setIfInBounds_toArray, List.set_cons_zero, List.set_cons_succ, List.nil_append, List.cons_append]
          refine inv_val (i := 12) (by kernel_rfl) rfl rfl (fun w1 hS hd K hK => ?_) ?_
          · (try dsimp only at hS); go_simp; exact hK.out _ _ (by simp only [Act.put, List.setIfInBounds_toArray, List.set_cons_zero, List.set_cons_succ, List.nil_append, List.cons_append]; rfl) (Below.refl _ _)
          simp only [Act.put, List.setIfInBounds_toArray, List.set_cons_zero, List.set_cons_succ, List.nil_append, List.cons_append]
          refine inv_val (i := 13) (by kernel_rfl) rfl rfl (fun w1 hS hd K hK => ?_) ?_
          · (try dsimp only at hS); go_simp; exact hK.out _ _ (by simp only [Act.put, List.setIfInBounds_toArray, List.set_cons_zero, List.set_cons_succ, List.nil_append, List.cons_append]; rfl) (Below.refl _ _)
          simp only [Act.put, List.setIfInBounds_toArray, List.set_cons_zero, List.set_cons_succ, List.nil_append, List.cons_append]
          refine inv_tail2 (by kernel_rfl) rfl rfl (fun w4 hS hd _ => ?_)
          have H4 := Lib.hid hS.1.1
          have HB4 := Lib.hid (HB1.out.ret (HW1.out.disk.dstep hS.1.2))
          have S4 := Lib.hid (SW1.out.trans (HW1.out.lstep hS.1.2))
          (try simp only [hwrap])
          clear hS hd c0 c1 c2 c3 c4 c5 c6
          go_wp2_with fail
          refine (write_any (G.frm + (G.used + k)) Lk H4.out.disk (by have := HC.out; omega) (by unfold I64; omega) (by have := HW.out; have := HDW.out; omega) (by rw [HLK.out]; decide)).mono ?_
          rintro e w5 ⟨rfl, hd, hs⟩
          rw [HDE.out] at hd ⊢
          have H5 := Lib.hid (H4.out.ret hd hs)
          have HB5 := Lib.hid (HB4.out.ret hs)
          have S5 := Lib.hid (S4.out.trans (LStep.of hs))
          dsimp only at H5
          clear hd hs hwrap
          by_cases he : e' = 0
          · subst he
            have hrow := H5.out.bes.2
            obtain ⟨c0, c1, c2, c3, c4, c5, c6⟩ := row7 hrow
            simp only [LV.at] at c4
            have f4 := frozen_row (o := 4) hrow
            clear hrow
            have hset := H5.out.set (i := 4) (y := .int .i64 (G.used + k + 1)) (G' := G.at (k + 1)) (by
              simp [LV.at]; omega)
            have HSET := Lib.hid hset
            have S6 := Lib.hid (S5.out.trans (H5.out.lset (i := 4) (y := .int .i64 (G.used + k + 1))))
            have HBS := Lib.hid (show Bes (w5.setCell ⟨t, 4, none⟩ (.int .i64 (G.used + k + 1))) q b (.cells cur 9) from ⟨fun ho => HB5.out.1 ((own_set1 H5.out.bes.ne).1 ho), by rw [set_heap_other _ HNE.out]; exact HB5.out.2⟩)
            clear hset
            go_wp2
            go_roundw
            case rel => exact ⟨k + 1, hlt, by go_num, Lib.hid (by rw [HK1.out]), Lib.hid (by rw [HK1.out]; exact HSET.out), HBS, S6⟩
            case measure => simp [intOf]; omega
          · have he' : (e' != 0) = true := by simpa using he
            have HEE := Lib.hid he
            have hstay : apN G L d N = (d', k, e') := by
              have h9 := apN_err (G := G) (L := L) (d := d) (k := k + 1) (by rw [HK1.out]; exact he) (N - (k + 1))
              rw [show k + 1 + (N - (k + 1)) = N by omega] at h9
              rw [h9, HK1.out, if_neg he]
            have HRES := Lib.hid (show G.app d s = (d', { G.at k with bad := e' }, e') by
              have h9 := HA3.out (by rw [hstay]; exact he)
              rw [hstay] at h9; exact h9)
            clear he hstay HA3 HA4
            go_wp2_with fail
            refine (gfail_any e' H5.out).mono ?_
            rintro e w6 ⟨rfl, h6, s6⟩
            go_wp2
            go_ret
            exact ⟨by rw [HRES.out]; rfl, by rw [HRES.out]; exact ⟨h6.mono (show c + k + 1 ≤ c + 14 by have := HN15.out; omega), S5.out.trans s6⟩⟩
        · have hkn : k = N := by omega
          have H1 := Lib.hid (show LgAt w0 wr B q (c + N) (apN G L d N).1 t (G.at N) by rw [← hkn]; exact HW1.out)
          have hz : (apN G L d N).2.2 = 0 := by rw [← hkn]; exact HE.out
          have HRES := Lib.hid (show G.app d s = ((apN G L d N).1, { G.at N with recs := G.recs + 1 }, 0) by
            have h9 := HA4.out (by simpa using hz)
            rw [apN_good N hz] at h9; exact h9)
          have hrow := H1.out.bes.2
          obtain ⟨c0, c1, c2, c3, c4, c5, c6⟩ := row7 hrow
          simp only [LV.at] at c5
          have f5 := frozen_row (o := 5) hrow
          have HSET := Lib.hid (H1.out.set (i := 5) (y := .int .i64 (G.recs + 1)) (G' := { G.at N with recs := G.recs + 1 }) rfl)
          clear hrow hz hkn HA3 HA4 HE HW1
          go_wp2
          go_ret
          exact ⟨by rw [HRES.out]; rfl, by rw [HRES.out]; exact ⟨HSET.out.mono (show c + N ≤ c + 14 by have := HN15.out; omega), SW1.out.trans H1.out.lset⟩⟩
end
end Go.Proofs.YtjcggkfinhkcoaaGreat
