/-
  The contracts of pack.fits, of a fail with no error, and of Packer.Small at numbers that fit.
-/
import Derived.Test.YtjcggkfinhkcoaaGreatPack
import Derived.Test.YtjcggkfinhkcoaaGreatInv
namespace Go.Proofs.YtjcggkfinhkcoaaGreat
open Go.RowKit
set_option linter.unusedVariables false
set_option linter.unusedSimpArgs false

def lim (sz : Nat) : Int := if sz = 4 then 4294967296 else 65536
set_option maxHeartbeats 400000 in
theorem fits_ok (sz : Nat) (n : Int) (w : World) (hs : sz = 4 ∨ sz = 2) (h0 : 0 ≤ n) (h1 : n < lim sz) :
    Calls Tryz.prog 100 #[.int .i64 sz, .int .i64 n] w (RetB w (.int .i64 0)) := by
  rcases hs with rfl | rfl
  · have h2 : n < 4294967296 := h1
    have h3 : n / 4294967296 = 0 := by omega
    clear h1
    go_enter Tryz.func100, Tryz.ntmps100
    go_wp2
    go_ret
    exact ⟨rfl, Below.refl _ _⟩
  · have h2 : n < 65536 := h1
    have h3 : n / 65536 = 0 := by omega
    clear h1
    go_enter Tryz.func100, Tryz.ntmps100
    go_wp2
    go_ret
    exact ⟨rfl, Below.refl _ _⟩

theorem set_same {w : World} {b i : Nat} {cs : Array Value} {T : TypeId} {fr : Nat × Nat} {v : Value} (h : w.heap[b]? = some (.cells cs T fr)) (hv : cs[i]? = some v) : Below w.heap.size w (w.setCell ⟨b, i, none⟩ v) := by
  refine ⟨rfl, rfl, rfl, by simp [World.setCell], fun k hk => ?_⟩
  by_cases hkb : k = b
  · subst hkb
    rw [set_heap h, h]
    congr 2
    apply Array.ext
    · simp
    · intro j h1 h2
      rw [Array.getElem_setIfInBounds (by simpa using h2)]
      split
      · rename_i e; subst e
        rw [Array.getElem?_eq_getElem (by simpa using h2)] at hv
        exact (Option.some.inj hv).symm
      · rfl
  · exact set_heap_other _ hkb

set_option maxHeartbeats 400000 in
/-- No error is kept where there is none: nothing turns. -/
theorem fail_zero (t : Nat) (c1 : Value) (T : TypeId) (w : World) (h : w.heap[t]? = some (.cells #[.int .i64 0, c1] T)) :
    Calls Tryz.prog 99 #[.pointer (some ⟨t, 0, none⟩), .int .i64 0] w (RetB w (.bool false)) := by
  have c0 : w.cell? ⟨t, 0, none⟩ = some (.int .i64 0) := by rw [cell_of_row w t _ _ _ _ h]; rfl
  have f0 := frozen_row (o := 0) h
  have H := Lib.hid (set_same (i := 0) h rfl)
  clear h
  go_enter Tryz.func99, Tryz.ntmps99
  go_wp2
  go_ret
  exact ⟨rfl, H.out⟩

def smallBytes (sz : Nat) (l : List Int) : List UInt8 := l.flatMap fun v => lowBytes v sz
theorem smallBytes_take {sz : Nat} {l : List Int} {k : Nat} (h : k < l.length) : smallBytes sz (l.take (k + 1)) = smallBytes sz (l.take k) ++ lowBytes (l.getD k 0) sz := by
  rw [take_snoc h]; simp [smallBytes]
theorem smallBytes_length (sz : Nat) : ∀ (l : List Int), (smallBytes sz l).length = sz * l.length
  | [] => by simp [smallBytes]
  | v :: l => by
    have := smallBytes_length sz l
    simp only [smallBytes] at this ⊢
    rw [List.flatMap_cons, List.length_append, lowBytes_length, this, List.length_cons, Nat.mul_succ]; omega
theorem lim_bd (sz : Nat) : lim sz ≤ 4294967296 := by unfold lim; split <;> omega
theorem PackAt.fail {w : World} {p : Nat} {l : List UInt8} (h : PackAt w p 0 l) : Calls Tryz.prog 99 #[.pointer (some ⟨p, 0, none⟩), .int .i64 0] w (RetB w (.bool false)) := by
  obtain ⟨vb, h1, _⟩ := h; exact fail_zero p vb _ w h1

set_option maxRecDepth 100000 in
set_option maxHeartbeats 1000000 in
theorem small_any (p sz : Nat) (v : Value) (ls : List Int) (l : List UInt8) (w : World) (hP : PackAt w p 0 l) (hv : IntsOut w p v ls) (hs : sz = 4 ∨ sz = 2) (hb : ∀ x ∈ ls, 0 ≤ x ∧ x < lim sz) (hn : l.length + sz * ls.length ≤ 1000000) :
    Calls Tryz.prog 115 #[.pointer (some ⟨p, 0, none⟩), .int .i64 sz, v] w (fun e' w' => e' = .returned (.tuple #[]) ∧ PackAt w' p 0 (l ++ smallBytes sz ls) ∧ PackStep p w w') := by
  obtain ⟨⟨a, ca, hve, _, hlen, _⟩, _⟩ := hv.1, trivial
  subst hve
  have HS := Lib.hid hs
  have HV := Lib.hid hv
  have HP := Lib.hid hP
  have HN := Lib.hid hn
  have HB := Lib.hid hb
  have hls : ls.length ≤ 9223372036854775807 := by omega
  clear hs hv hn hb hP hlen
  go_enter Tryz.func115, Tryz.ntmps115
  go_wp2
  refine wp_region_inv (R := Blw) (S := (fun w' => PackAt w' p 0 l ∧ PackStep p w w')) 10 (Spec.val ?_ :: Spec.val ?_ :: Spec.val ?_ :: Spec.val ?_ :: Spec.val ?_ :: Spec.val ?_ :: Spec.val ?_ :: Spec.val ?_ :: Spec.val ?_ :: Spec.val ?_ :: []) (by kernel_rfl) (by kernel_rfl) rfl (fun w1 w2 h hb => ⟨h.1.keep hb, h.2.trans (PackStep.of_below hb h.1.lt)⟩) (⟨HP.out.keep (Below.refl _ _).drew, PackStep.of_below (Below.refl _ _).drew HP.out.lt⟩) ?hm1
  case' hm1 => skip
  refine inv_val (i := 0) (by kernel_rfl) rfl rfl (fun w1 hS hd K hK => ?_) ?_
  · (try dsimp only at hS); go_simp; exact hK.out _ _ (by simp only [Act.put, List.setIfInBounds_toArray, List.set_cons_zero, List.set_cons_succ, List.nil_append, List.cons_append]; rfl) (Below.refl _ _)
  simp only [Act.put, List.setIfInBounds_toArray, List.set_cons_zero, List.set_cons_succ, List.nil_append, List.cons_append]
  refine inv_val (i := 1) (by kernel_rfl) rfl rfl (fun w1 hS hd K hK => ?_) ?_
  · (try dsimp only at hS); go_simp; exact hK.out _ _ (by simp only [Act.put, List.setIfInBounds_toArray, List.set_cons_zero, List.set_cons_succ, List.nil_append, List.cons_append]; rfl) (Below.refl _ _)
  simp only [Act.put, List.setIfInBounds_toArray, List.set_cons_zero, List.set_cons_succ, List.nil_append, List.cons_append]
  refine inv_val (i := 2) (by kernel_rfl) rfl rfl (fun w1 hS hd K hK => ?_) ?_
  · (try dsimp only at hS); go_simp; exact hK.out _ _ (by simp only [Act.put, List.setIfInBounds_toArray, List.set_cons_zero, List.set_cons_succ, List.nil_append, List.cons_append]; rfl) (Below.refl _ _)
  simp only [Act.put, List.setIfInBounds_toArray, List.set_cons_zero, List.set_cons_succ, List.nil_append, List.cons_append]
  refine inv_val (i := 3) (by kernel_rfl) rfl rfl (fun w1 hS hd K hK => ?_) ?_
  · (try dsimp only at hS); go_simp; exact hK.out _ _ (by simp only [Act.put, List.setIfInBounds_toArray, List.set_cons_zero, List.set_cons_succ, List.nil_append, List.cons_append]; rfl) (Below.refl _ _)
  simp only [Act.put, List.setIfInBounds_toArray, List.set_cons_zero, List.set_cons_succ, List.nil_append, List.cons_append]
  refine inv_val (i := 4) (by kernel_rfl) rfl rfl (fun w1 hS hd K hK => ?_) ?_
  · (try dsimp only at hS); go_simp; exact hK.out _ _ (by simp only [Act.put, List.setIfInBounds_toArray, List.set_cons_zero, List.set_cons_succ, List.nil_append, List.cons_append]; rfl) (Below.refl _ _)
  simp only [Act.put, List.setIfInBounds_toArray, List.set_cons_zero, List.set_cons_succ, List.nil_append, List.cons_append]
  refine inv_val (i := 5) (by kernel_rfl) rfl rfl (fun w1 hS hd K hK => ?_) ?_
  · (try dsimp only at hS); go_simp; exact hK.out _ _ (by simp only [Act.put, List.setIfInBounds_toArray, List.set_cons_zero, List.set_cons_succ, List.nil_append, List.cons_append]; rfl) (Below.refl _ _)
  simp only [Act.put, List.setIfInBounds_toArray, List.set_cons_zero, List.set_cons_succ, List.nil_append, List.cons_append]
  refine inv_val (i := 6) (by kernel_rfl) rfl rfl (fun w1 hS hd K hK => ?_) ?_
  · (try dsimp only at hS); go_simp; exact hK.out _ _ (by simp only [Act.put, List.setIfInBounds_toArray, List.set_cons_zero, List.set_cons_succ, List.nil_append, List.cons_append]; rfl) (Below.refl _ _)
  simp only [Act.put, List.setIfInBounds_toArray, List.set_cons_zero, List.set_cons_succ, List.nil_append, List.cons_append]
  refine inv_val (i := 7) (by kernel_rfl) rfl rfl (fun w1 hS hd K hK => ?_) ?_
  · (try dsimp only at hS); go_simp; refine (fits_ok sz 0 _ HS.out (by omega) (by unfold lim; split <;> omega)).mono ?_; rintro e w2 ⟨rfl, hb⟩; exact hK.out _ _ (by simp only [Act.put, List.setIfInBounds_toArray, List.set_cons_zero, List.set_cons_succ, List.nil_append, List.cons_append]; rfl) hb
  simp only [Act.put, List.setIfInBounds_toArray, List.set_cons_zero, List.set_cons_succ, List.nil_append, List.cons_append]
  refine inv_val (i := 8) (by kernel_rfl) rfl rfl (fun w1 hS hd K hK => ?_) ?_
  · (try dsimp only at hS); go_simp; refine hS.1.fail.mono ?_; rintro e w2 ⟨rfl, hb⟩; exact hK.out _ _ (by simp only [Act.put, List.setIfInBounds_toArray, List.set_cons_zero, List.set_cons_succ, List.nil_append, List.cons_append]; rfl) hb
  simp only [Act.put, List.setIfInBounds_toArray, List.set_cons_zero, List.set_cons_succ, List.nil_append, List.cons_append]
  refine inv_val (i := 9) (by kernel_rfl) rfl rfl (fun w1 hS hd K hK => ?_) ?_
  · (try dsimp only at hS); go_simp; exact hK.out _ _ (by simp only [Act.put, List.setIfInBounds_toArray, List.set_cons_zero, List.set_cons_succ, List.nil_append, List.cons_append]; rfl) (Below.refl _ _)
  simp only [Act.put, List.setIfInBounds_toArray, List.set_cons_zero, List.set_cons_succ, List.nil_append, List.cons_append]
  refine inv_done (by kernel_rfl) (fun w1 hS hd => ?_)
  have HS1 := Lib.hid hS
  clear hS hd
  go_wp2
  go_loopw [20] (fun i wr => ∃ (k : Nat), k ≤ ls.length ∧ i = .int .i64 k ∧ Hid (PackAt wr p 0 (l ++ smallBytes sz (ls.take k))) ∧ PackStep p w wr) (fun i _ => ls.length - (intOf i).toNat)
  case atStart => exact ⟨0, Nat.zero_le _, rfl, Lib.hid (by simpa [smallBytes] using HS1.out.1), HS1.out.2⟩
  case round =>
    obtain ⟨k, hk, rfl, HPk, hnx⟩ := hrel
    by_cases hlt : k < ls.length
    · have hW := HV.out.step hnx
      obtain ⟨⟨a', c', h1, _, _, h3⟩, _⟩ := hW
      injection h1 with e1 e2 e3
      subst e1
      obtain ⟨b, o, rfl, hbw, hcl⟩ := h3 (by intro h; simp [h] at hlt)
      have hx := hcl k hlt
      have hxI := HB.out (ls.getD k 0) (by simp [hlt])
      have HT := Lib.hid (smallBytes_take (sz := sz) hlt)
      obtain ⟨x, hxe⟩ : ∃ x, x = ls.getD k 0 := ⟨_, rfl⟩
      rw [← hxe] at hx hxI HT
      have HXI := Lib.hid hxI
      have hx0 : 0 ≤ x ∧ x ≤ 4294967295 := by have := lim_bd sz; omega
      have hlen : (l ++ smallBytes sz (ls.take k)).length + sz ≤ 1000000 := by
        have := HN.out
        have h2 : sz * (k + 1) ≤ sz * ls.length := Nat.mul_le_mul_left _ hlt
        rw [List.length_append, smallBytes_length, List.length_take, Nat.min_eq_left hk]
        rw [Nat.mul_succ] at h2
        omega
      have HL := Lib.hid hlen
      have HC := Lib.hid hcl
      obtain ⟨L, hL⟩ : ∃ L, L = l ++ smallBytes sz (ls.take k) := ⟨_, rfl⟩
      rw [← hL] at HPk HL
      have HLL := Lib.hid hL
      clear hxe h3 hcl hlen e2 e3 hxI hL
      go_wp2
      refine wp_region_inv (R := Blw) (S := (fun w' => PackAt w' p 0 L ∧ PackStep p w w')) 7 (Spec.val ?_ :: Spec.val ?_ :: Spec.val ?_ :: Spec.val ?_ :: Spec.val ?_ :: Spec.val ?_ :: Spec.val ?_ :: []) (by kernel_rfl) (by kernel_rfl) rfl (fun w1 w2 h hb => ⟨h.1.keep hb, h.2.trans (PackStep.of_below hb h.1.lt)⟩) (⟨HPk.out.keep (Below.refl _ _).drew, hnx.trans (PackStep.of_below (Below.refl _ _).drew HPk.out.lt)⟩) ?hm2
      case' hm2 => skip
      refine inv_val (i := 0) (by kernel_rfl) rfl rfl (fun w1 hS hd K hK => ?_) ?_
      · (try dsimp only at hS); go_simp; exact hK.out _ _ (by simp only [Act.put, List.setIfInBounds_toArray, List.set_cons_zero, List.set_cons_succ, List.nil_append, List.cons_append]; rfl) (Below.refl _ _)
      simp only [Act.put, List.setIfInBounds_toArray, List.set_cons_zero, List.set_cons_succ, List.nil_append, List.cons_append]
      refine inv_val (i := 1) (by kernel_rfl) rfl rfl (fun w1 hS hd K hK => ?_) ?_
      · (try dsimp only at hS); go_simp; exact hK.out _ _ (by simp only [Act.put, List.setIfInBounds_toArray, List.set_cons_zero, List.set_cons_succ, List.nil_append, List.cons_append]; rfl) (Below.refl _ _)
      simp only [Act.put, List.setIfInBounds_toArray, List.set_cons_zero, List.set_cons_succ, List.nil_append, List.cons_append]
      refine inv_val (i := 2) (by kernel_rfl) rfl rfl (fun w1 hS hd K hK => ?_) ?_
      · (try dsimp only at hS); go_simp; exact hK.out _ _ (by simp only [Act.put, List.setIfInBounds_toArray, List.set_cons_zero, List.set_cons_succ, List.nil_append, List.cons_append]; rfl) (Below.refl _ _)
      simp only [Act.put, List.setIfInBounds_toArray, List.set_cons_zero, List.set_cons_succ, List.nil_append, List.cons_append]
      refine inv_val (i := 3) (by kernel_rfl) rfl rfl (fun w1 hS hd K hK => ?_) ?_
      · (try dsimp only at hS); go_simp; exact hK.out _ _ (by simp only [Act.put, List.setIfInBounds_toArray, List.set_cons_zero, List.set_cons_succ, List.nil_append, List.cons_append]; rfl) (Below.refl _ _)
      simp only [Act.put, List.setIfInBounds_toArray, List.set_cons_zero, List.set_cons_succ, List.nil_append, List.cons_append]
      refine inv_val (i := 4) (by kernel_rfl) rfl rfl (fun w1 hS hd K hK => ?_) ?_
      · (try dsimp only at hS); go_simp; exact hK.out _ _ (by simp only [Act.put, List.setIfInBounds_toArray, List.set_cons_zero, List.set_cons_succ, List.nil_append, List.cons_append]; rfl) (Below.refl _ _)
      simp only [Act.put, List.setIfInBounds_toArray, List.set_cons_zero, List.set_cons_succ, List.nil_append, List.cons_append]
      refine inv_val (i := 5) (by kernel_rfl) rfl rfl (fun w1 hS hd K hK => ?_) ?_
      · (try dsimp only at hS); go_simp; refine (fits_ok sz x _ HS.out HXI.out.1 HXI.out.2).mono ?_; rintro e w2 ⟨rfl, hb⟩; exact hK.out _ _ (by simp only [Act.put, List.setIfInBounds_toArray, List.set_cons_zero, List.set_cons_succ, List.nil_append, List.cons_append]; rfl) hb
      simp only [Act.put, List.setIfInBounds_toArray, List.set_cons_zero, List.set_cons_succ, List.nil_append, List.cons_append]
      refine inv_val (i := 6) (by kernel_rfl) rfl rfl (fun w1 hS hd K hK => ?_) ?_
      · (try dsimp only at hS); go_simp; refine hS.1.fail.mono ?_; rintro e w2 ⟨rfl, hb⟩; exact hK.out _ _ (by simp only [Act.put, List.setIfInBounds_toArray, List.set_cons_zero, List.set_cons_succ, List.nil_append, List.cons_append]; rfl) hb
      simp only [Act.put, List.setIfInBounds_toArray, List.set_cons_zero, List.set_cons_succ, List.nil_append, List.cons_append]
      refine inv_done (by kernel_rfl) (fun w2 hS hd => ?_)
      have HS2 := Lib.hid hS
      clear hS hd hx
      go_wp2_with fail
      refine (low_any p sz x 0 L w2 HS2.out.1 hx0.1 (by omega) HL.out).mono ?_
      rintro e w3 ⟨rfl, hP1, hs1⟩
      have HP1 := Lib.hid hP1
      have hs2 := HS2.out.2.trans hs1
      clear hP1 hs1
      go_wp2
      go_roundw
      case rel => exact ⟨k + 1, by omega, by go_num, Lib.hid (by rw [HT.out, ← List.append_assoc, ← HLL.out]; exact HP1.out), hs2⟩
      case measure => simp [intOf]; omega
    · have hkn : k = ls.length := by omega
      subst hkn
      have hP1 := HPk.out
      rw [List.take_length] at hP1
      have HP1 := Lib.hid hP1
      clear hP1
      go_wp2
      go_end0
      exact ⟨rfl, HP1.out, hnx⟩
end Go.Proofs.YtjcggkfinhkcoaaGreat
