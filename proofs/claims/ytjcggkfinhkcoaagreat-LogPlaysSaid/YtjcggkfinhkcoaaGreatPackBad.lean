/-
  The contracts of Packer.Small at numbers of which one does not fit, and of Fill and Done of a Packer with an error.
-/
import Derived.Test.YtjcggkfinhkcoaaGreatPackSmall
import Derived.Test.YtjcggkfinhkcoaaGreatPackFill
namespace Go.Proofs.YtjcggkfinhkcoaaGreat
open Go.RowKit
set_option linter.unusedVariables false
set_option linter.unusedSimpArgs false

set_option maxHeartbeats 400000 in
theorem fits_bad (n : Int) (w : World) (h0 : 65536 ≤ n) (h1 : n ≤ 9223372036854775807) :
    Calls Tryz.prog 100 #[.int .i64 2, .int .i64 n] w (RetB w (.int .i64 1)) := by
  have h3 : ((n / 65536) != 0) = true := by simp; omega
  have h4 : (0 : Int) ≤ n := by omega
  have h5 : ¬ n < 0 := by omega
  clear h0
  go_enter Tryz.func100, Tryz.ntmps100
  go_wp2
  go_ret
  exact ⟨rfl, Below.refl _ _⟩
theorem pack_err {w : World} {p : Nat} {e e' : Int} {l : List UInt8} (h : PackAt w p e l) : PackAt (w.setCell ⟨p, 0, none⟩ (.int .i64 e')) p e' l ∧ PackStep p w (w.setCell ⟨p, 0, none⟩ (.int .i64 e')) := by
  obtain ⟨vb, h1, h2⟩ := h
  have h3 : (w.setCell ⟨p, 0, none⟩ (.int .i64 e')).heap[p]? = some (.cells #[.int .i64 e', vb] 162) := by rw [set_heap h1]; rfl
  refine ⟨⟨vb, h3, h2.kept (row := some p) ⟨rfl, rfl, rfl, by simp [World.setCell], fun k hk hne => set_heap_other _ (fun h => hne (by simp [h]))⟩ (.inr (own_ne h2 h1 (by decide)))⟩, rfl, rfl, rfl, by simp [World.setCell], fun k hk hkp _ => set_heap_other _ hkp, fun k ⟨u, hu, hk⟩ => .inl ?_⟩
  rw [cell_of_row _ p _ _ _ _ h3] at hu
  exact ⟨u, by rw [cell_of_row _ p _ _ _ _ h1]; exact hu, hk⟩
set_option maxHeartbeats 400000 in
theorem fail_one (p : Nat) (l : List UInt8) (w : World) (h : PackAt w p 0 l) :
    Calls Tryz.prog 99 #[.pointer (some ⟨p, 0, none⟩), .int .i64 1] w (fun e' w' => e' = .returned (.bool true) ∧ PackAt w' p 1 l ∧ PackStep p w w') := by
  have H := Lib.hid (pack_err (e' := 1) h)
  obtain ⟨vb, h1, _⟩ := h
  have c0 : w.cell? ⟨p, 0, none⟩ = some (.int .i64 0) := by rw [cell_of_row w p _ _ _ _ h1]; rfl
  have f0 := frozen_row (o := 0) h1
  clear h1
  go_enter Tryz.func99, Tryz.ntmps99
  go_wp2
  go_ret
  exact ⟨rfl, H.out.1, H.out.2⟩
set_option maxHeartbeats 400000 in
theorem fail_still (p : Nat) (l : List UInt8) (w : World) (h : PackAt w p 1 l) :
    Calls Tryz.prog 99 #[.pointer (some ⟨p, 0, none⟩), .int .i64 0] w (RetB w (.bool true)) := by
  obtain ⟨vb, h1, _⟩ := h
  have c0 : w.cell? ⟨p, 0, none⟩ = some (.int .i64 1) := by rw [cell_of_row w p _ _ _ _ h1]; rfl
  have f0 := frozen_row (o := 0) h1
  clear h1
  go_enter Tryz.func99, Tryz.ntmps99
  go_wp2
  go_ret
  exact ⟨rfl, Below.refl _ _⟩

set_option maxRecDepth 100000 in
set_option maxHeartbeats 1000000 in
/-- Small, in two bytes, where one number does not fit: an error, and some bytes at the most. -/
theorem small_bad (p : Nat) (v : Value) (ls : List Int) (l : List UInt8) (w : World) (hP : PackAt w p 0 l) (hv : IntsOut w p v ls) (hb : ∀ x ∈ ls, 0 ≤ x ∧ x ≤ 9223372036854775807) (hx : ∃ x ∈ ls, 65536 ≤ x) (hn : l.length + 2 * ls.length ≤ 1000000) :
    Calls Tryz.prog 115 #[.pointer (some ⟨p, 0, none⟩), .int .i64 2, v] w (fun e' w' => e' = .returned (.tuple #[]) ∧ (∃ l', l'.length ≤ l.length + 2 * ls.length ∧ PackAt w' p 1 l') ∧ PackStep p w w') := by
  obtain ⟨⟨a, ca, hve, _, hlen, _⟩, _⟩ := hv.1, trivial
  subst hve
  have HV := Lib.hid hv
  have HP := Lib.hid hP
  have HN := Lib.hid hn
  have HB := Lib.hid hb
  have HX := Lib.hid hx
  have hls : ls.length ≤ 9223372036854775807 := by omega
  clear hv hn hb hP hlen hx
  go_enter Tryz.func115, Tryz.ntmps115
  go_wp2
  refine wp_region_inv (R := Blw) (S := (fun w' => PackAt w' p 0 l ∧ PackStep p w w')) 10 (Spec.val ?_ :: Spec.val ?_ :: Spec.val ?_ :: Spec.val ?_ :: Spec.val ?_ :: Spec.val ?_ :: Spec.val ?_ :: Spec.val ?_ :: Spec.val ?_ :: Spec.val ?_ :: []) (by kernel_rfl) (by kernel_rfl) rfl (fun w1 w2 h hb => ⟨h.1.keep hb, h.2.trans (PackStep.of_below hb h.1.lt)⟩) (⟨HP.out.keep (Below.refl _ _).drew, PackStep.of_below (Below.refl _ _).drew HP.out.lt⟩) ?hm10
  case' hm10 => skip
  refine inv_val (i := 0) (by kernel_rfl) rfl rfl (fun w1 hS hd K hK => ?_) ?_
  · (try dsimp only at hS); go_simp; exact hK.out _ _ (by simp only [Act.put, List.setIfInBounds_toArray, List.set_cons_zero, List.set_cons_succ, List.nil_append, List.cons_append]; rfl) (Below.refl _ _)
  simp only [Act.put, List.setIfInBounds_toArray, List.set_cons_zero, List.set_cons_succ, List.nil_append, List.cons_append]
  refine inv_val (i := 1) (by kernel_rfl) rfl rfl (fun w1 hS hd K hK => ?_) ?_
  · (try dsimp only at hS); go_simp; exact hK.out _ _ (by simp only [Act.put, List.setIfInBounds_toArray, List.set_cons_zero, List.set_cons_succ, List.nil_append, List.cons_append]; rfl) (Below.refl _ _)
  simp only [Act.put, List.setIfInBounds_toArray, List.set_cons_zero, List.set_cons_succ, List.nil_append, List.cons_append]
  refine inv_val (i := 2) (by kernel_rfl) rfl rfl (fun w1 hS hd K hK => ?_) ?_
  · (try dsimp only at hS); go_simp; exact hK.out _ _ (by simp only [Act.put, List.setIfInBounds_toArray, List.set_cons_zero, List.set_cons_succ, List.nil_append, List.cons_append]; rfl) (Below.refl _ _)
  simp only [Act.put, List.setIfInBounds_toArray, List.set_cons_zero, List.set_cons_succ, List.nil_append, List.cons_append]
  refine inv_val (i := 3) (by kernel_rfl) rfl rfl (fun w1 hS hd K hK => ?_) ?_
  · (try dsimp only at hS); go_simp; exact hK.out _ _ (by simp only [Act.put, List.setIfInBounds_toArray, List.set_cons_zero, List.set_cons_succ, List.nil_append, List.cons_append]; rfl) (Below.refl _ _)
  simp only [Act.put, List.setIfInBounds_toArray, List.set_cons_zero, List.set_cons_succ, List.nil_append, List.cons_append]
  refine inv_val (i := 4) (by kernel_rfl) rfl rfl (fun w1 hS hd K hK => ?_) ?_
  · (try dsimp only at hS); go_simp; exact hK.out _ _ (by simp only [Act.put, List.setIfInBounds_toArray, List.set_cons_zero, List.set_cons_succ, List.nil_append, List.cons_append]; rfl) (Below.refl _ _)
  simp only [Act.put, List.setIfInBounds_toArray, List.set_cons_zero, List.set_cons_succ, List.nil_append, List.cons_append]
  refine inv_val (i := 5) (by kernel_rfl) rfl rfl (fun w1 hS hd K hK => ?_) ?_
  · (try dsimp only at hS); go_simp; exact hK.out _ _ (by simp only [Act.put, List.setIfInBounds_toArray, List.set_cons_zero, List.set_cons_succ, List.nil_append, List.cons_append]; rfl) (Below.refl _ _)
  simp only [Act.put, List.setIfInBounds_toArray, List.set_cons_zero, List.set_cons_succ, List.nil_append, List.cons_append]
  refine inv_val (i := 6) (by kernel_rfl) rfl rfl (fun w1 hS hd K hK => ?_) ?_
  · (try dsimp only at hS); go_simp; exact hK.out _ _ (by simp only [Act.put, List.setIfInBounds_toArray, List.set_cons_zero, List.set_cons_succ, List.nil_append, List.cons_append]; rfl) (Below.refl _ _)
  simp only [Act.put, List.setIfInBounds_toArray, List.set_cons_zero, List.set_cons_succ, List.nil_append, List.cons_append]
  refine inv_val (i := 7) (by kernel_rfl) rfl rfl (fun w1 hS hd K hK => ?_) ?_
  · (try dsimp only at hS); go_simp; refine (fits_ok 2 0 _ (.inr rfl) (by omega) (by decide)).mono ?_; rintro e w2 ⟨rfl, hb⟩; exact hK.out _ _ (by simp only [Act.put, List.setIfInBounds_toArray, List.set_cons_zero, List.set_cons_succ, List.nil_append, List.cons_append]; rfl) hb
  simp only [Act.put, List.setIfInBounds_toArray, List.set_cons_zero, List.set_cons_succ, List.nil_append, List.cons_append]
  refine inv_val (i := 8) (by kernel_rfl) rfl rfl (fun w1 hS hd K hK => ?_) ?_
  · (try dsimp only at hS); go_simp; refine hS.1.fail.mono ?_; rintro e w2 ⟨rfl, hb⟩; exact hK.out _ _ (by simp only [Act.put, List.setIfInBounds_toArray, List.set_cons_zero, List.set_cons_succ, List.nil_append, List.cons_append]; rfl) hb
  simp only [Act.put, List.setIfInBounds_toArray, List.set_cons_zero, List.set_cons_succ, List.nil_append, List.cons_append]
  refine inv_val (i := 9) (by kernel_rfl) rfl rfl (fun w1 hS hd K hK => ?_) ?_
  · (try dsimp only at hS); go_simp; exact hK.out _ _ (by simp only [Act.put, List.setIfInBounds_toArray, List.set_cons_zero, List.set_cons_succ, List.nil_append, List.cons_append]; rfl) (Below.refl _ _)
  simp only [Act.put, List.setIfInBounds_toArray, List.set_cons_zero, List.set_cons_succ, List.nil_append, List.cons_append]
  refine inv_done (by kernel_rfl) (fun w1 hS hd => ?_)
  have HS1 := Lib.hid hS
  clear hS hd
  go_wp2
  go_loopw [20] (fun i wr => ∃ (k : Nat) (L : List UInt8), k ≤ ls.length ∧ i = .int .i64 k ∧ L.length = l.length + 2 * k ∧ Hid (PackAt wr p 0 L) ∧ Hid (∀ x ∈ ls.take k, x < 65536) ∧ PackStep p w wr) (fun i _ => ls.length - (intOf i).toNat)
  case atStart => exact ⟨0, l, Nat.zero_le _, rfl, by omega, Lib.hid HS1.out.1, Lib.hid (by simp), HS1.out.2⟩
  case round =>
    obtain ⟨k, L, hk, rfl, hLl, HPk, HFX, hnx⟩ := hrel
    by_cases hlt : k < ls.length
    · have hW := HV.out.step hnx
      obtain ⟨⟨a', c', h1, _, _, h3⟩, _⟩ := hW
      injection h1 with e1 e2 e3
      subst e1
      obtain ⟨b, o, rfl, hbw, hcl⟩ := h3 (by intro h; simp [h] at hlt)
      have hx := hcl k hlt
      have hxI := HB.out (ls.getD k 0) (by simp [hlt])
      have HT := Lib.hid (take_snoc (l := ls) hlt)
      obtain ⟨x, hxe⟩ : ∃ x, x = ls.getD k 0 := ⟨_, rfl⟩
      rw [← hxe] at hx hxI HT
      have HXI := Lib.hid hxI
      have hlen : L.length + 2 ≤ 1000000 := by have := HN.out; omega
      have HL := Lib.hid hlen
      have HLL := Lib.hid hLl
      have HC := Lib.hid hcl
      clear hxe h3 hcl hlen e2 e3 hxI hLl
      by_cases hfit : x < 65536
      · have hx0 : 0 ≤ x ∧ x ≤ 4294967295 := by have := HXI.out; omega
        go_wp2
        refine wp_region_inv (R := Blw) (S := (fun w' => PackAt w' p 0 L ∧ PackStep p w w')) 7 (Spec.val ?_ :: Spec.val ?_ :: Spec.val ?_ :: Spec.val ?_ :: Spec.val ?_ :: Spec.val ?_ :: Spec.val ?_ :: []) (by kernel_rfl) (by kernel_rfl) rfl (fun w1 w2 h hb => ⟨h.1.keep hb, h.2.trans (PackStep.of_below hb h.1.lt)⟩) (⟨HPk.out.keep (Below.refl _ _).drew, hnx.trans (PackStep.of_below (Below.refl _ _).drew HPk.out.lt)⟩) ?hm11
        case' hm11 => skip
        refine inv_val (i := 0) (by kernel_rfl) rfl rfl (fun w1 hS hd K hK => ?_) ?_
        · (try dsimp only at hS); go_simp; exact hK.out _ _ (by simp only [Act.put, List.setIfInBounds_toArray, List.set_cons_zero, List.set_cons_succ, List.nil_append, List.cons_append]; rfl) (Below.refl _ _)
        simp only [Act.put, List.setIfInBounds_toArray, List.set_cons_zero, List.set_cons_succ, List.nil_append, List.cons_append]
        refine inv_val (i := 1) (by kernel_rfl) rfl rfl (fun w1 hS hd K hK => ?_) ?_
        · (try dsimp only at hS); go_simp; exact hK.out _ _ (by simp only [Act.put, List.setIfInBounds_toArray, List.set_cons_zero, List.set_cons_succ, List.nil_append, List.cons_append]; rfl) (Below.refl _ _)
        simp only [Act.put, List.setIfInBounds_toArray, List.set_cons_zero, List.set_cons_succ, List.nil_append, List.cons_append]
        refine inv_val (i := 2) (by kernel_rfl) rfl rfl (fun w1 hS hd K hK => ?_) ?_
        · (try dsimp only at hS); go_simp; exact hK.out _ _ (by simp only [Act.put, List.setIfInBounds_toArray, List.set_cons_zero, List.set_cons_succ, List.nil_append, List.cons_append]; rfl) (Below.refl _ _)
        simp only [Act.put, List.setIfInBounds_toArray, List.set_cons_zero, List.set_cons_succ, List.nil_append, List.cons_append]
        refine inv_val (i := 3) (by kernel_rfl) rfl rfl (fun w1 hS hd K hK => ?_) ?_
        · (try dsimp only at hS); go_simp; exact hK.out _ _ (by simp only [Act.put, List.setIfInBounds_toArray, List.set_cons_zero, List.set_cons_succ, List.nil_append, List.cons_append]; rfl) (Below.refl _ _)
        simp only [Act.put, List.setIfInBounds_toArray, List.set_cons_zero, List.set_cons_succ, List.nil_append, List.cons_append]
        refine inv_val (i := 4) (by kernel_rfl) rfl rfl (fun w1 hS hd K hK => ?_) ?_
        · (try dsimp only at hS); go_simp; exact hK.out _ _ (by simp only [Act.put, List.setIfInBounds_toArray, List.set_cons_zero, List.set_cons_succ, List.nil_append, List.cons_append]; rfl) (Below.refl _ _)
        simp only [Act.put, List.setIfInBounds_toArray, List.set_cons_zero, List.set_cons_succ, List.nil_append, List.cons_append]
        refine inv_val (i := 5) (by kernel_rfl) rfl rfl (fun w1 hS hd K hK => ?_) ?_
        · (try dsimp only at hS); go_simp; refine (fits_ok 2 x _ (.inr rfl) HXI.out.1 hfit).mono ?_; rintro e w2 ⟨rfl, hb⟩; exact hK.out _ _ (by simp only [Act.put, List.setIfInBounds_toArray, List.set_cons_zero, List.set_cons_succ, List.nil_append, List.cons_append]; rfl) hb
        simp only [Act.put, List.setIfInBounds_toArray, List.set_cons_zero, List.set_cons_succ, List.nil_append, List.cons_append]
        refine inv_val (i := 6) (by kernel_rfl) rfl rfl (fun w1 hS hd K hK => ?_) ?_
        · (try dsimp only at hS); go_simp; refine hS.1.fail.mono ?_; rintro e w2 ⟨rfl, hb⟩; exact hK.out _ _ (by simp only [Act.put, List.setIfInBounds_toArray, List.set_cons_zero, List.set_cons_succ, List.nil_append, List.cons_append]; rfl) hb
        simp only [Act.put, List.setIfInBounds_toArray, List.set_cons_zero, List.set_cons_succ, List.nil_append, List.cons_append]
        refine inv_done (by kernel_rfl) (fun w2 hS hd => ?_)
        have HS2 := Lib.hid hS
        clear hS hd hx
        go_wp2_with fail
        refine (low_any p 2 x 0 L w2 HS2.out.1 hx0.1 (by omega) HL.out).mono ?_
        rintro e w3 ⟨rfl, hP1, hs1⟩
        have HP1 := Lib.hid hP1
        have hs2 := HS2.out.2.trans hs1
        have HFY := Lib.hid (show ∀ y ∈ ls.take (k + 1), y < 65536 by
          rw [HT.out]; intro y hy
          rcases List.mem_append.1 hy with h | h
          · exact HFX.out y h
          · rw [List.mem_singleton.1 h]; exact hfit)
        clear hP1 hs1
        go_wp2
        go_roundw
        case rel => exact ⟨k + 1, _, by omega, by go_num, by rw [List.length_append, lowBytes_length, HLL.out]; omega, HP1, HFY, hs2⟩
        case measure => simp [intOf]; omega
      · have HXB := Lib.hid (show 65536 ≤ x by omega)
        go_wp2
        refine wp_region_inv (R := Blw) (S := (fun w' => PackAt w' p 0 L ∧ PackStep p w w')) 6 (Spec.val ?_ :: Spec.val ?_ :: Spec.val ?_ :: Spec.val ?_ :: Spec.val ?_ :: Spec.val ?_ :: []) (by kernel_rfl) (by kernel_rfl) rfl (fun w1 w2 h hb => ⟨h.1.keep hb, h.2.trans (PackStep.of_below hb h.1.lt)⟩) (⟨HPk.out.keep (Below.refl _ _).drew, hnx.trans (PackStep.of_below (Below.refl _ _).drew HPk.out.lt)⟩) ?hm12
        case' hm12 => skip
        refine inv_val (i := 0) (by kernel_rfl) rfl rfl (fun w1 hS hd K hK => ?_) ?_
        · (try dsimp only at hS); go_simp; exact hK.out _ _ (by simp only [Act.put, List.setIfInBounds_toArray, List.set_cons_zero, List.set_cons_succ, List.nil_append, List.cons_append]; rfl) (Below.refl _ _)
        simp only [Act.put, List.setIfInBounds_toArray, List.set_cons_zero, List.set_cons_succ, List.nil_append, List.cons_append]
        refine inv_val (i := 1) (by kernel_rfl) rfl rfl (fun w1 hS hd K hK => ?_) ?_
        · (try dsimp only at hS); go_simp; exact hK.out _ _ (by simp only [Act.put, List.setIfInBounds_toArray, List.set_cons_zero, List.set_cons_succ, List.nil_append, List.cons_append]; rfl) (Below.refl _ _)
        simp only [Act.put, List.setIfInBounds_toArray, List.set_cons_zero, List.set_cons_succ, List.nil_append, List.cons_append]
        refine inv_val (i := 2) (by kernel_rfl) rfl rfl (fun w1 hS hd K hK => ?_) ?_
        · (try dsimp only at hS); go_simp; exact hK.out _ _ (by simp only [Act.put, List.setIfInBounds_toArray, List.set_cons_zero, List.set_cons_succ, List.nil_append, List.cons_append]; rfl) (Below.refl _ _)
        simp only [Act.put, List.setIfInBounds_toArray, List.set_cons_zero, List.set_cons_succ, List.nil_append, List.cons_append]
        refine inv_val (i := 3) (by kernel_rfl) rfl rfl (fun w1 hS hd K hK => ?_) ?_
        · (try dsimp only at hS); go_simp; exact hK.out _ _ (by simp only [Act.put, List.setIfInBounds_toArray, List.set_cons_zero, List.set_cons_succ, List.nil_append, List.cons_append]; rfl) (Below.refl _ _)
        simp only [Act.put, List.setIfInBounds_toArray, List.set_cons_zero, List.set_cons_succ, List.nil_append, List.cons_append]
        refine inv_val (i := 4) (by kernel_rfl) rfl rfl (fun w1 hS hd K hK => ?_) ?_
        · (try dsimp only at hS); go_simp; exact hK.out _ _ (by simp only [Act.put, List.setIfInBounds_toArray, List.set_cons_zero, List.set_cons_succ, List.nil_append, List.cons_append]; rfl) (Below.refl _ _)
        simp only [Act.put, List.setIfInBounds_toArray, List.set_cons_zero, List.set_cons_succ, List.nil_append, List.cons_append]
        refine inv_val (i := 5) (by kernel_rfl) rfl rfl (fun w1 hS hd K hK => ?_) ?_
        · (try dsimp only at hS); go_simp; refine (fits_bad x _ HXB.out HXI.out.2).mono ?_; rintro e w2 ⟨rfl, hb⟩; exact hK.out _ _ (by simp only [Act.put, List.setIfInBounds_toArray, List.set_cons_zero, List.set_cons_succ, List.nil_append, List.cons_append]; rfl) hb
        simp only [Act.put, List.setIfInBounds_toArray, List.set_cons_zero, List.set_cons_succ, List.nil_append, List.cons_append]
        refine inv_tail1 (by kernel_rfl) rfl (fun w2 hS hd => ?_)
        have HS2 := Lib.hid hS
        clear hS hd hx
        go_wp2_with fail
        refine (fail_one p L w2 HS2.out.1).mono ?_
        rintro e w3 ⟨rfl, hP1, hs1⟩
        have HP1 := Lib.hid hP1
        have hs2 := HS2.out.2.trans hs1
        clear hP1 hs1
        go_wp2
        (try simp only [Exit.inBlock, Exit.then])
        refine bodyPost_ret (results_none rfl _ _ _) rfl ?_
        exact ⟨rfl, ⟨L, by have := HLL.out; omega, HP1.out⟩, hs2⟩
    · exfalso
      obtain ⟨x, hx, hx2⟩ := HX.out
      have := HFX.out x (by rw [List.take_of_length_le (by omega)]; exact hx)
      omega

set_option maxRecDepth 100000 in
set_option maxHeartbeats 1000000 in
theorem pfill_bad (p : Nat) (n : Nat) (l : List UInt8) (w : World) (hP : PackAt w p 1 l) (hn : n ≤ 60000) (hl : l.length ≤ n) :
    Calls Tryz.prog 102 #[.pointer (some ⟨p, 0, none⟩), .int .i64 n] w (RetB w (.tuple #[])) := by
  have HP := Lib.hid hP
  have hc : ∃ va ca, w.cell? ⟨p, 1, none⟩ = some (.slice va l.length ca) := by
    obtain ⟨vb, hblk, hown⟩ := hP
    obtain ⟨va, ca, rfl⟩ := own_form hown
    exact ⟨va, ca, by rw [cell_of_row w p _ _ _ _ hblk]; rfl⟩
  obtain ⟨va, ca, c1⟩ := hc
  have hn' : (n : Int) ≤ 60000 := by omega
  have hl' : (l.length : Int) ≤ n := by omega
  clear hP
  go_enter Tryz.func102, Tryz.ntmps102
  go_wp2_with fail
  refine (fail_still p l _ HP.out).mono ?_
  rintro e w1 ⟨rfl, hb⟩
  have HB := Lib.hid hb
  clear hb
  go_wp2
  go_end0
  exact ⟨rfl, HB.out⟩
theorem done_bad (p : Nat) (l : List UInt8) (w : World) (hP : PackAt w p 1 l) :
    Calls Tryz.prog 103 #[.pointer (some ⟨p, 0, none⟩)] w (RetB w (.tuple #[.string ByteArray.empty, .int .i64 1])) := by
  obtain ⟨vb, hblk, hown⟩ := hP
  have c0 : w.cell? ⟨p, 0, none⟩ = some (.int .i64 1) := by rw [cell_of_row w p _ _ _ _ hblk]; rfl
  clear hblk hown
  go_enter Tryz.func103, Tryz.ntmps103
  go_wp2
  refine wp_region_inv (R := Blw) (S := (fun w' => Below w.heap.size w w' ∧ w'.cell? ⟨p, 0, none⟩ = some (.int .i64 1))) 7 (Spec.val ?_ :: Spec.val ?_ :: Spec.val ?_ :: Spec.val ?_ :: Spec.val ?_ :: Spec.val ?_ :: Spec.val ?_ :: []) (by kernel_rfl) (by kernel_rfl) rfl (fun w1 w2 h hb => ⟨chain h.1 hb, cell_step h.2 hb⟩) (⟨(Below.refl _ _).drew, c0⟩) ?hm13
  case' hm13 => skip
  refine inv_val (i := 0) (by kernel_rfl) rfl rfl (fun w1 hS hd K hK => ?_) ?_
  · (try dsimp only at hS); go_simp; exact hK.out _ _ (by simp only [Act.put, List.setIfInBounds_toArray, List.set_cons_zero, List.set_cons_succ, List.nil_append, List.cons_append]; rfl) (Below.refl _ _)
  simp only [Act.put, List.setIfInBounds_toArray, List.set_cons_zero, List.set_cons_succ, List.nil_append, List.cons_append]
  refine inv_val (i := 1) (by kernel_rfl) rfl rfl (fun w1 hS hd K hK => ?_) ?_
  · (try dsimp only at hS); go_simp; exact hK.out _ _ (by simp only [Act.put, List.setIfInBounds_toArray, List.set_cons_zero, List.set_cons_succ, List.nil_append, List.cons_append]; rfl) (Below.refl _ _)
  simp only [Act.put, List.setIfInBounds_toArray, List.set_cons_zero, List.set_cons_succ, List.nil_append, List.cons_append]
  refine inv_val (i := 2) (by kernel_rfl) rfl rfl (fun w1 hS hd K hK => ?_) ?_
  · (try dsimp only at hS); go_simp; exact hK.out _ _ (by simp only [Act.put, List.setIfInBounds_toArray, List.set_cons_zero, List.set_cons_succ, List.nil_append, List.cons_append]; rfl) (Below.refl _ _)
  simp only [Act.put, List.setIfInBounds_toArray, List.set_cons_zero, List.set_cons_succ, List.nil_append, List.cons_append]
  refine inv_val (i := 3) (by kernel_rfl) rfl rfl (fun w1 hS hd K hK => ?_) ?_
  · (try dsimp only at hS); go_simp; exact hK.out _ _ (by simp only [Act.put, List.setIfInBounds_toArray, List.set_cons_zero, List.set_cons_succ, List.nil_append, List.cons_append]; rfl) (Below.refl _ _)
  simp only [Act.put, List.setIfInBounds_toArray, List.set_cons_zero, List.set_cons_succ, List.nil_append, List.cons_append]
  refine inv_val (i := 4) (by kernel_rfl) rfl rfl (fun w1 hS hd K hK => ?_) ?_
  · (try dsimp only at hS); go_simp; exact hK.out _ _ (by simp only [Act.put, List.setIfInBounds_toArray, List.set_cons_zero, List.set_cons_succ, List.nil_append, List.cons_append]; rfl) (Below.refl _ _)
  simp only [Act.put, List.setIfInBounds_toArray, List.set_cons_zero, List.set_cons_succ, List.nil_append, List.cons_append]
  refine inv_val (i := 5) (by kernel_rfl) rfl rfl (fun w1 hS hd K hK => ?_) ?_
  · (try dsimp only at hS); go_simp; exact hK.out _ _ (by simp only [Act.put, List.setIfInBounds_toArray, List.set_cons_zero, List.set_cons_succ, List.nil_append, List.cons_append]; rfl) (Below.refl _ _)
  simp only [Act.put, List.setIfInBounds_toArray, List.set_cons_zero, List.set_cons_succ, List.nil_append, List.cons_append]
  refine inv_val (i := 6) (by kernel_rfl) rfl rfl (fun w1 hS hd K hK => ?_) ?_
  · (try dsimp only at hS); go_simp; exact hK.out _ _ (by simp only [Act.put, List.setIfInBounds_toArray, List.set_cons_zero, List.set_cons_succ, List.nil_append, List.cons_append]; rfl) (Below.refl _ _)
  simp only [Act.put, List.setIfInBounds_toArray, List.set_cons_zero, List.set_cons_succ, List.nil_append, List.cons_append]
  refine inv_done (by kernel_rfl) (fun w2 hS hd => ?_)
  have HB := Lib.hid hS.1
  clear hS hd
  go_wp2
  go_ret2
  exact ⟨rfl, HB.out⟩
end Go.Proofs.YtjcggkfinhkcoaaGreat
