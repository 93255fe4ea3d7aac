/-
  The walk of the law DiskTwins.
-/
import Derived.Test.YtppfgjjebfgcaaaDiskTwins2
namespace Go.Proofs.Ytppfgjjebfgcaaa
open Go.RowKit
set_option linter.unusedVariables false
set_option linter.unusedSimpArgs false

theorem cut_keepN (d : DV) (keep : List Int) : (d.cut keep).keep = [] := by unfold DV.cut; split <;> rfl
theorem cut_off (d : DV) (keep : List Int) : (d.cut keep).on = false := by
  unfold DV.cut
  split
  · rfl
  · rename_i h; simpa using h
theorem step_keep {d : DV} (X : OpV) (h : d.keep = []) : (stepD d X).keep = [] := by
  unfold stepD
  split
  · unfold DV.write
    split
    · exact h
    · split
      · exact h
      · split
        · exact h
        · split
          · exact cut_keepN _ _
          · exact h
  · split
    · unfold DV.flush
      split
      · exact h
      · split
        · exact cut_keepN _ _
        · exact h
    · split
      · exact cut_keepN _ _
      · split
        · unfold DV.restore; split
          · exact h
          · exact h
        · exact h
theorem run_keep {d : DV} (l : List OpV) (h : d.keep = []) : ∀ k : Nat, (runN d l k).keep = []
  | 0 => h
  | k + 1 => step_keep _ (run_keep l h k)
theorem own_old {w w' : World} {B p c : Nat} {d : DV} (h : DiskAt w B p c d) (hb : Below w.heap.size w w') {g : Nat} (hg : w.heap.size ≤ g) : ¬ Own w' p g := by
  obtain ⟨kv, wv, mb, lb, h⟩ := h
  intro ho
  rcases ((h.step hb).own_iff _).1 ho with e | e | e | e
  · have := h.lt; omega
  · have := h.now.lt; omega
  · obtain ⟨n, _, hl⟩ := h.lasts; have := hl.lt; omega
  · have := (own_row h.waits e).2.1; omega
theorem own_ge {w : World} {B n k : Nat} {e : TypeId} {v : Value} {xs : List Value} (h : w.ownsRow B e k v n xs) : ∀ b o s m c, v = .slice (some ⟨b, o, s⟩) m c → B ≤ b := by
  intro b o s m c hv
  rcases h.2 with ⟨h1, h2⟩ | ⟨g, cap, cur, h1, h2, _⟩
  · rw [hv] at h1; cases h1
  · rw [hv] at h1
    injection h1 with e1; injection e1 with e1; injection e1 with e1
    omega
/-- Texts in no block that the disk in q may turn. -/
def TextsOut (w : World) (q : Nat) (v : Value) (l : List ByteArray) : Prop := TextsAt w v l ∧ ∀ b o s n c, v = .slice (some ⟨b, o, s⟩) n c → l ≠ [] → ¬ Own w q b
theorem TextsOut.step {w w' : World} {p : Nat} {v : Value} {l : List ByteArray} (h : TextsOut w p v l) (hs : DStep p w w') : TextsOut w' p v l := by
  obtain ⟨⟨a, c, rfl, h2, h3, h4⟩, h5⟩ := h
  refine ⟨⟨a, c, rfl, h2, h3, fun hn => ?_⟩, fun b o s n c' e hn ho => ?_⟩
  · obtain ⟨b, o, rfl, h6, h7⟩ := h4 hn
    have hB := hs.block b h6 (h5 b o none _ _ rfl hn)
    have hc : ∀ o', w'.cell? ⟨b, o', none⟩ = w.cell? ⟨b, o', none⟩ := fun o' => by unfold World.cell?; rw [hB]
    exact ⟨b, o, rfl, Nat.lt_of_lt_of_le h6 hs.size, fun j hj => by rw [hc]; exact h7 j hj⟩
  · obtain ⟨b', o', e2, h6, _⟩ := h4 hn
    injection e with e e3 e4
    rw [e2] at e
    injection e with e; injection e with e
    subst e
    rcases hs.own _ ho with ho | ho
    · exact h5 b' o' none _ _ (by rw [e2]) hn ho
    · omega

set_option maxRecDepth 100000 in
set_option maxHeartbeats 8000000 in
theorem walkDiskTwins (va : Value) (l : List OpV) (vb : Value) (m : List OpV) (w : World) (hl : OpsAt w va l) (hm : OpsAt w vb m) : Calls Try.prog 6 #[va, vb] w (BoolPost w true) := by
  have HL := Lib.hid hl
  have HM := Lib.hid hm
  obtain ⟨aa, ca, rfl, hla, hxa⟩ := hl
  obtain ⟨ab, cb, rfl, hlb, hxb⟩ := hm
  clear hxa hxb
  go_enter Try.func6, Try.ntmps6
  go_wp2_with fail
  refine (light_any _ l w HL.out).mono ?_
  rintro e wa ⟨b1, rfl, hba⟩
  have HA := Lib.hid hba
  clear hba
  cases b1
  · go_wp2_with fail
    refine (alive_any _).mono ?_
    rintro e w9 ⟨rfl, hb⟩
    have HB9 := Lib.hid (chain HA.out hb)
    clear hb
    go_wp2
    go_ret
    exact ⟨rfl, HB9.out⟩
  go_wp2_with fail
  refine (light_any _ m wa (HM.out.below HA.out)).mono ?_
  rintro e w1 ⟨b2, rfl, hb1⟩
  have HB1 := Lib.hid (chain HA.out hb1)
  clear hb1 HA
  cases b2
  · go_wp2_with fail
    refine (alive_any _).mono ?_
    rintro e w9 ⟨rfl, hb⟩
    have HB9 := Lib.hid (chain HB1.out hb)
    clear hb
    go_wp2
    go_ret
    exact ⟨rfl, HB9.out⟩
  by_cases g : l.length ≤ 40 ∧ m.length ≤ 40
  · obtain ⟨g1, g2⟩ := g
    have g1' : (l.length : Int) ≤ 40 := by omega
    have g2' : (m.length : Int) ≤ 40 := by omega
    go_wp2_with fail
    refine (new_any 6 w1 (by omega)).mono ?_
    rintro e w2 ⟨p, rfl, hd, hb⟩
    obtain ⟨B, hBe⟩ : ∃ B, B = w1.heap.size := ⟨_, rfl⟩
    rw [← hBe] at hd
    have hB : w.heap.size ≤ B := by rw [hBe]; exact HB1.out.size
    have HD2 := Lib.hid hd
    have HB2 := Lib.hid (chain HB1.out hb)
    clear hd hb hBe
    go_wp2_with fail
    refine (run_any _ l HL.out HB2.out hB HD2.out (by omega) (by show 0 ≤ (0 : Int) ∧ (0 : Int) + l.length ≤ 1000000000000; omega)).mono ?_
    rintro e w3 ⟨rfl, hd, hs⟩
    obtain ⟨dl, hdl⟩ : ∃ dl, dl = runN (DV.fresh 6) l l.length := ⟨_, rfl⟩
    obtain ⟨cl, hcl⟩ : ∃ cl, cl = 0 + l.length := ⟨_, rfl⟩
    rw [← hdl, ← hcl] at hd
    have hcl9 : cl ≤ 40 := by omega
    have HKD := Lib.hid (show dl.keep = [] by rw [hdl]; exact run_keep l rfl _)
    have HWD := Lib.hid (show 0 ≤ dl.writes ∧ dl.writes ≤ 40 by
      have := run_writes (DV.fresh 6) l l.length
      rw [← hdl] at this
      have h0 : (DV.fresh 6).writes = 0 := rfl
      omega)
    have HD3 := Lib.hid hd
    have HB3 := Lib.hid (HB2.out.trans ((HD2.out.below hs).mono hB))
    clear hd hs hdl hcl HD2 HB2
    go_wp2_with fail
    refine (twin_any HD3.out (by omega) (by rw [HKD.out]; decide)).mono ?_
    rintro e w4 ⟨q, rfl, hd, hb⟩
    obtain ⟨Bt, hBt⟩ : ∃ Bt, Bt = w3.heap.size := ⟨_, rfl⟩
    rw [← hBt] at hd
    have hB2 : w.heap.size ≤ Bt := by rw [hBt]; exact HB3.out.size
    have HBT := Lib.hid (show Bt ≤ w3.heap.size by omega)
    have HE := Lib.hid (show w3.heap.size ≤ Bt by omega)
    have HT4 := Lib.hid hd
    have HD4 := Lib.hid (HD3.out.step hb)
    have HN4 := Lib.hid hb
    have HB4 := Lib.hid (chain HB3.out hb)
    clear hd hb hBt
    go_wp2_with fail
    refine (shows_any HD4.out).mono ?_
    rintro e w6 ⟨v1, rfl, ho, ht, hb⟩
    obtain ⟨L6, hL6⟩ : ∃ L6, L6 = showsN dl 6 := ⟨_, rfl⟩
    have HL6 := Lib.hid hL6
    rw [← hL6] at ho ht
    have HV6 := Lib.hid (show TextsOut w6 q v1 L6 from ⟨ht, fun b' o s n c e _ hq => own_old HT4.out hb (own_ge ho b' o s n c e) hq⟩)
    have HT6 := Lib.hid (HT4.out.step hb)
    have HD6 := Lib.hid (HD4.out.step hb)
    have HN6 := Lib.hid (HN4.out.trans (hb.mono HN4.out.size))
    have HB6 := Lib.hid (chain HB4.out hb)
    obtain ⟨a1, n1, rfl, _⟩ := ht
    clear ho hb hL6
    go_wp2_with fail
    refine wp_region_inv (R := Blw) (S := (fun w' => DiskAt w' B p cl dl ∧ Below w6.heap.size w6 w')) 10 (Spec.val ?_ :: Spec.val ?_ :: Spec.val ?_ :: Spec.val ?_ :: Spec.val ?_ :: Spec.val ?_ :: Spec.val ?_ :: Spec.val ?_ :: Spec.val ?_ :: Spec.val ?_ :: []) (by kernel_rfl) (by kernel_rfl) rfl (fun w1 w2 h hb => ⟨h.1.step hb, chain h.2 hb⟩) (⟨HD6.out.step (Below.refl _ _).drew, (Below.refl _ _).drew⟩) ?hm1
    case' hm1 => skip
    refine inv_val (i := 0) (by kernel_rfl) rfl rfl (fun w1 hS hd K hK => ?_) ?_
    · (try dsimp only at hS); go_simp; exact hK.out _ _ (by simp only [Act.put, List.setIfInBounds_toArray, List.set_cons_zero, List.set_cons_succ, List.nil_append, List.cons_append]; rfl) (Below.refl _ _)
    simp only [Act.put, List.setIfInBounds_toArray, List.set_cons_zero, List.set_cons_succ, List.nil_append, List.cons_append]
    refine inv_val (i := 1) (by kernel_rfl) rfl rfl (fun w1 hS hd K hK => ?_) ?_
    · (try dsimp only at hS); go_simp; exact hK.out _ _ (by simp only [Act.put, List.setIfInBounds_toArray, List.set_cons_zero, List.set_cons_succ, List.nil_append, List.cons_append]; rfl) (Below.refl _ _)
    simp only [Act.put, List.setIfInBounds_toArray, List.set_cons_zero, List.set_cons_succ, List.nil_append, List.cons_append]
    refine inv_val (i := 2) (by kernel_rfl) rfl rfl (fun w1 hS hd K hK => ?_) ?_
    · (try dsimp only at hS); go_simp; exact hK.out _ _ (by simp only [Act.put, List.setIfInBounds_toArray, List.set_cons_zero, List.set_cons_succ, List.nil_append, List.cons_append]; rfl) (Below.refl _ _)
    simp only [Act.put, List.setIfInBounds_toArray, List.set_cons_zero, List.set_cons_succ, List.nil_append, List.cons_append]
    refine inv_val (i := 3) (by kernel_rfl) rfl rfl (fun w1 hS hd K hK => ?_) ?_
    · (try dsimp only at hS); go_simp; refine (writes_any hS.1).mono ?_; rintro e w2 ⟨rfl, hb⟩; exact hK.out _ _ (by simp only [Act.put, List.setIfInBounds_toArray, List.set_cons_zero, List.set_cons_succ, List.nil_append, List.cons_append] <;> rfl) hb
    simp only [Act.put, List.setIfInBounds_toArray, List.set_cons_zero, List.set_cons_succ, List.nil_append, List.cons_append]
    refine inv_val (i := 4) (by kernel_rfl) rfl rfl (fun w1 hS hd K hK => ?_) ?_
    · (try dsimp only at hS); go_simp; exact hK.out _ _ (by simp only [Act.put, List.setIfInBounds_toArray, List.set_cons_zero, List.set_cons_succ, List.nil_append, List.cons_append]; rfl) (Below.refl _ _)
    simp only [Act.put, List.setIfInBounds_toArray, List.set_cons_zero, List.set_cons_succ, List.nil_append, List.cons_append]
    refine inv_val (i := 5) (by kernel_rfl) rfl rfl (fun w1 hS hd K hK => ?_) ?_
    · (try dsimp only at hS); go_simp; refine (waiting_any hS.1).mono ?_; rintro e w2 ⟨rfl, hb⟩; exact hK.out _ _ (by simp only [Act.put, List.setIfInBounds_toArray, List.set_cons_zero, List.set_cons_succ, List.nil_append, List.cons_append] <;> rfl) hb
    simp only [Act.put, List.setIfInBounds_toArray, List.set_cons_zero, List.set_cons_succ, List.nil_append, List.cons_append]
    refine inv_val (i := 6) (by kernel_rfl) rfl rfl (fun w1 hS hd K hK => ?_) ?_
    · (try dsimp only at hS); go_simp; exact hK.out _ _ (by simp only [Act.put, List.setIfInBounds_toArray, List.set_cons_zero, List.set_cons_succ, List.nil_append, List.cons_append]; rfl) (Below.refl _ _)
    simp only [Act.put, List.setIfInBounds_toArray, List.set_cons_zero, List.set_cons_succ, List.nil_append, List.cons_append]
    refine inv_val (i := 7) (by kernel_rfl) rfl rfl (fun w1 hS hd K hK => ?_) ?_
    · (try dsimp only at hS); go_simp; exact hK.out _ _ (by simp only [Act.put, List.setIfInBounds_toArray, List.set_cons_zero, List.set_cons_succ, List.nil_append, List.cons_append]; rfl) (Below.refl _ _)
    simp only [Act.put, List.setIfInBounds_toArray, List.set_cons_zero, List.set_cons_succ, List.nil_append, List.cons_append]
    refine inv_val (i := 8) (by kernel_rfl) rfl rfl (fun w1 hS hd K hK => ?_) ?_
    · (try dsimp only at hS); go_simp; exact hK.out _ _ (by simp only [Act.put, List.setIfInBounds_toArray, List.set_cons_zero, List.set_cons_succ, List.nil_append, List.cons_append]; rfl) (Below.refl _ _)
    simp only [Act.put, List.setIfInBounds_toArray, List.set_cons_zero, List.set_cons_succ, List.nil_append, List.cons_append]
    refine inv_val (i := 9) (by kernel_rfl) rfl rfl (fun w1 hS hd K hK => ?_) ?_
    · (try dsimp only at hS); go_simp; refine (on_any hS.1).mono ?_; rintro e w2 ⟨rfl, hb⟩; exact hK.out _ _ (by simp only [Act.put, List.setIfInBounds_toArray, List.set_cons_zero, List.set_cons_succ, List.nil_append, List.cons_append] <;> rfl) hb
    simp only [Act.put, List.setIfInBounds_toArray, List.set_cons_zero, List.set_cons_succ, List.nil_append, List.cons_append]
    refine inv_tail3 (by kernel_rfl) rfl rfl rfl (fun w7 hS hd _ => ?_)
    have hb := hS.2
    have HN7 := Lib.hid (chain HN6.out hb)
    have HT7 := Lib.hid (HT6.out.step hb)
    have HV7 := Lib.hid (HV6.out.step (HT6.out.dstep hb))
    have HD7 := Lib.hid (HD6.out.step hb)
    have HB7 := Lib.hid (chain HB6.out hb)
    clear hb
    clear hS hd
    go_wp2_with fail
    refine (run_any _ m HM.out HB7.out hB2 HT7.out (by omega) (by have := HWD.out; omega)).mono ?_
    rintro e w8 ⟨rfl, hd, hs⟩
    obtain ⟨dt, hdt⟩ : ∃ dt, dt = runN dl m m.length := ⟨_, rfl⟩
    obtain ⟨ct, hct⟩ : ∃ ct, ct = cl + m.length := ⟨_, rfl⟩
    rw [← hdt, ← hct] at hd
    have hct9 : ct ≤ 80 := by omega
    have HN8 := Lib.hid (HN7.out.trans ((HT7.out.below hs).mono HE.out))
    have HB8 := Lib.hid (HB7.out.trans ((HT7.out.below hs).mono hB2))
    have HD8 := Lib.hid (HD3.out.step HN8.out)
    have HV8 := Lib.hid (HV7.out.step hs)
    have HT8 := Lib.hid hd
    clear hd hs
    clear hdt hct HT4 HT6 HD4 HD6 HD7 HN4 HN6 HN7 HB4 HB6 HB7 HV6 HV7 HT7
    go_wp2_with fail
    have hb := bel_new w8 (.cells #[.int .i64 1, .int .i64 1, .int .i64 1] 3)
    have HO := Lib.hid (out_new (l := [1, 1, 1]) (cap := 3) (T := 3) (fr := (0, 0)) HT8.out rfl (by decide) (by decide))
    obtain ⟨w9, hw9⟩ : ∃ w9, w9 = w8.alloc (.cells #[.int .i64 1, .int .i64 1, .int .i64 1] 3) := ⟨_, rfl⟩
    obtain ⟨g9, hg9⟩ : ∃ g9, g9 = w8.heap.size := ⟨_, rfl⟩
    have HO9 : Hid (IntsOut w9 q (.slice (some ⟨g9, 0, none⟩) 3 3) [1, 1, 1]) := by rw [hw9, hg9]; exact HO
    rw [← hw9] at hb ⊢
    rw [← hg9]
    clear hw9 hg9 HO
    have HN9 := Lib.hid (chain HN8.out hb)
    have HT9 := Lib.hid (HT8.out.step hb)
    have HV9 := Lib.hid (HV8.out.step (HT8.out.dstep hb))
    have HD9 := Lib.hid (HD8.out.step hb)
    have HB9 := Lib.hid (chain HB8.out hb)
    clear hb
    refine (cut_any _ [1, 1, 1] HT9.out HO9.out (by omega)).mono ?_
    rintro e w10 ⟨rfl, hd, hs⟩
    obtain ⟨dz, hdz⟩ : ∃ dz, dz = dt.cut [1, 1, 1] := ⟨_, rfl⟩
    rw [← hdz] at hd
    have HOF := Lib.hid (show dz.on = false by rw [hdz]; exact cut_off _ _)
    have HN10 := Lib.hid (HN9.out.trans ((HT9.out.below hs).mono HE.out))
    have HB10 := Lib.hid (HB9.out.trans ((HT9.out.below hs).mono hB2))
    have HD10 := Lib.hid (HD3.out.step HN10.out)
    have HV10 := Lib.hid (HV9.out.step hs)
    have HT10 := Lib.hid hd
    clear hd hs
    clear hdz HN8 HN9 HN10 HD8 HD9 HB8 HB9 HV8 HV9 HT8 HT9 HO9
    go_wp2_with fail
    refine (alive_any _).mono ?_
    rintro e w11 ⟨rfl, hb⟩
    have HT11 := Lib.hid (HT10.out.step hb)
    have HV11 := Lib.hid (HV10.out.step (HT10.out.dstep hb))
    have HD11 := Lib.hid (HD10.out.step hb)
    have HB11 := Lib.hid (chain HB10.out hb)
    clear hb
    go_wp2_with fail
    refine (shows_any HD11.out).mono ?_
    rintro e w12 ⟨v2, rfl, _, ht, hb⟩
    rw [← HL6.out] at ht
    have HS12 := Lib.hid ht
    obtain ⟨a2, n2, rfl, _⟩ := ht
    have HT12 := Lib.hid (HT11.out.step hb)
    have HV12 := Lib.hid (HV11.out.step (HT11.out.dstep hb))
    have HD12 := Lib.hid (HD11.out.step hb)
    have HB12 := Lib.hid (chain HB11.out hb)
    clear hb
    go_wp2_with fail
    refine (same_texts _ _ L6 L6 _ HS12.out HV12.out.1).mono ?_
    rintro e w13 ⟨rfl, hb⟩
    rw [decide_eq_true (rfl : L6 = L6)]
    have HT13 := Lib.hid (HT12.out.step hb)
    have HV13 := Lib.hid (HV12.out.step (HT12.out.dstep hb))
    have HD13 := Lib.hid (HD12.out.step hb)
    have HB13 := Lib.hid (chain HB12.out hb)
    clear hb
    go_wp2_with fail
    refine (writes_any HD13.out).mono ?_
    rintro e w14 ⟨rfl, hb⟩
    have HT14 := Lib.hid (HT13.out.step hb)
    have HV14 := Lib.hid (HV13.out.step (HT13.out.dstep hb))
    have HD14 := Lib.hid (HD13.out.step hb)
    have HB14 := Lib.hid (chain HB13.out hb)
    clear hb
    go_wp2_with fail
    refine (waiting_any HD14.out).mono ?_
    rintro e w15 ⟨rfl, hb⟩
    have HT15 := Lib.hid (HT14.out.step hb)
    have HV15 := Lib.hid (HV14.out.step (HT14.out.dstep hb))
    have HD15 := Lib.hid (HD14.out.step hb)
    have HB15 := Lib.hid (chain HB14.out hb)
    clear hb
    go_wp2_with fail
    refine (on_any HD15.out).mono ?_
    rintro e w16 ⟨rfl, hb⟩
    have HT16 := Lib.hid (HT15.out.step hb)
    have HV16 := Lib.hid (HV15.out.step (HT15.out.dstep hb))
    have HD16 := Lib.hid (HD15.out.step hb)
    have HB16 := Lib.hid (chain HB15.out hb)
    clear hb
    go_wp2_with fail
    refine (on_any HT16.out).mono ?_
    rintro e w17 ⟨rfl, hb⟩
    rw [HOF.out]
    have HT17 := Lib.hid (HT16.out.step hb)
    have HV17 := Lib.hid (HV16.out.step (HT16.out.dstep hb))
    have HD17 := Lib.hid (HD16.out.step hb)
    have HB17 := Lib.hid (chain HB16.out hb)
    clear hb
    go_wp2
    go_ret
    exact ⟨rfl, HB17.out⟩
  · by_cases g1 : (40 : Int) < l.length
    all_goals by_cases g2 : (40 : Int) < m.length
    all_goals first
      | (exfalso; omega)
      | (clear g
         go_wp2_with fail
         refine (alive_any _).mono ?_
         rintro e w9 ⟨rfl, hb⟩
         have HB9 := Lib.hid (chain HB1.out hb)
         clear hb
         go_wp2
         go_ret
         exact ⟨rfl, HB9.out⟩)
end Go.Proofs.Ytppfgjjebfgcaaa
