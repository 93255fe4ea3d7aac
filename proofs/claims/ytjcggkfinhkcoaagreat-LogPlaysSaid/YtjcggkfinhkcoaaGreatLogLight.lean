/-
  The contract of the law package's Light: where it says yes, the steps are few and short.
-/
import Derived.Test.YtjcggkfinhkcoaaGreatLogOps
import Derived.Test.YtjcggkfinhkcoaaGreatBookSame
namespace Go.Proofs.YtjcggkfinhkcoaaGreat
open Go.RowKit
set_option linter.unusedVariables false
set_option linter.unusedSimpArgs false

/-- So many texts stand in the first steps. -/
def sumT (l : List OpV) (k : Nat) : Nat := ((l.take k).map (fun X => X.texts.length)).sum
theorem sumT_succ {l : List OpV} {k : Nat} (h : k < l.length) : sumT l (k + 1) = sumT l k + (l.getD k OpV.zero).texts.length := by
  unfold sumT
  rw [List.take_succ_eq_append_getElem h, List.map_append, List.sum_append]
  simp [h]
def fewT (X : OpV) (n : Nat) : Prop := ∀ j, j < n → j < X.texts.length → (X.texts.getD j ByteArray.empty).size ≤ 20000
def LF (l : List OpV) (k : Nat) (R : Int) : Prop := 0 ≤ R → (sumT l k + R ≤ 20000 ∧ ∀ i, i < k → fewT (l.getD i OpV.zero) 100)
/-- Some bool comes back; yes says that the steps are few and short. -/
def RetLight (w : World) (l : List OpV) (e : Ending) (w' : World) : Prop := ∃ b, e = .returned (.bool b) ∧ Below w.heap.size w w' ∧ (b = true → l.length ≤ 50 ∧ sumT l l.length ≤ 20000 ∧ ∀ i, i < l.length → fewT (l.getD i OpV.zero) 100)
theorem room_two {R a b : Int} (ha : 0 ≤ a) (hb : 0 ≤ b) (hR : -1 ≤ R) : -1 ≤ roomL R [a, b] ∧ roomL R [a, b] ≤ R ∧ (0 ≤ roomL R [a, b] → roomL R [a, b] + a ≤ R) := by
  show -1 ≤ room1 (room1 R a) b ∧ room1 (room1 R a) b ≤ R ∧ (0 ≤ room1 (room1 R a) b → room1 (room1 R a) b + a ≤ R)
  unfold room1
  split
  · simp; omega
  · split <;> (first | omega | (simp; omega))

theorem light_yes {l : List OpV} {k : Nat} {R : Int} (hF : LF l k R) (h0 : 0 ≤ R) (hk : k = l.length) (h5 : l.length ≤ 50) : l.length ≤ 50 ∧ sumT l l.length ≤ 20000 ∧ ∀ i, i < l.length → fewT (l.getD i OpV.zero) 100 := by
  subst hk
  obtain ⟨p1, p2⟩ := hF h0
  exact ⟨h5, by omega, p2⟩
set_option maxRecDepth 100000 in
set_option maxHeartbeats 4000000 in
theorem light_any (v : Value) (l : List OpV) (w : World) (hv : OpsAt w v l) : Calls Tryz.prog 4 #[v] w (RetLight w l) := by
  have HV := Lib.hid hv
  obtain ⟨a, c, rfl, hlen, _⟩ := hv
  go_enter Tryz.func4, Tryz.ntmps4
  go_wp2
  go_loopw [3, 4, 5] (fun r i kk wr => ∃ (k : Nat) (R : Int), k ≤ l.length ∧ i = .int .i64 k ∧ r = .int .i64 R ∧ (-1 ≤ R ∧ R ≤ 20000) ∧ Hid (LF l k R) ∧ Hid (Below w.heap.size w wr)) (fun _ i _ _ => l.length - (intOf i).toNat)
  case atStart => exact ⟨0, 20000, Nat.zero_le _, rfl, rfl, by omega, Lib.hid (fun _ => ⟨by simp [sumT], fun i hi => absurd hi (Nat.not_lt_zero _)⟩), Lib.hid (Below.refl _ _)⟩
  case round =>
    obtain ⟨k, R, hk, rfl, rfl, hR, HF, HB⟩ := hrel
    have HR := Lib.hid hR
    by_cases g : k < l.length ∧ k < 200 ∧ 0 ≤ R
    · obtain ⟨g1, g2, g3⟩ := g
      obtain ⟨b, o, tv, kv, rfl, hX0⟩ := HV.out.nth g1
      have HSU := Lib.hid (sumT_succ g1)
      obtain ⟨X, hXe⟩ : ∃ X, X = l.getD k OpV.zero := ⟨_, rfl⟩
      rw [← hXe] at hX0 HSU
      have HXE := Lib.hid hXe
      obtain ⟨ka, kc, rfl, _, hkl, _⟩ := hX0.keep
      obtain ⟨ta, tc, rfl, _, htl, _⟩ := hX0.texts
      have HX := Lib.hid hX0
      have hX := hX0.below HB.out
      have q2 := hX.c2
      have q3 := hX.c3
      have hI2 : ∀ x ∈ [(X.texts.length : Int), (X.keep.length : Int)], -9223372036854775808 ≤ x ∧ x ≤ 9223372036854775807 := by
        intro x hx; simp at hx; rcases hx with rfl | rfl <;> omega
      have h02 : ∀ x ∈ [(X.texts.length : Int), (X.keep.length : Int)], 0 ≤ x := by
        intro x hx; simp at hx; rcases hx with rfl | rfl <;> omega
      have HI2 := Lib.hid hI2
      have H02 := Lib.hid h02
      have HRT := Lib.hid (room_two (a := (X.texts.length : Int)) (b := (X.keep.length : Int)) (by omega) (by omega) hR.1)
      have htm : (X.texts.length : Int) ≤ 9223372036854775807 := by omega
      have HF0 := Lib.hid (HF.out g3)
      clear hX hX0 hXe hI2 h02
      go_wp2_with fail
      refine wp_region_inv (R := Blw) (S := (fun w' => Below w.heap.size w w' ∧ w'.cell? ⟨b, o + k * 4 + 2, none⟩ = some (.slice ta X.texts.length tc) ∧ w'.cell? ⟨b, o + k * 4 + 3, none⟩ = some (.slice ka X.keep.length kc))) 14 (Spec.val ?_ :: Spec.val ?_ :: Spec.val ?_ :: Spec.val ?_ :: Spec.val ?_ :: Spec.val ?_ :: Spec.val ?_ :: Spec.val ?_ :: Spec.val ?_ :: Spec.val ?_ :: Spec.val ?_ :: Spec.val ?_ :: Spec.val ?_ :: (intsS [(X.texts.length : Int), (X.keep.length : Int)]) :: []) (by kernel_rfl) (by kernel_rfl) rfl (fun w1 w2 h hb => ⟨chain h.1 hb, cell_step h.2.1 hb, cell_step h.2.2 hb⟩) (⟨chain HB.out (Below.refl _ _).drew, q2, q3⟩) ?hm8
      case' hm8 => skip
      refine inv_val (i := 0) (by kernel_rfl) rfl rfl (fun w1 hS hd K hK => ?_) ?_
      · (try dsimp only at hS); go_simp; exact hK.out _ _ (by simp only [Act.put, List.setIfInBounds_toArray, List.set_cons_zero, List.set_cons_succ, List.nil_append, List.cons_append]; rfl) (Below.refl _ _)
      simp only [Act.put, List.setIfInBounds_toArray, List.set_cons_zero, List.set_cons_succ, List.nil_append, List.cons_append]
      refine inv_val (i := 1) (by kernel_rfl) rfl rfl (fun w1 hS hd K hK => ?_) ?_
      · (try dsimp only at hS); go_simp; exact hK.out _ _ (by simp only [Act.put, List.setIfInBounds_toArray, List.set_cons_zero, List.set_cons_succ, List.nil_append, List.cons_append]; rfl) (Below.refl _ _)
      simp only [Act.put, List.setIfInBounds_toArray, List.set_cons_zero, List.set_cons_succ, List.nil_append, List.cons_append]
      refine inv_val (i := 2) (by kernel_rfl) rfl rfl (fun w1 hS hd K hK => ?_) ?_
      · (try dsimp only at hS); go_simp; exact hK.out _ _ (by simp only [Act.put, List.setIfInBounds_toArray, List.set_cons_zero, List.set_cons_succ, List.nil_append, List.cons_append]; rfl) (Below.refl _ _)
      simp only [Act.put, List.setIfInBounds_toArray, List.set_cons_zero, List.set_cons_succ, List.nil_append, List.cons_append]
      refine inv_val (i := 3) (by kernel_rfl) rfl rfl (fun w1 hS hd K hK => ?_) ?_
      · (try dsimp only at hS); go_simp; exact hK.out _ _ (by simp only [Act.put, List.setIfInBounds_toArray, List.set_cons_zero, List.set_cons_succ, List.nil_append, List.cons_append]; rfl) (Below.refl _ _)
      simp only [Act.put, List.setIfInBounds_toArray, List.set_cons_zero, List.set_cons_succ, List.nil_append, List.cons_append]
      refine inv_val (i := 4) (by kernel_rfl) rfl rfl (fun w1 hS hd K hK => ?_) ?_
      · (try dsimp only at hS); go_simp; exact hK.out _ _ (by simp only [Act.put, List.setIfInBounds_toArray, List.set_cons_zero, List.set_cons_succ, List.nil_append, List.cons_append]; rfl) (Below.refl _ _)
      simp only [Act.put, List.setIfInBounds_toArray, List.set_cons_zero, List.set_cons_succ, List.nil_append, List.cons_append]
      refine inv_val (i := 5) (by kernel_rfl) rfl rfl (fun w1 hS hd K hK => ?_) ?_
      · (try dsimp only at hS); go_simp; exact hK.out _ _ (by simp only [Act.put, List.setIfInBounds_toArray, List.set_cons_zero, List.set_cons_succ, List.nil_append, List.cons_append]; rfl) (Below.refl _ _)
      simp only [Act.put, List.setIfInBounds_toArray, List.set_cons_zero, List.set_cons_succ, List.nil_append, List.cons_append]
      refine inv_val (i := 6) (by kernel_rfl) rfl rfl (fun w1 hS hd K hK => ?_) ?_
      · (try dsimp only at hS); go_simp; exact hK.out _ _ (by simp only [Act.put, List.setIfInBounds_toArray, List.set_cons_zero, List.set_cons_succ, List.nil_append, List.cons_append]; rfl) (Below.refl _ _)
      simp only [Act.put, List.setIfInBounds_toArray, List.set_cons_zero, List.set_cons_succ, List.nil_append, List.cons_append]
      refine inv_val (i := 7) (by kernel_rfl) rfl rfl (fun w1 hS hd K hK => ?_) ?_
      · (try dsimp only at hS); go_simp; exact hK.out _ _ (by simp only [Act.put, List.setIfInBounds_toArray, List.set_cons_zero, List.set_cons_succ, List.nil_append, List.cons_append]; rfl) (Below.refl _ _)
      simp only [Act.put, List.setIfInBounds_toArray, List.set_cons_zero, List.set_cons_succ, List.nil_append, List.cons_append]
      refine inv_val (i := 8) (by kernel_rfl) rfl rfl (fun w1 hS hd K hK => ?_) ?_
      · (try dsimp only at hS); go_simp; exact hK.out _ _ (by simp only [Act.put, List.setIfInBounds_toArray, List.set_cons_zero, List.set_cons_succ, List.nil_append, List.cons_append]; rfl) (Below.refl _ _)
      simp only [Act.put, List.setIfInBounds_toArray, List.set_cons_zero, List.set_cons_succ, List.nil_append, List.cons_append]
      refine inv_val (i := 9) (by kernel_rfl) rfl rfl (fun w1 hS hd K hK => ?_) ?_
      · (try dsimp only at hS); go_simp; exact hK.out _ _ (by simp only [Act.put, List.setIfInBounds_toArray, List.set_cons_zero, List.set_cons_succ, List.nil_append, List.cons_append]; rfl) (Below.refl _ _)
      simp only [Act.put, List.setIfInBounds_toArray, List.set_cons_zero, List.set_cons_succ, List.nil_append, List.cons_append]
      refine inv_val (i := 10) (by kernel_rfl) rfl rfl (fun w1 hS hd K hK => ?_) ?_
      · (try dsimp only at hS); go_simp; exact hK.out _ _ (by simp only [Act.put, List.setIfInBounds_toArray, List.set_cons_zero, List.set_cons_succ, List.nil_append, List.cons_append]; rfl) (Below.refl _ _)
      simp only [Act.put, List.setIfInBounds_toArray, List.set_cons_zero, List.set_cons_succ, List.nil_append, List.cons_append]
      refine inv_val (i := 11) (by kernel_rfl) rfl rfl (fun w1 hS hd K hK => ?_) ?_
      · (try dsimp only at hS); go_simp; exact hK.out _ _ (by simp only [Act.put, List.setIfInBounds_toArray, List.set_cons_zero, List.set_cons_succ, List.nil_append, List.cons_append]; rfl) (Below.refl _ _)
      simp only [Act.put, List.setIfInBounds_toArray, List.set_cons_zero, List.set_cons_succ, List.nil_append, List.cons_append]
      refine inv_val (i := 12) (by kernel_rfl) rfl rfl (fun w1 hS hd K hK => ?_) ?_
      · (try dsimp only at hS); go_simp; exact hK.out _ _ (by simp only [Act.put, List.setIfInBounds_toArray, List.set_cons_zero, List.set_cons_succ, List.nil_append, List.cons_append]; rfl) (Below.refl _ _)
      simp only [Act.put, List.setIfInBounds_toArray, List.set_cons_zero, List.set_cons_succ, List.nil_append, List.cons_append]
      refine inv_rel (i := 13) (by kernel_rfl) rfl rfl (fun w1 hS hd K hK => ?_) (fun v13 => ?_)
      · (try dsimp only at hS); go_simp; refine hK.out _ _ _ (by simp only [Act.put, List.setIfInBounds_toArray, List.set_cons_zero, List.set_cons_succ, List.nil_append, List.cons_append] <;> rfl) (ints_new (l := [(X.texts.length : Int), (X.keep.length : Int)]) rfl rfl HI2.out (by simp)) (bel_new _ _)
      simp only [Act.put, List.setIfInBounds_toArray, List.set_cons_zero, List.set_cons_succ, List.nil_append, List.cons_append]
      refine inv_tail2 (by kernel_rfl) rfl rfl (fun w2 hS hd _ => ?_)
      have hv13 : IntsAt w2 v13 [(X.texts.length : Int), (X.keep.length : Int)] := hd.out 13
      have H13 := Lib.hid hv13
      have HB2 := Lib.hid hS.1
      clear hS hd hv13 q2 q3
      go_wp2_with fail
      refine (room_any R _ _ _ H13.out (by have := HR.out; omega) H02.out).mono ?_
      rintro e w3 ⟨rfl, hb⟩
      have HB3 := Lib.hid (chain HB2.out hb)
      obtain ⟨R1, hR1⟩ : ∃ R1, R1 = roomL R [(X.texts.length : Int), (X.keep.length : Int)] := ⟨_, rfl⟩
      rw [← hR1] at HRT ⊢
      have hR1b := HRT.out.1
      have hR1c : R1 ≤ 20000 := by have := HRT.out.2.1; omega
      clear hb hR1
      go_wp2
      go_loopw [3, 5] (fun r j wr => ∃ (m : Nat) (R2 : Int), m ≤ X.texts.length ∧ j = .int .i64 m ∧ r = .int .i64 R2 ∧ (-1 ≤ R2 ∧ R2 ≤ R1) ∧ Hid (0 ≤ R2 → fewT X m) ∧ Hid (Below w.heap.size w wr)) (fun _ j _ => X.texts.length - (intOf j).toNat)
      case atStart => exact ⟨0, R1, Nat.zero_le _, rfl, rfl, by omega, Lib.hid (fun _ j hj => absurd hj (Nat.not_lt_zero _)), HB3⟩
      case round =>
        obtain ⟨m, R2, hm, rfl, rfl, hR2, HFW, HB4⟩ := hrel
        have HR2 := Lib.hid hR2
        have hX' := HX.out.below HB4.out
        have q2 := hX'.c2
        by_cases g' : m < X.texts.length ∧ m < 100 ∧ 0 ≤ R2
        · obtain ⟨m1, m2, m3⟩ := g'
          obtain ⟨bt, ot, rfl, hcell, hsz⟩ : ∃ bt ot, ta = some ⟨bt, ot, none⟩ ∧ wr.cell? ⟨bt, ot + m, none⟩ = some (.string (X.texts.getD m ByteArray.empty)) ∧ (X.texts.getD m ByteArray.empty).size ≤ 9223372036854775807 := by
            obtain ⟨a', c', e1, e2, _, e4⟩ := hX'.texts
            obtain ⟨b, o, e5, e6, e7⟩ := e4 (fun h => by rw [h] at m1; exact absurd m1 (Nat.not_lt_zero _))
            injection e1 with e1 _ _
            exact ⟨b, o, by rw [e1, e5], e7 m m1, e2 _ (by rw [List.getD_eq_getElem?_getD, List.getElem?_eq_getElem m1]; exact List.getElem_mem m1)⟩
          have HFM := Lib.hid (HFW.out m3)
          obtain ⟨s, hs⟩ : ∃ s, s = X.texts.getD m ByteArray.empty := ⟨_, rfl⟩
          rw [← hs] at hcell hsz
          have HS := Lib.hid hs
          have hrb := room1_bd (left := R2) (sz := s.size) (by omega) (by omega)
          have HRS := Lib.hid (show 0 ≤ room1 R2 s.size → s.size ≤ 20000 by unfold room1; split <;> omega)
          clear hX' hs
          go_wp2_with fail
          refine (room_any R2 _ [(s.size : Int)] _ (ints_new (l := [(s.size : Int)]) rfl (by rfl) (by intro x hx; simp at hx; subst hx; omega) (by simp)) (by omega) (by intro x hx; simp at hx; subst hx; omega)).mono ?_
          rintro e w4 ⟨rfl, hb⟩
          have HB5 := Lib.hid (chain (chain HB4.out (bel_new _ _)) hb)
          have he : roomL R2 [(s.size : Int)] = room1 R2 s.size := rfl
          rw [he]
          obtain ⟨R3, hR3⟩ : ∃ R3, R3 = room1 R2 s.size := ⟨_, rfl⟩
          rw [← hR3] at hrb HRS ⊢
          clear hb he hR3 hsz
          go_wp2
          go_roundw
          case rel => exact ⟨m + 1, R3, by omega, by go_num, rfl, by omega, Lib.hid (fun h0 j hj hjl => by
            by_cases hjm : j < m
            · exact HFM.out j hjm hjl
            · rw [show j = m by omega, ← HS.out]; exact HRS.out h0), HB5⟩
          case measure => simp [intOf]; omega
        · have HLF := Lib.hid (show LF l (k + 1) R2 from fun h0 => by
            obtain ⟨p1, p2⟩ := HF0.out
            have h1 := HRT.out.2.2 (by omega)
            refine ⟨by rw [HSU.out]; omega, fun i hi => ?_⟩
            by_cases hik : i < k
            · exact p2 i hik
            · rw [show i = k by omega, ← HXE.out]
              intro j hj hjl
              exact HFW.out h0 j (by omega) hjl)
          clear hX'
          have hR29 : -1 ≤ R2 ∧ R2 ≤ 20000 := by omega
          by_cases m1 : m < X.texts.length
          all_goals by_cases m2 : m < 100
          all_goals by_cases m3 : 0 ≤ R2
          all_goals first
            | (exfalso; omega)
            | (clear g'
               go_wp2
               go_roundw
               case rel => exact ⟨k + 1, R2, by omega, by go_num, rfl, hR29, HLF, HB4⟩
               case measure => simp [intOf]; omega)
    · by_cases g1 : k < l.length
      all_goals by_cases g2 : k < 200
      all_goals by_cases g3 : 0 ≤ R
      all_goals first
        | (exfalso; omega)
        | (by_cases g4 : l.length ≤ 50
           all_goals first
             | (exfalso; omega)
             | (clear g
                go_wp2
                go_ret
                exact ⟨_, rfl, HB.out, by first | (intro h; cases h; done) | exact fun _ => light_yes HF.out (by omega) (by omega) (by omega)⟩))
end Go.Proofs.YtjcggkfinhkcoaaGreat
