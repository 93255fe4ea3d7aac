/-
  The contract of the law package's run.
-/
import Derived.Test.YtppfgjjebfgcaaaDiskTwins1
namespace Go.Proofs.Ytppfgjjebfgcaaa
open Go.RowKit
set_option linter.unusedVariables false
set_option linter.unusedSimpArgs false

def stepD (d : DV) (X : OpV) : DV := if X.kind = 1 then (d.write X.at_ X.data).1 else if X.kind = 2 then d.flush.1 else if X.kind = 3 then d.cut X.keep else if X.kind = 4 then d.restore else d
def runN (d : DV) (l : List OpV) : Nat → DV
  | 0 => d
  | k + 1 => stepD (runN d l k) (l.getD k OpV.zero)
theorem cut_writes (d : DV) (keep : List Int) : (d.cut keep).writes = d.writes := by unfold DV.cut; split <;> rfl
theorem step_writes (d : DV) (X : OpV) : d.writes ≤ (stepD d X).writes ∧ (stepD d X).writes ≤ d.writes + 1 := by
  unfold stepD
  split
  · unfold DV.write
    split
    · dsimp only; omega
    · split
      · dsimp only; omega
      · split
        · dsimp only; omega
        · split
          · dsimp only; rw [cut_writes]; omega
          · show d.writes ≤ d.writes + 1 ∧ d.writes + 1 ≤ d.writes + 1; omega
  · split
    · unfold DV.flush
      split
      · dsimp only; omega
      · split
        · dsimp only; rw [cut_writes]; omega
        · show d.writes ≤ d.writes + 1 ∧ d.writes + 1 ≤ d.writes + 1; omega
    · split
      · rw [cut_writes]; omega
      · split
        · unfold DV.restore; split <;> (first | omega | (dsimp only; omega))
        · omega
theorem run_writes (d : DV) (l : List OpV) : ∀ k : Nat, d.writes ≤ (runN d l k).writes ∧ (runN d l k).writes ≤ d.writes + k
  | 0 => ⟨Int.le_refl _, by show d.writes ≤ d.writes + 0; omega⟩
  | k + 1 => by
    have h1 := run_writes d l k
    have h2 := step_writes (runN d l k) (l.getD k OpV.zero)
    have e : runN d l (k + 1) = stepD (runN d l k) (l.getD k OpV.zero) := rfl
    rw [e]; omega

set_option maxRecDepth 100000 in
set_option maxHeartbeats 4000000 in
theorem run_any {w w0 : World} {B p c : Nat} {d : DV} (v : Value) (l : List OpV) (hv : OpsAt w0 v l) (hb0 : Below w0.heap.size w0 w) (hB : w0.heap.size ≤ B) (h : DiskAt w B p c d) (hl : c + l.length ≤ 1000000) (hw : 0 ≤ d.writes ∧ d.writes + l.length ≤ 1000000000000) :
    Calls Try.prog 23 #[.pointer (some ⟨p, 0, none⟩), v] w (RetD w B p (c + l.length) (runN d l l.length) (.tuple #[])) := by
  have HV := Lib.hid hv
  have H := Lib.hid h
  have HB0 := Lib.hid hb0
  obtain ⟨a, cap, rfl, hlen, _⟩ := hv
  clear h hb0
  go_enter Try.func23, Try.ntmps23
  go_wp2
  go_loopw [4] (fun i wr => ∃ k : Nat, k ≤ l.length ∧ i = .int .i64 k ∧ Hid (DiskAt wr B p (c + k) (runN d l k)) ∧ Hid (DStep p w wr)) (fun i _ => l.length - (intOf i).toNat)
  case atStart => exact ⟨0, Nat.zero_le _, rfl, H, Lib.hid (DStep.refl _ _)⟩
  case round =>
    obtain ⟨k, hk, rfl, HD, HS⟩ := hrel
    have HB := Lib.hid (HB0.out.trans ((H.out.below HS.out).mono hB))
    by_cases hlt : k < l.length
    · obtain ⟨b, o, kv, rfl, hX0⟩ := HV.out.nth hlt
      have hX := hX0.below HB.out
      obtain ⟨X, hXe⟩ : ∃ X, X = l.getD k OpV.zero := ⟨_, rfl⟩
      rw [← hXe] at hX hX0
      have HXE := Lib.hid hXe
      have HX := Lib.hid hX
      have HLT := Lib.hid (ints_lt hX0.keep)
      obtain ⟨ka, kc, rfl, _⟩ := hX.keep
      have q0 := hX.c0
      have q1 := hX.c1
      have q3 := hX.c3
      have q4 := hX.c4
      have hwk := run_writes d l k
      have HWK := Lib.hid (show 0 ≤ (runN d l k).writes ∧ (runN d l k).writes ≤ 1000000000000 by omega)
      have hI0 := hX.ok.1
      clear hX hX0 hXe hwk
      obtain ⟨K, hK9⟩ : ∃ K, K = X.kind := ⟨_, rfl⟩
      rw [← hK9] at q0 hI0
      unfold I64 at hI0
      have HK9 := Lib.hid hK9
      clear hK9
      by_cases e1 : K = 1
      · subst e1
        have HST := Lib.hid (show stepD (runN d l k) X = ((runN d l k).write X.at_ X.data).1 from if_pos HK9.out.symm)
        go_wp2_with fail
        refine wp_region_inv (R := Blw) (S := (fun w' => (DiskAt w' B p (c + k) (runN d l k) ∧ Below wr.heap.size wr w') ∧ w'.cell? ⟨b, o + k * 5 + 1, none⟩ = some (.int .i64 X.at_) ∧ w'.cell? ⟨b, o + k * 5 + 3, none⟩ = some (.string X.data))) 11 (Spec.val ?_ :: Spec.val ?_ :: Spec.val ?_ :: Spec.val ?_ :: Spec.val ?_ :: Spec.val ?_ :: Spec.val ?_ :: Spec.val ?_ :: Spec.val ?_ :: Spec.val ?_ :: Spec.val ?_ :: []) (by kernel_rfl) (by kernel_rfl) rfl (fun w1 w2 h hb => ⟨⟨h.1.1.step hb, chain h.1.2 hb⟩, cell_step h.2.1 hb, cell_step h.2.2 hb⟩) (⟨⟨HD.out.step (Below.refl _ _).drew, (Below.refl _ _).drew⟩, q1, q3⟩) ?hm1
        case' hm1 => skip
        refine inv_val (i := 0) (by kernel_rfl) rfl rfl (fun w1 hS hd K hK => ?_) ?_
        · (try dsimp only at hS); go_simp; exact hK.out _ _ (by simp only [Act.put, List.setIfInBounds_toArray, List.set_cons_zero, List.set_cons_succ, List.nil_append, List.cons_append]; rfl) (Below.refl _ _)
        simp only [Act.put, List.setIfInBounds_toArray, List.set_cons_zero, List.set_cons_succ, List.nil_append, List.cons_append]
        refine inv_val (i := 1) (by kernel_rfl) rfl rfl (fun w1 hS hd K hK => ?_) ?_
        · (try dsimp only at hS); go_simp; exact hK.out _ _ (by simp only [Act.put, List.setIfInBounds_toArray, List.set_cons_zero, List.set_cons_succ, List.nil_append, List.cons_append]; rfl) (Below.refl _ _)
        simp only [Act.put, List.setIfInBounds_toArray, List.set_cons_zero, List.set_cons_succ, List.nil_append, List.cons_append]
        refine inv_val (i := 2) (by kernel_rfl) rfl rfl (fun w1 hS hd K hK => ?_) ?_
        · (try dsimp only at hS); go_simp; exact hK.out _ _ (by simp only [Act.put, List.setIfInBounds_toArray, List.set_cons_zero, List.set_cons_succ, List.nil_append, List.cons_append]; rfl) (Below.refl _ _)
        simp only [Act.put, List.setIfInBounds_toArray, List.set_cons_zero, List.set_cons_succ, List.nil_append, List.cons_append]
        refine inv_val (i := 3) (by kernel_rfl) rfl rfl (fun w1 hS hd K hK => ?_) ?_
        · (try dsimp only at hS); go_simp; exact hK.out _ _ (by simp only [Act.put, List.setIfInBounds_toArray, List.set_cons_zero, List.set_cons_succ, List.nil_append, List.cons_append]; rfl) (Below.refl _ _)
        simp only [Act.put, List.setIfInBounds_toArray, List.set_cons_zero, List.set_cons_succ, List.nil_append, List.cons_append]
        refine inv_val (i := 4) (by kernel_rfl) rfl rfl (fun w1 hS hd K hK => ?_) ?_
        · (try dsimp only at hS); go_simp; exact hK.out _ _ (by simp only [Act.put, List.setIfInBounds_toArray, List.set_cons_zero, List.set_cons_succ, List.nil_append, List.cons_append]; rfl) (Below.refl _ _)
        simp only [Act.put, List.setIfInBounds_toArray, List.set_cons_zero, List.set_cons_succ, List.nil_append, List.cons_append]
        refine inv_val (i := 5) (by kernel_rfl) rfl rfl (fun w1 hS hd K hK => ?_) ?_
        · (try dsimp only at hS); go_simp; exact hK.out _ _ (by simp only [Act.put, List.setIfInBounds_toArray, List.set_cons_zero, List.set_cons_succ, List.nil_append, List.cons_append]; rfl) (Below.refl _ _)
        simp only [Act.put, List.setIfInBounds_toArray, List.set_cons_zero, List.set_cons_succ, List.nil_append, List.cons_append]
        refine inv_val (i := 6) (by kernel_rfl) rfl rfl (fun w1 hS hd K hK => ?_) ?_
        · (try dsimp only at hS); go_simp; exact hK.out _ _ (by simp only [Act.put, List.setIfInBounds_toArray, List.set_cons_zero, List.set_cons_succ, List.nil_append, List.cons_append]; rfl) (Below.refl _ _)
        simp only [Act.put, List.setIfInBounds_toArray, List.set_cons_zero, List.set_cons_succ, List.nil_append, List.cons_append]
        refine inv_val (i := 7) (by kernel_rfl) rfl rfl (fun w1 hS hd K hK => ?_) ?_
        · (try dsimp only at hS); go_simp; exact hK.out _ _ (by simp only [Act.put, List.setIfInBounds_toArray, List.set_cons_zero, List.set_cons_succ, List.nil_append, List.cons_append]; rfl) (Below.refl _ _)
        simp only [Act.put, List.setIfInBounds_toArray, List.set_cons_zero, List.set_cons_succ, List.nil_append, List.cons_append]
        refine inv_val (i := 8) (by kernel_rfl) rfl rfl (fun w1 hS hd K hK => ?_) ?_
        · (try dsimp only at hS); go_simp; exact hK.out _ _ (by simp only [Act.put, List.setIfInBounds_toArray, List.set_cons_zero, List.set_cons_succ, List.nil_append, List.cons_append]; rfl) (Below.refl _ _)
        simp only [Act.put, List.setIfInBounds_toArray, List.set_cons_zero, List.set_cons_succ, List.nil_append, List.cons_append]
        refine inv_val (i := 9) (by kernel_rfl) rfl rfl (fun w1 hS hd K hK => ?_) ?_
        · (try dsimp only at hS); go_simp; exact hK.out _ _ (by simp only [Act.put, List.setIfInBounds_toArray, List.set_cons_zero, List.set_cons_succ, List.nil_append, List.cons_append]; rfl) (Below.refl _ _)
        simp only [Act.put, List.setIfInBounds_toArray, List.set_cons_zero, List.set_cons_succ, List.nil_append, List.cons_append]
        refine inv_val (i := 10) (by kernel_rfl) rfl rfl (fun w1 hS hd K hK => ?_) ?_
        · (try dsimp only at hS); go_simp; exact hK.out _ _ (by simp only [Act.put, List.setIfInBounds_toArray, List.set_cons_zero, List.set_cons_succ, List.nil_append, List.cons_append]; rfl) (Below.refl _ _)
        simp only [Act.put, List.setIfInBounds_toArray, List.set_cons_zero, List.set_cons_succ, List.nil_append, List.cons_append]
        refine inv_tail1 (by kernel_rfl) rfl (fun w2 hS hd => ?_)
        have HD2 := Lib.hid hS.1.1
        have HS2 := Lib.hid (HS.out.trans (DStep.of_below hS.1.2 HD.out.lt))
        clear hS hd q0 q1 q3 q4
        go_wp2_with fail
        refine (write_any X.at_ X.data HD2.out (by omega) HX.out.ok.2.1 HWK.out HX.out.ok.2.2.2).mono ?_
        rintro e w3 ⟨rfl, hd, hs⟩
        have HD3 := Lib.hid hd
        have HS3 := Lib.hid (HS2.out.trans hs)
        clear hd hs
        go_wp2
        go_roundw
        case rel => exact ⟨k + 1, by omega, by go_num, Lib.hid (by show DiskAt _ B p (c + (k + 1)) (stepD (runN d l k) (l.getD k OpV.zero)); rw [← HXE.out, HST.out]; exact HD3.out), Lib.hid (HS3.out)⟩
        case measure => simp [intOf]; omega
      · have e1' : (K == 1) = false := by simp; exact e1
        by_cases e2 : K = 2
        · subst e2
          have HST := Lib.hid (show stepD (runN d l k) X = (runN d l k).flush.1 by unfold stepD; rw [if_neg (by rw [← HK9.out]; decide), if_pos HK9.out.symm])
          go_wp2_with fail
          refine (flush_any HD.out (by omega) HWK.out).mono ?_
          rintro e w3 ⟨rfl, hd, hs⟩
          have HD3 := Lib.hid hd
          have HS3 := Lib.hid (HS.out.trans hs)
          clear hd hs q0 q1 q3 q4
          go_wp2
          go_roundw
          case rel => exact ⟨k + 1, by omega, by go_num, Lib.hid (by show DiskAt _ B p (c + (k + 1)) (stepD (runN d l k) (l.getD k OpV.zero)); rw [← HXE.out, HST.out]; exact HD3.out.mono (by omega)), Lib.hid (HS3.out)⟩
          case measure => simp [intOf]; omega
        · have e2' : (K == 2) = false := by simp; exact e2
          by_cases e3 : K = 3
          · subst e3
            have HST := Lib.hid (show stepD (runN d l k) X = (runN d l k).cut X.keep by unfold stepD; rw [if_neg (by rw [← HK9.out]; decide), if_neg (by rw [← HK9.out]; decide), if_pos HK9.out.symm])
            go_wp2_with fail
            refine (cut_any _ X.keep HD.out (out_arg HD.out HX.out.keep (fun b o s n c e hn => Nat.lt_of_lt_of_le (HLT.out b o s n c e hn) hB)) (by omega)).mono ?_
            rintro e w3 ⟨rfl, hd, hs⟩
            have HD3 := Lib.hid hd
            have HS3 := Lib.hid (HS.out.trans hs)
            clear hd hs q0 q1 q3 q4
            go_wp2
            go_roundw
            case rel => exact ⟨k + 1, by omega, by go_num, Lib.hid (by show DiskAt _ B p (c + (k + 1)) (stepD (runN d l k) (l.getD k OpV.zero)); rw [← HXE.out, HST.out]; exact HD3.out.mono (by omega)), Lib.hid (HS3.out)⟩
            case measure => simp [intOf]; omega
          · have e3' : (K == 3) = false := by simp; exact e3
            by_cases e4 : K = 4
            · subst e4
              have HST := Lib.hid (show stepD (runN d l k) X = (runN d l k).restore by unfold stepD; rw [if_neg (by rw [← HK9.out]; decide), if_neg (by rw [← HK9.out]; decide), if_neg (by rw [← HK9.out]; decide), if_pos HK9.out.symm])
              go_wp2_with fail
              refine (restore_any HD.out).mono ?_
              rintro e w3 ⟨rfl, hd, hs⟩
              have HD3 := Lib.hid hd
              have HS3 := Lib.hid (HS.out.trans hs)
              clear hd hs q0 q1 q3 q4
              go_wp2
              go_roundw
              case rel => exact ⟨k + 1, by omega, by go_num, Lib.hid (by show DiskAt _ B p (c + (k + 1)) (stepD (runN d l k) (l.getD k OpV.zero)); rw [← HXE.out, HST.out]; exact HD3.out.mono (by omega)), Lib.hid (HS3.out)⟩
              case measure => simp [intOf]; omega
            · have e4' : (K == 4) = false := by simp; exact e4
              have HST := Lib.hid (show stepD (runN d l k) X = runN d l k by unfold stepD; rw [if_neg (by rw [← HK9.out]; exact e1), if_neg (by rw [← HK9.out]; exact e2), if_neg (by rw [← HK9.out]; exact e3), if_neg (by rw [← HK9.out]; exact e4)])
              go_wp2
              go_roundw
              case rel => exact ⟨k + 1, by omega, by go_num, Lib.hid (by show DiskAt _ B p (c + (k + 1)) (stepD (runN d l k) (l.getD k OpV.zero)); rw [← HXE.out, HST.out]; exact HD.out.mono (by omega)), Lib.hid (HS.out)⟩
              case measure => simp [intOf]; omega
    · have hkl : k = l.length := by omega
      subst hkl
      go_wp2
      go_end0
      exact ⟨rfl, HD.out, HS.out⟩
end Go.Proofs.Ytppfgjjebfgcaaa
