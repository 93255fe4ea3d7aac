/-
  The walk of the law DiskArmed.
-/
import Derived.Test.YtppfgjjebfgcaaaDiskAlive
namespace Go.Proofs.Ytppfgjjebfgcaaa
open Go.RowKit
set_option linter.unusedVariables false
set_option linter.unusedSimpArgs false

def A1 : ByteArray := fillB 97
def B1 : ByteArray := fillB 98
def C1 : ByteArray := fillB 99
theorem a1_size : A1.size = 256 := fillB_size 97
theorem b1_size : B1.size = 256 := fillB_size 98
theorem c1_size : C1.size = 256 := fillB_size 99
set_option maxRecDepth 100000 in
theorem zero_fill : fillB 0 = zeroB := by kernel_rfl
def ds1 : DV := (DV.fresh 12).spent.put 11 A1
def ds2 : DV := ds1.spent.flushed
def AR (n : Int) (keep : List Int) : Nat → DV
  | 0 => ds2.arm n keep
  | k + 1 => (AR n keep k).spent.put k B1
theorem AR_facts (n : Int) (keep : List Int) (hn : 0 ≤ n) : ∀ k : Nat, (AR n keep k).on = true ∧ (AR n keep k).armed = true ∧ (AR n keep k).left = n - k ∧ (AR n keep k).writes = 2 + k ∧ (AR n keep k).blocks = 12 ∧ (AR n keep k).keep = keep ∧
    (AR n keep k).waits = (List.range k).map (fun i : Nat => ((i : Int), B1)) ∧ (AR n keep k).lasts = updF (fun _ => none) 11 A1
  | 0 => ⟨rfl, by show decide (0 ≤ n) = true; simpa using hn, by show n = n - 0; omega, rfl, rfl, rfl, rfl, rfl⟩
  | k + 1 => by
    obtain ⟨h1, h2, h3, h4, h5, h6, h7, h8⟩ := AR_facts n keep hn k
    refine ⟨h1, h2, ?_, ?_, h5, h6, ?_, h8⟩
    · show (if (AR n keep k).armed then (AR n keep k).left - 1 else (AR n keep k).left) = _
      rw [h2, h3]; simp; omega
    · show (AR n keep k).writes + 1 = _
      rw [h4]; omega
    · show (AR n keep k).waits ++ [((k : Int), B1)] = _
      rw [h7, List.range_succ, List.map_append]; rfl
theorem cut_AR (n : Int) (keep : List Int) (N : Nat) (f : Int → Option ByteArray) : ∀ (k : Nat), k ≤ N → ∀ i : Nat, cutL keep ((List.range N).map (fun i : Nat => ((i : Int), B1))) f k i = if i < k ∧ keepBit keep i = true then some B1 else f i
  | 0, _, i => by show f i = _; rw [if_neg (by omega)]
  | k + 1, hk, i => by
    have ih := cut_AR n keep N f k (by omega)
    have hg : ((List.range N).map (fun i : Nat => ((i : Int), B1))).getD k w0 = ((k : Int), B1) := by
      rw [List.getD_eq_getElem?_getD]; simp [show k < N by omega]
    show cutStep keep _ _ k i = _
    unfold cutStep
    by_cases hb : keepBit keep k = true
    · rw [if_pos hb, hg]
      show (if (i : Int) = (k : Int) then some B1 else _) = _
      by_cases hik : i = k
      · subst hik
        rw [if_pos rfl, if_pos ⟨by omega, hb⟩]
      · rw [if_neg (by omega), ih i]
        by_cases h2 : keepBit keep i = true
        · by_cases h3 : i < k
          · rw [if_pos ⟨h3, h2⟩, if_pos ⟨by omega, h2⟩]
          · rw [if_neg (by omega), if_neg (by omega)]
        · rw [if_neg (fun h => h2 h.2), if_neg (fun h => h2 h.2)]
    · rw [if_neg hb, ih i]
      by_cases hik : i = k
      · subst hik
        rw [if_neg (by omega), if_neg (fun h => hb h.2)]
      · by_cases h2 : keepBit keep i = true
        · by_cases h3 : i < k
          · rw [if_pos ⟨h3, h2⟩, if_pos ⟨by omega, h2⟩]
          · rw [if_neg (by omega), if_neg (by omega)]
        · rw [if_neg (fun h => h2 h.2), if_neg (fun h => h2 h.2)]
/-- Behind the power's going, and coming again. -/
def AE (n : Int) (keep : List Int) (N : Nat) : DV := ((AR n keep N).cut keep).restore
theorem AE_facts (n : Int) (keep : List Int) (N : Nat) (hn : 0 ≤ n) (hN : N ≤ 10) : (AE n keep N).on = true ∧ (AE n keep N).armed = false ∧ (AE n keep N).writes = 2 + N ∧ (AE n keep N).blocks = 12 ∧
    (∀ i : Nat, i < 11 → (AE n keep N).read i = (if i < N ∧ keepBit keep i = true then B1 else zeroB, 0)) ∧ (AE n keep N).read 11 = (A1, 0) := by
  obtain ⟨h1, h2, h3, h4, h5, h6, h7, h8⟩ := AR_facts n keep hn N
  have hc : (AR n keep N).cut keep = { AR n keep N with on := false, armed := false, left := -1, keep := [], now := cutL keep (AR n keep N).waits (AR n keep N).lasts (AR n keep N).waits.length, lasts := cutL keep (AR n keep N).waits (AR n keep N).lasts (AR n keep N).waits.length, waits := [] } := if_pos h1
  have hr : AE n keep N = { AR n keep N with on := true, armed := false, left := -1, keep := [], now := cutL keep (AR n keep N).waits (AR n keep N).lasts (AR n keep N).waits.length, lasts := cutL keep (AR n keep N).waits (AR n keep N).lasts (AR n keep N).waits.length, waits := [] } := by
    unfold AE DV.restore; rw [hc]; dsimp only; rw [h5, if_pos (by decide)]
  have hnow : ∀ i : Nat, (AE n keep N).now i = if i < N ∧ keepBit keep i = true then some B1 else updF (fun _ => none) 11 A1 i := fun i => by
    rw [hr]; dsimp only; rw [h7, h8]
    have hl : ((List.range N).map (fun i : Nat => ((i : Int), B1))).length = N := by simp
    rw [hl]; exact cut_AR n keep N _ N (Nat.le_refl _) i
  have hon : (AE n keep N).on = true := by rw [hr]
  have hbl : (AE n keep N).blocks = 12 := by rw [hr]; exact h5
  refine ⟨hon, by rw [hr], by rw [hr]; exact h4, hbl, fun i hi => ?_, ?_⟩
  · unfold DV.read
    rw [if_neg (by rw [hon]; simp), if_neg (by rw [hbl]; omega), hnow]
    split
    · rfl
    · unfold updF; rw [if_neg (by omega)]; rfl
  · have h11 := hnow 11
    rw [if_neg (by omega)] at h11
    unfold DV.read
    rw [if_neg (by rw [hon]; simp), if_neg (by rw [hbl]; omega)]
    show readO ((AE n keep N).now ((11 : Nat) : Int)) = _
    rw [h11]; rfl

set_option maxRecDepth 100000 in
set_option maxHeartbeats 8000000 in
theorem walkDiskArmedIn (N : Nat) (v : Value) (keep : List Int) (w : World) (hv : IntsAt w v keep) (h1 : N ≤ 10) (h2 : keep.length ≤ 20) :
    Calls Try.prog 3 #[.int .i64 N, v] w (BoolPost w true) := by
  have HV := Lib.hid hv
  have HLT := Lib.hid (ints_lt hv)
  obtain ⟨a, ca, rfl, hI, hlen, hc⟩ := hv
  have HC := Lib.hid hc
  have HI := Lib.hid hI
  have h1' : (N : Int) ≤ 10 := by omega
  have h2' : (keep.length : Int) ≤ 20 := by omega
  have E1 := Lib.hid (show (DV.fresh 12).write 11 A1 = (ds1, 0) from write_ok rfl a1_size ⟨by decide, by decide⟩ (by intro h; cases h))
  have E2 := Lib.hid (show ds1.flush = (ds2, 0) from flush_ok rfl (by intro h; cases h))
  have FA := Lib.hid (show fillB 97 = A1 from rfl)
  have FB := Lib.hid (show fillB 98 = B1 from rfl)
  have FC := Lib.hid (show fillB 99 = C1 from rfl)
  have SA := Lib.hid a1_size
  have SB := Lib.hid b1_size
  have SC := Lib.hid c1_size
  have HZ := Lib.hid zero_fill
  have HF := Lib.hid (AR_facts N keep (by omega))
  have HL := Lib.hid (show keep.length ≤ 1000000 by omega)
  clear hc hI
  go_enter Try.func3, Try.ntmps3
  go_wp2_with fail
  refine (new_any 12 w (by omega)).mono ?_
  rintro e w1 ⟨p, rfl, hd, hb⟩
  have HD1 := Lib.hid hd
  have HB1 := Lib.hid hb
  clear hd hb
  go_wp2_with fail
  refine (fill_any 97 _ (by omega)).mono ?_; rintro e w2 ⟨rfl, hb⟩; have HD2 := Lib.hid (HD1.out.step hb); have HB2 := Lib.hid (chain HB1.out hb); clear hb
  rw [FA.out]
  go_wp2_with fail
  refine (write_any 11 A1 HD2.out (by omega) (by unfold I64; omega) (by decide) (by have := SA.out; omega)).mono ?_
  rintro e w3 ⟨rfl, hd, hs⟩
  rw [E1.out] at hd ⊢
  have HD3 := Lib.hid hd
  have HB3 := Lib.hid (HB2.out.trans (HD2.out.below hs))
  clear hd hs
  go_wp2_with fail
  refine (flush_any HD3.out (by omega) (by decide)).mono ?_
  rintro e w4 ⟨rfl, hd, hs⟩
  rw [E2.out] at hd ⊢
  have HD4 := Lib.hid hd
  have HB4 := Lib.hid (HB3.out.trans (HD3.out.below hs))
  clear hd hs
  go_wp2_with fail
  refine (arm_any N _ keep HD4.out (HV.out.below HB4.out) (by unfold I64; omega) HL.out).mono ?_
  rintro e w5 ⟨rfl, hd, hs⟩
  have HD5 := Lib.hid hd
  have HB5 := Lib.hid (HB4.out.trans (HD4.out.below hs))
  clear hd hs
  go_wp2_with fail
  go_loopw [6] (fun x wr => ∃ k : Nat, k ≤ N ∧ x = .int .i64 k ∧ Hid (DiskAt wr w.heap.size p (0 + 1 + 3 * k) (AR N keep k)) ∧ Hid (Below w.heap.size w wr)) (fun x _ => N - (intOf x).toNat)
  case atStart => exact ⟨0, by omega, rfl, HD5, HB5⟩
  case round =>
    clear HD1 HD2 HD3 HD4 HD5 HB1 HB2 HB3 HB4 HB5
    obtain ⟨k, hk, rfl, HD1, HB1⟩ := hrel
    by_cases hlt : k < N
    · have hf := HF.out k
      have hf1 := HF.out (k + 1)
      have W1 := Lib.hid (show (AR N keep k).write k B1 = (AR N keep (k + 1), 0) from write_ok hf.1 b1_size (by rw [hf.2.2.2.2.1]; omega) (fun _ => by rw [hf.2.2.1]; omega))
      have W2 := Lib.hid (show (AR N keep (k + 1)).write k ⟨#[98]⟩ = (AR N keep (k + 1), 1) by unfold DV.write; rw [if_neg (by rw [hf1.1]; simp), if_pos (by decide)])
      have W3 := Lib.hid (show (AR N keep (k + 1)).write 12 B1 = (AR N keep (k + 1), 15) by unfold DV.write; rw [if_neg (by rw [hf1.1]; simp), if_neg (by rw [b1_size]; simp), if_pos (by rw [hf1.2.2.2.2.1]; omega)])
      have X1 := Lib.hid (show 0 ≤ (AR N keep k).writes ∧ (AR N keep k).writes ≤ 1000000000000 by rw [hf.2.2.2.1]; omega)
      have X2 := Lib.hid (show 0 ≤ (AR N keep (k + 1)).writes ∧ (AR N keep (k + 1)).writes ≤ 1000000000000 by rw [hf1.2.2.2.1]; omega)
      clear hf hf1
      go_wp2_with fail
      refine (fill_any 98 _ (by omega)).mono ?_; rintro e w2 ⟨rfl, hb⟩; have HD2 := Lib.hid (HD1.out.step hb); have HB2 := Lib.hid (chain HB1.out hb); clear hb
      rw [FB.out]
      go_wp2_with fail
      refine (write_any k B1 HD2.out (by omega) (by unfold I64; omega) X1.out (by have := SB.out; omega)).mono ?_
      rintro e w3 ⟨rfl, hd, hs⟩
      rw [W1.out] at hd ⊢
      have HD3 := Lib.hid hd
      have HB3 := Lib.hid (HB2.out.trans (HD2.out.below hs))
      clear hd hs
      go_wp2_with fail
      refine (write_any k ⟨#[98]⟩ HD3.out (by omega) (by unfold I64; omega) X2.out (by decide)).mono ?_
      rintro e w4 ⟨rfl, hd, hs⟩
      rw [W2.out] at hd ⊢
      have HD4 := Lib.hid hd
      have HB4 := Lib.hid (HB3.out.trans (HD3.out.below hs))
      clear hd hs
      go_wp2_with fail
      refine (fill_any 98 _ (by omega)).mono ?_; rintro e w5 ⟨rfl, hb⟩; have HD5 := Lib.hid (HD4.out.step hb); have HB5 := Lib.hid (chain HB4.out hb); clear hb
      rw [FB.out]
      go_wp2_with fail
      refine (write_any 12 B1 HD5.out (by omega) (by unfold I64; omega) X2.out (by have := SB.out; omega)).mono ?_
      rintro e w6 ⟨rfl, hd, hs⟩
      rw [W3.out] at hd ⊢
      have HD6 := Lib.hid hd
      have HB6 := Lib.hid (HB5.out.trans (HD5.out.below hs))
      clear hd hs
      go_wp2
      go_roundw
      case rel => exact ⟨k + 1, by omega, by go_num, Lib.hid (HD6.out.mono (by omega)), HB6⟩
      case measure => simp [intOf]; omega
    · have hkN : k = N := by omega
      subst hkN
      have hf := HF.out k
      have hae := AE_facts k keep k (by omega) h1
      have F1 := Lib.hid (show (AR k keep k).flush = ((AR k keep k).cut keep, 14) by unfold DV.flush; rw [if_neg (by rw [hf.1]; simp), if_pos ⟨hf.2.1, by rw [hf.2.2.1]; omega⟩, hf.2.2.2.2.2.1])
      have hcoff : ((AR k keep k).cut keep).on = false := by unfold DV.cut; rw [if_pos hf.1]
      have F2 := Lib.hid (show ((AR k keep k).cut keep).flush = ((AR k keep k).cut keep, 14) from if_pos hcoff)
      have F0 := Lib.hid hf.1
      have F3 := Lib.hid hcoff
      have X1 := Lib.hid (show 0 ≤ (AR k keep k).writes ∧ (AR k keep k).writes ≤ 1000000000000 by rw [hf.2.2.2.1]; omega)
      have X2 := Lib.hid (show 0 ≤ ((AR k keep k).cut keep).writes ∧ ((AR k keep k).cut keep).writes ≤ 1000000000000 by unfold DV.cut; rw [if_pos hf.1]; dsimp only; rw [hf.2.2.2.1]; omega)
      have HAE := Lib.hid hae
      clear hf hae hcoff hlt
      go_wp2_with fail
      refine (on_any HD1.out).mono ?_
      rintro e w2 ⟨rfl, hb⟩
      rw [F0.out]
      have HD2 := Lib.hid (HD1.out.step hb)
      have HB2 := Lib.hid (chain HB1.out hb)
      clear hb
      go_wp2_with fail
      refine (flush_any HD2.out (by omega) X1.out).mono ?_
      rintro e w3 ⟨rfl, hd, hs⟩
      rw [F1.out] at hd ⊢
      have HD3 := Lib.hid hd
      have HB3 := Lib.hid (HB2.out.trans (HD2.out.below hs))
      clear hd hs
      go_wp2_with fail
      refine (on_any HD3.out).mono ?_
      rintro e w4 ⟨rfl, hb⟩
      rw [F3.out]
      have HD4 := Lib.hid (HD3.out.step hb)
      have HB4 := Lib.hid (chain HB3.out hb)
      clear hb
      go_wp2_with fail
      refine (flush_any HD4.out (by omega) X2.out).mono ?_
      rintro e w5 ⟨rfl, hd, hs⟩
      rw [F2.out] at hd ⊢
      have HD5 := Lib.hid hd
      have HB5 := Lib.hid (HB4.out.trans (HD4.out.below hs))
      clear hd hs
      go_wp2_with fail
      refine (restore_any HD5.out).mono ?_
      rintro e w6 ⟨rfl, hd, hs⟩
      obtain ⟨d9, hd9⟩ : ∃ d9, d9 = AE k keep k := ⟨_, rfl⟩
      rw [show ((AR k keep k).cut keep).restore = AE k keep k from rfl, ← hd9] at hd
      rw [← hd9] at HAE
      obtain ⟨cc, hcc⟩ : ∃ cc, cc = 0 + 1 + 3 * k := ⟨_, rfl⟩
      rw [← hcc] at hd
      have hcb : cc ≤ 40 := by omega
      have HD6 := Lib.hid hd
      have HB6 := Lib.hid (HB5.out.trans (HD5.out.below hs))
      clear hd hs
      clear hd9 hcc HD1 HD2 HD3 HD4 HD5 HB1 HB2 HB3 HB4 HB5
      go_wp2_with fail
      go_loopw [7] (fun x wr => ∃ j : Nat, j ≤ 11 ∧ x = .int .i64 j ∧ Hid (DiskAt wr w.heap.size p cc d9) ∧ Hid (Below w.heap.size w wr)) (fun x _ => 11 - (intOf x).toNat)
      case atStart => exact ⟨0, by omega, rfl, HD6, HB6⟩
      case round =>
        clear HD6 HB6
        obtain ⟨j, hj, rfl, HD1, HB1⟩ := hrel
        by_cases hlt : j < 11
        · have hr0 := HAE.out.2.2.2.2.1 j hlt
          by_cases g1 : j < k
          · by_cases g2 : j < keep.length
            · by_cases g3 : keep.getD j 0 % 2 = 1
              · have HRD := Lib.hid (show d9.read j = (B1, 0) by rw [hr0, if_pos ⟨g1, by unfold keepBit; simp only [g2, decide_true, Bool.true_and, decide_eq_true_eq]; exact g3⟩])
                clear hr0
                go_wp2_with fail
                refine (read_any j HD1.out (by unfold I64; omega)).mono ?_
                rintro e w2 ⟨rfl, hb⟩
                rw [HRD.out]
                have HD2 := Lib.hid (HD1.out.step hb)
                have HB2 := Lib.hid (chain HB1.out hb)
                clear hb
                go_wp2_with fail
                refine (fill_any 0 _ (by omega)).mono ?_; rintro e w3 ⟨rfl, hb⟩; have HD3 := Lib.hid (HD2.out.step hb); have HB3 := Lib.hid (chain HB2.out hb); clear hb
                rw [HZ.out]
                obtain ⟨b, o, rfl, _, hcell, hI⟩ := (out_arg HD3.out (HV.out.below HB3.out) HLT.out).bit g2
                obtain ⟨x, hx⟩ : ∃ x, x = keep.getD j 0 := ⟨_, rfl⟩
                rw [← hx] at hcell hI g3
                have hand := and1 x
                rw [g3] at hand
                clear hx hI
                go_wp2_with fail
                refine (fill_any 98 _ (by omega)).mono ?_; rintro e w4 ⟨rfl, hb⟩; have HD4 := Lib.hid (HD3.out.step hb); have HB4 := Lib.hid (chain HB3.out hb); clear hb
                rw [FB.out]
                go_wp2
                go_roundw
                case rel => exact ⟨j + 1, by omega, by go_num, HD4, HB4⟩
                case measure => simp [intOf]; omega
              · have HRD := Lib.hid (show d9.read j = (zeroB, 0) by rw [hr0, if_neg (fun h => g3 (by have := h.2; unfold keepBit at this; simp only [g2, decide_true, Bool.true_and, decide_eq_true_eq] at this; exact this))])
                clear hr0
                go_wp2_with fail
                refine (read_any j HD1.out (by unfold I64; omega)).mono ?_
                rintro e w2 ⟨rfl, hb⟩
                rw [HRD.out]
                have HD2 := Lib.hid (HD1.out.step hb)
                have HB2 := Lib.hid (chain HB1.out hb)
                clear hb
                go_wp2_with fail
                refine (fill_any 0 _ (by omega)).mono ?_; rintro e w3 ⟨rfl, hb⟩; have HD3 := Lib.hid (HD2.out.step hb); have HB3 := Lib.hid (chain HB2.out hb); clear hb
                rw [HZ.out]
                obtain ⟨b, o, rfl, _, hcell, hI⟩ := (out_arg HD3.out (HV.out.below HB3.out) HLT.out).bit g2
                obtain ⟨x, hx⟩ : ∃ x, x = keep.getD j 0 := ⟨_, rfl⟩
                rw [← hx] at hcell hI g3
                have g4 : x % 2 = 0 := by omega
                have hand := and1 x
                rw [g4] at hand
                clear hx hI g3 g4
                go_wp2
                go_roundw
                case rel => exact ⟨j + 1, by omega, by go_num, HD3, HB3⟩
                case measure => simp [intOf]; omega
            · have HRD := Lib.hid (show d9.read j = (zeroB, 0) by rw [hr0, if_neg (fun h => g2 (by have := h.2; unfold keepBit at this; simp at this; exact this.1))])
              clear hr0
              go_wp2_with fail
              refine (read_any j HD1.out (by unfold I64; omega)).mono ?_
              rintro e w2 ⟨rfl, hb⟩
              rw [HRD.out]
              have HD2 := Lib.hid (HD1.out.step hb)
              have HB2 := Lib.hid (chain HB1.out hb)
              clear hb
              go_wp2_with fail
              refine (fill_any 0 _ (by omega)).mono ?_; rintro e w3 ⟨rfl, hb⟩; have HD3 := Lib.hid (HD2.out.step hb); have HB3 := Lib.hid (chain HB2.out hb); clear hb
              rw [HZ.out]
              go_wp2
              go_roundw
              case rel => exact ⟨j + 1, by omega, by go_num, HD3, HB3⟩
              case measure => simp [intOf]; omega
          · have HRD := Lib.hid (show d9.read j = (zeroB, 0) by rw [hr0, if_neg (fun h => g1 h.1)])
            clear hr0
            go_wp2_with fail
            refine (read_any j HD1.out (by unfold I64; omega)).mono ?_
            rintro e w2 ⟨rfl, hb⟩
            rw [HRD.out]
            have HD2 := Lib.hid (HD1.out.step hb)
            have HB2 := Lib.hid (chain HB1.out hb)
            clear hb
            go_wp2_with fail
            refine (fill_any 0 _ (by omega)).mono ?_; rintro e w3 ⟨rfl, hb⟩; have HD3 := Lib.hid (HD2.out.step hb); have HB3 := Lib.hid (chain HB2.out hb); clear hb
            rw [HZ.out]
            go_wp2
            go_roundw
            case rel => exact ⟨j + 1, by omega, by go_num, HD3, HB3⟩
            case measure => simp [intOf]; omega
        · have hj11 : j = 11 := by omega
          subst hj11
          obtain ⟨z1, z2, z3, z4, z5, z6⟩ := HAE.out
          have Z6 := Lib.hid z6
          have G1 := Lib.hid (show d9.write 0 C1 = (d9.spent.put 0 C1, 0) from write_ok z1 c1_size ⟨by decide, by rw [z4]; decide⟩ (by rw [z2]; intro h; cases h))
          have G2 := Lib.hid (show (d9.spent.put 0 C1).flush = ((d9.spent.put 0 C1).spent.flushed, 0) from flush_ok z1 (by intro h; rw [show (d9.spent.put 0 C1).armed = d9.armed from rfl, z2] at h; cases h))
          have X3 := Lib.hid (show 0 ≤ d9.writes ∧ d9.writes ≤ 1000000000000 by rw [z3]; omega)
          have X4 := Lib.hid (show 0 ≤ (d9.spent.put 0 C1).writes ∧ (d9.spent.put 0 C1).writes ≤ 1000000000000 by show 0 ≤ d9.writes + 1 ∧ d9.writes + 1 ≤ 1000000000000; rw [z3]; omega)
          have GW := Lib.hid (show (d9.spent.put 0 C1).spent.flushed.writes = (k : Int) + 4 by show d9.writes + 1 + 1 = _; rw [z3]; omega)
          clear z1 z2 z3 z4 z5 z6 HAE hlt hj
          go_wp2_with fail
          refine (read_any 11 HD1.out (by unfold I64; omega)).mono ?_
          rintro e w2 ⟨rfl, hb⟩
          rw [show d9.read 11 = (A1, 0) from Z6.out]
          have HD2 := Lib.hid (HD1.out.step hb)
          have HB2 := Lib.hid (chain HB1.out hb)
          clear hb
          go_wp2_with fail
          refine (alive_any _).mono ?_
          rintro e w3 ⟨rfl, hb⟩
          have HD3 := Lib.hid (HD2.out.step hb)
          have HB3 := Lib.hid (chain HB2.out hb)
          clear hb
          go_wp2_with fail
          refine (fill_any 97 _ (by omega)).mono ?_; rintro e w4 ⟨rfl, hb⟩; have HD4 := Lib.hid (HD3.out.step hb); have HB4 := Lib.hid (chain HB3.out hb); clear hb
          rw [FA.out]
          go_wp2_with fail
          refine (fill_any 99 _ (by omega)).mono ?_; rintro e w5 ⟨rfl, hb⟩; have HD5 := Lib.hid (HD4.out.step hb); have HB5 := Lib.hid (chain HB4.out hb); clear hb
          rw [FC.out]
          go_wp2_with fail
          refine (write_any 0 C1 HD5.out (by omega) (by unfold I64; omega) X3.out (by have := SC.out; omega)).mono ?_
          rintro e w6 ⟨rfl, hd, hs⟩
          rw [G1.out] at hd ⊢
          have HD6 := Lib.hid hd
          have HB6 := Lib.hid (HB5.out.trans (HD5.out.below hs))
          clear hd hs
          go_wp2_with fail
          refine (flush_any HD6.out (by omega) X4.out).mono ?_
          rintro e w7 ⟨rfl, hd, hs⟩
          rw [G2.out] at hd ⊢
          have HD7 := Lib.hid hd
          have HB7 := Lib.hid (HB6.out.trans (HD6.out.below hs))
          clear hd hs
          go_wp2_with fail
          refine (writes_any HD7.out).mono ?_
          rintro e w8 ⟨rfl, hb⟩
          rw [GW.out]
          have HD8 := Lib.hid (HD7.out.step hb)
          have HB8 := Lib.hid (chain HB7.out hb)
          clear hb
          go_wp2
          go_ret
          exact ⟨rfl, HB8.out⟩

set_option maxRecDepth 100000 in
set_option maxHeartbeats 1000000 in
theorem walkDiskArmed (n : Int) (wa : (Lit.int .i64 n).wf = true) (v : Value) (keep : List Int) (w : World) (hv : IntsAt w v keep) : Calls Try.prog 3 #[.int .i64 n, v] w (BoolPost w true) := by
  have ha := wf64' wa
  clear wa
  by_cases hin : 0 ≤ n ∧ n ≤ 10 ∧ keep.length ≤ 20
  · obtain ⟨N, rfl⟩ := Int.eq_ofNat_of_zero_le hin.1
    exact walkDiskArmedIn N v keep w hv (by omega) hin.2.2
  · obtain ⟨a, ca, rfl, _⟩ := hv
    by_cases h1 : n < 0
    all_goals by_cases h2 : 10 < n
    all_goals by_cases h3 : (20 : Int) < keep.length
    all_goals first
      | (exfalso; omega)
      | (clear hin
         go_enter Try.func3, Try.ntmps3
         go_wp2_with fail
         refine (alive_any _).mono ?_
         rintro e w9 ⟨rfl, hb9⟩
         go_wp2
         go_ret
         exact ⟨rfl, hb9⟩)
end Go.Proofs.Ytppfgjjebfgcaaa
