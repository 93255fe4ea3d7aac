/-
  The contracts of the reference's Name and Check.
-/
import Derived.Test.YtaenpcglaenlaaaReach3
import Derived.Deep.DeepCutAuto
namespace Go.Proofs.Ytaenpcglaenlaaa
open Go.RowKit
set_option linter.unusedVariables false
set_option linter.unusedSimpArgs false

theorem letter_true (n : Nat) (h : (97 ≤ n ∧ n ≤ 122) ∨ (48 ≤ n ∧ n ≤ 57) ∨ n = 46 ∨ n = 95 ∨ n = 45) : letterN n = true := by unfold letterN; simp; omega
theorem letter_false (n : Nat) (h : ¬ ((97 ≤ n ∧ n ≤ 122) ∨ (48 ≤ n ∧ n ≤ 57) ∨ n = 46 ∨ n = 95 ∨ n = 45)) : letterN n = false := by unfold letterN; simp; omega
set_option maxRecDepth 100000 in
set_option maxHeartbeats 1000000 in
theorem rname_any (s : ByteArray) (w : World) (hs : s.size ≤ 9223372036854775807) : Calls Try.prog 32 #[.string s] w (RetB w (.bool (nameOk s))) := by
  by_cases h1 : s.size < 1
  · have h1' : (s.size : Int) < 1 := by omega
    go_enter Try.func32, Try.ntmps32
    go_wp2
    go_ret
    exact ⟨ret_bool (by unfold nameOk; simp; omega), Below.refl _ _⟩
  · by_cases h2 : 15 < s.size
    · have h2' : 15 < (s.size : Int) := by omega
      have h1' : 1 ≤ (s.size : Int) := by omega
      go_enter Try.func32, Try.ntmps32
      go_wp2
      go_ret
      exact ⟨ret_bool (by unfold nameOk; simp; omega), Below.refl _ _⟩
    · have h2' : (s.size : Int) ≤ 15 := by omega
      have h1' : 1 ≤ (s.size : Int) := by omega
      go_enter Try.func32, Try.ntmps32
      go_wp2
      go_loop [3] (fun i => ∃ (j : Nat), j ≤ s.size ∧ i = .int .i64 j ∧ Hid ((s.data.toList.take j).all (fun c => letterN c.toNat) = true)) (fun i => s.size - (intOf i).toNat)
      case atStart => exact ⟨0, Nat.zero_le _, rfl, Lib.hid (by simp)⟩
      case round =>
        obtain ⟨j, hj, rfl, HJ⟩ := hrel
        by_cases hjt : j < s.size
        · have hc8 : 0 ≤ (s[j].toNat : Int) ∧ (s[j].toNat : Int) ≤ 255 := by have := s[j].toNat_lt; omega
          have HS := Lib.hid (nameOk_step hjt)
          have HG := Lib.hid (show letterN s[j].toNat = false → nameOk s = false by
            intro h
            unfold nameOk
            rw [Bool.and_eq_false_iff, List.all_eq_false]
            exact .inr ⟨s[j], by simp [ByteArray.getElem_eq_getElem_data], by simp [h]⟩)
          by_cases e45 : (s[j].toNat : Int) = 45
          · have HL := Lib.hid (show letterN s[j].toNat = true by unfold letterN; simp; omega)
            go_wp2
            go_round
            case rel => exact ⟨j + 1, by omega, by go_num, Lib.hid (by
              rw [HS.out, List.all_append, HJ.out]
              simp only [List.all_cons, List.all_nil, Bool.and_true, Bool.true_and]
              exact HL.out)⟩
            case measure => simp [intOf]; omega
          · have e45' : ((s[j].toNat : Int) == 45) = false := by simpa using e45
            go_wp2
            all_goals first
              | (go_round
                 case rel => exact ⟨j + 1, by omega, by go_num, Lib.hid (by
                   rw [HS.out, List.all_append, HJ.out]
                   simp only [List.all_cons, List.all_nil, Bool.and_true, Bool.true_and]
                   exact (letter_true _ (by omega) : letterN s[j].toNat = true))⟩
                 case measure => simp [intOf]; omega)
              | (go_ret
                 exact ⟨ret_bool (by rw [HG.out (letter_false _ (by omega))]), Below.refl _ _⟩)
              | (exfalso; rename_i h; simp at h; omega)
        · have hjs : j = s.size := by omega
          subst hjs
          go_wp2
          go_ret
          exact ⟨ret_bool (by
            have := HJ.out
            rw [List.take_of_length_le (by simp)] at this
            simp [nameOk, this]; omega), Below.refl _ _⟩

/-- A tier that may stand where it stands. -/
def TOk (l : List TierV) (i : Nat) : Prop :=
  1 ≤ (l.getD i TierV.zero).every ∧ (l.getD i TierV.zero).every ≤ 1000000 ∧ 1 ≤ (l.getD i TierV.zero).keep ∧ (l.getD i TierV.zero).keep ≤ 1000000 ∧
    (i = 0 → (l.getD i TierV.zero).every = 1) ∧ (0 < i → (l.getD i TierV.zero).every % (l.getD (i - 1) TierV.zero).every = 0)
def CheckOk (l : List TierV) : Prop := 1 ≤ l.length ∧ l.length ≤ 5 ∧ ∀ i, i < l.length → TOk l i
def CheckPost (w : World) (l : List TierV) (e : Ending) (w' : World) : Prop := ∃ E k : Int, e = .returned (.tuple #[.int .i64 E, .int .i64 k]) ∧ (E = 0 → CheckOk l) ∧ Below w.heap.size w w'

set_option maxRecDepth 100000 in
set_option maxHeartbeats 4000000 in
theorem check_any (v : Value) (n : ByteArray) (l : List TierV) (w : World) (hv : PolAt w v n l) (hn : n.size ≤ 9223372036854775807) : Calls Try.prog 11 #[v] w (CheckPost w l) := by
  obtain ⟨tv, rfl, htv⟩ := hv
  have HTV := Lib.hid htv
  obtain ⟨a, pc, rfl, hok, hlen, hc⟩ := htv
  have HC := Lib.hid hc
  have HOK := Lib.hid hok
  obtain ⟨q, hq⟩ : ∃ q, q = nameOk n := ⟨_, rfl⟩
  have HQ := Lib.hid hq
  clear hc hok hq
  by_cases g0 : q = true ∧ 1 ≤ (l.length : Int) ∧ (l.length : Int) ≤ 5
  · obtain ⟨rfl, g1, g2⟩ := g0
    obtain ⟨b, o, rfl, hbw, hcl⟩ := HC.out (by intro h; simp [h] at g1)
    have HCL := Lib.hid hcl
    clear hcl
    go_enter Try.func11, Try.ntmps11
    go_wp2_with fail
    refine (rname_any n _ hn).mono ?_
    rintro e w1 ⟨rfl, hb⟩
    rw [← HQ.out]
    obtain ⟨h1, hbw1⟩ := one_new hb
    have H1 := Lib.hid h1
    have HB1 := Lib.hid hbw1
    obtain ⟨p0, p1⟩ := row2 h1
    clear hb hbw1 h1
    go_wp2_with fail
    clear p0 p1
    go_loopw [4] (fun x wr => ∃ (i : Nat), i ≤ l.length ∧ x = .int .i64 i ∧ Hid (∀ j, j < i → TOk l j) ∧ Hid (wr.heap[w.heap.size]? = some (.cells #[.string n, .slice (some ⟨b, o, none⟩) l.length pc] 24)) ∧ Hid (Below w.heap.size w wr)) (fun x _ => l.length - (intOf x).toNat)
    case atStart => exact ⟨0, Nat.zero_le _, rfl, Lib.hid (fun j hj => absurd hj (Nat.not_lt_zero _)), H1, HB1⟩
    case round =>
      obtain ⟨i, hi, rfl, HA, HX, HB⟩ := hrel
      obtain ⟨p0, p1⟩ := row2 HX.out
      by_cases hlt : i < l.length
      · obtain ⟨x0, x1, x2, x3⟩ := HCL.out i hlt
        replace x0 := (HB.out.cell (p := ⟨b, _, none⟩) hbw).trans x0
        replace x1 := (HB.out.cell (p := ⟨b, _, none⟩) hbw).trans x1
        replace x2 := (HB.out.cell (p := ⟨b, _, none⟩) hbw).trans x2
        replace x3 := (HB.out.cell (p := ⟨b, _, none⟩) hbw).trans x3
        obtain ⟨k0, k1, k2, k3⟩ := tier_ok HTV.out i hlt
        obtain ⟨s, hs⟩ : ∃ s, s = (l.getD i TierV.zero).name := ⟨_, rfl⟩
        obtain ⟨ev, hev⟩ : ∃ s, s = (l.getD i TierV.zero).every := ⟨_, rfl⟩
        obtain ⟨kp, hkp⟩ : ∃ s, s = (l.getD i TierV.zero).keep := ⟨_, rfl⟩
        obtain ⟨sh, hsh⟩ : ∃ s, s = (l.getD i TierV.zero).shards := ⟨_, rfl⟩
        rw [← hs] at x0 k0
        rw [← hev] at x1 k1
        rw [← hkp] at x2 k2
        rw [← hsh] at x3 k3
        have HEV := Lib.hid hev
        have HKP := Lib.hid hkp
        have HSZ := Lib.hid k0
        unfold I64 at k1 k2 k3
        clear hs hev hkp hsh k0
        go_upto_region 7 with (fail)
        obtain ⟨tb, htb⟩ : ∃ tb, tb = wr.heap.size := ⟨_, rfl⟩
        have HN := Lib.hid (show (wr.alloc (.cells #[.string s, .int .i64 ev, .int .i64 kp, .int .i64 sh] 32)).heap[tb]? = some (.cells #[.string s, .int .i64 ev, .int .i64 kp, .int .i64 sh] 32) from heap_new_at htb.symm)
        have HBN := Lib.hid (show Below w.heap.size w (wr.alloc (.cells #[.string s, .int .i64 ev, .int .i64 kp, .int .i64 sh] 32)) from chain HB.out (bel_new _ _))
        have HXN := Lib.hid (heap_step HX.out (bel_new wr (.cells #[.string s, .int .i64 ev, .int .i64 kp, .int .i64 sh] 32)))
        rw [← htb]
        clear htb p0 p1 x0 x1 x2 x3
        go_cut [6] (fun y wx => ∃ B : Bool, y = .bool B ∧ Hid (B = false → 1 ≤ ev ∧ ev ≤ 1000000 ∧ 1 ≤ kp ∧ kp ≤ 1000000) ∧ Hid (wx.heap[tb]? = some (.cells #[.string s, .int .i64 ev, .int .i64 kp, .int .i64 sh] 32)) ∧ Hid (wx.heap[w.heap.size]? = some (.cells #[.string n, .slice (some ⟨b, o, none⟩) l.length pc] 24)) ∧ Hid (Below w.heap.size w wx))
        case first =>
          obtain ⟨d0, d1, d2, d3⟩ := row4 HN.out
          go_wp2_with fail
          refine (rname_any s _ HSZ.out).mono ?_
          rintro e w2 ⟨rfl, hb⟩
          have HN2 := Lib.hid (heap_step HN.out hb)
          have HX2 := Lib.hid (heap_step HXN.out hb)
          have HB2 := Lib.hid (chain HBN.out hb)
          clear d0 d1 d2 d3 hb
          obtain ⟨d0, d1, d2, d3⟩ := row4 HN2.out
          obtain ⟨z, hz⟩ : ∃ z, z = nameOk s := ⟨_, rfl⟩
          rw [← hz]
          clear hz
          cases z
          · go_wp2_with fail
            go_meet
            exact ⟨_, rfl, Lib.hid (by intro h; simp at h), HN2, HX2, HB2⟩
          · by_cases u : 1 ≤ kp ∧ kp ≤ 1000000 ∧ 1 ≤ sh ∧ sh ≤ 8 ∧ 1 ≤ ev
            · obtain ⟨u1, u2, u3, u4, u5⟩ := u
              go_wp2_with fail
              go_meet
              exact ⟨_, rfl, Lib.hid (by intro h; simp at h; omega), HN2, HX2, HB2⟩
            · by_cases v1 : 1 ≤ kp
              · by_cases v2 : kp ≤ 1000000
                · by_cases v3 : 1 ≤ sh
                  · by_cases v4 : sh ≤ 8
                    all_goals
                      (try (have v5 : ev < 1 := by omega))
                      clear u
                      go_wp2_with fail
                      go_meet
                      exact ⟨_, rfl, Lib.hid (by intro h; simp at h), HN2, HX2, HB2⟩
                  · clear u
                    go_wp2_with fail
                    go_meet
                    exact ⟨_, rfl, Lib.hid (by intro h; simp at h), HN2, HX2, HB2⟩
                · clear u
                  go_wp2_with fail
                  go_meet
                  exact ⟨_, rfl, Lib.hid (by intro h; simp at h), HN2, HX2, HB2⟩
              · clear u
                go_wp2_with fail
                go_meet
                exact ⟨_, rfl, Lib.hid (by intro h; simp at h), HN2, HX2, HB2⟩
        case rest =>
          obtain ⟨B, rfl, HBB, HN3, HX3, HB3⟩ := hcut
          obtain ⟨wx, hwx⟩ : ∃ wx : World, wx = wc := ⟨_, rfl⟩
          rw [← hwx] at HN3 HX3 HB3 ⊢
          go_wp2_with fail
          go_loopw [7, 6] (fun k y wr => ∃ (kk : Nat) (B2 : Bool), kk ≤ i ∧ k = .int .i64 kk ∧ y = .bool B2 ∧ Hid (B2 = false → B = false) ∧ Hid (wr.heap[tb]? = some (.cells #[.string s, .int .i64 ev, .int .i64 kp, .int .i64 sh] 32)) ∧ Hid (wr.heap[w.heap.size]? = some (.cells #[.string n, .slice (some ⟨b, o, none⟩) l.length pc] 24)) ∧ Hid (Below w.heap.size w wr)) (fun k _ _ => i - (intOf k).toNat)
          case atStart => exact ⟨0, B, Nat.zero_le _, rfl, rfl, Lib.hid (fun h => h), HN3, HX3, HB3⟩
          case round =>
            clear HN3 HX3 HB3
            obtain ⟨kk, B2, hK, rfl, rfl, HB2, HN4, HX4, HB4⟩ := hrel
            obtain ⟨d0, d1, d2, d3⟩ := row4 HN4.out
            obtain ⟨p0, p1⟩ := row2 HX4.out
            by_cases hKi : kk < i
            · obtain ⟨y0, _, _, _⟩ := HCL.out kk (by omega)
              replace y0 := (HB4.out.cell (p := ⟨b, _, none⟩) hbw).trans y0
              have hKl : kk < l.length := by omega
              obtain ⟨s2, hs2⟩ : ∃ s, s = (l.getD kk TierV.zero).name := ⟨_, rfl⟩
              rw [← hs2] at y0
              clear hs2
              cases B2
              · go_wp2_with fail
                refine wp_region_inv (R := Blw) (S := (fun w' => (w'.heap[tb]? = some (.cells #[.string s, .int .i64 ev, .int .i64 kp, .int .i64 sh] 32) ∧ w'.heap[w.heap.size]? = some (.cells #[.string n, .slice (some ⟨b, o, none⟩) l.length pc] 24) ∧ Below w.heap.size w w') ∧ w'.cell? ⟨tb, 0, none⟩ = some (.string s) ∧ w'.cell? ⟨w.heap.size, 1, none⟩ = some (.slice (some ⟨b, o, none⟩) l.length pc) ∧ w'.cell? ⟨b, o + kk * 4, none⟩ = some (.string s2))) 12 (Spec.val ?_ :: Spec.val ?_ :: Spec.val ?_ :: Spec.val ?_ :: Spec.val ?_ :: Spec.val ?_ :: Spec.val ?_ :: Spec.val ?_ :: Spec.val ?_ :: Spec.val ?_ :: Spec.val ?_ :: Spec.val ?_ :: []) (by kernel_rfl) (by kernel_rfl) rfl (fun w1 w2 h hb => ⟨⟨heap_step h.1.1 hb, heap_step h.1.2.1 hb, chain h.1.2.2 hb⟩, cell_step h.2.1 hb, cell_step h.2.2.1 hb, cell_step h.2.2.2 hb⟩) (⟨⟨HN4.out, HX4.out, HB4.out.drew⟩, d0, p1, y0⟩) ?hm8
                case' hm8 => skip
                refine inv_val (i := 0) (by kernel_rfl) rfl rfl (fun w1 hS hd K hK => ?_) ?_
                · (try dsimp only at hS); go_simp; exact hK.out _ _ (by simp only [Act.put, List.setIfInBounds_toArray, List.set_cons_zero, List.set_cons_succ, List.nil_append, List.cons_append]; rfl) (Below.refl _ _)
                simp only [Act.put, List.setIfInBounds_toArray, List.set_cons_zero, List.set_cons_succ, List.nil_append, List.cons_append]
                refine inv_val (i := 1) (by kernel_rfl) rfl rfl (fun w1 hS hd K hK => ?_) ?_
                · (try dsimp only at hS); go_simp; exact hK.out _ _ (by simp only [Act.put, List.setIfInBounds_toArray, List.set_cons_zero, List.set_cons_succ, List.nil_append, List.cons_append]; rfl) (Below.refl _ _)
                simp only [Act.put, List.setIfInBounds_toArray, List.set_cons_zero, List.set_cons_succ, List.nil_append, List.cons_append]
                refine inv_val (i := 2) (by kernel_rfl) rfl rfl (fun w1 hS hd K hK => ?_) ?_
                · (try dsimp only at hS); go_simp; exact hK.out _ _ (by simp only [Act.put, List.setIfInBounds_toArray, List.set_cons_zero, List.set_cons_succ, List.nil_append, List.cons_append]; rfl) (Below.refl _ _)
                simp only [Act.put, List.setIfInBounds_toArray, List.set_cons_zero, List.set_cons_succ, List.nil_append, List.cons_append]
                refine inv_val (i := 3) (by kernel_rfl) rfl rfl (fun w1 hS hd K hK => ?_) ?_
                · (try dsimp only at hS); go_simp; exact hK.out _ _ (by simp only [Act.put, List.setIfInBounds_toArray, List.set_cons_zero, List.set_cons_succ, List.nil_append, List.cons_append]; rfl) (Below.refl _ _)
                simp only [Act.put, List.setIfInBounds_toArray, List.set_cons_zero, List.set_cons_succ, List.nil_append, List.cons_append]
                refine inv_val (i := 4) (by kernel_rfl) rfl rfl (fun w1 hS hd K hK => ?_) ?_
                · (try dsimp only at hS); go_simp; exact hK.out _ _ (by simp only [Act.put, List.setIfInBounds_toArray, List.set_cons_zero, List.set_cons_succ, List.nil_append, List.cons_append]; rfl) (Below.refl _ _)
                simp only [Act.put, List.setIfInBounds_toArray, List.set_cons_zero, List.set_cons_succ, List.nil_append, List.cons_append]
                refine inv_val (i := 5) (by kernel_rfl) rfl rfl (fun w1 hS hd K hK => ?_) ?_
                · (try dsimp only at hS); go_simp; exact hK.out _ _ (by simp only [Act.put, List.setIfInBounds_toArray, List.set_cons_zero, List.set_cons_succ, List.nil_append, List.cons_append]; rfl) (Below.refl _ _)
                simp only [Act.put, List.setIfInBounds_toArray, List.set_cons_zero, List.set_cons_succ, List.nil_append, List.cons_append]
                refine inv_val (i := 6) (by kernel_rfl) rfl rfl (fun w1 hS hd K hK => ?_) ?_
                · (try dsimp only at hS); go_simp; exact hK.out _ _ (by simp only [Act.put, List.setIfInBounds_toArray, List.set_cons_zero, List.set_cons_succ, List.nil_append, List.cons_append]; rfl) (Below.refl _ _)
                simp only [Act.put, List.setIfInBounds_toArray, List.set_cons_zero, List.set_cons_succ, List.nil_append, List.cons_append]
                refine inv_val (i := 7) (by kernel_rfl) rfl rfl (fun w1 hS hd K hK => ?_) ?_
                · (try dsimp only at hS); go_simp; exact hK.out _ _ (by simp only [Act.put, List.setIfInBounds_toArray, List.set_cons_zero, List.set_cons_succ, List.nil_append, List.cons_append]; rfl) (Below.refl _ _)
                simp only [Act.put, List.setIfInBounds_toArray, List.set_cons_zero, List.set_cons_succ, List.nil_append, List.cons_append]
                refine inv_val (i := 8) (by kernel_rfl) rfl rfl (fun w1 hS hd K hK => ?_) ?_
                · (try dsimp only at hS); go_simp; exact hK.out _ _ (by simp only [Act.put, List.setIfInBounds_toArray, List.set_cons_zero, List.set_cons_succ, List.nil_append, List.cons_append]; rfl) (Below.refl _ _)
                simp only [Act.put, List.setIfInBounds_toArray, List.set_cons_zero, List.set_cons_succ, List.nil_append, List.cons_append]
                refine inv_val (i := 9) (by kernel_rfl) rfl rfl (fun w1 hS hd K hK => ?_) ?_
                · (try dsimp only at hS); go_simp; exact hK.out _ _ (by simp only [Act.put, List.setIfInBounds_toArray, List.set_cons_zero, List.set_cons_succ, List.nil_append, List.cons_append]; rfl) (Below.refl _ _)
                simp only [Act.put, List.setIfInBounds_toArray, List.set_cons_zero, List.set_cons_succ, List.nil_append, List.cons_append]
                refine inv_val (i := 10) (by kernel_rfl) rfl rfl (fun w1 hS hd K hK => ?_) ?_
                · (try dsimp only at hS); go_simp; exact hK.out _ _ (by simp only [Act.put, List.setIfInBounds_toArray, List.set_cons_zero, List.set_cons_succ, List.nil_append, List.cons_append]; rfl) (Below.refl _ _)
                simp only [Act.put, List.setIfInBounds_toArray, List.set_cons_zero, List.set_cons_succ, List.nil_append, List.cons_append]
                refine inv_val (i := 11) (by kernel_rfl) rfl rfl (fun w1 hS hd K hK => ?_) ?_
                · (try dsimp only at hS); go_simp; exact hK.out _ _ (by simp only [Act.put, List.setIfInBounds_toArray, List.set_cons_zero, List.set_cons_succ, List.nil_append, List.cons_append]; rfl) (Below.refl _ _)
                simp only [Act.put, List.setIfInBounds_toArray, List.set_cons_zero, List.set_cons_succ, List.nil_append, List.cons_append]
                refine inv_tail1 (by kernel_rfl) rfl (fun w6 hS hd => ?_)
                have HS := Lib.hid hS.1
                clear hS hd d0 d1 d2 d3 p0 p1 y0
                go_wp2
                go_roundw
                case rel => exact ⟨kk + 1, (s2.toList == s.toList), by omega, by go_num, rfl, Lib.hid (fun _ => HB2.out (by simp)), Lib.hid HS.out.1, Lib.hid HS.out.2.1, Lib.hid HS.out.2.2⟩
                case measure => simp [intOf]; omega
              · go_wp2_with fail
                refine wp_region_inv (R := Blw) (S := (fun w' => (w'.heap[tb]? = some (.cells #[.string s, .int .i64 ev, .int .i64 kp, .int .i64 sh] 32) ∧ w'.heap[w.heap.size]? = some (.cells #[.string n, .slice (some ⟨b, o, none⟩) l.length pc] 24) ∧ Below w.heap.size w w') ∧ w'.cell? ⟨tb, 0, none⟩ = some (.string s) ∧ w'.cell? ⟨w.heap.size, 1, none⟩ = some (.slice (some ⟨b, o, none⟩) l.length pc) ∧ w'.cell? ⟨b, o + kk * 4, none⟩ = some (.string s2))) 12 (Spec.val ?_ :: Spec.val ?_ :: Spec.val ?_ :: Spec.val ?_ :: Spec.val ?_ :: Spec.val ?_ :: Spec.val ?_ :: Spec.val ?_ :: Spec.val ?_ :: Spec.val ?_ :: Spec.val ?_ :: Spec.val ?_ :: []) (by kernel_rfl) (by kernel_rfl) rfl (fun w1 w2 h hb => ⟨⟨heap_step h.1.1 hb, heap_step h.1.2.1 hb, chain h.1.2.2 hb⟩, cell_step h.2.1 hb, cell_step h.2.2.1 hb, cell_step h.2.2.2 hb⟩) (⟨⟨HN4.out, HX4.out, HB4.out.drew⟩, d0, p1, y0⟩) ?hm9
                case' hm9 => skip
                refine inv_val (i := 0) (by kernel_rfl) rfl rfl (fun w1 hS hd K hK => ?_) ?_
                · (try dsimp only at hS); go_simp; exact hK.out _ _ (by simp only [Act.put, List.setIfInBounds_toArray, List.set_cons_zero, List.set_cons_succ, List.nil_append, List.cons_append]; rfl) (Below.refl _ _)
                simp only [Act.put, List.setIfInBounds_toArray, List.set_cons_zero, List.set_cons_succ, List.nil_append, List.cons_append]
                refine inv_val (i := 1) (by kernel_rfl) rfl rfl (fun w1 hS hd K hK => ?_) ?_
                · (try dsimp only at hS); go_simp; exact hK.out _ _ (by simp only [Act.put, List.setIfInBounds_toArray, List.set_cons_zero, List.set_cons_succ, List.nil_append, List.cons_append]; rfl) (Below.refl _ _)
                simp only [Act.put, List.setIfInBounds_toArray, List.set_cons_zero, List.set_cons_succ, List.nil_append, List.cons_append]
                refine inv_val (i := 2) (by kernel_rfl) rfl rfl (fun w1 hS hd K hK => ?_) ?_
                · rw [if_neg (by simp [Region.wanted, yielded])]; exact hK.out _ _ (by rfl) (Below.refl _ _)
                simp only [Act.put, List.setIfInBounds_toArray, List.set_cons_zero, List.set_cons_succ, List.nil_append, List.cons_append]
                refine inv_val (i := 3) (by kernel_rfl) rfl rfl (fun w1 hS hd K hK => ?_) ?_
                · rw [if_neg (by simp [Region.wanted, yielded])]; exact hK.out _ _ (by rfl) (Below.refl _ _)
                simp only [Act.put, List.setIfInBounds_toArray, List.set_cons_zero, List.set_cons_succ, List.nil_append, List.cons_append]
                refine inv_val (i := 4) (by kernel_rfl) rfl rfl (fun w1 hS hd K hK => ?_) ?_
                · rw [if_neg (by simp [Region.wanted, yielded])]; exact hK.out _ _ (by rfl) (Below.refl _ _)
                simp only [Act.put, List.setIfInBounds_toArray, List.set_cons_zero, List.set_cons_succ, List.nil_append, List.cons_append]
                refine inv_val (i := 5) (by kernel_rfl) rfl rfl (fun w1 hS hd K hK => ?_) ?_
                · rw [if_neg (by simp [Region.wanted, yielded])]; exact hK.out _ _ (by rfl) (Below.refl _ _)
                simp only [Act.put, List.setIfInBounds_toArray, List.set_cons_zero, List.set_cons_succ, List.nil_append, List.cons_append]
                refine inv_val (i := 6) (by kernel_rfl) rfl rfl (fun w1 hS hd K hK => ?_) ?_
                · rw [if_neg (by simp [Region.wanted, yielded])]; exact hK.out _ _ (by rfl) (Below.refl _ _)
                simp only [Act.put, List.setIfInBounds_toArray, List.set_cons_zero, List.set_cons_succ, List.nil_append, List.cons_append]
                refine inv_val (i := 7) (by kernel_rfl) rfl rfl (fun w1 hS hd K hK => ?_) ?_
                · rw [if_neg (by simp [Region.wanted, yielded])]; exact hK.out _ _ (by rfl) (Below.refl _ _)
                simp only [Act.put, List.setIfInBounds_toArray, List.set_cons_zero, List.set_cons_succ, List.nil_append, List.cons_append]
                refine inv_val (i := 8) (by kernel_rfl) rfl rfl (fun w1 hS hd K hK => ?_) ?_
                · rw [if_neg (by simp [Region.wanted, yielded])]; exact hK.out _ _ (by rfl) (Below.refl _ _)
                simp only [Act.put, List.setIfInBounds_toArray, List.set_cons_zero, List.set_cons_succ, List.nil_append, List.cons_append]
                refine inv_val (i := 9) (by kernel_rfl) rfl rfl (fun w1 hS hd K hK => ?_) ?_
                · rw [if_neg (by simp [Region.wanted, yielded])]; exact hK.out _ _ (by rfl) (Below.refl _ _)
                simp only [Act.put, List.setIfInBounds_toArray, List.set_cons_zero, List.set_cons_succ, List.nil_append, List.cons_append]
                refine inv_val (i := 10) (by kernel_rfl) rfl rfl (fun w1 hS hd K hK => ?_) ?_
                · rw [if_neg (by simp [Region.wanted, yielded])]; exact hK.out _ _ (by rfl) (Below.refl _ _)
                simp only [Act.put, List.setIfInBounds_toArray, List.set_cons_zero, List.set_cons_succ, List.nil_append, List.cons_append]
                refine inv_val (i := 11) (by kernel_rfl) rfl rfl (fun w1 hS hd K hK => ?_) ?_
                · (try dsimp only at hS); go_simp; exact hK.out _ _ (by simp only [Act.put, List.setIfInBounds_toArray, List.set_cons_zero, List.set_cons_succ, List.nil_append, List.cons_append]; rfl) (Below.refl _ _)
                simp only [Act.put, List.setIfInBounds_toArray, List.set_cons_zero, List.set_cons_succ, List.nil_append, List.cons_append]
                refine inv_tail1 (by kernel_rfl) rfl (fun w6 hS hd => ?_)
                have HS := Lib.hid hS.1
                clear hS hd d0 d1 d2 d3 p0 p1 y0
                go_wp2
                go_roundw
                case rel => exact ⟨kk + 1, true, by omega, by go_num, rfl, Lib.hid (fun h => by cases h), Lib.hid HS.out.1, Lib.hid HS.out.2.1, Lib.hid HS.out.2.2⟩
                case measure => simp [intOf]; omega
            · have hKi2 : kk = i := by omega
              subst hKi2
              cases B2
              · have HBF := Lib.hid (HBB.out (HB2.out (by simp)))
                by_cases i0 : kk = 0
                · subst i0
                  by_cases e1 : ev = 1
                  · have HNX := Lib.hid (show ∀ j, j < 0 + 1 → TOk l j by
                      intro j hj
                      obtain rfl : j = 0 := by omega
                      have := HBF.out
                      unfold TOk
                      rw [← HEV.out, ← HKP.out]
                      exact ⟨by omega, by omega, by omega, by omega, fun _ => e1, fun h => absurd h (Nat.lt_irrefl 0)⟩)
                    subst e1
                    clear HEV
                    go_wp2_with fail
                    go_roundw
                    case rel => exact ⟨1, by omega, rfl, HNX, HX4, HB4⟩
                    case measure => simp [intOf]; omega
                  · have e1' : (ev != 1) = true := by simpa using e1
                    clear e1
                    go_wp2_with fail
                    go_ret2
                    exact ⟨23, _, rfl, fun h => absurd h (by decide), HB4.out⟩
                · obtain ⟨jj, hjj⟩ : ∃ j, kk = j + 1 := ⟨kk - 1, by omega⟩
                  have hij : (kk : Int) - 1 = (jj : Int) := by omega
                  have hjl : jj < l.length := by omega
                  obtain ⟨z0, z1, z2, z3⟩ := HCL.out jj hjl
                  replace z0 := (HB4.out.cell (p := ⟨b, _, none⟩) hbw).trans z0
                  replace z1 := (HB4.out.cell (p := ⟨b, _, none⟩) hbw).trans z1
                  replace z2 := (HB4.out.cell (p := ⟨b, _, none⟩) hbw).trans z2
                  replace z3 := (HB4.out.cell (p := ⟨b, _, none⟩) hbw).trans z3
                  obtain ⟨_, m1, m2, m3⟩ := tier_ok HTV.out jj hjl
                  have htk := HA.out jj (by omega)
                  obtain ⟨s3, hs3⟩ : ∃ s, s = (l.getD jj TierV.zero).name := ⟨_, rfl⟩
                  obtain ⟨ev3, hev3⟩ : ∃ s, s = (l.getD jj TierV.zero).every := ⟨_, rfl⟩
                  obtain ⟨kp3, hkp3⟩ : ∃ s, s = (l.getD jj TierV.zero).keep := ⟨_, rfl⟩
                  obtain ⟨sh3, hsh3⟩ : ∃ s, s = (l.getD jj TierV.zero).shards := ⟨_, rfl⟩
                  unfold TOk at htk
                  rw [← hs3] at z0
                  rw [← hev3] at z1 m1 htk
                  rw [← hkp3] at z2 m2 htk
                  rw [← hsh3] at z3 m3
                  have HEV3 := Lib.hid hev3
                  have hev1 : 1 ≤ ev3 ∧ ev3 ≤ 1000000 := by omega
                  unfold I64 at m1 m2 m3
                  have HJJ := Lib.hid hjj
                  have htbl : tb < wr.heap.size := heap_lt HN4.out
                  clear hs3 hev3 hkp3 hsh3 htk hjj hKi
                  by_cases a1 : ev ≤ ev3
                  · clear HEV
                    go_wp2_with fail; go_ret2; exact ⟨23, _, rfl, fun h => absurd h (by decide), chain HB4.out (bel_new _ _)⟩
                  · by_cases a2 : ev % ev3 = 0
                    · by_cases a3 : kp < kp3
                      · clear HEV
                        go_wp2_with fail; go_ret2; exact ⟨23, _, rfl, fun h => absurd h (by decide), chain HB4.out (bel_new _ _)⟩
                      · have HNX := Lib.hid (show ∀ j, j < kk + 1 → TOk l j by
                          intro j hj
                          by_cases hjk : j < kk
                          · exact HA.out j hjk
                          · obtain rfl : j = kk := by omega
                            have := HBF.out
                            unfold TOk
                            rw [← HEV.out, ← HKP.out]
                            refine ⟨by omega, by omega, by omega, by omega, fun h => absurd h i0, fun _ => ?_⟩
                            rw [show j - 1 = jj by have := HJJ.out; omega, ← HEV3.out]
                            exact a2)
                        have a2' : (ev % ev3 == 0) = true := by simpa using a2
                        clear HEV
                        go_wp2_with fail
                        go_roundw
                        case rel => exact ⟨kk + 1, by omega, by go_num, HNX, Lib.hid (heap_step HX4.out (bel_new _ _)), Lib.hid (chain HB4.out (bel_new _ _))⟩
                        case measure => simp [intOf]; omega
                    · have a2' : (ev % ev3 != 0) = true := by simpa using a2
                      have a2'' : (ev % ev3 == 0) = false := by simpa using a2
                      clear HEV a2
                      go_wp2_with fail; go_ret2; exact ⟨23, _, rfl, fun h => absurd h (by decide), chain HB4.out (bel_new _ _)⟩
              · by_cases i0 : kk = 0
                · subst i0
                  go_wp2_with fail
                  go_ret2
                  exact ⟨23, _, rfl, fun h => absurd h (by decide), HB4.out⟩
                · obtain ⟨jj, hjj⟩ : ∃ j, kk = j + 1 := ⟨kk - 1, by omega⟩
                  have hij : (kk : Int) - 1 = (jj : Int) := by omega
                  have hjl : jj < l.length := by omega
                  obtain ⟨z0, z1, z2, z3⟩ := HCL.out jj hjl
                  replace z0 := (HB4.out.cell (p := ⟨b, _, none⟩) hbw).trans z0
                  replace z1 := (HB4.out.cell (p := ⟨b, _, none⟩) hbw).trans z1
                  replace z2 := (HB4.out.cell (p := ⟨b, _, none⟩) hbw).trans z2
                  replace z3 := (HB4.out.cell (p := ⟨b, _, none⟩) hbw).trans z3
                  have htbl : tb < wr.heap.size := heap_lt HN4.out
                  clear hjj
                  go_wp2_with fail; go_ret2; exact ⟨23, _, rfl, fun h => absurd h (by decide), chain HB4.out (bel_new _ _)⟩
      · have hil : i = l.length := by omega
        subst hil
        go_wp2_with fail
        go_ret2
        exact ⟨0, 0, rfl, fun _ => ⟨by omega, by omega, HA.out⟩, HB.out⟩
  · cases q
    · go_enter Try.func11, Try.ntmps11
      go_wp2_with fail
      refine (rname_any n _ hn).mono ?_
      rintro e w1 ⟨rfl, hb⟩
      rw [← HQ.out]
      obtain ⟨h1, hbw1⟩ := one_new hb
      have HB4 := Lib.hid hbw1
      obtain ⟨p0, p1⟩ := row2 h1
      clear hb hbw1 h1 g0
      go_wp2_with fail
      go_ret2
      exact ⟨23, _, rfl, fun h => absurd h (by decide), HB4.out⟩
    · have g5 : ¬ (1 ≤ (l.length : Int) ∧ (l.length : Int) ≤ 5) := fun h => g0 ⟨rfl, h⟩
      by_cases g3 : (l.length : Int) < 1
      all_goals
        (try (have g4 : 5 < (l.length : Int) := by omega))
        clear g0 g5
        go_enter Try.func11, Try.ntmps11
        go_wp2_with fail
        refine (rname_any n _ hn).mono ?_
        rintro e w1 ⟨rfl, hb⟩
        rw [← HQ.out]
        obtain ⟨h1, hbw1⟩ := one_new hb
        have HB4 := Lib.hid hbw1
        obtain ⟨p0, p1⟩ := row2 h1
        clear hb hbw1 h1
        go_wp2_with fail
        go_ret2
        exact ⟨23, _, rfl, fun h => absurd h (by decide), HB4.out⟩
end Go.Proofs.Ytaenpcglaenlaaa
