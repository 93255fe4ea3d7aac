/-
  A book's lists of tiers, grown.
-/
import Derived.Test.YtaenpcglaenlaaaBookRStill
namespace Go.Proofs.Ytaenpcglaenlaaa
open Go.RowKit
set_option linter.unusedVariables false
set_option linter.unusedSimpArgs false
theorem info_Lr : (Try.prog.info? 22).map (fun i => (i.zero, i.size, i.bytes)) = some (some (.slice none 0 0), 1, 24) := by kernel_rfl
theorem BK_r.keep {w w1 w2 : World} {B p n : Nat} {cs : Array Value} {vs : Nat → Value} {l0 ls : Nat → List TierV} (H : BK_r w B p cs n vs l0) (h : BK_r w1 B p cs n vs ls) (hh : ∀ k, k < w.heap.size → w2.heap[k]? = w1.heap[k]?) (hsz : w1.heap.size ≤ w2.heap.size) : BK_r w2 B p cs n vs ls := by
  obtain ⟨lv, q1, q2⟩ := H.row
  obtain ⟨q3, q4⟩ := h.at q1
  exact ⟨(hh p (heap_lt H.blk)).trans h.blk, ⟨lv, q1, q4.frame fun g hg => hh g (q2.lt hg).2.1⟩, h.fam.frame (fun i g hi hg => hh g ((H.fam.own i hi).lt hg).2.1), h.few, h.short, h.ok, Nat.le_trans h.base hsz⟩
set_option maxRecDepth 100000 in
set_option maxHeartbeats 8000000 in
theorem grow_r {w : World} {B p n : Nat} {cs : Array Value} {vs : Nat → Value} {ls : Nat → List TierV} (h : BK_r w B p cs n vs ls) (hms : ∀ i, i < n → ls i = marksR i 0 (ls i).length) :
    Calls Try.prog 64 #[.pointer (some ⟨p, 0, none⟩)] w (fun x w' => ∃ gv gs, x = .returned gv ∧ OwnL w' w.heap.size 22 1 gv n ((List.range n).map gs) ∧ (∀ i, i < n → OwnL w' B 32 4 (gs i) ((ls i).length + 72) ((flatT (marksR i 0 ((ls i).length + 72))))) ∧
      BK_r w' B p cs n vs ls ∧ Below B w w' ∧ TStep 32 w w') := by
  obtain ⟨i0, hi, hz0, hz1, hz2⟩ := info_parts info_tier
  obtain ⟨j0, hj, jz0, jz1, jz2⟩ := info_parts info_Lr
  have H := Lib.hid h
  have HMS := Lib.hid hms
  obtain ⟨lv, hlv, hrow⟩ := h.row
  obtain ⟨la, lc, rfl⟩ := hrow.form
  have HLV := Lib.hid hlv
  have hn := h.few
  clear h hlv hrow hms
  go_enter Try.func64, Try.ntmps64
  go_wp2
  go_loopw [3, 4] (fun v x wr => ∃ (i : Nat) (oa : Option Addr) (oc : Nat) (gs : Nat → Value), i ≤ n ∧ x = .int .i64 i ∧ v = .slice oa i oc ∧ Hid (OwnL wr w.heap.size 22 1 (.slice oa i oc) i ((List.range i).map gs)) ∧
    Hid (∀ j, j < i → OwnL wr B 32 4 (gs j) ((ls j).length + 72) ((flatT (marksR j 0 ((ls j).length + 72))))) ∧ Hid (∀ j k g, j < i → i ≤ k → k < n → rowOf (gs j) = some g → rowOf (vs k) ≠ some g) ∧ Hid (BK_r wr B p cs n vs ls) ∧ Hid (Below B w wr ∧ TStep 32 w wr)) (fun _ x _ => n - (intOf x).toNat)
  case atStart => exact ⟨0, none, 0, fun _ => undef, Nat.zero_le _, rfl, rfl, Lib.hid (OwnL.nil _ _ _ _ _), Lib.hid (fun j hj => absurd hj (Nat.not_lt_zero _)), Lib.hid (fun j k g hj => absurd hj (Nat.not_lt_zero _)), H, Lib.hid ⟨Below.refl _ _, TStep.refl _ _⟩⟩
  case round =>
    obtain ⟨i, oa, oc, gs, hin, rfl, rfl, HO, HG, HA, HB, HS⟩ := hrel
    obtain ⟨c2, hrow⟩ := HB.out.at HLV.out
    by_cases hlt : i < n
    · obtain ⟨g, c, e1, hnc, hc, hg, hcell⟩ := rowAt hrow hlt
      injection e1 with e1 _ e2
      subst e1
      subst e2
      have hown := HB.out.fam.own i hlt
      (try dsimp only at hown)
      obtain ⟨ao, ca, hvi⟩ := hown.form
      have hl5 := HB.out.short i hlt
      have hmi := HMS.out i hlt
      obtain ⟨m, hm⟩ : ∃ m, m = (ls i).length := ⟨_, rfl⟩
      rw [hmi, ← hm, marksR_len] at hown
      rw [← hm] at hvi hl5
      have HVI := Lib.hid hvi
      have HM := Lib.hid hm
      have HOV := Lib.hid hown
      have hcp := hown
      rw [hvi] at hcp
      have hcp := hcp.cap.2
      rw [hvi] at hcell
      obtain ⟨W1, hW1⟩ : ∃ W1, W1 = wr := ⟨_, rfl⟩
      have HOV1 := Lib.hid (show OwnL W1 B 32 4 (vs i) m ((flatT (marksR i 0 m))) by rw [hW1]; exact hown)
      have HO1 := Lib.hid (show OwnL W1 w.heap.size 22 1 (.slice oa i oc) i ((List.range i).map gs) by rw [hW1]; exact HO.out)
      have HG1 := Lib.hid (show ∀ j, j < i → OwnL W1 B 32 4 (gs j) ((ls j).length + 72) ((flatT (marksR j 0 ((ls j).length + 72)))) by rw [hW1]; exact HG.out)
      have HB1 := Lib.hid (show BK_r W1 B p cs n vs ls by rw [hW1]; exact HB.out)
      have HS1 := Lib.hid (show Below B w W1 ∧ TStep 32 w W1 by rw [hW1]; exact HS.out)
      have HGR := Lib.hid (show W1.grownBy wr (rowOf (vs i)) by rw [hW1]; exact ⟨rfl, rfl, rfl, Nat.le_refl _, fun _ _ _ => rfl⟩)
      have hi300 : i ≤ 300 := by omega
      clear hown hvi hm hmi hW1 hrow hnc hg
      go_wp2
      go_loopw [5, 6] (fun v x wr => ∃ (j q : Nat) (na : Option Addr) (nc : Nat), j ≤ 12 ∧ q = m + j ∧ x = .int .i64 j ∧ v = .slice na q nc ∧ Hid (OwnL wr B 32 4 (.slice na q nc) q ((flatT (marksR i 0 q)))) ∧ Hid (OwnL wr B 32 4 (vs i) m ((flatT (marksR i 0 m)))) ∧
        Hid (∀ g, rowOf (.slice na q nc) = some g → rowOf (vs i) = some g ∨ W1.heap.size ≤ g) ∧ Hid (W1.grownBy wr (rowOf (vs i)))) (fun _ x _ => 12 - (intOf x).toNat)
      case atStart => exact ⟨0, m, ao, ca, Nat.zero_le _, rfl, rfl, rfl, Lib.hid (by have := HOV.out; rw [HVI.out] at this; exact this), HOV, Lib.hid (fun g hg => by left; rw [HVI.out]; exact hg), HGR⟩
      case round =>
        obtain ⟨j, q, na, nc, hj12, hq, rfl, rfl, HL, HV, HR, HGB⟩ := hrel
        have hB0 : B ≤ wr.heap.size := Nat.le_trans HB1.out.base HGB.out.size
        have hqc := HL.out.cap.2
        have hq5 : q ≤ 200000 := by omega
        by_cases hjl : j < 12
        · have HQ := Lib.hid hq
          have hjI : (j : Int) < 12 := by omega
          clear hq
          go_wp2_with fail
          refine (marks_r i q 1 _ hi300 (by omega) (by omega)).mono ?_
          rintro e w2 ⟨mv, rfl, hmv, hb2⟩
          obtain ⟨mb, mc, rfl, _, _, hmc, _, _, _, _, hcl⟩ := (OwnL.of_row hmv).cells (by omega)
          have HCL := Lib.hid hcl
          have HL2 := Lib.hid (HL.out.below hb2)
          have HV2 := Lib.hid (HV.out.below hb2)
          have HG2 := Lib.hid (HGB.out.andThen (grown_of_below (row := none) hb2) (fun j e => by cases e))
          have hB2 : B ≤ w2.heap.size := Nat.le_trans hB0 hb2.size
          clear hmv hb2 hcl
          go_wp2_with (at_builtin; refine wpList_append_two rfl (.tmp 27) (.tmp 31) 22 rfl B 32 i0 (.agg #[.string ByteArray.empty, .int .i64 0, .int .i64 0, .int .i64 0]) 4 40 Try.underlying22 hi hz0 hz1 hz2 rfl (by decide) _ q _ rfl HL2.out ⟨mb, 0, none⟩ 1 mc ((flatT (marksR i q 1))) rfl ?c0 ?c1 ?c2 (by decide) ?c3 ?c4 hB2 ?_)
          case c0 => rw [flatT_len, marksR_len]
          case c1 =>
            intro k u hu
            have hk : k < 1 * 4 := by have := (List.getElem?_eq_some_iff.1 hu).1; rw [flatT_len, marksR_len] at this; exact this
            rw [add_at, Nat.zero_add, HCL.out k (by omega)]; exact hu
          case c2 => exact flatT_one
          case c3 => unfold maxLen; omega
          case c4 => omega
          intro g3 cap3 w3 hown3 hcase hcap
          have hcase := hcase.out
          have HL3 := Lib.hid (show OwnL w3 B 32 4 (.slice (some ⟨g3, 0, none⟩) (q + 1) cap3) (q + 1) ((flatT (marksR i 0 (q + 1)))) by
            rw [marksR_app, Nat.zero_add, flatT_app]; exact hown3)
          have HV3 := Lib.hid (OwnL.front HV2.out HL2.out (by have := HQ.out; omega) hown3 (by rw [flatT_len, marksR_len]; omega) hcap hcase)
          have HR3 := Lib.hid (show ∀ g, rowOf (.slice (some ⟨g3, 0, none⟩) (q + 1) cap3) = some g → rowOf (vs i) = some g ∨ W1.heap.size ≤ g from fun g hg => by
            rw [rowOf_pos hcap] at hg
            injection hg with hg
            subst hg
            rcases hcase with ⟨e, _⟩ | ⟨e, _⟩
            · exact HR.out g3 (by rw [e]; exact rowOf_pos hcap)
            · right; rw [e]; exact HG2.out.size)
          have HG3 := Lib.hid (show W1.grownBy w3 (rowOf (vs i)) from by
            rcases hcase with ⟨e, hg⟩ | ⟨e, hg⟩
            · refine HG2.out.andThen hg (fun k e2 => ?_)
              injection e2 with e2
              subst e2
              exact (HR.out g3 (by rw [e]; exact rowOf_pos hcap)).symm
            · exact HG2.out.andThen hg (fun k e2 => by cases e2))
          clear hown3 hcase
          go_wp2
          go_roundw
          case rel => exact ⟨j + 1, q + 1, _, cap3, by omega, by have := HQ.out; omega, by go_num, rfl, HL3, HV3, HR3, HG3⟩
          case measure => simp [intOf]; omega
        · have hjI : ¬ (j : Int) < 12 := by omega
          have HQ := Lib.hid (show q = m + 12 by omega)
          clear hq
          go_wp2_with fail
          refine (marks_r i q 60 _ hi300 (by omega) (by omega)).mono ?_
          rintro e w2 ⟨mv, rfl, hmv, hb2⟩
          obtain ⟨mb, mc, rfl, _, _, hmc, _, _, _, _, hcl⟩ := (OwnL.of_row hmv).cells (by omega)
          have HCL := Lib.hid hcl
          have HL2 := Lib.hid (HL.out.below hb2)
          have HV2 := Lib.hid (HV.out.below hb2)
          have HG2 := Lib.hid (HGB.out.andThen (grown_of_below (row := none) hb2) (fun j e => by cases e))
          have hB2 : B ≤ w2.heap.size := Nat.le_trans hB0 hb2.size
          clear hmv hb2 hcl
          go_wp2_with (at_builtin; refine wpList_append_two rfl (.tmp 34) (.tmp 38) 22 rfl B 32 i0 (.agg #[.string ByteArray.empty, .int .i64 0, .int .i64 0, .int .i64 0]) 4 40 Try.underlying22 hi hz0 hz1 hz2 rfl (by decide) _ q _ rfl HL2.out ⟨mb, 0, none⟩ 60 mc ((flatT (marksR i q 60))) rfl ?c0 ?c1 ?c2 (by decide) ?c3 ?c4 hB2 ?_)
          case c0 => rw [flatT_len, marksR_len]
          case c1 =>
            intro k u hu
            have hk : k < 60 * 4 := by have := (List.getElem?_eq_some_iff.1 hu).1; rw [flatT_len, marksR_len] at this; exact this
            rw [add_at, Nat.zero_add, HCL.out k (by omega)]; exact hu
          case c2 => exact flatT_one
          case c3 => unfold maxLen; omega
          case c4 => omega
          intro g3 cap3 w3 hown3 hcase hcap
          have hcase := hcase.out
          have HL3 := Lib.hid (show OwnL w3 B 32 4 (.slice (some ⟨g3, 0, none⟩) (q + 60) cap3) (m + 72) ((flatT (marksR i 0 (m + 72)))) by
            rw [show m + 72 = q + 60 by have := HQ.out; omega, marksR_app, Nat.zero_add, flatT_app]; exact hown3)
          have HV3 := Lib.hid (OwnL.front HV2.out HL2.out (by have := HQ.out; omega) hown3 (by rw [flatT_len, marksR_len]; omega) hcap hcase)
          have HR3 := Lib.hid (show ∀ g, rowOf (.slice (some ⟨g3, 0, none⟩) (q + 60) cap3) = some g → rowOf (vs i) = some g ∨ W1.heap.size ≤ g from fun g hg => by
            rw [rowOf_pos hcap] at hg
            injection hg with hg
            subst hg
            rcases hcase with ⟨e, _⟩ | ⟨e, _⟩
            · exact HR.out g3 (by rw [e]; exact rowOf_pos hcap)
            · right; rw [e]; exact HG2.out.size)
          have HG3 := Lib.hid (show W1.grownBy w3 (rowOf (vs i)) from by
            rcases hcase with ⟨e, hg⟩ | ⟨e, hg⟩
            · refine HG2.out.andThen hg (fun k e2 => ?_)
              injection e2 with e2
              subst e2
              exact (HR.out g3 (by rw [e]; exact rowOf_pos hcap)).symm
            · exact HG2.out.andThen hg (fun k e2 => by cases e2))
          have HT3 := Lib.hid (show TStep 32 W1 w3 from TStep.mk' HG3.out.size (fun k hk hn => HG3.out.block k hk (fun e => by
            obtain ⟨_, _, cur, hc⟩ := HOV1.out.lt e.symm
            exact hn _ _ hc)))
          have HO3 := Lib.hid (HT3.out.other HO1.out (by decide))
          have HB3 := Lib.hid (BK_r.turn (ms := ls) HB1.out hlt (by rw [HMS.out i hlt, ← HM.out, marksR_len]; exact HV3.out) (fun _ _ => rfl) ⟨HB1.out.short i hlt, HB1.out.ok i hlt⟩ HT3.out (fun g hg hne => HG3.out.block g hg (fun e => hne e.symm)))
          have HGS3 := Lib.hid (show ∀ j, j < i → OwnL w3 B 32 4 (gs j) ((ls j).length + 72) ((flatT (marksR j 0 ((ls j).length + 72)))) from fun k hk => (HG1.out k hk).frame (fun g hg => HG3.out.block g ((HG1.out k hk).lt hg).2.1 (fun e => HA.out k i g hk (Nat.le_refl _) hlt hg e.symm)))
          have hW0 : w.heap.size ≤ w3.heap.size := Nat.le_trans HS1.out.1.size HG3.out.size
          clear hown3 hcase
          go_wp2_with (at_builtin; refine wpList_append_two rfl (.tmp 33) (.tmp 40) 53 rfl w.heap.size 22 j0 (.slice none 0 0) 1 24 Try.underlying53 hj jz0 jz1 jz2 rfl (by decide) _ i _ rfl (HO3.out.below (bel_new w3 (.cells #[.slice (some ⟨g3, 0, none⟩) (q + 60) cap3] 22))) ⟨w3.heap.size, 0, none⟩ 1 1 [.slice (some ⟨g3, 0, none⟩) (q + 60) cap3] rfl rfl ?c1 ?c2 (by decide) ?c3 ?c4 ?c5 ?_)
          case c1 => exact one_cell _ _ _
          case c2 => simp [Value.oneCell']
          case c3 => unfold maxLen; omega
          case c4 => omega
          case c5 => simp; omega
          intro g4 cap4 w5 hown5 hcase5 hcap5
          have hcase5 := hcase5.out
          have HB5 := Lib.hid (show Below w.heap.size w3 w5 by
            rcases hcase5 with ⟨e, hg⟩ | ⟨e, hg⟩
            · refine Below.grown (bel_alloc (o := .cells #[.slice (some ⟨g3, 0, none⟩) (q + 60) cap3] 22) (Below.refl w.heap.size w3) hW0) hg (by simp; omega) (fun k e2 => ?_)
              injection e2 with e2
              subst e2
              exact (HO3.out.lt (by rw [e]; exact rowOf_pos hcap5)).1
            · exact Below.grown (bel_alloc (o := .cells #[.slice (some ⟨g3, 0, none⟩) (q + 60) cap3] 22) (Below.refl w.heap.size w3) hW0) hg (by simp; omega) (fun k e2 => by cases e2))
          have HT5 := Lib.hid (show TStep 22 w3 w5 by
            refine TStep.trans (TStep.below (bel_new w3 (.cells #[.slice (some ⟨g3, 0, none⟩) (q + 60) cap3] 22))) ?_
            rcases hcase5 with ⟨e, hg⟩ | ⟨e, hg⟩
            · refine TStep.mk' hg.size (fun k hk hn => hg.block k hk (fun e2 => ?_))
              injection e2 with e2
              subst e2
              obtain ⟨_, _, cur, hc⟩ := (HO3.out.below (bel_new w3 (.cells #[.slice (some ⟨g3, 0, none⟩) (q + 60) cap3] 22))).lt (g := k) (by rw [e]; exact rowOf_pos hcap5)
              exact hn _ _ hc
            · exact TStep.mk' hg.size (fun k hk hn => hg.block k hk (by simp)))
          have HO5 := Lib.hid (show OwnL w5 w.heap.size 22 1 (.slice (some ⟨g4, 0, none⟩) (i + 1) cap4) (i + 1) ((List.range (i + 1)).map (fun k => if k = i then .slice (some ⟨g3, 0, none⟩) (q + 60) cap3 else gs k)) by
            rw [range_snoc, if_pos rfl, upd_map (g := gs) (fun k hk => if_neg (by omega))]; exact hown5)
          clear hown5 hcase5
          go_wp2
          go_roundw
          case rel =>
            refine ⟨i + 1, _, cap4, fun k => if k = i then .slice (some ⟨g3, 0, none⟩) (q + 60) cap3 else gs k, hlt, by go_num, rfl, HO5, Lib.hid (fun k hk => ?_), Lib.hid (fun k k' g hk hk' hkn hg => ?_), Lib.hid (BK_r.keep H.out HB3.out (fun k hk => HB5.out.block k hk) HB5.out.size), Lib.hid ⟨?_, ?_⟩⟩
            · dsimp only
              by_cases hki : k = i
              · subst hki
                rw [if_pos rfl, ← HM.out]
                exact HT5.out.other HL3.out (by decide)
              · rw [if_neg hki]
                exact HT5.out.other (HGS3.out k (by omega)) (by decide)
            · dsimp only at hg
              by_cases hki : k = i
              · subst hki
                rw [if_pos rfl] at hg
                intro e
                rcases HR3.out g hg with h | h
                · have := HB1.out.fam.apart k k' g hlt hkn h e; omega
                · have := ((HB1.out.fam.own k' hkn).lt e).2.1; omega
              · rw [if_neg hki] at hg
                exact HA.out k k' g (by omega) (by omega) hkn hg
            · exact (HS1.out.1.trans (grown_below HG3.out HB1.out.base (fun g hg => (HOV1.out.lt hg).1))).trans (HB5.out.mono H.out.base)
            · exact TStep.mk' (Nat.le_trans hW0 HB5.out.size) (fun k hk hn => (HB5.out.block k hk).trans ((TStep.trans HS1.out.2 HT3.out).block k hk hn))
          case measure => simp [intOf]; omega
    · obtain rfl : i = n := by omega
      go_wp2
      go_ret
      exact ⟨_, gs, rfl, HO.out, HG.out, HB.out, HS.out⟩
end Go.Proofs.Ytaenpcglaenlaaa
