/-
  The walk of the law LogBroken.
-/
import Derived.Test.YtjcggkfinhkcoaaLog8
import Derived.Test.YtjcggkfinhkcoaaBookShort
namespace Go.Proofs.Ytjcggkfinhkcoaa
open Go.RowKit
set_option linter.unusedVariables false
set_option linter.unusedSimpArgs false

theorem App_one' {G : LV} (d : DV) (s : ByteArray) (h : G.bad = 0) : G.App d [s] = G.app d s := by
  have h1 : G.App d [s] = appN G d [s] 1 := if_neg (by rw [h]; decide)
  rw [h1, appN_succ G d [s] 0 rfl]; rfl
/-- Whether a disk has power, as an error says. -/
def Told (e : Int) (d : DV) : Prop := (e = 0 ∧ d.on = true) ∨ (e = 14 ∧ d.on = false)
theorem cut_off {d : DV} (h0 : d.on = true) (K : List Int) : (d.cut K).on = false ∧ (d.cut K).blocks = d.blocks := by
  unfold DV.cut
  rw [if_pos h0]
  exact ⟨rfl, rfl⟩
theorem write_two {d : DV} {k : Int} {s : ByteArray} (hon : d.on = true) (hz : s.size = 256) (hr : 0 ≤ k ∧ k < d.blocks) : (d.write k s).1.blocks = d.blocks ∧ Told (d.write k s).2 (d.write k s).1 := by
  unfold DV.write
  rw [if_neg (by rw [hon]; simp), if_neg (by simpa using hz), if_neg (by omega)]
  split
  · exact ⟨(cut_off hon _).2, .inr ⟨rfl, (cut_off hon _).1⟩⟩
  · exact ⟨rfl, .inl ⟨rfl, hon⟩⟩
theorem flush_two {d : DV} (hon : d.on = true) : d.flush.1.blocks = d.blocks ∧ Told d.flush.2 d.flush.1 := by
  unfold DV.flush
  rw [if_neg (by rw [hon]; simp)]
  split
  · exact ⟨(cut_off hon _).2, .inr ⟨rfl, (cut_off hon _).1⟩⟩
  · exact ⟨rfl, .inl ⟨rfl, hon⟩⟩
theorem apN_two {G : LV} {L : List ByteArray} {d : DV} (hon : d.on = true) (hz : ∀ b ∈ L, b.size = 256) (hr : 0 ≤ G.frm + G.used ∧ G.frm + G.used + L.length ≤ d.blocks) : ∀ k : Nat, k ≤ L.length → (apN G L d k).1.blocks = d.blocks ∧ Told (apN G L d k).2.2 (apN G L d k).1
  | 0, _ => ⟨rfl, .inl ⟨rfl, hon⟩⟩
  | k + 1, hk => by
    obtain ⟨h1, h2⟩ := apN_two hon hz hr k (by omega)
    unfold apN
    dsimp only
    split
    · exact ⟨h1, h2⟩
    · rename_i hh
      have hon2 : (apN G L d k).1.on = true := by
        rcases h2 with h | h
        · exact h.2
        · exact absurd (by rw [h.1]; decide) hh
      obtain ⟨h3, h4⟩ := write_two (k := G.frm + (G.used + k)) (s := L.getD k ByteArray.empty) hon2 (hz _ (by rw [List.getD_eq_getElem?_getD, List.getElem?_eq_getElem (by omega)]; exact List.getElem_mem _)) ⟨by omega, by rw [h1]; omega⟩
      exact ⟨h3.trans h1, h4⟩
/-- A log that is broken just if its disk has no power. -/
structure BI (d : DV) (G : LV) : Prop where
  bl : d.blocks = 20
  frm : G.frm = 2
  n : G.n = 16
  st : Told G.bad d
theorem BI.app {d : DV} {G : LV} {R : Int} (h : BI d G) (hf : G.fit R) (hR : R ≤ 999) (s : ByteArray) : BI (G.App d [s]).1 (G.App d [s]).2.1 ∧ ((G.App d [s]).2.1.bad = 14 ↔ (G.App d [s]).2.2 = 14) ∧ (G.bad = 14 → (G.App d [s]).2.2 = 14) := by
  rcases h.st with ⟨hb, hon⟩ | ⟨hb, hoff⟩
  · rw [App_one' d s hb]
    have hff := app_fit d s hf (by omega)
    unfold LV.app
    split
    · exact ⟨h, ⟨fun e => by dsimp only at e ⊢; omega, fun e => by dsimp only at e; omega⟩, fun e => by omega⟩
    · split
      · exact ⟨h, ⟨fun e => by dsimp only at e ⊢; omega, fun e => by dsimp only at e; omega⟩, fun e => by omega⟩
      · rename_i h1 h2
        have hle : G.used + (layL G.gen G.recs s).length ≤ 16 := by
          rw [layL_len]; unfold LV.left at h2; have := h.n; omega
        obtain ⟨q1, q2⟩ := apN_two (G := G) (L := layL G.gen G.recs s) hon (layL_size _ _ _) ⟨by have := h.frm; have := hf.1.2.2.1; omega, by rw [h.frm, h.bl]; omega⟩ (blks s.size) (by rw [layL_len]; exact Nat.le_refl _)
        dsimp only
        split
        · rename_i h3
          rcases q2 with q2 | q2
          · exact absurd q2.1 h3
          · exact ⟨⟨q1.trans h.bl, h.frm, h.n, .inr ⟨q2.1, q2.2⟩⟩, Iff.rfl, fun e => by omega⟩
        · rename_i h3
          rcases q2 with q2 | q2
          · exact ⟨⟨q1.trans h.bl, h.frm, h.n, .inl ⟨hb, q2.2⟩⟩, ⟨fun e => by have e : G.bad = 14 := e; omega, fun e => by have e : (0 : Int) = 14 := e; omega⟩, fun e => by omega⟩
          · exact absurd (by rw [q2.1]; decide) h3
  · rw [show G.App d [s] = (d, G, G.bad) from if_pos (by rw [hb]; decide)]
    exact ⟨h, ⟨fun e => e, fun e => e⟩, fun e => e⟩
theorem BI.flush {d : DV} {G : LV} (h : BI d G) : BI (G.flush d).1 (G.flush d).2.1 ∧ (G.flush d).2.1.bad = (G.flush d).2.2 ∧ (G.bad = 14 → (G.flush d).2.2 = 14) := by
  rcases h.st with ⟨hb, hon⟩ | ⟨hb, hoff⟩
  · rw [show G.flush d = (d.flush.1, { G with bad := d.flush.2 }, d.flush.2) from if_neg (by rw [hb]; decide)]
    obtain ⟨q1, q2⟩ := flush_two hon
    exact ⟨⟨q1.trans h.bl, h.frm, h.n, q2⟩, rfl, fun e => by omega⟩
  · rw [show G.flush d = (d, G, G.bad) from if_pos (by rw [hb]; decide)]
    exact ⟨h, rfl, fun e => e⟩
theorem flush_fit {G : LV} {R : Int} (d : DV) (h : G.fit R) : (G.flush d).2.1.fit R ∧ d.writes ≤ (G.flush d).1.writes ∧ (G.flush d).1.writes ≤ d.writes + 1 := by
  unfold LV.flush
  split
  · exact ⟨h, Int.le_refl _, by show d.writes ≤ d.writes + 1; omega⟩
  · exact ⟨h, flush_writes d⟩
def xB : ByteArray := ⟨#[120]⟩

set_option maxRecDepth 100000 in
set_option maxHeartbeats 8000000 in
theorem walkLogBrokenIn (v : Value) (l : List ByteArray) (n : Int) (w : World) (hv : TextsAt w v l) (hsh : shortT 20 4000 l = true) (h0 : l.length ≠ 0) (n1 : 0 ≤ n) (n2 : n ≤ 40) : Calls Try.prog 7 #[v, .int .i64 n] w (BoolPost w true) := by
  have HV := Lib.hid hv
  have HSH := Lib.hid hsh
  obtain ⟨hs1, hs2⟩ := short_facts hsh
  have HS2 := Lib.hid hs2
  obtain ⟨a, ca, rfl, -, -, -⟩ := hv
  have hl0 : ((l.length : Int) == 0) = false := by rw [beq_eq_false_iff_ne]; omega
  have hl1 : ¬ l = [] := fun h => h0 (by rw [h]; rfl)
  have hl0' : l.length ≠ 0 := h0
  have HFIT := Lib.hid (new_fit 2 9 16 ⟨by decide, by decide⟩ (by decide) ⟨by decide, by decide⟩)
  clear hsh hs2 h0
  go_enter Try.func7, Try.ntmps7
  go_wp2_with fail
  refine (short_any 20 4000 _ l _ HV.out (by decide) (by decide)).mono ?_
  rintro e wa ⟨rfl, hba⟩
  rw [HSH.out]
  have HBA := Lib.hid hba
  clear hba
  go_wp2_with fail
  refine (new_any 20 _ (by omega)).mono ?_
  rintro e w1 ⟨q, rfl, hD, hb1⟩
  have HD1 := Lib.hid hD
  have HB1 := Lib.hid (chain HBA.out hb1)
  have HW1 := Lib.hid hb1.size
  clear hD hb1
  go_wp2_with fail
  refine (new_yes 2 16 9 HD1.out (by decide) (by decide)).mono ?_
  rintro e w2 ⟨t, rfl, ht, hD, hbes, hb2⟩
  have H2 := Lib.hid (show LgAt w w2 wa.heap.size q 0 (DV.fresh 20) t (LV.new 2 16 9) from ⟨hD, hbes, chain HB1.out hb2, HBA.out.size, Nat.le_trans HB1.out.size ht⟩)
  clear ht hD hbes hb2
  go_wp2_with fail
  refine (arm_any n (.slice none 0 0) [] H2.out.disk (ints_nil _) (by unfold I64; omega) (by decide)).mono ?_
  rintro e w3 ⟨rfl, hd3, hs3⟩
  have H3 := Lib.hid (H2.out.ret hd3 hs3)
  clear hd3 hs3
  go_wp2
  go_loopw [8, 9] (fun bk x wr => ∃ (j : Nat) (b : Bool) (D : DV) (G : LV), j ≤ l.length ∧ x = .int .i64 j ∧ bk = .bool b ∧ Hid (LgAt w wr wa.heap.size q (14 * j) D t G) ∧ Hid (BI D G ∧ G.fit j ∧ 0 ≤ D.writes ∧ D.writes ≤ 14 * j) ∧ Hid (b = true ↔ G.bad = 14)) (fun _ x _ => l.length - (intOf x).toNat)
  case atStart => exact ⟨0, false, (DV.fresh 20).arm n [], LV.new 2 16 9, Nat.zero_le _, rfl, rfl, H3, Lib.hid ⟨⟨rfl, rfl, rfl, .inl ⟨rfl, rfl⟩⟩, HFIT.out, by show (0 : Int) ≤ 0; decide, by show (0 : Int) ≤ 0; decide⟩, Lib.hid ⟨(fun h => nomatch h), (fun h => absurd (show (0 : Int) = 14 from h) (by decide))⟩⟩
  case round =>
    obtain ⟨j, b, D, G, hj, rfl, rfl, HG, HI, HB⟩ := hrel
    by_cases hlt : j < l.length
    · obtain ⟨bb, o, rfl, hcell⟩ : ∃ b o, a = some ⟨b, o, none⟩ ∧ wr.cell? ⟨b, o + j, none⟩ = some (.string (l.getD j ByteArray.empty)) := by
        obtain ⟨a', c', e1, _, _, e4⟩ := HV.out
        obtain ⟨b, o, e5, e6, e7⟩ := e4 (fun h => by rw [h] at hlt; exact absurd hlt (Nat.not_lt_zero _))
        injection e1 with e1 _ _
        exact ⟨b, o, by rw [e1, e5], (HG.out.bel.cell (p := ⟨b, o + j, none⟩) e6).trans (e7 j hlt)⟩
      have HZ := Lib.hid (HS2.out (l.getD j ByteArray.empty) (by rw [List.getD_eq_getElem?_getD, List.getElem?_eq_getElem hlt]; exact List.getElem_mem hlt))
      obtain ⟨s, hs⟩ : ∃ s, s = l.getD j ByteArray.empty := ⟨_, rfl⟩
      rw [← hs] at hcell HZ
      have hj20 : j ≤ 20 := by omega
      have HAP := Lib.hid (HI.out.1.app HI.out.2.1 (by omega) s)
      have HFA := Lib.hid (App_fit (d := D) (l := [s]) HI.out.2.1 (by simp; omega))
      obtain ⟨D', G', E, hr⟩ : ∃ D' G' E, G.App D [s] = (D', G', E) := ⟨_, _, _, rfl⟩
      have HR := Lib.hid hr
      rw [hr] at HAP HFA
      dsimp only at HAP HFA
      clear hs hr
      go_wp2_with fail
      have hTB := tb_new (l := [s]) (cap := 1) HG.out (cs := #[.string s]) (T := 9) rfl (by intro y hy; simp at hy; rw [hy]; have := HZ.out; omega) (by simp)
      refine (App_any _ [s] j (HG.out.step_ (bel_new _ _)) HI.out.2.1 (by simp; omega) hTB (by intro y hy; simp at hy; rw [hy]; have := HZ.out; omega) (by simp; omega) (by have := HI.out.2.2; omega)).mono ?_
      rintro e w4 ⟨rfl, h4, -⟩
      rw [HR.out] at h4 ⊢
      have H4 := Lib.hid h4
      clear h4 hTB
      dsimp only at H4
      have HNX := Lib.hid (show G'.fit ((j + 1 : Nat) : Int) ∧ 0 ≤ D'.writes ∧ D'.writes ≤ 14 * ((j + 1 : Nat) : Int) by
        obtain ⟨p1, p2, p3, _⟩ := HFA.out
        simp only [List.length_singleton] at p1 p2
        have := HI.out.2.2
        exact ⟨⟨p1.1, p1.2.1, by have := p1.2.2; omega⟩, by omega, by omega⟩)
      by_cases hE : E = 14
      · have hbad : G'.bad = 14 := HAP.out.2.1.2 hE
        have hoff : D'.on = false := by
          rcases HAP.out.1.st with h | h
          · omega
          · exact h.2
        have HBD := Lib.hid hbad
        have HOFF := Lib.hid hoff
        subst hE
        clear hbad hoff
        cases b with
        | false =>
          go_wp2_with fail
          refine (on_any H4.out.disk).mono ?_
          rintro e w5 ⟨rfl, hb5⟩
          rw [HOFF.out]
          have H5 := Lib.hid (H4.out.step_ hb5)
          clear hb5
          go_wp2_with fail
          refine (broken_any H5.out.bes.2).mono ?_
          rintro e w6 ⟨rfl, hb6⟩
          rw [HBD.out, show ((14 : Int) != 0) = true from rfl]
          have H6 := Lib.hid (H5.out.step_ hb6)
          clear hb6
          go_wp2
          go_roundw
          case rel => exact ⟨j + 1, true, D', G', hlt, by go_num, rfl, Lib.hid (H6.out.mono (show 14 * j + 14 * 1 ≤ 14 * (j + 1) by omega)), Lib.hid ⟨HAP.out.1, HNX.out⟩, Lib.hid ⟨fun _ => HBD.out, fun _ => rfl⟩⟩
          case measure => simp [intOf]; omega
        | true =>
          go_wp2_with fail
          refine (broken_any H4.out.bes.2).mono ?_
          rintro e w6 ⟨rfl, hb6⟩
          rw [HBD.out, show ((14 : Int) != 0) = true from rfl]
          have H6 := Lib.hid (H4.out.step_ hb6)
          clear hb6
          go_wp2
          go_roundw
          case rel => exact ⟨j + 1, true, D', G', hlt, by go_num, rfl, Lib.hid (H6.out.mono (show 14 * j + 14 * 1 ≤ 14 * (j + 1) by omega)), Lib.hid ⟨HAP.out.1, HNX.out⟩, Lib.hid ⟨fun _ => HBD.out, fun _ => rfl⟩⟩
          case measure => simp [intOf]; omega
      · have hbad : G'.bad = 0 := by
          rcases HAP.out.1.st with h | h
          · exact h.1
          · exact absurd (HAP.out.2.1.1 h.1) hE
        have HBD := Lib.hid hbad
        have hb : b = false := by
          cases b with
          | false => rfl
          | true => exact absurd (HAP.out.2.2 (HB.out.1 rfl)) hE
        subst hb
        have hE1 : (E == 14) = false := by simpa using hE
        clear hbad hE
        go_wp2_with fail
        refine (broken_any H4.out.bes.2).mono ?_
        rintro e w6 ⟨rfl, hb6⟩
        rw [HBD.out, show ((0 : Int) != 0) = false from rfl]
        have H6 := Lib.hid (H4.out.step_ hb6)
        clear hb6
        go_wp2
        go_roundw
        case rel => exact ⟨j + 1, false, D', G', hlt, by go_num, rfl, Lib.hid (H6.out.mono (show 14 * j + 14 * 1 ≤ 14 * (j + 1) by omega)), Lib.hid ⟨HAP.out.1, HNX.out⟩, Lib.hid ⟨(fun h => nomatch h), (fun h => absurd (HBD.out.symm.trans h) (by decide))⟩⟩
        case measure => simp [intOf]; omega
    · have HFL := Lib.hid HI.out.1.flush
      have HFF := Lib.hid (flush_fit D HI.out.2.1)
      obtain ⟨D', G', E, hr⟩ : ∃ D' G' E, G.flush D = (D', G', E) := ⟨_, _, _, rfl⟩
      have HR := Lib.hid hr
      rw [hr] at HFL HFF
      dsimp only at HFL HFF
      have hj20 : j ≤ 20 := by omega
      clear hr
      go_wp2_with fail
      refine (gflush_any HG.out (by omega) (by have := HI.out.2.2; omega)).mono ?_
      rintro e w4 ⟨rfl, h4, -⟩
      rw [HR.out] at h4 ⊢
      have H4 := Lib.hid h4
      clear h4
      dsimp only at H4
      have hEB : E = 14 ∨ (b = false ∧ E = 0 ∧ D'.on = true) := by
        rcases HFL.out.1.st with h | h
        · right
          refine ⟨?_, HFL.out.2.1 ▸ h.1, h.2⟩
          cases b with
          | false => rfl
          | true =>
            have h5 := HFL.out.2.2 (HB.out.1 rfl)
            have h6 := HFL.out.2.1
            have h7 := h.1
            omega
        · left; exact HFL.out.2.1 ▸ h.1
      have HEB := Lib.hid hEB
      clear hEB
      rcases HEB.out with hE | ⟨hb, hE, hon⟩
      · subst hE
        cases b with
        | false =>
          go_wp2_with fail
          refine (arm_any (-1) (.slice none 0 0) [] H4.out.disk (ints_nil _) (by unfold I64; omega) (by decide)).mono ?_
          rintro e w5 ⟨rfl, hd5, hs5⟩
          have H5 := Lib.hid (H4.out.ret hd5 hs5)
          clear hd5 hs5
          go_wp2_with fail
          refine (restore_any H5.out.disk).mono ?_
          rintro e w6 ⟨rfl, hd6, hs6⟩
          have H6 := Lib.hid (H5.out.ret hd6 hs6)
          clear hd6 hs6
          have HBD := Lib.hid (show G'.bad = 14 from HFL.out.2.1)
          have HRW := Lib.hid (show (D'.arm (-1) []).restore.writes = D'.writes by unfold DV.restore; split <;> rfl)
          go_wp2_with fail
          refine (alive_any _).mono ?_
          rintro e w7 ⟨rfl, hb7⟩
          have H7 := Lib.hid (H6.out.step_ hb7)
          clear hb7
          go_wp2_with fail
          refine (broken_any H7.out.bes.2).mono ?_
          rintro e w8 ⟨rfl, hb8⟩
          rw [HBD.out, show ((14 : Int) != 0) = true from rfl]
          have H8 := Lib.hid (H7.out.step_ hb8)
          clear hb8
          go_wp2_with fail
          have hTB := tb_new (l := [xB]) (cap := 1) H8.out (cs := #[.string xB]) (T := 9) rfl (by intro y hy; simp at hy; rw [hy]; decide) (by simp)
          have HAPX := Lib.hid (show G'.App (D'.arm (-1) []).restore [xB] = ((D'.arm (-1) []).restore, G', 14) by unfold LV.App; rw [if_pos (by rw [HBD.out]; decide), HBD.out])
          refine (App_any _ [xB] j (H8.out.step_ (bel_new _ _)) HFF.out.1 (by simp; omega) hTB (by intro y hy; simp at hy; rw [hy]; decide) (by simp; omega) (by rw [HRW.out]; have := HFF.out.2; have := HI.out.2.2; omega)).mono ?_
          rintro e w9 ⟨rfl, h9, -⟩
          rw [HAPX.out] at h9 ⊢
          have H9 := Lib.hid h9
          clear h9 hTB
          dsimp only at H9
          go_wp2_with fail
          have HFX := Lib.hid (show G'.flush (D'.arm (-1) []).restore = ((D'.arm (-1) []).restore, G', 14) by unfold LV.flush; rw [if_pos (by rw [HBD.out]; decide), HBD.out])
          refine (gflush_any H9.out (by simp; omega) (by rw [HRW.out]; have := HFF.out.2; have := HI.out.2.2; omega)).mono ?_
          rintro e w10 ⟨rfl, h10, -⟩
          rw [HFX.out] at h10 ⊢
          have HB10 := Lib.hid h10.bel
          clear h10
          go_wp2
          go_ret
          exact ⟨rfl, HB10.out⟩
        | true =>
          go_wp2_with fail
          refine (arm_any (-1) (.slice none 0 0) [] H4.out.disk (ints_nil _) (by unfold I64; omega) (by decide)).mono ?_
          rintro e w5 ⟨rfl, hd5, hs5⟩
          have H5 := Lib.hid (H4.out.ret hd5 hs5)
          clear hd5 hs5
          go_wp2_with fail
          refine (restore_any H5.out.disk).mono ?_
          rintro e w6 ⟨rfl, hd6, hs6⟩
          have H6 := Lib.hid (H5.out.ret hd6 hs6)
          clear hd6 hs6
          have HBD := Lib.hid (show G'.bad = 14 from HFL.out.2.1)
          have HRW := Lib.hid (show (D'.arm (-1) []).restore.writes = D'.writes by unfold DV.restore; split <;> rfl)
          go_wp2_with fail
          refine (alive_any _).mono ?_
          rintro e w7 ⟨rfl, hb7⟩
          have H7 := Lib.hid (H6.out.step_ hb7)
          clear hb7
          go_wp2_with fail
          refine (broken_any H7.out.bes.2).mono ?_
          rintro e w8 ⟨rfl, hb8⟩
          rw [HBD.out, show ((14 : Int) != 0) = true from rfl]
          have H8 := Lib.hid (H7.out.step_ hb8)
          clear hb8
          go_wp2_with fail
          have hTB := tb_new (l := [xB]) (cap := 1) H8.out (cs := #[.string xB]) (T := 9) rfl (by intro y hy; simp at hy; rw [hy]; decide) (by simp)
          have HAPX := Lib.hid (show G'.App (D'.arm (-1) []).restore [xB] = ((D'.arm (-1) []).restore, G', 14) by unfold LV.App; rw [if_pos (by rw [HBD.out]; decide), HBD.out])
          refine (App_any _ [xB] j (H8.out.step_ (bel_new _ _)) HFF.out.1 (by simp; omega) hTB (by intro y hy; simp at hy; rw [hy]; decide) (by simp; omega) (by rw [HRW.out]; have := HFF.out.2; have := HI.out.2.2; omega)).mono ?_
          rintro e w9 ⟨rfl, h9, -⟩
          rw [HAPX.out] at h9 ⊢
          have H9 := Lib.hid h9
          clear h9 hTB
          dsimp only at H9
          go_wp2_with fail
          have HFX := Lib.hid (show G'.flush (D'.arm (-1) []).restore = ((D'.arm (-1) []).restore, G', 14) by unfold LV.flush; rw [if_pos (by rw [HBD.out]; decide), HBD.out])
          refine (gflush_any H9.out (by simp; omega) (by rw [HRW.out]; have := HFF.out.2; have := HI.out.2.2; omega)).mono ?_
          rintro e w10 ⟨rfl, h10, -⟩
          rw [HFX.out] at h10 ⊢
          have HB10 := Lib.hid h10.bel
          clear h10
          go_wp2
          go_ret
          exact ⟨rfl, HB10.out⟩
      · subst hb hE
        have HBD := Lib.hid (show G'.bad = 0 from HFL.out.2.1)
        go_wp2_with fail
        refine (arm_any (-1) (.slice none 0 0) [] H4.out.disk (ints_nil _) (by unfold I64; omega) (by decide)).mono ?_
        rintro e w5 ⟨rfl, hd5, hs5⟩
        have H5 := Lib.hid (H4.out.ret hd5 hs5)
        clear hd5 hs5
        go_wp2_with fail
        refine (restore_any H5.out.disk).mono ?_
        rintro e w6 ⟨rfl, hd6, hs6⟩
        have H6 := Lib.hid (H5.out.ret hd6 hs6)
        clear hd6 hs6
        go_wp2_with fail
        refine (alive_any _).mono ?_
        rintro e w7 ⟨rfl, hb7⟩
        have H7 := Lib.hid (H6.out.step_ hb7)
        clear hb7
        go_wp2_with fail
        refine (broken_any H7.out.bes.2).mono ?_
        rintro e w8 ⟨rfl, hb8⟩
        rw [HBD.out, show ((0 : Int) != 0) = false from rfl]
        have HB8 := Lib.hid (H7.out.step_ hb8).bel
        clear hb8
        go_wp2
        go_ret
        exact ⟨rfl, HB8.out⟩

set_option maxRecDepth 100000 in
set_option maxHeartbeats 4000000 in
theorem walkLogBroken (v : Value) (l : List ByteArray) (n : Int) (wn : (Lit.int .i64 n).wf = true) (w : World) (hv : TextsAt w v l) : Calls Try.prog 7 #[v, .int .i64 n] w (BoolPost w true) := by
  have hn := wf64' wn
  clear wn
  cases hsh : shortT 20 4000 l with
  | true =>
    by_cases h0 : l.length = 0
    · have HV := Lib.hid hv
      have HSH := Lib.hid hsh
      obtain ⟨a, ca, rfl, -, -, -⟩ := hv
      obtain rfl := List.eq_nil_of_length_eq_zero h0
      clear hsh h0
      simp only [List.length_nil] at HV ⊢
      go_enter Try.func7, Try.ntmps7
      go_wp2_with fail
      refine (short_any 20 4000 _ [] _ HV.out (by decide) (by decide)).mono ?_
      rintro e w0 ⟨rfl, hb0⟩
      rw [HSH.out]
      go_wp2_with fail
      refine (alive_any _).mono ?_
      rintro e w1 ⟨rfl, hb1⟩
      go_wp2
      go_ret
      exact ⟨rfl, chain hb0 hb1⟩
    · by_cases hin : 0 ≤ n ∧ n ≤ 40
      · exact walkLogBrokenIn v l n w hv hsh h0 hin.1 hin.2
      · have HV := Lib.hid hv
        have HSH := Lib.hid hsh
        obtain ⟨a, ca, rfl, -, -, -⟩ := hv
        have hl0 : ((l.length : Int) == 0) = false := by rw [beq_eq_false_iff_ne]; omega
        have hl1 : ¬ l = [] := fun h => h0 (by rw [h]; rfl)
        clear hsh h0
        by_cases q1 : n < 0
        · clear hin
          go_enter Try.func7, Try.ntmps7
          go_wp2_with fail
          refine (short_any 20 4000 _ l _ HV.out (by decide) (by decide)).mono ?_
          rintro e w0 ⟨rfl, hb0⟩
          rw [HSH.out]
          go_wp2_with fail
          refine (alive_any _).mono ?_
          rintro e w1 ⟨rfl, hb1⟩
          go_wp2
          go_ret
          exact ⟨rfl, chain hb0 hb1⟩
        · have q2 : 40 < n := by omega
          clear hin
          go_enter Try.func7, Try.ntmps7
          go_wp2_with fail
          refine (short_any 20 4000 _ l _ HV.out (by decide) (by decide)).mono ?_
          rintro e w0 ⟨rfl, hb0⟩
          rw [HSH.out]
          go_wp2_with fail
          refine (alive_any _).mono ?_
          rintro e w1 ⟨rfl, hb1⟩
          go_wp2
          go_ret
          exact ⟨rfl, chain hb0 hb1⟩
  | false =>
    have HV := Lib.hid hv
    have HSH := Lib.hid hsh
    obtain ⟨a, ca, rfl, -, -, -⟩ := hv
    clear hsh
    go_enter Try.func7, Try.ntmps7
    go_wp2_with fail
    refine (short_any 20 4000 _ l _ HV.out (by decide) (by decide)).mono ?_
    rintro e w0 ⟨rfl, hb0⟩
    rw [HSH.out]
    go_wp2_with fail
    refine (alive_any _).mono ?_
    rintro e w1 ⟨rfl, hb1⟩
    go_wp2
    go_ret
    exact ⟨rfl, chain hb0 hb1⟩
end Go.Proofs.Ytjcggkfinhkcoaa
