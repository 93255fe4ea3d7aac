/-
  The contract of the law package's alive.
-/
import Derived.Test.YtjcggkfinhkcoaaGreatLogGood
namespace Go.Proofs.YtjcggkfinhkcoaaGreat
open Go.RowKit
set_option linter.unusedVariables false
set_option linter.unusedSimpArgs false

theorem LI.flush {d : DV} {G : LV} {R rest : List ByteArray} {n : Nat} (h : LI d G R rest n) : G.flush d = (d.spent.flushed, G, 0) ∧ LI d.spent.flushed G R rest n := by
  refine ⟨?_, h.on, h.ar, h.sm, h.nn, h.bad, h.recs, h.used, h.rng, h.hz, ?_⟩
  · unfold LV.flush
    rw [if_neg (by rw [h.bad]; decide), flush_ok h.on (by rw [h.ar]; intro h; cases h)]
    have hb := h.bad
    obtain ⟨a, b, c, e, f, g⟩ := G
    dsimp only at hb
    subst hb
    rfl
  · have : ∀ k, d.spent.flushed.read k = d.read k := fun k => rfl
    unfold blkN
    simp only [this]
    exact h.blk
def abB : ByteArray := ⟨#[97, 98]⟩
theorem appN_succ (G : LV) (d : DV) (l : List ByteArray) (k : Nat) (h : (appN G d l k).2.2 = 0) : appN G d l (k + 1) = (appN G d l k).2.1.app (appN G d l k).1 (l.getD k ByteArray.empty) := by
  show (if (appN G d l k).2.2 ≠ 0 then _ else _) = _
  rw [if_neg (by simpa using h)]
theorem LI.two {d : DV} {G : LV} {rest : List ByteArray} {n : Nat} (h : LI d G [] rest n) (a b : ByteArray) (ha : a.size ≤ 3000) (hb : b.size ≤ 3000) (hl : blks a.size + blks b.size ≤ rest.length) :
    ∃ D G', G.App d [a, b] = (D, G', 0) ∧ LI D G' [a, b] ((rest.drop (blks a.size)).drop (blks b.size)) n := by
  have hA : G.App d [a, b] = appN G d [a, b] 2 := if_neg (by rw [h.bad]; decide)
  obtain ⟨p1, p2, _, _⟩ := h.app a ha (by omega)
  obtain ⟨q1, q2, _, _⟩ := p2.app b hb (by rw [List.length_drop]; omega)
  have e1 : appN G d [a, b] 1 = G.app d a := appN_succ G d [a, b] 0 rfl
  have e2 := appN_succ G d [a, b] 1 (by rw [e1]; exact p1)
  rw [e1] at e2
  rw [hA, e2]
  obtain ⟨D, G', E, hr⟩ : ∃ D G' E, (G.app d a).2.1.app (G.app d a).1 b = (D, G', E) := ⟨_, _, _, rfl⟩
  rw [hr] at q1 q2
  dsimp only at q1 q2
  subst q1
  exact ⟨D, G', hr, q2⟩
theorem App_fit {G : LV} {R : Int} {d : DV} {l : List ByteArray} (h : G.fit R) (hl : R + l.length ≤ 900000) : (G.App d l).2.1.fit (R + l.length) ∧ (G.App d l).1.writes ≤ d.writes + 14 * l.length ∧ d.writes ≤ (G.App d l).1.writes ∧ (G.App d l).2.1.gen = G.gen ∧ (G.App d l).2.1.frm = G.frm ∧ (G.App d l).2.1.n = G.n := by
  unfold LV.App
  split
  · exact ⟨⟨h.1, h.2.1, by have := h.2.2; dsimp only; omega⟩, by dsimp only; omega, Int.le_refl _, rfl, rfl, rfl⟩
  · exact appN_fit h l.length hl
theorem new_fit (frm g : Int) (n : Nat) (h1 : -1000000 ≤ frm ∧ frm ≤ 1000000) (h2 : n ≤ 4096) (h3 : 0 ≤ g ∧ g ≤ 18446744073709551615) : (LV.new frm n g).fit 0 := by
  refine ⟨⟨h1, ⟨?_, ?_⟩, ⟨?_, ?_⟩, ⟨?_, ?_⟩, h3⟩, ?_, ?_⟩
  · show (0 : Int) ≤ n; omega
  · show (n : Int) ≤ 4096; omega
  · exact Int.le_refl _
  · show (0 : Int) ≤ 4096; decide
  · exact Int.le_refl _
  · show (0 : Int) ≤ 1000000; decide
  · show (0 : Int) ≤ n; omega
  · exact Int.le_refl _
theorem alive_state : ∃ D G rest, (LV.new 2 ((16 : Nat) : Int) 5).App (DV.fresh 20) [abB, ByteArray.empty] = (D, G, 0) ∧ LI D G [abB, ByteArray.empty] rest 16 ∧ (∃ m, rest = List.replicate m zeroB) ∧ G.left = 14 ∧ G.recs = 2 ∧ G.ok ∧ G.frm = 2 ∧ G.gen = 5 ∧ 0 ≤ D.writes ∧ D.writes ≤ 100 := by
  have h0 := li_new 20 2 5 16 ⟨by decide, by decide⟩
  have hb1 : blks abB.size = 1 := by decide +kernel
  have hb2 : blks ByteArray.empty.size = 1 := by decide +kernel
  obtain ⟨D, G, hA, hL⟩ := h0.two abB ByteArray.empty (by decide +kernel) (by decide +kernel) (by rw [hb1, hb2]; decide)
  have f2 := App_fit (d := DV.fresh 20) (l := [abB, ByteArray.empty]) (new_fit 2 5 16 ⟨by decide, by decide⟩ (by decide) ⟨by decide, by decide⟩) (by decide)
  rw [hA] at f2
  dsimp only at f2
  have hle := hL.le
  have hlen : (((List.replicate 16 zeroB).drop (blks abB.size)).drop (blks ByteArray.empty.size)).length = 14 := by rw [List.length_drop, List.length_drop, List.length_replicate, hb1, hb2]
  rw [hlen] at hle
  refine ⟨D, G, _, hA, hL, ⟨14, by rw [hb1, hb2]; rfl⟩, ?_, hL.recs, f2.1.1, f2.2.2.2.2.1, f2.2.2.2.1, ?_, ?_⟩
  · unfold LV.left
    rw [hL.nn, hL.used]
    omega
  · exact f2.2.2.1
  · exact Int.le_trans f2.2.1 (by show (0 : Int) + 14 * 2 ≤ 100; decide)

set_option maxRecDepth 100000 in
set_option maxHeartbeats 8000000 in
theorem alive_any (w : World) : Calls Tryz.prog 5 #[] w (BoolPost w true) := by
  obtain ⟨D, G, rest, hA, hL, ⟨m, hm⟩, hl, hrec, hok, hfr, hgen, hw0, hw1⟩ := alive_state
  obtain ⟨hf1, hf2⟩ := hL.flush
  have hr1 := hf2.read (by rw [hm]; exact clean_rep _ _)
  have hr2 := hf2.other (g := 6) ⟨by decide, by decide⟩ (by rw [hgen]; exact ⟨by decide, by decide⟩) (by rw [hgen]; decide) (by rw [hm]; exact clean_rep _ _)
  have he := hf2.err 16 (Nat.le_refl _)
  rw [hfr] at hr1 hr2 he
  rw [hgen] at hr1
  have HA := Lib.hid hA
  have HF := Lib.hid hf1
  have HR1 := Lib.hid hr1
  have HR2 := Lib.hid hr2
  have HE := Lib.hid he
  have HL := Lib.hid hl
  have HRC := Lib.hid hrec
  have HOK := Lib.hid hok
  have HW := Lib.hid (And.intro hw0 hw1)
  have HSM := Lib.hid (fun k hk => read_size hf2.sm k hk)
  obtain ⟨D3, hD3⟩ : ∃ D3, D3 = D.spent.flushed := ⟨_, rfl⟩
  rw [← hD3] at HF HR1 HR2 HE HSM
  have HFIT := Lib.hid (show (LV.new 2 16 5).fit 0 from new_fit 2 5 16 ⟨by decide, by decide⟩ (by decide) ⟨by decide, by decide⟩)
  rw [show (LV.new 2 ((16 : Nat) : Int) 5) = LV.new 2 16 5 from rfl] at HA
  clear hA hL hm hl hrec hok hfr hgen hw0 hw1 hf1 hf2 hr1 hr2 he hD3
  go_enter Tryz.func5, Tryz.ntmps5
  go_wp2_with fail
  refine (new_any 20 _ (by omega)).mono ?_
  rintro e w1 ⟨q, rfl, hD, hb1⟩
  have HD1 := Lib.hid hD
  have HB1 := Lib.hid hb1
  clear hD hb1
  go_wp2_with fail
  refine (new_yes 2 16 5 HD1.out (by decide) (by decide)).mono ?_
  rintro e w2 ⟨t, rfl, ht, hD, hbes, hb2⟩
  have H2 := Lib.hid (show LgAt w w2 w.heap.size q 0 (DV.fresh 20) t (LV.new 2 16 5) from ⟨hD, hbes, chain HB1.out hb2, Nat.le_refl _, Nat.le_trans HB1.out.size ht⟩)
  clear ht hD hbes hb2
  go_wp2_with fail
  have hTB := tb_new (l := [abB, ByteArray.empty]) (cap := 2) H2.out (cs := #[.string abB, .string ByteArray.empty]) (T := 9) rfl (by intro s hs; simp at hs; rcases hs with rfl | rfl <;> decide +kernel) (by decide)
  refine (App_any _ [abB, ByteArray.empty] 0 (H2.out.step_ (bel_new _ _)) HFIT.out (by decide) hTB (by intro s hs; simp at hs; rcases hs with rfl | rfl <;> decide +kernel) (by decide) (by decide)).mono ?_
  rintro e w3 ⟨rfl, h3, -⟩
  rw [HA.out] at h3 ⊢
  have H3 := Lib.hid h3
  clear h3 hTB
  go_wp2_with fail
  refine (gflush_any H3.out (by decide) (by have := HW.out; omega)).mono ?_
  rintro e w4 ⟨rfl, h4, -⟩
  dsimp only at h4 ⊢
  rw [HF.out] at h4 ⊢
  have H4 := Lib.hid h4
  clear h4
  go_wp2_with fail
  refine (lread_any 2 5 16 H4.out.disk (by decide) (by decide) (by decide) HSM.out).mono ?_
  rintro e w5 ⟨v5, rfl, ho5, hb5⟩
  rw [HR1.out] at ho5
  have HO5 := Lib.hid ho5
  have H5 := Lib.hid (H4.out.step_ hb5)
  rw [HE.out]
  clear ho5 hb5
  go_wp2_with fail
  refine (lread_any 2 6 16 H5.out.disk (by decide) (by decide) (by decide) HSM.out).mono ?_
  rintro e w6 ⟨v6, rfl, ho6, hb6⟩
  rw [HR2.out] at ho6
  have H6 := Lib.hid (H5.out.step_ hb6)
  have ho5 := own_step HO5.out hb6
  rw [HE.out]
  obtain ⟨b, cap, rfl, hb0, hb1⟩ := ho5.form (by decide)
  have hcell : w6.cell? ⟨b, 0, none⟩ = some (.string abB) := by rw [ho5.cellAt 0 (by decide)]; rfl
  obtain ⟨a6, c6, rfl⟩ := own_form ho6
  have hq : ((⟨#[97, 98]⟩ : ByteArray).toList == (⟨#[97, 98]⟩ : ByteArray).toList) = true := by simp
  unfold abB at hcell
  clear ho5 ho6 hb6 hb0 hb1 HO5
  go_wp2_with fail
  refine (left_any H6.out.bes.2 HOK.out).mono ?_
  rintro e w7 ⟨rfl, hb7⟩
  rw [HL.out]
  have H7 := Lib.hid (H6.out.step_ hb7)
  clear hb7
  go_wp2_with fail
  refine (len_any H7.out.bes.2).mono ?_
  rintro e w8 ⟨rfl, hb8⟩
  rw [HRC.out]
  have H8 := Lib.hid (H7.out.step_ hb8)
  clear hb8
  go_wp2_with fail
  refine (blocks_any 225 _ (by decide)).mono ?_
  rintro e w9 ⟨rfl, hb9⟩
  rw [show ((blks 225 : Nat) : Int) = 2 from rfl]
  have HB9 := Lib.hid (H8.out.step_ hb9).bel
  clear hb9
  go_wp2
  go_ret
  exact ⟨rfl, HB9.out⟩
end Go.Proofs.YtjcggkfinhkcoaaGreat
