/-
  Appends over a list, and a new log over an elder one's blocks.
-/
import Derived.Test.YtjcggkfinhkcoaaLog8
import Derived.Test.YtjcggkfinhkcoaaBookSame
namespace Go.Proofs.Ytjcggkfinhkcoaa
open Go.RowKit
set_option linter.unusedVariables false
set_option linter.unusedSimpArgs false

theorem LI.apps {d : DV} {G : LV} {R rest : List ByteArray} {n : Nat} (h : LI d G R rest n) (l : List ByteArray) : ∀ k : Nat, k ≤ l.length →
    ∃ j rest', LI (appN G d l k).1 (appN G d l k).2.1 (R ++ l.take j) rest' n ∧ (∀ b ∈ rest', b ∈ rest) ∧ ((appN G d l k).2.2 = 0 → j = k) ∧ j ≤ k ∧ ((appN G d l k).2.2 = 0 ∨ (appN G d l k).2.2 = 2 ∨ (appN G d l k).2.2 = 20)
  | 0, _ => ⟨0, rest, by simpa [appN] using h, fun b hb => hb, fun _ => rfl, Nat.le_refl _, .inl rfl⟩
  | k + 1, hk => by
    obtain ⟨j, rest', h1, h2, h3, h4, h5⟩ := h.apps l k (by omega)
    by_cases he : (appN G d l k).2.2 = 0
    · obtain rfl := h3 he
      rw [appN_succ G d l j he]
      by_cases hs : (l.getD j ByteArray.empty).size ≤ 3000
      · by_cases hl : blks (l.getD j ByteArray.empty).size ≤ rest'.length
        · obtain ⟨p1, p2, _, _⟩ := h1.app _ hs hl
          exact ⟨j + 1, _, by rw [take_snocX (by omega), ← List.append_assoc]; exact p2, fun b hb => h2 b (List.mem_of_mem_drop hb), fun _ => rfl, Nat.le_refl _, .inl p1⟩
        · rw [h1.full _ hs hl]
          exact ⟨j, rest', h1, h2, fun h => absurd (show (20 : Int) = 0 from h) (by decide), by omega, .inr (.inr rfl)⟩
      · have e : (appN G d l j).2.1.app (appN G d l j).1 (l.getD j ByteArray.empty) = ((appN G d l j).1, (appN G d l j).2.1, 2) := by
          unfold LV.app; rw [if_pos (by omega)]
        rw [e]
        exact ⟨j, rest', h1, h2, fun h => absurd (show (2 : Int) = 0 from h) (by decide), by omega, .inr (.inl rfl)⟩
    · have e : appN G d l (k + 1) = appN G d l k := if_pos he
      rw [e]
      exact ⟨j, rest', h1, h2, fun h => absurd h he, by omega, h5⟩
theorem LI.Apps {d : DV} {G : LV} {R rest : List ByteArray} {n : Nat} (h : LI d G R rest n) (l : List ByteArray) :
    ∃ j rest', LI (G.App d l).1 (G.App d l).2.1 (R ++ l.take j) rest' n ∧ (∀ b ∈ rest', b ∈ rest) ∧ j ≤ l.length ∧ (G.App d l).2.2 ≠ 14 := by
  have e : G.App d l = appN G d l l.length := if_neg (by rw [h.bad]; decide)
  rw [e]
  obtain ⟨j, rest', h1, h2, _, h4, h5⟩ := h.apps l l.length (Nat.le_refl _)
  exact ⟨j, rest', h1, h2, h4, by omega⟩
theorem flat_sig (g : Int) : ∀ (R : List ByteArray) (nb : Nat) (b : ByteArray), b ∈ flatR g nb R → ∃ nb', b.data.toList.take 16 = sigL g nb'
  | [], nb, b, h => nomatch h
  | s :: R, nb, b, h => by
    rcases List.mem_append.1 (show b ∈ layL g nb s ++ flatR g (nb + 1) R from h) with h | h
    · unfold layL layN at h
      obtain ⟨i, _, rfl⟩ := List.mem_map.1 h
      exact ⟨_, put_sig ..⟩
    · exact flat_sig g R _ b h
/-- A new log over what an elder one left. -/
theorem LI.over {d : DV} {G : LV} {R rest : List ByteArray} {n : Nat} (h : LI d G R rest n) (hr : ∀ b ∈ rest, b = zeroB) (hG : 0 ≤ G.gen ∧ G.gen ≤ 18446744073709551615) (g : Int) (hg : 0 ≤ g ∧ g ≤ 18446744073709551615) (hne : G.gen ≠ g) :
    LI d (LV.new G.frm n g) [] (blkN d G.frm n) n ∧ ∀ b ∈ blkN d G.frm n, ∀ nb, b.data.toList.take 16 ≠ sigL g nb := by
  refine ⟨⟨h.on, h.ar, h.sm, rfl, rfl, rfl, rfl, h.rng, (fun s hs => nomatch hs), rfl⟩, fun b hb nb e => ?_⟩
  rw [h.blk] at hb
  rcases List.mem_append.1 hb with hb | hb
  · obtain ⟨nb', e'⟩ := flat_sig _ _ _ _ hb
    exact hne (sig_inj hG hg (e'.symm.trans e))
  · rw [hr b hb] at e
    exact zero_sig g nb e
theorem TextsAt.take {w : World} {b o c : Nat} {l : List ByteArray} (h : TextsAt w (.slice (some ⟨b, o, none⟩) l.length c) l) (k : Nat) (hk : k ≤ l.length) (hb : b < w.heap.size) : TextsAt w (.slice (some ⟨b, o, none⟩) k c) (l.take k) := by
  obtain ⟨a, c', e1, h2, h3, h4⟩ := h
  injection e1 with e1 e2 e3
  subst e1 e3
  have hlen : (l.take k).length = k := by rw [List.length_take]; omega
  refine ⟨_, _, by rw [hlen], fun s hs => h2 s (List.mem_of_mem_take hs), ⟨by rw [hlen]; omega, h3.2⟩, fun hn => ⟨b, o, rfl, hb, fun j hj => ?_⟩⟩
  rw [hlen] at hj
  obtain ⟨b', o', e5, _, e7⟩ := h4 (fun hh => hn (by rw [hh]; simp))
  injection e5 with e5; injection e5 with q1 q2
  subst q1 q2
  rw [e7 j (by omega), List.getD_eq_getElem?_getD, List.getD_eq_getElem?_getD, List.getElem?_take, if_pos hj]
theorem app_same (G : LV) (d : DV) (s : ByteArray) : (G.app d s).2.1.gen = G.gen ∧ (G.app d s).2.1.frm = G.frm ∧ (G.app d s).2.1.n = G.n := by
  unfold LV.app
  split
  · exact ⟨rfl, rfl, rfl⟩
  · split
    · exact ⟨rfl, rfl, rfl⟩
    · dsimp only
      split <;> exact ⟨rfl, rfl, rfl⟩
theorem appN_same (G : LV) (d : DV) (l : List ByteArray) : ∀ k : Nat, (appN G d l k).2.1.gen = G.gen ∧ (appN G d l k).2.1.frm = G.frm ∧ (appN G d l k).2.1.n = G.n
  | 0 => ⟨rfl, rfl, rfl⟩
  | k + 1 => by
    obtain ⟨q1, q2, q3⟩ := appN_same G d l k
    unfold appN
    dsimp only
    split
    · exact ⟨q1, q2, q3⟩
    · obtain ⟨p1, p2, p3⟩ := app_same (appN G d l k).2.1 (appN G d l k).1 (l.getD k ByteArray.empty)
      exact ⟨p1.trans q1, p2.trans q2, p3.trans q3⟩
theorem App_same (G : LV) (d : DV) (l : List ByteArray) : (G.App d l).2.1.gen = G.gen ∧ (G.App d l).2.1.frm = G.frm ∧ (G.App d l).2.1.n = G.n := by
  unfold LV.App
  split
  · exact ⟨rfl, rfl, rfl⟩
  · exact appN_same G d l _
/-- What LogForges shows. -/
theorem forges_state (old l : List ByteArray) (g : Int) (hg : 2 ≤ g ∧ g ≤ 18446744073709551614) : ∃ D G E D2 G2 E2 j,
    (LV.new 2 16 (g - 1)).App (DV.fresh 20) old = (D, G, E) ∧ (LV.new 2 16 g).App D l = (D2, G2, E2) ∧ E2 ≠ 14 ∧ G2.flush D2 = (D2.spent.flushed, G2, 0) ∧ j ≤ l.length ∧ G2.recs = (j : Int) ∧ rdL D2.spent.flushed 2 16 g = l.take j ∧ errN D2.spent.flushed 2 16 = 0 ∧ D2.spent.flushed.small := by
  have h0 := li_new 20 2 (g - 1) 16 ⟨by decide, by decide⟩
  obtain ⟨j0, r0, p1, p2, _, _⟩ := h0.Apps old
  have hA : (LV.new 2 ((16 : Nat) : Int) (g - 1)) = LV.new 2 16 (g - 1) := rfl
  rw [hA] at p1
  have hf0 : ((LV.new 2 16 (g - 1)).App (DV.fresh 20) old).2.1.gen = g - 1 ∧ ((LV.new 2 16 (g - 1)).App (DV.fresh 20) old).2.1.frm = 2 := by
    obtain ⟨a, b, _⟩ := App_same (LV.new 2 16 (g - 1)) (DV.fresh 20) old
    exact ⟨a, b⟩
  obtain ⟨D, G, E, hr⟩ : ∃ D G E, (LV.new 2 16 (g - 1)).App (DV.fresh 20) old = (D, G, E) := ⟨_, _, _, rfl⟩
  rw [hr] at p1 hf0
  dsimp only at p1 hf0
  obtain ⟨q1, q2⟩ := p1.over (fun b hb => List.eq_of_mem_replicate (p2 b hb)) (by rw [hf0.1]; omega) g (by omega) (by rw [hf0.1]; omega)
  rw [hf0.2] at q1 q2
  obtain ⟨j, rest, s1, s2, s3, s4⟩ := q1.Apps l
  rw [show (LV.new 2 ((16 : Nat) : Int) g) = LV.new 2 16 g from rfl] at s1 s4
  have hf1 : ((LV.new 2 16 g).App D l).2.1.gen = g ∧ ((LV.new 2 16 g).App D l).2.1.frm = 2 := by
    obtain ⟨a, b, _⟩ := App_same (LV.new 2 16 g) D l
    exact ⟨a, b⟩
  obtain ⟨D2, G2, E2, hr2⟩ : ∃ D2 G2 E2, (LV.new 2 16 g).App D l = (D2, G2, E2) := ⟨_, _, _, rfl⟩
  rw [hr2] at s1 s4 hf1
  dsimp only at s1 s4 hf1
  obtain ⟨t1, t2⟩ := s1.flush
  have hrd := t2.read (by
    intro hn
    rw [hf1.1]
    refine q2 _ (s2 _ ?_) _
    rw [List.getD_eq_getElem?_getD, List.getElem?_eq_getElem (List.length_pos_iff.2 hn)]
    exact List.getElem_mem _)
  have he := t2.err 16 (Nat.le_refl _)
  rw [hf1.1, hf1.2, List.nil_append] at hrd
  rw [hf1.2] at he
  refine ⟨D, G, E, D2, G2, E2, j, hr, hr2, s4, t1, s3, ?_, hrd, he, t2.sm⟩
  rw [s1.recs, List.nil_append, List.length_take]; omega
end Go.Proofs.Ytjcggkfinhkcoaa
