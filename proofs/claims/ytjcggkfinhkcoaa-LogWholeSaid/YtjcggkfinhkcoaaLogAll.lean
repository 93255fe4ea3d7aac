/-
  A list of texts that grows beside a log and its disk; lists of ints beside a disk.
-/
import Derived.Test.YtjcggkfinhkcoaaLog4b
import Derived.Test.YtjcggkfinhkcoaaLogDisk
import Derived.Test.YtjcggkfinhkcoaaFill
namespace Go.Proofs.Ytjcggkfinhkcoaa
open Go.RowKit
set_option linter.unusedVariables false
set_option linter.unusedSimpArgs false

theorem DiskAt.grown {w w' : World} {B q c : Nat} {d : DV} {r : Option Nat} (h : DiskAt w B q c d) (hg : w.grownBy w' r) (hr : ∀ g, r = some g → ¬ Own w q g ∧ ∃ cs T fr, w.heap[g]? = some (.cells cs T fr) ∧ T ≠ 3) : DiskAt w' B q c d ∧ ∀ k, Own w' q k ↔ Own w q k := by
  obtain ⟨kv, wv, mb, lb, h⟩ := h
  have ho := h.own_iff
  obtain ⟨n, hn, hl⟩ := h.lasts
  have hlt : ∀ k, Own w q k → k < w.heap.size := by
    intro k hk
    rcases (ho k).1 hk with rfl | rfl | rfl | hk
    · exact h.lt
    · exact h.now.lt
    · exact hl.lt
    · exact (own_row h.waits hk).2.1
  have hq := fun k (hk : Own w q k) => hg.block k (hlt k hk) (fun e => (hr k e.symm).1 hk)
  refine ⟨⟨kv, wv, mb, lb, (hq q ((ho q).2 (.inl rfl))).trans h.blk, h.keep.step hg.size (fun b o s m c' e hne => ?_), h.now.step (hq mb ((ho mb).2 (.inr (.inl rfl)))), ⟨n, hn, hl.step (hq lb ((ho lb).2 (.inr (.inr (.inl rfl)))))⟩,
    own_frame h.waits (fun k hk => hq k ((ho k).2 (.inr (.inr (.inr hk))))), h.ne, h.ge, h.ok⟩, fun k => ?_⟩
  · obtain ⟨cs2, fr2, h2⟩ := h.keep.2 b o s m c' e hne
    refine hg.block b (heap_lt h2) (fun e2 => ?_)
    obtain ⟨_, cs, T, fr, h3, h4⟩ := hr b e2.symm
    rw [h3] at h2
    injection h2 with h2; injection h2 with _ h2
    exact h4 h2
  · have hc : ∀ j, w'.cell? ⟨q, j, none⟩ = w.cell? ⟨q, j, none⟩ := fun j => World.cell?_of_block (hq q (.inl rfl))
    unfold Own
    rw [hc, hc, hc]
theorem LgAt.grown {w0 w w' : World} {B q c t : Nat} {d : DV} {G : LV} {r : Option Nat} (h : LgAt w0 w B q c d t G) (hg : w.grownBy w' r) (hr : ∀ g, r = some g → (¬ Own w q g ∧ ∃ cs T fr, w.heap[g]? = some (.cells cs T fr) ∧ T ≠ 3) ∧ g ≠ t ∧ w0.heap.size ≤ g) : LgAt w0 w' B q c d t G := by
  obtain ⟨h1, h2⟩ := h.disk.grown hg (fun g e => (hr g e).1)
  exact ⟨h1, ⟨fun ho => h.bes.1 ((h2 t).1 ho), (hg.block t (heap_lt h.bes.2) (fun e => (hr t e.symm).2.1 rfl)).trans h.bes.2⟩, h.bel.grown hg h.bel.size (fun k e => (hr k e).2.2), h.ge⟩
/-- A list of texts of the call's own, beside a log and its disk. -/
structure AllAt (w : World) (base q t : Nat) (v : Value) (l : List ByteArray) : Prop where
  row : w.ownsRow base 9 1 v l.length (l.map Value.string)
  out : ∀ g, v.ownBlock = some g → ¬ Own w q g ∧ g ≠ t
theorem AllAt.nil (w : World) (base q t : Nat) : AllAt w base q t (.slice none 0 0) [] := ⟨World.ownsRow_nil _ _ _ _, fun g e => by cases e⟩
theorem AllAt.step {w w' : World} {base q t : Nat} {v : Value} {l : List ByteArray} (h : AllAt w base q t v l) (hs : LStep q t w w') : AllAt w' base q t v l := by
  refine ⟨own_frame h.row (fun g e => ?_), fun g e => ⟨fun ho => ?_, (h.out g e).2⟩⟩
  · exact hs.block g (own_row h.row e).2.1 (h.out g e).1 (h.out g e).2
  · rcases hs.own g ho with ho | ho
    · exact (h.out g e).1 ho
    · have := (own_row h.row e).2.1; omega
theorem AllAt.block {w : World} {base q t : Nat} {v : Value} {l : List ByteArray} (h : AllAt w base q t v l) : ∀ g, v.ownBlock = some g → (¬ Own w q g ∧ ∃ cs T fr, w.heap[g]? = some (.cells cs T fr) ∧ T ≠ 3) ∧ g ≠ t ∧ base ≤ g := by
  intro g e
  obtain ⟨h1, h2, cur, h3⟩ := own_row h.row e
  exact ⟨⟨(h.out g e).1, cur, 9, _, h3, by decide⟩, (h.out g e).2, h1⟩
/-- One more. -/
theorem AllAt.put {w0 w w' : World} {B q c t base g cap : Nat} {d : DV} {G : LV} {v : Value} {l : List ByteArray} {s : ByteArray} (h : AllAt w base q t v l) (hL : LgAt w0 w B q c d t G) (hb : w0.heap.size ≤ base)
    (hown : w'.ownsRow base 9 1 (.slice (some ⟨g, 0, none⟩) (l.length + 1) cap) (l.length + 1) (l.map Value.string ++ [.string s])) (hg : w.grownBy w' v.ownBlock) (hat : v.ownBlock = some g ∨ g = w.heap.size) :
    LgAt w0 w' B q c d t G ∧ AllAt w' base q t (.slice (some ⟨g, 0, none⟩) (l.length + 1) cap) (l ++ [s]) := by
  have hbl := h.block
  obtain ⟨_, h2⟩ := hL.disk.grown hg (fun g e => (hbl g e).1)
  refine ⟨hL.grown hg (fun k e => ⟨(hbl k e).1, (hbl k e).2.1, by have := (hbl k e).2.2; omega⟩), by rw [List.length_append, List.map_append]; exact hown, fun k e => ?_⟩
  have e : g = k := by simpa [Value.ownBlock] using e
  subst e
  rcases hat with hat | hat
  · exact ⟨fun ho => (hbl g hat).1.1 ((h2 g).1 ho), (hbl g hat).2.1⟩
  · subst hat
    exact ⟨fun ho => own_old hL.disk (Below.refl _ _) (Nat.le_refl _) ((h2 _).1 ho), by have := heap_lt hL.bes.2; omega⟩
theorem AllAt.texts {w : World} {base q t : Nat} {v : Value} {l : List ByteArray} (h : AllAt w base q t v l) (hz : ∀ s ∈ l, s.size ≤ 3000) : TextsAt w v l := texts_of_own h.row (fun s hs => by have := hz s hs; omega)
/-- An argument's ints lie in no block of a disk that was made later. -/
theorem keep_arg {w0 w : World} {B q c : Nat} {d : DV} {v : Value} {l : List Int} (h : DiskAt w B q c d) (hv : IntsAt w0 v l) (hb : Below w0.heap.size w0 w) (hB : w0.heap.size ≤ B) : KeepOut w q v l := by
  refine ⟨hv.below hb, fun b o s n c e hn ho => ?_⟩
  obtain ⟨a, c', rfl, h2, h3, h4⟩ := hv
  obtain ⟨b', o', rfl, h6, _⟩ := h4 hn
  injection e with e _ _; injection e with e; injection e with e
  subst e
  obtain ⟨kv, wv, mb, lb, hd⟩ := h
  have := hd.ge_own b' ho
  omega
theorem flush_fit {G : LV} {R : Int} (d : DV) (h : G.fit R) : (G.flush d).2.1.fit R ∧ d.writes ≤ (G.flush d).1.writes ∧ (G.flush d).1.writes ≤ d.writes + 1 := by
  unfold LV.flush
  split
  · exact ⟨h, Int.le_refl _, by show d.writes ≤ d.writes + 1; omega⟩
  · exact ⟨h, flush_writes d⟩
theorem cut_blocks (d : DV) (keep : List Int) : (d.cut keep).blocks = d.blocks := by unfold DV.cut; split <;> rfl
theorem apN_blocks (G : LV) (L : List ByteArray) (d : DV) : ∀ k : Nat, (apN G L d k).1.blocks = d.blocks
  | 0 => rfl
  | k + 1 => by
    have ih := apN_blocks G L d k
    unfold apN
    dsimp only
    split
    · exact ih
    · dsimp only
      unfold DV.write
      split
      · exact ih
      · split
        · exact ih
        · split
          · exact ih
          · split
            · exact (cut_blocks _ _).trans ih
            · exact ih
theorem app_blocks (G : LV) (d : DV) (s : ByteArray) : (G.app d s).1.blocks = d.blocks := by
  unfold LV.app
  split
  · rfl
  · split
    · rfl
    · dsimp only
      split <;> exact apN_blocks _ _ _ _
theorem App_blocks (G : LV) (d : DV) (l : List ByteArray) : (G.App d l).1.blocks = d.blocks := by
  have hN : ∀ k, (appN G d l k).1.blocks = d.blocks := by
    intro k
    induction k with
    | zero => rfl
    | succ k ih =>
      unfold appN
      dsimp only
      split
      · exact ih
      · exact (app_blocks _ _ _).trans ih
  unfold LV.App
  split
  · rfl
  · exact hN _
theorem App_one {G : LV} (d : DV) (s : ByteArray) (h : G.bad = 0) : G.App d [s] = G.app d s := by
  have h1 : G.App d [s] = appN G d [s] 1 := if_neg (by rw [h]; decide)
  rw [h1, appN_succ G d [s] 0 rfl]; rfl
theorem zero_fill : zeroB = fillB 0 := by decide +kernel
/-- A log of phase one: over zeros, every step flushed. -/
structure P1 (d : DV) (G : LV) (k : Int) (j : Int) : Prop where
  li : ∃ R rest, LI d G R rest 16 ∧ ∀ b ∈ rest, b = zeroB
  ok : OkD d
  wts : d.waits = []
  bl : d.blocks = 24
  frm : G.frm = 2
  gen : G.gen = 7
  fit : G.fit k
  wr : 0 ≤ d.writes ∧ d.writes ≤ 14 * k + j
theorem P1.new : P1 (DV.fresh 24) (LV.new 2 16 7) 0 0 :=
  ⟨⟨[], _, li_new 24 2 7 16 ⟨by decide, by decide⟩, fun b hb => List.eq_of_mem_replicate hb⟩, OkD.fresh _, rfl, rfl, rfl, rfl, new_fit 2 7 16 ⟨by decide, by decide⟩ (by decide) ⟨by decide, by decide⟩, by show (0 : Int) ≤ 0 ∧ (0 : Int) ≤ 14 * 0 + 0; decide⟩
theorem P1.bad {d : DV} {G : LV} {k j : Int} (h : P1 d G k j) : G.bad = 0 := by obtain ⟨R, rest, h, _⟩ := h.li; exact h.bad
theorem P1.app {d : DV} {G : LV} {k j : Int} (h : P1 d G k j) (l : List ByteArray) (hk : k + l.length ≤ 900000) :
    ∃ D G' E, G.App d l = (D, G', E) ∧ G'.flush D = (D.spent.flushed, G', 0) ∧ P1 D.spent.flushed G' (k + l.length) (j + 1) ∧ 0 ≤ D.writes ∧ D.writes ≤ 14 * (k + l.length) + j := by
  obtain ⟨R, rest, hL, hr⟩ := h.li
  obtain ⟨i, rest', a1, a2, _, _⟩ := hL.Apps l
  have hs := App_same G d l
  have hf := App_fit (d := d) (l := l) h.fit hk
  have ho := h.ok.App (G := G) ⟨by rw [h.frm]; decide, by have := hL.used; omega⟩ l
  have hb := App_blocks G d l
  obtain ⟨D, G', E, e⟩ : ∃ D G' E, G.App d l = (D, G', E) := ⟨_, _, _, rfl⟩
  rw [e] at a1 hs hf ho hb
  dsimp only at a1 hs hf ho hb
  obtain ⟨f1, f2⟩ := a1.flush
  have hw := h.wr
  refine ⟨D, G', E, e, f1, ⟨⟨_, rest', f2, fun b hb => hr b (a2 b hb)⟩, ho.flushed, rfl, hb.trans h.bl, hs.2.1.trans h.frm, hs.1.trans h.gen, hf.1, ?_⟩, ?_, ?_⟩
  · show 0 ≤ D.writes + 1 ∧ D.writes + 1 ≤ _
    omega
  · omega
  · omega
/-- A record that fails at once is never asked for its length: none is read behind the first that has no room. -/
theorem LI.few {d : DV} {G : LV} {R rest : List ByteArray} {n : Nat} (h : LI d G R rest n) (l : List ByteArray) : ∀ k : Nat, k ≤ l.length → (appN G d l k).2.2 = 0 → R.length + k ≤ n := by
  intro k hk h0
  obtain ⟨j, rest', a1, _, a3, _, _⟩ := h.apps l k hk
  have hj := a3 h0
  have hle := a1.le
  have hfl : ∀ (A : List ByteArray) (nb : Nat) (g : Int), A.length ≤ (flatR g nb A).length := by
    intro A
    induction A with
    | nil => intro nb g; exact Nat.zero_le _
    | cons x A ih =>
      intro nb g
      show A.length + 1 ≤ (layL g nb x ++ flatR g (nb + 1) A).length
      rw [List.length_append, layL_len]
      have := ih (nb + 1) g
      have : 1 ≤ blks x.size := by unfold blks; split <;> omega
      omega
  have h2 := hfl (R ++ l.take j) 0 (appN G d l k).2.1.gen
  rw [List.length_append, List.length_take] at h2
  omega
theorem P1.few {d : DV} {G : LV} {k j : Int} (h : P1 d G k j) (l : List ByteArray) (i : Nat) (hi : i < l.length) (h0 : (appN G d l i).2.2 = 0) : i ≤ 16 := by
  obtain ⟨R, rest, hL, _⟩ := h.li
  have := hL.few l i (by omega) h0
  omega
/-- Where the new log begins. -/
theorem P1.over {d : DV} {G : LV} {k j : Int} (h : P1 d G k j) (n : Int) (keep : List Int) : WI (d.arm n keep) (LV.new 2 16 8) [] (blkN d 2 16) 0 ∧ ∀ b ∈ blkN d 2 16, ∀ nb, b.data.toList.take 16 ≠ sigL 8 nb := by
  obtain ⟨R, rest, hL, hr⟩ := h.li
  obtain ⟨q1, q2⟩ := hL.over hr (by rw [h.gen]; decide) 8 (by decide) (by rw [h.gen]; decide)
  rw [h.frm] at q1 q2
  have hnow : ∀ i, d.lasts i = d.now i := fun i => by
    have := h.ok.tr i
    rw [h.wts] at this
    exact this
  have hget : ∀ i : Nat, i < 16 → (blkN d 2 16).getD i ByteArray.empty = (d.now (2 + i)).getD zeroB := fun i hi => by
    rw [List.getD_eq_getElem?_getD, blkN_get d 2 hi hL.on ⟨by decide, by rw [h.bl]; decide⟩]; rfl
  refine ⟨⟨⟨hL.on, h.bl, h.ok.same rfl rfl rfl, blkN_len _ _ _, fun i hi => ?_, fun i hi => ?_, fun x hx => ?_, ⟨Nat.le_refl _, Nat.le_refl _⟩⟩, rfl, rfl, rfl, rfl, rfl, rfl, Nat.zero_le _, fun s hs => nomatch hs⟩, q2⟩
  · rw [if_neg (show ¬ i < (flatR 8 0 []).length from Nat.not_lt_zero _), hget i hi]; rfl
  · rw [if_neg (Nat.not_lt_zero _), hget i hi]
    show (d.lasts (2 + i)).getD zeroB = _
    rw [hnow]
  · have hx : x ∈ d.waits := hx
    rw [h.wts] at hx; cases hx
end Go.Proofs.Ytjcggkfinhkcoaa
