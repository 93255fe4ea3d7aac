/-
  A log, its disk, and a book of texts beside each other: what one's calls leave of the others, by the types of their blocks.
-/
import Derived.Test.YtjcggkfinhkcoaaGreatLog8
import Derived.Test.YtjcggkfinhkcoaaGreatLog4b
import Derived.Test.YtjcggkfinhkcoaaGreatLogLight
import Derived.Test.YtjcggkfinhkcoaaGreatBookApartT
namespace Go.Proofs.YtjcggkfinhkcoaaGreat
open Go.RowKit
set_option linter.unusedVariables false
set_option linter.unusedSimpArgs false

theorem DiskAt.sames {w w' : World} {B q c : Nat} {d : DV} (h : DiskAt w B q c d) (hs : w.heap.size ≤ w'.heap.size) (hq : ∀ k, Own w q k → w'.heap[k]? = w.heap[k]?) (hi : ∀ (k : Nat) (cs : Array Value) (fr : Nat × Nat), w.heap[k]? = some (Obj.cells cs 3 fr) → w'.heap[k]? = w.heap[k]?) : DiskAt w' B q c d ∧ ∀ k, Own w' q k ↔ Own w q k := by
  obtain ⟨kv, wv, mb, lb, h⟩ := h
  have ho := h.own_iff
  obtain ⟨n, hn, hl⟩ := h.lasts
  refine ⟨⟨kv, wv, mb, lb, (hq q ((ho q).2 (.inl rfl))).trans h.blk, h.keep.step hs (fun b o s m c' e hne => ?_), h.now.step (hq mb ((ho mb).2 (.inr (.inl rfl)))), ⟨n, hn, hl.step (hq lb ((ho lb).2 (.inr (.inr (.inl rfl)))))⟩,
    own_frame h.waits (fun k hk => hq k ((ho k).2 (.inr (.inr (.inr hk))))), h.ne, h.ge, h.ok⟩, fun k => ?_⟩
  · obtain ⟨cs2, fr2, h2⟩ := h.keep.2 b o s m c' e hne
    exact hi b _ _ h2
  · have hc : ∀ j, w'.cell? ⟨q, j, none⟩ = w.cell? ⟨q, j, none⟩ := fun j => World.cell?_of_block (hq q (.inl rfl))
    unfold Own
    rw [hc, hc, hc]
theorem own_type {w : World} {B q c k : Nat} {d : DV} {cs : Array Value} {T : TypeId} {fr : Nat × Nat} (h : DiskAt w B q c d) (ho : Own w q k) (hk : w.heap[k]? = some (.cells cs T fr)) : T = 64 ∨ T = 94 := by
  obtain ⟨kv, wv, mb, lb, h⟩ := h
  obtain ⟨es, ck, hm⟩ := h.now.map
  obtain ⟨n, _, hl⟩ := h.lasts
  obtain ⟨es2, ck2, hl⟩ := hl.map
  rcases (h.own_iff k).1 ho with rfl | rfl | rfl | e
  · rw [h.blk] at hk
    injection hk with hk; injection hk with _ hk; exact .inl hk.symm
  · rw [hm] at hk; cases hk
  · rw [hl] at hk; cases hk
  · obtain ⟨_, _, cur, hc⟩ := own_row h.waits e
    rw [hc] at hk
    injection hk with hk; injection hk with _ hk; exact .inr hk.symm
/-- A block that a book of texts, or a list of texts, may turn. -/
def Texty (T : TypeId) : Prop := T = 43 ∨ T = 32 ∨ T = 9
def XStep (w w' : World) : Prop := w.heap.size ≤ w'.heap.size ∧ ∀ k, k < w.heap.size → (∀ (cs : Array Value) (T : TypeId) (fr : Nat × Nat), w.heap[k]? = some (.cells cs T fr) → ¬ Texty T) → w'.heap[k]? = w.heap[k]?
theorem XStep.of_b {w w' : World} (h : BStep_t w w') : XStep w w' := ⟨h.1, fun k hk hn => h.2 k hk (fun cs fr e => hn _ _ _ e (.inl rfl)) (fun cs fr e => hn _ _ _ e (.inr (.inl rfl)))⟩
theorem XStep.of_grown {w w' : World} {r : Option Nat} (h : w.grownBy w' r) (hr : ∀ g, r = some g → ∃ cs fr, w.heap[g]? = some (.cells cs 9 fr)) : XStep w w' :=
  ⟨h.size, fun k hk hn => h.block k hk (fun e => by obtain ⟨cs, fr, hc⟩ := hr k e.symm; exact hn _ _ _ hc (.inr (.inr rfl)))⟩
section
variable {w0 w w' : World} {B q c t : Nat} {d : DV} {G : LV}
theorem LgAt.xstep (h : LgAt w0 w B q c d t G) (hs : XStep w w') (hb : Below w0.heap.size w0 w') : LgAt w0 w' B q c d t G := by
  have hq : ∀ k, Own w q k → w'.heap[k]? = w.heap[k]? := fun k ho => by
    have hlt : k < w.heap.size := by
      obtain ⟨kv, wv, mb, lb, hd⟩ := h.disk
      obtain ⟨n, _, hl⟩ := hd.lasts
      rcases (hd.own_iff k).1 ho with rfl | rfl | rfl | e
      · exact hd.lt
      · exact hd.now.lt
      · exact hl.lt
      · exact (own_row hd.waits e).2.1
    exact hs.2 k hlt (fun cs T fr e hT => by
      rcases own_type h.disk ho e with rfl | rfl
      · unfold Texty at hT; revert hT; decide
      · unfold Texty at hT; revert hT; decide)
  obtain ⟨h1, h2⟩ := h.disk.sames hs.1 hq (fun k cs fr e => hs.2 k (heap_lt e) (fun cs2 T fr2 e2 hT => by
    rw [e] at e2
    injection e2 with e2; injection e2 with _ e2
    subst e2
    unfold Texty at hT; revert hT; decide))
  refine ⟨h1, ⟨fun ho => h.bes.1 ((h2 t).1 ho), (hs.2 t (heap_lt h.bes.2) (fun cs2 T fr2 e2 hT => ?_)).trans h.bes.2⟩, hb, h.ge⟩
  rw [h.bes.2] at e2
  injection e2 with e2; injection e2 with _ e2
  subst e2
  unfold Texty at hT; revert hT; decide
/-- Behind a call of a log blocks of other types than its own and its disk's are as they were. -/
theorem LgAt.other (h : LgAt w0 w B q c d t G) (hs : LStep q t w w') {k : Nat} {cs : Array Value} {T : TypeId} {fr : Nat × Nat} (hk : w.heap[k]? = some (.cells cs T fr)) (hT : T ≠ 64 ∧ T ≠ 94 ∧ T ≠ 67) : w'.heap[k]? = w.heap[k]? :=
  hs.block k (heap_lt hk) (fun ho => by rcases own_type h.disk ho hk with e | e; exact hT.1 e; exact hT.2.1 e) (fun e => by
    subst e
    rw [h.bes.2] at hk
    injection hk with hk; injection hk with _ hk
    exact hT.2.2 hk.symm)
theorem BB_t.frameAt {p n : Nat} {cs : Array Value} {vs us : Nat → Value} {ls : Nat → List ByteArray} (h : BB_t w B p cs n vs us ls) (hsz : w.heap.size ≤ w'.heap.size) (h1 : w'.heap[p]? = w.heap[p]?)
    (h2 : ∀ (k : Nat) (cur : Array Value) (fr : Nat × Nat), w.heap[k]? = some (Obj.cells cur 32 fr) → w'.heap[k]? = w.heap[k]?) (h3 : ∀ i k, i < n → rowOf (vs i) = some k ∨ rowOf (us i) = some k → w'.heap[k]? = w.heap[k]?) : BB_t w' B p cs n vs us ls := by
  obtain ⟨uv, q1, q2, q3, q4⟩ := h.was
  obtain ⟨lv, r1, r2⟩ := h.bk.row
  refine ⟨⟨h1.trans h.bk.blk, ⟨lv, r1, r2.frame fun g hg => ?_⟩, h.bk.fam.frame fun i g hi hg => h3 i g hi (.inl hg), h.bk.few, h.bk.short, h.bk.ok, Nat.le_trans h.bk.base hsz⟩, h.size, uv, q1, q2.frame fun g hg => ?_, fun i hi => (q3 i hi).frame fun g hg => h3 i g hi (.inr hg), q4⟩
  · obtain ⟨_, _, cur, hc⟩ := r2.lt hg; exact h2 g _ _ hc
  · obtain ⟨_, _, cur, hc⟩ := q2.lt hg; exact h2 g _ _ hc
theorem BB_t.rows {p n : Nat} {cs : Array Value} {vs us : Nat → Value} {ls : Nat → List ByteArray} (h : BB_t w B p cs n vs us ls) {i k : Nat} (hi : i < n) (hk : rowOf (vs i) = some k ∨ rowOf (us i) = some k) : ∃ cur, w.heap[k]? = some (.cells cur 9 (0, 0)) := by
  obtain ⟨uv, q1, q2, q3, q4⟩ := h.was
  rcases hk with hk | hk
  · exact ((h.bk.fam.own i hi).lt hk).2.2
  · exact ((q3 i hi).lt hk).2.2
theorem BB_t.log {p n : Nat} {cs : Array Value} {vs us : Nat → Value} {ls : Nat → List ByteArray} (h : BB_t w B p cs n vs us ls) (hL : LgAt w0 w B q c d t G) (hs : LStep q t w w') : BB_t w' B p cs n vs us ls :=
  h.frameAt hs.size (hL.other hs h.bk.blk (by decide)) (fun k cur fr e => hL.other hs e (by decide)) (fun i k hi hk => by
    obtain ⟨cur, hc⟩ := h.rows hi hk
    exact hL.other hs hc (by decide))
theorem OwnL.log {B' k n : Nat} {v : Value} {xs : List Value} (h : OwnL w B' 9 k v n xs) (hL : LgAt w0 w B q c d t G) (hs : LStep q t w w') : OwnL w' B' 9 k v n xs := h.frame fun g hg => by
  obtain ⟨_, _, cur, hc⟩ := h.lt hg
  exact hL.other hs hc (by decide)
/-- A list of texts that is no book's grows. -/
theorem BB_t.grown {p n g : Nat} {cs : Array Value} {vs us : Nat → Value} {ls : Nat → List ByteArray} {r : Option Nat} (h : BB_t w B p cs n vs us ls) (hg : w.grownBy w' r) (hr : ∀ g, r = some g → (∃ cs fr, w.heap[g]? = some (.cells cs 9 fr)) ∧ ∀ i, i < n → rowOf (vs i) ≠ some g ∧ rowOf (us i) ≠ some g) : BB_t w' B p cs n vs us ls :=
  h.frameAt hg.size (hg.block p (heap_lt h.bk.blk) (fun e => by
    obtain ⟨⟨cs2, fr2, hc⟩, _⟩ := hr p e.symm
    rw [h.bk.blk] at hc
    injection hc with hc; injection hc with _ hc; exact absurd hc (by decide)))
  (fun k cur fr e => hg.block k (heap_lt e) (fun e2 => by
    obtain ⟨⟨cs2, fr2, hc⟩, _⟩ := hr k e2.symm
    rw [e] at hc
    injection hc with hc; injection hc with _ hc; exact absurd hc (by decide)))
  (fun i k hi hk => by
    obtain ⟨cur, hc⟩ := h.rows hi hk
    exact hg.block k (heap_lt hc) (fun e2 => by
      have h4 := (hr k e2.symm).2 i hi
      rcases hk with hk | hk
      · exact h4.1 hk
      · exact h4.2 hk))
end
/-- A lent list of texts, in a block of texts. -/
def LentS (w : World) (v : Value) (l : List ByteArray) (g : Nat) : Prop := LentT w v l ∧ (∃ cap, v = .slice (some ⟨g, 0, none⟩) l.length cap) ∧ ∃ cs fr, w.heap[g]? = some (.cells cs 9 fr)
theorem LentS.frame {w w' : World} {v : Value} {l : List ByteArray} {g : Nat} (h : LentS w v l g) (hs : w.heap.size ≤ w'.heap.size) (hg : w'.heap[g]? = w.heap[g]?) : LentS w' v l g := by
  obtain ⟨⟨g', cap, rfl, h2, h3, h4, h5, h6⟩, ⟨cap2, e⟩, cs, fr, h7⟩ := h
  injection e with e _ _; injection e with e; injection e with e
  subst e
  have hc : ∀ o, w'.cell? ⟨g', o, none⟩ = w.cell? ⟨g', o, none⟩ := fun o => World.cell?_of_block hg
  exact ⟨⟨g', cap, rfl, by omega, h3, h4, fun j hj => by rw [hc]; exact h5 j hj, by rw [hc]; exact h6⟩, ⟨cap, rfl⟩, cs, fr, hg.trans h7⟩
theorem LentS.below {w w' : World} {v : Value} {l : List ByteArray} {g : Nat} (h : LentS w v l g) (hb : Below w.heap.size w w') : LentS w' v l g := by
  obtain ⟨_, _, cs, fr, h7⟩ := id h
  exact h.frame hb.size (hb.block g (heap_lt h7))

/-- What the law's own reckoning comes to: the error, the blocks that are left, the records that went in. -/
def wantN (m : Nat) (l : List ByteArray) : Nat → Int × Nat × Nat
  | 0 => (0, m, 0)
  | k + 1 => if (wantN m l k).1 ≠ 0 then wantN m l k else
    if 3000 < (l.getD k ByteArray.empty).size then (2, (wantN m l k).2.1, (wantN m l k).2.2)
    else if (wantN m l k).2.1 < blks (l.getD k ByteArray.empty).size then (20, (wantN m l k).2.1, (wantN m l k).2.2)
    else (0, (wantN m l k).2.1 - blks (l.getD k ByteArray.empty).size, k + 1)
theorem wantN_good {m : Nat} {l : List ByteArray} : ∀ k, (wantN m l k).1 = 0 → (wantN m l k).2.2 = k
  | 0, _ => rfl
  | k + 1, h => by
    have e : wantN m l (k + 1) = if (wantN m l k).1 ≠ 0 then wantN m l k else
      if 3000 < (l.getD k ByteArray.empty).size then (2, (wantN m l k).2.1, (wantN m l k).2.2)
      else if (wantN m l k).2.1 < blks (l.getD k ByteArray.empty).size then (20, (wantN m l k).2.1, (wantN m l k).2.2)
      else (0, (wantN m l k).2.1 - blks (l.getD k ByteArray.empty).size, k + 1) := rfl
    rw [e] at h ⊢
    by_cases h1 : (wantN m l k).1 = 0
    · rw [if_neg (by simpa using h1)] at h ⊢
      by_cases h2 : 3000 < (l.getD k ByteArray.empty).size
      · rw [if_pos h2] at h; exact absurd (show (2 : Int) = 0 from h) (by decide)
      · rw [if_neg h2] at h ⊢
        by_cases h3 : (wantN m l k).2.1 < blks (l.getD k ByteArray.empty).size
        · rw [if_pos h3] at h; exact absurd (show (20 : Int) = 0 from h) (by decide)
        · rw [if_neg h3]
    · rw [if_pos h1] at h; exact absurd h h1
theorem wantN_stay {m : Nat} {l : List ByteArray} {k : Nat} (h : (wantN m l k).1 ≠ 0) : ∀ j, wantN m l (k + j) = wantN m l k
  | 0 => rfl
  | j + 1 => by
    have ih := wantN_stay h j
    show (if (wantN m l (k + j)).1 ≠ 0 then wantN m l (k + j) else _) = _
    rw [if_pos (by rw [ih]; exact h), ih]
theorem wantN_le {m : Nat} {l : List ByteArray} : ∀ k, (wantN m l k).2.1 ≤ m ∧ (wantN m l k).2.2 ≤ k
  | 0 => ⟨Nat.le_refl _, Nat.le_refl _⟩
  | k + 1 => by
    have ih := wantN_le (m := m) (l := l) k
    unfold wantN
    split
    · omega
    · split
      · dsimp only; omega
      · split
        · dsimp only; omega
        · dsimp only; omega
theorem want_apps {d : DV} {G : LV} {R : List ByteArray} {m n : Nat} (h : LI d G R (List.replicate m zeroB) n) (l : List ByteArray) : ∀ k : Nat, k ≤ l.length →
    (appN G d l k).2.2 = (wantN m l k).1 ∧ LI (appN G d l k).1 (appN G d l k).2.1 (R ++ l.take (wantN m l k).2.2) (List.replicate (wantN m l k).2.1 zeroB) n
  | 0, _ => ⟨rfl, by simpa [appN, wantN] using h⟩
  | k + 1, hk => by
    obtain ⟨h1, h2⟩ := want_apps h l k (by omega)
    by_cases he : (wantN m l k).1 = 0
    · rw [appN_succ G d l k (by rw [h1]; exact he)]
      have hw := wantN_good k he
      rw [hw] at h2
      by_cases hs : 3000 < (l.getD k ByteArray.empty).size
      · have e : wantN m l (k + 1) = (2, (wantN m l k).2.1, (wantN m l k).2.2) := by
          show (if _ then _ else _) = _
          rw [if_neg (by simpa using he), if_pos hs]
        have e2 : (appN G d l k).2.1.app (appN G d l k).1 (l.getD k ByteArray.empty) = ((appN G d l k).1, (appN G d l k).2.1, 2) := by
          unfold LV.app; rw [if_pos (by omega)]
        rw [e, e2]
        dsimp only
        rw [hw]
        exact ⟨rfl, h2⟩
      · by_cases hl : (wantN m l k).2.1 < blks (l.getD k ByteArray.empty).size
        · have e : wantN m l (k + 1) = (20, (wantN m l k).2.1, (wantN m l k).2.2) := by
            show (if _ then _ else _) = _
            rw [if_neg (by simpa using he), if_neg hs, if_pos hl]
          rw [e, h2.full _ (by omega) (by rw [List.length_replicate]; omega)]
          dsimp only
          rw [hw]
          exact ⟨rfl, h2⟩
        · have e : wantN m l (k + 1) = (0, (wantN m l k).2.1 - blks (l.getD k ByteArray.empty).size, k + 1) := by
            show (if _ then _ else _) = _
            rw [if_neg (by simpa using he), if_neg hs, if_neg hl]
          obtain ⟨p1, p2, _, _⟩ := h2.app (l.getD k ByteArray.empty) (by omega) (by rw [List.length_replicate]; omega)
          rw [e]
          dsimp only
          rw [List.drop_replicate] at p2
          refine ⟨p1, ?_⟩
          rw [take_snocX (by omega), ← List.append_assoc]
          exact p2
    · have e : wantN m l (k + 1) = wantN m l k := if_pos he
      have e2 : appN G d l (k + 1) = appN G d l k := if_pos (by rw [h1]; exact he)
      rw [e, e2]
      exact ⟨h1, h2⟩
end Go.Proofs.YtjcggkfinhkcoaaGreat
