/-
  Some lists of the call's own beside each other, and a row in which they stand; what changes in rows of one type alone.
-/
import Derived.Test.YtaenpcglaenlaaaOwn
namespace Go.Proofs.Ytaenpcglaenlaaa
open Go.RowKit
set_option linter.unusedVariables false
set_option linter.unusedSimpArgs false

/-- Of what was there rows of this type alone may have changed. -/
structure TStep (e : TypeId) (w w' : World) : Prop where
  size : w.heap.size ≤ w'.heap.size
  block : ∀ k, k < w.heap.size → (∀ (cs : Array Value) (fr : Nat × Nat), w.heap[k]? ≠ some (Obj.cells cs e fr)) → w'.heap[k]? = w.heap[k]?
section
variable {e T : TypeId} {w w' a b c : World} {B k n : Nat}
theorem TStep.keep {cs : Array Value} {fr : Nat × Nat} (h : TStep e w w') (hk : w.heap[k]? = some (.cells cs T fr)) (hT : T ≠ e) : w'.heap[k]? = some (.cells cs T fr) :=
  (h.block k (heap_lt hk) (fun cs2 fr2 e2 => by rw [hk] at e2; injection e2 with e2; injection e2 with _ e2; exact hT e2)).trans hk
theorem TStep.mk' (hs : w.heap.size ≤ w'.heap.size) (h : ∀ k, k < w.heap.size → (∀ (cs : Array Value) (fr : Nat × Nat), w.heap[k]? ≠ some (Obj.cells cs e fr)) → w'.heap[k]? = w.heap[k]?) : TStep e w w' := ⟨hs, h⟩
theorem TStep.refl (e : TypeId) (w : World) : TStep e w w := TStep.mk' (Nat.le_refl _) fun _ _ _ => rfl
theorem TStep.below (h : Below w.heap.size w w') : TStep e w w' := TStep.mk' h.size fun k hk _ => h.block k hk
theorem TStep.row {g : Nat} {cs : Array Value} {fr : Nat × Nat} (hs : w.heap.size ≤ w'.heap.size) (hg : w.heap[g]? = some (.cells cs e fr)) (h : ∀ k, k < w.heap.size → k ≠ g → w'.heap[k]? = w.heap[k]?) : TStep e w w' :=
  TStep.mk' hs fun k hk hn => h k hk (fun e2 => by subst e2; exact hn _ _ hg)
/-- A row of another type is as it was. -/
theorem TStep.other {v : Value} {xs : List Value} {s m : Nat} (h : TStep e w w') (ho : OwnL w B T s v m xs) (hT : T ≠ e) : OwnL w' B T s v m xs := ho.frame fun g hg => by
  obtain ⟨_, hlt, cur, hc⟩ := ho.lt hg
  rw [hc]; exact h.keep hc hT
/-- n lists, no two of them in one block. -/
structure Fam (w : World) (B : Nat) (e : TypeId) (k n : Nat) (vs : Nat → Value) (ns : Nat → Nat) (xs : Nat → List Value) : Prop where
  own : ∀ i, i < n → OwnL w B e k (vs i) (ns i) (xs i)
  apart : ∀ i j g, i < n → j < n → rowOf (vs i) = some g → rowOf (vs j) = some g → i = j
variable {vs : Nat → Value} {ns : Nat → Nat} {xs : Nat → List Value}
theorem Fam.frame (h : Fam w B e k n vs ns xs) (hh : ∀ i g, i < n → rowOf (vs i) = some g → w'.heap[g]? = w.heap[g]?) : Fam w' B e k n vs ns xs :=
  ⟨fun i hi => (h.own i hi).frame fun g hg => hh i g hi hg, h.apart⟩
theorem Fam.below (h : Fam w B e k n vs ns xs) (hb : Below w.heap.size w w') : Fam w' B e k n vs ns xs := h.frame fun i g hi hg => hb.block g ((h.own i hi).lt hg).2.1
theorem Fam.other (h : Fam w B T k n vs ns xs) (hs : TStep e w w') (hT : T ≠ e) : Fam w' B T k n vs ns xs := ⟨fun i hi => hs.other (h.own i hi) hT, h.apart⟩
/-- One of them has turned. -/
theorem Fam.turn {i0 : Nat} {ms : Nat → Nat} {ys : Nat → List Value} (h : Fam w B e k n vs ns xs) (hi : i0 < n) (h0 : OwnL w' B e k (vs i0) (ms i0) (ys i0)) (hn : ∀ i, i ≠ i0 → ms i = ns i ∧ ys i = xs i)
    (hh : ∀ g, g < w.heap.size → rowOf (vs i0) ≠ some g → w'.heap[g]? = w.heap[g]?) : Fam w' B e k n vs ms ys := by
  refine ⟨fun i hi' => ?_, h.apart⟩
  by_cases hii : i = i0
  · subst hii; exact h0
  · rw [(hn i hii).1, (hn i hii).2]
    exact (h.own i hi').frame fun g hg => hh g ((h.own i hi').lt hg).2.1 (fun e2 => hii (h.apart i i0 g hi' hi hg e2))
/-- One more, in a block of its own or in none. -/
theorem Fam.snoc {v : Value} {m : Nat} {zs : List Value} {vs' : Nat → Value} {ms : Nat → Nat} {ys : Nat → List Value} (h : Fam w B e k n vs ns xs) (h0 : OwnL w B e k v m zs) (hv : vs' n = v ∧ ms n = m ∧ ys n = zs)
    (hn : ∀ i, i < n → vs' i = vs i ∧ ms i = ns i ∧ ys i = xs i) (ha : ∀ i g, i < n → rowOf (vs i) = some g → rowOf v ≠ some g) : Fam w B e k (n + 1) vs' ms ys := by
  refine ⟨fun i hi => ?_, fun i j g hi hj h1 h2 => ?_⟩
  · by_cases hin : i = n
    · subst hin; rw [hv.1, hv.2.1, hv.2.2]; exact h0
    · obtain ⟨a, b, c⟩ := hn i (by omega)
      rw [a, b, c]; exact h.own i (by omega)
  · by_cases hin : i = n
    · by_cases hjn : j = n
      · omega
      · subst hin
        rw [hv.1] at h1
        rw [(hn j (by omega)).1] at h2
        exact absurd h1 (ha j g (by omega) h2)
    · by_cases hjn : j = n
      · subst hjn
        rw [hv.1] at h2
        rw [(hn i (by omega)).1] at h1
        exact absurd h2 (ha i g (by omega) h1)
      · rw [(hn i (by omega)).1] at h1
        rw [(hn j (by omega)).1] at h2
        exact h.apart i j g (by omega) (by omega) h1 h2
theorem Fam.none (w : World) (B : Nat) (e : TypeId) (k : Nat) (vs : Nat → Value) (ns : Nat → Nat) (xs : Nat → List Value) : Fam w B e k 0 vs ns xs := ⟨fun i hi => by omega, fun i j g hi => by omega⟩
/-- A store into one of them. -/
theorem OwnL.set {v : Value} {zs : List Value} {j g c : Nat} {u : Value} (h : OwnL w B e 1 v n zs) (hv : v = .slice (some ⟨g, 0, none⟩) n c) (hj : j < n) (hu : u.oneCell' = true) : OwnL (w.setCell ⟨g, j, none⟩ u) B e 1 v n (zs.set j u) := by
  refine ⟨by rw [List.length_set]; exact h.1, ?_⟩
  rcases h.2 with ⟨a, rfl, rfl⟩ | ⟨g', cap, cur, rfl, h0, h1, h2, h3, h4, h5, h6⟩
  · omega
  · injection hv with e1 _ e2
    injection e1 with e1; injection e1 with e1
    subst e1
    subst e2
    refine .inr ⟨g', cap, cur.setIfInBounds j u, rfl, h0, h1, set_heap h2 u, h3, h4, by simpa using h5, ?_⟩
    rw [← h6, Array.toList_setIfInBounds, List.take_set]
theorem rowAt {i : Nat} {lv : Value} {L : TypeId} (h : OwnL w B L 1 lv n ((List.range n).map vs)) (hi : i < n) : ∃ g c, lv = .slice (some ⟨g, 0, none⟩) n c ∧ n ≤ c ∧ c ≤ 9223372036854775807 ∧ g < w.heap.size ∧ w.cell? ⟨g, i, none⟩ = some (vs i) := by
  obtain ⟨g, c, rfl, h0, h1, h2, _, h3, _, _, h4⟩ := h.cells (by omega)
  refine ⟨g, c, rfl, h1, h2, h3, ?_⟩
  rw [h4 i (by omega)]
  simp [hi]
theorem upd_map {f g : Nat → Value} {m : Nat} (h : ∀ i, i < m → f i = g i) : (List.range m).map f = (List.range m).map g := List.map_congr_left fun i hi => h i (by simpa using hi)
theorem range_snoc (f : Nat → Value) (m : Nat) : (List.range (m + 1)).map f = (List.range m).map f ++ [f m] := by rw [List.range_succ]; simp
theorem grown_below {row : Option Nat} (h : w.grownBy w' row) (hB : B ≤ w.heap.size) (hr : ∀ g, row = some g → B ≤ g) : Below B w w' :=
  Below.grown (Below.refl _ _) h hB hr
end
theorem frozen_step {w w' : World} {p : Addr} (h : p.block < w.heap.size) (hb : Below w.heap.size w w') : w'.frozen? p = w.frozen? p := World.frozen?_of_block (hb.block p.block h)
theorem grown_of_below {w w' : World} {row : Option Nat} (h : Below w.heap.size w w') : w.grownBy w' row := ⟨h.os, h.tape, h.output, h.size, fun k hk _ => h.block k hk⟩
theorem ownsRow_mono {w : World} {B C k n : Nat} {e : TypeId} {v : Value} {xs : List Value} (h : w.ownsRow B e k v n xs) (hC : C ≤ B) : w.ownsRow C e k v n xs := by
  refine ⟨h.1, ?_⟩
  rcases h.2 with h2 | ⟨g, cap, cur, h2, h3, h4⟩
  · exact .inl h2
  · exact .inr ⟨g, cap, cur, h2, by omega, h4⟩
theorem TStep.trans {e : TypeId} {a b c : World} (h : TStep e a b) (k : TStep e b c) : TStep e a c := by
  refine TStep.mk' (Nat.le_trans h.size k.size) fun j hj hn => ?_
  have h1 := h.block j hj hn
  exact (k.block j (Nat.lt_of_lt_of_le hj h.size) (fun cs fr e => hn cs fr (h1 ▸ e))).trans h1
theorem set_step {α : Type} {M L : List α} {k : Nat} {x : α} (h : M.length = L.length) (hk : k < L.length) (hx : M[k]? = some x) : (M.take k ++ L.drop k).set k x = M.take (k + 1) ++ L.drop (k + 1) := by
  apply List.ext_getElem?
  intro i
  have h1 : (M.take k).length = k := by rw [List.length_take]; omega
  have h2 : (M.take (k + 1)).length = k + 1 := by rw [List.length_take]; omega
  rw [List.getElem?_set]
  by_cases hik : k = i
  · subst hik
    rw [if_pos rfl, if_pos (by rw [List.length_append, h1, List.length_drop]; omega), List.getElem?_append_left (by omega), List.getElem?_take, if_pos (by omega), hx]
  · rw [if_neg hik]
    by_cases hlt : i < k
    · rw [List.getElem?_append_left (by omega), List.getElem?_append_left (by omega), List.getElem?_take, List.getElem?_take, if_pos hlt, if_pos (by omega)]
    · rw [List.getElem?_append_right (by omega), List.getElem?_append_right (by omega), h1, h2, List.getElem?_drop, List.getElem?_drop]
      congr 1; omega
def snocF {α : Type} (f : Nat → α) (n : Nat) (x : α) : Nat → α := fun i => if i = n then x else f i
theorem snocF_last {α : Type} (f : Nat → α) (n : Nat) (x : α) : snocF f n x n = x := if_pos rfl
theorem snocF_old {α : Type} (f : Nat → α) {n i : Nat} (x : α) (h : i < n) : snocF f n x i = f i := if_neg (by omega)
theorem snocF_row (f : Nat → Value) (n : Nat) (x : Value) : (List.range (n + 1)).map (snocF f n x) = (List.range n).map f ++ [x] := by
  rw [range_snoc, snocF_last, upd_map (g := f) (fun k hk => snocF_old f x hk)]
end Go.Proofs.Ytaenpcglaenlaaa
