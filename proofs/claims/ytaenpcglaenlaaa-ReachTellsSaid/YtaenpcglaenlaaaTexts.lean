/-
  Slices of texts.
-/
import Derived.Test.YtaenpcglaenlaaaInv
namespace Go.Proofs.Ytaenpcglaenlaaa
open Go.RowKit
set_option linter.unusedVariables false
set_option linter.unusedSimpArgs false

/-- A slice of texts that may be read. -/
def TextsAt (w : World) (v : Value) (l : List ByteArray) : Prop :=
  ∃ a c, v = .slice a l.length c ∧ (∀ s ∈ l, s.size ≤ 9223372036854775807) ∧ (l.length ≤ c ∧ c ≤ 9223372036854775807) ∧
    (l ≠ [] → ∃ b o, a = some ⟨b, o, none⟩ ∧ b < w.heap.size ∧ ∀ j, j < l.length → w.cell? ⟨b, o + j, none⟩ = some (.string (l.getD j ByteArray.empty)))
theorem TextsAt.below {w w' : World} {v : Value} {l : List ByteArray} (h : TextsAt w v l) (hb : Below w.heap.size w w') : TextsAt w' v l := by
  obtain ⟨a, c, h1, h2, h3, h4⟩ := h
  refine ⟨a, c, h1, h2, h3, fun hn => ?_⟩
  obtain ⟨b, o, h5, h6, h7⟩ := h4 hn
  exact ⟨b, o, h5, Nat.lt_of_lt_of_le h6 hb.size, fun j hj => (hb.cell (p := ⟨b, o + j, none⟩) h6).trans (h7 j hj)⟩
theorem texts_new {w : World} {b c : Nat} {l : List ByteArray} {cs : Array Value} {T : TypeId} {fr : Nat × Nat} (hk : w.heap.size = b) (hcs : cs = (l.map Value.string).toArray) (hI : ∀ s ∈ l, s.size ≤ 9223372036854775807) (hlen : l.length ≤ c ∧ c ≤ 9223372036854775807) :
    TextsAt (w.alloc (.cells cs T fr)) (.slice (some ⟨b, 0, none⟩) l.length c) l := by
  subst hk
  subst hcs
  refine ⟨_, _, rfl, hI, hlen, fun _ => ⟨w.heap.size, 0, rfl, by simp, fun j hj => ?_⟩⟩
  rw [cell_of_row _ _ _ _ _ _ (heap_alloc_new w _)]; simp [hj]
def textsS (l : List ByteArray) : Spec Blw := .rel (fun v w => TextsAt w v l) (fun _ _ _ h hb => h.below hb)
theorem texts_nil (w : World) : TextsAt w (.slice none 0 0) [] := ⟨none, 0, rfl, by simp, by simp, fun h => absurd rfl h⟩
end Go.Proofs.Ytaenpcglaenlaaa
