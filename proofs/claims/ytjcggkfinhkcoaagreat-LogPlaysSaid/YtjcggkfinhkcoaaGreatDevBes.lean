/-
  Blocks beside a disk.
-/
import Derived.Test.YtjcggkfinhkcoaaGreatDev5
namespace Go.Proofs.YtjcggkfinhkcoaaGreat
open Go.RowKit
set_option linter.unusedVariables false
set_option linter.unusedSimpArgs false

theorem own_old {w w' : World} {B p c : Nat} {d : DV} (h : DiskAt w B p c d) (hb : Below w.heap.size w w') {g : Nat} (hg : w.heap.size ≤ g) : ¬ Own w' p g := by
  obtain ⟨kv, wv, mb, lb, h⟩ := h
  intro ho
  rcases ((h.step hb).own_iff _).1 ho with e | e | e | e
  · have := h.lt; omega
  · have := h.now.lt; omega
  · obtain ⟨n, _, hl⟩ := h.lasts; have := hl.lt; omega
  · have := (own_row h.waits e).2.1; omega
theorem cut_writes (d : DV) (keep : List Int) : (d.cut keep).writes = d.writes := by unfold DV.cut; split <;> rfl
theorem flush_writes (d : DV) : d.writes ≤ d.flush.1.writes ∧ d.flush.1.writes ≤ d.writes + 1 := by
  unfold DV.flush
  split
  · exact ⟨Int.le_refl _, by show d.writes ≤ d.writes + 1; omega⟩
  · split
    · show d.writes ≤ (d.cut d.keep).writes ∧ (d.cut d.keep).writes ≤ d.writes + 1
      rw [cut_writes]; omega
    · show d.writes ≤ d.writes + 1 ∧ d.writes + 1 ≤ d.writes + 1; omega
theorem write_writes (d : DV) (k : Int) (s : ByteArray) : d.writes ≤ (d.write k s).1.writes ∧ (d.write k s).1.writes ≤ d.writes + 1 := by
  unfold DV.write
  split
  · exact ⟨Int.le_refl _, by show d.writes ≤ d.writes + 1; omega⟩
  · split
    · exact ⟨Int.le_refl _, by show d.writes ≤ d.writes + 1; omega⟩
    · split
      · exact ⟨Int.le_refl _, by show d.writes ≤ d.writes + 1; omega⟩
      · split
        · show d.writes ≤ (d.cut d.keep).writes ∧ (d.cut d.keep).writes ≤ d.writes + 1
          rw [cut_writes]; omega
        · show d.writes ≤ d.writes + 1 ∧ d.writes + 1 ≤ d.writes + 1; omega
/-- A block beside the disk. -/
def Bes (w : World) (q t : Nat) (o : Obj) : Prop := ¬ Own w q t ∧ w.heap[t]? = some o
theorem Bes.ret {w w' : World} {q t : Nat} {o : Obj} (h : Bes w q t o) (hs : DStep q w w') : Bes w' q t o :=
  ⟨fun ho => (hs.own _ ho).elim h.1 (fun hl => by have := heap_lt h.2; omega), (hs.block _ (heap_lt h.2) h.1).trans h.2⟩
/-- Where such a block is written a disk is as it was. -/
theorem DiskAt.beside {w w' : World} {B q c t : Nat} {d : DV} {cs : Array Value} {T : TypeId} {fr : Nat × Nat} (h : DiskAt w B q c d) (ht : Bes w q t (.cells cs T fr)) (hT : T ≠ 3) (hs : w.heap.size ≤ w'.heap.size) (hb : ∀ k, k ≠ t → w'.heap[k]? = w.heap[k]?) : DiskAt w' B q c d := by
  obtain ⟨hno, hrow⟩ := ht
  obtain ⟨kv, wv, mb, lb, h⟩ := h
  have ho := h.own_iff
  obtain ⟨n, hn, hl⟩ := h.lasts
  have hq := fun k (hk : Own w q k) => hb k (fun e => hno (e ▸ hk))
  refine ⟨kv, wv, mb, lb, (hq q ((ho q).2 (.inl rfl))).trans h.blk, h.keep.step hs (fun b o s m c' e hne => ?_), h.now.step (hq mb ((ho mb).2 (.inr (.inl rfl)))), ⟨n, hn, hl.step (hq lb ((ho lb).2 (.inr (.inr (.inl rfl)))))⟩,
    own_frame h.waits (fun k hg => hq k ((ho k).2 (.inr (.inr (.inr hg))))), h.ne, h.ge, h.ok⟩
  obtain ⟨cs2, fr2, h2⟩ := h.keep.2 b o s m c' e hne
  refine hb b (fun e2 => ?_)
  rw [e2, hrow] at h2
  injection h2 with h2; injection h2 with _ h2
  exact hT h2
/-- A cell of a block beside the disk is written: its own blocks are the same. -/
theorem own_set1 {w : World} {q t k i : Nat} {y : Value} (hq : q ≠ t) : Own (w.setCell ⟨t, i, none⟩ y) q k ↔ Own w q k := by
  have hc : ∀ j, (w.setCell ⟨t, i, none⟩ y).cell? ⟨q, j, none⟩ = w.cell? ⟨q, j, none⟩ := by
    intro j
    apply World.cell?_of_block
    show _ = w.heap[q]?
    rw [set_heap_other _ hq]
  unfold Own
  rw [hc, hc, hc]
theorem Bes.ne {w : World} {q t : Nat} {o : Obj} (h : Bes w q t o) : q ≠ t := fun e => h.1 (by rw [← e]; exact .inl rfl)
end Go.Proofs.YtjcggkfinhkcoaaGreat
