/-
  Blocks beside a disk; where the loop of the law SuperWrites stands.
-/
import Derived.Test.YtabkeggcaacldaaSuperSafe
namespace Go.Proofs.Ytabkeggcaacldaa
open Go.RowKit
set_option linter.unusedVariables false
set_option linter.unusedSimpArgs false

theorem and1023 (x : Int) : bits .and .i64 x 1023 = x % 1024 := by
  show IntKind.i64.wrap ((BitVec.ofInt 64 x &&& BitVec.ofInt 64 1023).toNat : Int) = _
  have h1 : (BitVec.ofInt 64 1023).toNat = 2 ^ 10 - 1 := rfl
  rw [BitVec.toNat_and, h1, Nat.and_two_pow_sub_one_eq_mod, BitVec.toNat_ofInt, IntKind.wrap_i64]
  omega
/-- A block beside the disk. -/
def Bes (w : World) (q t : Nat) (o : Obj) : Prop := ¬ Own w q t ∧ w.heap[t]? = some o
theorem Bes.ret {w w' : World} {q t : Nat} {o : Obj} (h : Bes w q t o) (hs : DStep q w w') : Bes w' q t o :=
  ⟨fun ho => (hs.own _ ho).elim h.1 (fun hl => by have := heap_lt h.2; omega), (hs.block _ (heap_lt h.2) h.1).trans h.2⟩
/-- Where such a block is written a disk is as it was. -/
theorem DiskAt.beside {w w' : World} {B q c t : Nat} {d : DV} {cs : Array Value} {T : TypeId} {fr : Nat × Nat} (h : DiskAt w B q c d) (ht : Bes w q t (.cells cs T fr)) (hT : T ≠ 3) (hs : w.heap.size ≤ w'.heap.size) (hb : ∀ k, k ≠ t → w'.heap[k]? = w.heap[k]?) : DiskAt w' B q c d := by
  obtain ⟨hno, hrow⟩ := ht
  obtain ⟨kv, wv, mb, lb, h⟩ := h
  have ho := h.own_iff
  obtain ⟨n, hn, hl⟩ := h.lasts
  have hq := fun k (hk : Own w q k) => hb k (fun e => hno (e ▸ hk))
  refine ⟨kv, wv, mb, lb, (hq q ((ho q).2 (.inl rfl))).trans h.blk, h.keep.step hs (fun b o s m c' e hne => ?_), h.now.step (hq mb ((ho mb).2 (.inr (.inl rfl)))), ⟨n, hn, hl.step (hq lb ((ho lb).2 (.inr (.inr (.inl rfl)))))⟩,
    own_frame h.waits (fun k hg => hq k ((ho k).2 (.inr (.inr (.inr hg))))), h.ne, h.ge, h.ok⟩
  obtain ⟨cs2, fr2, h2⟩ := h.keep.2 b o s m c' e hne
  refine hb b (fun e2 => ?_)
  rw [e2, hrow] at h2
  injection h2 with h2; injection h2 with _ h2
  exact hT h2
theorem Bes.other {w w' : World} {B q c b t : Nat} {d : DV} {o : Obj} (h : Bes w q b o) (hD : DiskAt w B q c d) (hD' : DiskAt w' B q c d) (hw : ∀ k, Own w' q k → Own w q k) (hb : w'.heap[b]? = w.heap[b]?) : Bes w' q b o := ⟨fun ho => h.1 (hw b ho), hb.trans h.2⟩
/-- Three cells of a block beside the disk are written: its own blocks are the same. -/
theorem own_set3 {w : World} {q t k : Nat} {y0 y1 y2 : Value} (hq : q ≠ t) : Own (((w.setCell ⟨t, 0, none⟩ y0).setCell ⟨t, 1, none⟩ y1).setCell ⟨t, 2, none⟩ y2) q k ↔ Own w q k := by
  have hc : ∀ i, (((w.setCell ⟨t, 0, none⟩ y0).setCell ⟨t, 1, none⟩ y1).setCell ⟨t, 2, none⟩ y2).cell? ⟨q, i, none⟩ = w.cell? ⟨q, i, none⟩ := by
    intro i
    apply World.cell?_of_block
    show _ = w.heap[q]?
    rw [set_heap_other _ hq, set_heap_other _ hq, set_heap_other _ hq]
  unfold Own
  rw [hc, hc, hc]

/-- The loop's stand. -/
structure SWAt (w0 w : World) (B q c : Nat) (d : DV) (t : Nat) (L : SV) : Prop where
  disk : DiskAt w B q c d
  bes : Bes w q t (.cells #[.int .u64 L.gen, .int .i64 L.blocks, .int .i64 L.bytes] 24)
  bel : Below w0.heap.size w0 w
  ge : w0.heap.size ≤ B ∧ w0.heap.size ≤ t
section
variable {w0 w w' : World} {B q c t : Nat} {d : DV} {L : SV}
theorem SWAt.step_ (h : SWAt w0 w B q c d t L) (hb : Below w.heap.size w w') : SWAt w0 w' B q c d t L :=
  ⟨h.disk.step hb, h.bes.ret (h.disk.dstep hb), h.bel.trans (hb.mono h.bel.size), h.ge⟩
theorem SWAt.ret {c' : Nat} {d' : DV} (h : SWAt w0 w B q c d t L) (hd : DiskAt w' B q c' d') (hs : DStep q w w') : SWAt w0 w' B q c' d' t L :=
  ⟨hd, h.bes.ret hs, h.bel.trans ((h.disk.below hs).mono h.ge.1), h.ge⟩
theorem SWAt.ne (h : SWAt w0 w B q c d t L) : q ≠ t := fun e => h.bes.1 (by rw [← e]; exact .inl rfl)
theorem SWAt.set (h : SWAt w0 w B q c d t L) (s : SV) : SWAt w0 (((w.setCell ⟨t, 0, none⟩ (.int .u64 s.gen)).setCell ⟨t, 1, none⟩ (.int .i64 s.blocks)).setCell ⟨t, 2, none⟩ (.int .i64 s.bytes)) B q c d t s := by
  have hd := h.disk.beside (w' := ((w.setCell ⟨t, 0, none⟩ (.int .u64 s.gen)).setCell ⟨t, 1, none⟩ (.int .i64 s.blocks)).setCell ⟨t, 2, none⟩ (.int .i64 s.bytes)) h.bes (by decide) (by simp) (fun k hk => by rw [set_heap_other _ hk, set_heap_other _ hk, set_heap_other _ hk])
  refine ⟨hd, ⟨fun ho => h.bes.1 ((own_set3 h.ne).1 ho), set3 h.bes.2⟩, ?_, h.ge⟩
  exact bel_set (bel_set (bel_set h.bel h.ge.2) h.ge.2) h.ge.2
/-- A block of the loop's own, beside the disk, is written. -/
theorem SWAt.fresh {b : Nat} (h : SWAt w0 w B q c d t L) (s : SV) (hb : Bes w q b (.cells #[.int .u64 0, .int .i64 0, .int .i64 0] 24)) (hbt : b ≠ t) (hge : w0.heap.size ≤ b) :
    SWAt w0 (((w.setCell ⟨b, 0, none⟩ (.int .u64 s.gen)).setCell ⟨b, 1, none⟩ (.int .i64 s.blocks)).setCell ⟨b, 2, none⟩ (.int .i64 s.bytes)) B q c d t L ∧
    Bes (((w.setCell ⟨b, 0, none⟩ (.int .u64 s.gen)).setCell ⟨b, 1, none⟩ (.int .i64 s.blocks)).setCell ⟨b, 2, none⟩ (.int .i64 s.bytes)) q b (.cells #[.int .u64 s.gen, .int .i64 s.blocks, .int .i64 s.bytes] 24) := by
  have hq : q ≠ b := fun e => hb.1 (by rw [← e]; exact .inl rfl)
  have hd := h.disk.beside (w' := ((w.setCell ⟨b, 0, none⟩ (.int .u64 s.gen)).setCell ⟨b, 1, none⟩ (.int .i64 s.blocks)).setCell ⟨b, 2, none⟩ (.int .i64 s.bytes)) hb (by decide) (by simp) (fun k hk => by rw [set_heap_other _ hk, set_heap_other _ hk, set_heap_other _ hk])
  refine ⟨⟨hd, ⟨fun ho => h.bes.1 ((own_set3 hq).1 ho), ?_⟩, bel_set (bel_set (bel_set h.bel hge) hge) hge, h.ge⟩, ⟨fun ho => hb.1 ((own_set3 hq).1 ho), set3 hb.2⟩⟩
  rw [set_heap_other _ hbt.symm, set_heap_other _ hbt.symm, set_heap_other _ hbt.symm]; exact h.bes.2
end
end Go.Proofs.Ytabkeggcaacldaa
