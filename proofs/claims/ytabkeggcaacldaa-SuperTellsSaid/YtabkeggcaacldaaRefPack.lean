/-
  The contracts of sedimentref1.Packer, whose bytes may lie ahead of it.
-/
import Derived.Test.YtabkeggcaacldaaPack
import Derived.Test.YtabkeggcaacldaaAppMake
import Derived.Test.YtabkeggcaacldaaRegion
namespace Go.Proofs.Ytabkeggcaacldaa
open Go.RowKit
set_option linter.unusedVariables false
set_option linter.unusedSimpArgs false

/-- A Packer lies in block p: its error, and the bytes that it has. -/
def RPackAt (w : World) (B p : Nat) (e : Int) (l : List UInt8) : Prop :=
  B ≤ p ∧ ∃ vb, w.heap[p]? = some (.cells #[vb, .int .i64 e] 70) ∧ w.ownsRow B 5 1 vb l.length (l.map byteV)

theorem RPackAt.lt {w : World} {B p : Nat} {e : Int} {l : List UInt8} (h : RPackAt w B p e l) : p < w.heap.size := by
  obtain ⟨_, vb, h1, _⟩ := h; exact heap_lt h1
theorem RPackAt.keep {w w' : World} {B p : Nat} {e : Int} {l : List UInt8} (h : RPackAt w B p e l) (hb : Below w.heap.size w w') : RPackAt w' B p e l := by
  obtain ⟨h0, vb, h1, h2⟩ := h
  exact ⟨h0, vb, heap_step h1 hb, h2.kept (row := none) ⟨hb.os, hb.tape, hb.output, hb.size, fun k hk _ => hb.block k hk⟩ (by cases h : vb.ownBlock <;> simp)⟩

/-- The block in which a Packer's bytes lie. -/
def RRowOf (w : World) (p k : Nat) : Prop := ∃ vb, w.cell? ⟨p, 0, none⟩ = some vb ∧ vb.ownBlock = some k
/-- As a Packer, or a Packer whose bytes are a full row that bears a mark. -/
def RPackD (w : World) (B p : Nat) (l : List UInt8) : Prop := RPackAt w B p 0 l ∨ (B ≤ p ∧ ∃ g fr, w.heap[p]? = some (.cells #[.slice (some ⟨g, 0, none⟩) l.length l.length, .int .i64 0] 70) ∧ B ≤ g ∧ w.heap[g]? = some (.cells (l.map byteV).toArray 5 fr))
theorem RPackD.one {w : World} {B p : Nat} {l : List UInt8} (h : RPackD w B p l) : B ≤ p ∧ ∃ vb, w.heap[p]? = some (.cells #[vb, .int .i64 0] 70) ∧ vb.ownBlock ≠ some p ∧ (∀ k, vb.ownBlock = some k → B ≤ k ∧ k < w.heap.size) ∧
    (w.ownsRow B 5 1 vb l.length (l.map byteV) ∨ ∃ g, vb = .slice (some ⟨g, 0, none⟩) l.length l.length ∧ ∀ j u, (l.map byteV)[j]? = some u → w.cell? ((⟨g, 0, none⟩ : Addr).add j) = some u) := by
  rcases h with ⟨h0, vb, h1, h2⟩ | ⟨h0, g, fr, h1, h2, h3⟩
  · exact ⟨h0, vb, h1, own_ne h2 h1 (by decide), fun k hk => h2.lt k hk, .inl h2⟩
  · refine ⟨h0, _, h1, ?_, ?_, .inr ⟨g, rfl, ?_⟩⟩
    · intro e; have e : g = p := by simpa [Value.ownBlock] using e
      rw [e, h1] at h3; injection h3 with h3; injection h3 with _ h3; exact absurd h3 (by decide)
    · intro k hk; have e : g = k := by simpa [Value.ownBlock] using hk
      subst e; exact ⟨h2, heap_lt h3⟩
    · exact World.news_of_block (cs := (l.map byteV).toArray) h3
/-- Of what was there a Packer's own two blocks alone may have changed; its bytes lie where they lay, or in a new block. -/
structure RPackStep (p : Nat) (w w' : World) : Prop where
  os : w'.os = w.os
  tape : w'.tape = w.tape
  output : w'.output = w.output
  size : w.heap.size ≤ w'.heap.size
  block : ∀ k, k < w.heap.size → k ≠ p → ¬ RRowOf w p k → w'.heap[k]? = w.heap[k]?
  row : ∀ k, RRowOf w' p k → RRowOf w p k ∨ w.heap.size ≤ k
theorem RPackStep.refl (p : Nat) (w : World) : RPackStep p w w := ⟨rfl, rfl, rfl, Nat.le_refl _, fun _ _ _ _ => rfl, fun _ h => .inl h⟩
theorem RPackStep.trans {p : Nat} {a b c : World} (h : RPackStep p a b) (k : RPackStep p b c) : RPackStep p a c :=
  ⟨k.os.trans h.os, k.tape.trans h.tape, k.output.trans h.output, Nat.le_trans h.size k.size,
    fun i hi hp hr => (k.block i (Nat.lt_of_lt_of_le hi h.size) hp (fun hr' => (h.row i hr').elim hr (fun h' => by omega))).trans (h.block i hi hp hr),
    fun i hr => (k.row i hr).elim (h.row i) (fun h' => .inr (Nat.le_trans h.size h'))⟩
theorem RPackStep.of_below {p : Nat} {w w' : World} (h : Below w.heap.size w w') (hp : p < w.heap.size) : RPackStep p w w' :=
  ⟨h.os, h.tape, h.output, h.size, fun k hk _ _ => h.block k hk, fun k ⟨vb, h1, h2⟩ => .inl ⟨vb, (h.cell (p := ⟨p, 0, none⟩) hp) ▸ h1, h2⟩⟩
theorem RPackD.below {B p : Nat} {w w' : World} {l : List UInt8} (hP : RPackD w B p l) (h : RPackStep p w w') : Below B w w' := by
  obtain ⟨h0, vb, h1, _, h2, _⟩ := hP.one
  refine ⟨h.os, h.tape, h.output, h.size, fun k hk => h.block k (by have := heap_lt h1; omega) (by omega) (fun ⟨u, hu, hk2⟩ => ?_)⟩
  rw [cell_of_row w p _ _ _ _ h1] at hu
  obtain rfl : vb = u := by simpa using hu
  have := h2 k hk2; omega
theorem RPackAt.row {w : World} {B p k : Nat} {e : Int} {l : List UInt8} (h : RPackAt w B p e l) (hr : RRowOf w p k) : B ≤ k ∧ k ≠ p ∧ k < w.heap.size := by
  obtain ⟨h0, vb, h1, h2⟩ := h
  obtain ⟨vb', h3, h4⟩ := hr
  rw [cell_of_row w p _ _ _ _ h1] at h3
  obtain rfl : vb = vb' := by simpa using h3
  have := h2.lt k h4
  have hne : k ≠ p := fun e1 => own_ne h2 h1 (by decide) (e1 ▸ h4)
  omega
theorem RPackStep.below {B p : Nat} {w w' : World} {e : Int} {l : List UInt8} (h : RPackStep p w w') (hP : RPackAt w B p e l) : Below B w w' :=
  ⟨h.os, h.tape, h.output, h.size, fun k hk => h.block k (by have := hP.lt; have := hP.1; omega) (by have := hP.1; omega) (fun hr => by have := hP.row hr; omega)⟩
/-- A block that is none of a Packer's. -/
def RFree (w : World) (p b : Nat) : Prop := b < w.heap.size ∧ b ≠ p ∧ ¬ RRowOf w p b
theorem RFree.step {p b : Nat} {w w' : World} (h : RFree w p b) (hs : RPackStep p w w') : RFree w' p b :=
  ⟨Nat.lt_of_lt_of_le h.1 hs.size, h.2.1, fun hr => (hs.row b hr).elim h.2.2 (fun h' => by have := h.1; omega)⟩
theorem RFree.heap {p b : Nat} {w w' : World} (h : RFree w p b) (hs : RPackStep p w w') : w'.heap[b]? = w.heap[b]? := hs.block b h.1 h.2.1 h.2.2
theorem RFree.new {w : World} {B p : Nat} {e : Int} {l : List UInt8} (hP : RPackAt w B p e l) (o : Obj) : RFree (w.alloc o) p w.heap.size := by
  refine ⟨by simp, by have := hP.lt; omega, fun hr => ?_⟩
  have := (hP.keep (bel_alloc (o := o) (Below.refl _ _) (Nat.le_refl _)))
  obtain ⟨vb, h1, h2⟩ := hr
  have h3 : RRowOf w p w.heap.size := ⟨vb, by rw [← h1]; exact ((bel_alloc (o := o) (Below.refl _ w) (Nat.le_refl _)).cell (p := ⟨p, 0, none⟩) hP.lt).symm, h2⟩
  have := hP.row h3
  omega

theorem grown_alloc {w w1 : World} {o : Obj} {r : Option Nat} (h : (w.alloc o).grownBy w1 r) : w.grownBy w1 r :=
  ⟨h.os, h.tape, h.output, by have := h.size; simp at this; omega, fun k hk hne => by rw [h.block k (by simp; omega) hne, Below.heap_alloc _ _ _ hk]⟩
theorem rpack_put {wr w1 : World} {B p : Nat} {e : Int} {vb v' : Value} {l bs : List UInt8} (hB : B ≤ p) (hblk : wr.heap[p]? = some (.cells #[vb, .int .i64 e] 70)) (hne : vb.ownBlock ≠ some p)
    (hown1 : w1.ownsRow B 5 1 v' (l.length + bs.length) (l.map byteV ++ bs.map byteV)) (hg : wr.grownBy w1 vb.ownBlock) (hv' : v'.ownBlock = vb.ownBlock ∨ ∃ g, v'.ownBlock = some g ∧ wr.heap.size ≤ g) :
    w1.heap[p]? = some (.cells #[vb, .int .i64 e] 70) ∧ RPackAt (w1.setCell ⟨p, 0, none⟩ v') B p e (l ++ bs) ∧ RPackStep p wr (w1.setCell ⟨p, 0, none⟩ v') := by
  have hp := heap_lt hblk
  have h1 : w1.heap[p]? = some (.cells #[vb, .int .i64 e] 70) := by
    rw [hg.block p hp (fun h => hne h.symm)]; exact hblk
  have h2 : (w1.setCell ⟨p, 0, none⟩ v').heap[p]? = some (.cells #[v', .int .i64 e] 70) := by rw [set_heap h1]; rfl
  refine ⟨h1, ⟨hB, v', h2, ?_⟩, ?_⟩
  · rw [List.length_append, List.map_append]
    exact hown1.kept (row := some p) ⟨rfl, rfl, rfl, by simp [World.setCell], fun k hk hne => set_heap_other _ (fun h => hne (by simp [h]))⟩ (.inr (own_ne hown1 h1 (by decide)))
  · have hsz := hg.size
    have hc : wr.cell? ⟨p, 0, none⟩ = some vb := by rw [cell_of_row wr p _ _ _ _ hblk]; rfl
    refine ⟨hg.os, hg.tape, hg.output, by simp [World.setCell] at hsz ⊢; omega, fun k hk hkp hr => ?_, fun k ⟨u, hu, hk⟩ => ?_⟩
    · rw [set_heap_other _ hkp, hg.block k hk (fun e1 => hr ⟨vb, hc, e1.symm⟩)]
    · rw [cell_of_row _ p _ _ _ _ h2] at hu
      obtain rfl : v' = u := by simpa using hu
      rcases hv' with h' | ⟨g, h', hle⟩
      · exact .inl ⟨vb, hc, by rw [← h']; exact hk⟩
      · rw [h'] at hk; obtain rfl : g = k := by simpa using hk
        exact .inr hle


set_option maxRecDepth 100000 in
set_option maxHeartbeats 1000000 in
theorem rword_any (B p n : Nat) (v : Int) (l : List UInt8) (w : World) (hP : RPackD w B p l) (h0n : 0 < n) (hv0 : 0 ≤ v) (hv1 : v ≤ 18446744073709551615) (hn : l.length + n ≤ 1000000) :
    Calls Try.prog 31 #[.pointer (some ⟨p, 0, none⟩), .int .u64 v, .int .i64 n] w (fun e' w' => e' = .returned (.tuple #[]) ∧ RPackAt w' B p 0 (l ++ lowBytes v n) ∧ RPackStep p w w') := by
  obtain ⟨i0, hi, hz0, hz1, hz2⟩ := info_parts info_u8
  have HV := Lib.hid (And.intro hv0 hv1)
  have HP := Lib.hid hP
  have HN := Lib.hid hn
  have hnn : (n : Int) ≤ 1000000 := by omega
  clear hP hv0 hv1 hn
  go_enter Try.func31, Try.ntmps31
  go_wp2
  go_loopw [6, 1] (fun i x wr => ∃ (k : Nat) (X : Int), k ≤ n ∧ i = .int .i64 k ∧ x = .int .u64 X ∧ Hid (X = shr8 v k) ∧ (0 ≤ X ∧ X ≤ 18446744073709551615) ∧ Hid (RPackD wr B p (l ++ lowBytes v k) ∧ (0 < k → RPackAt wr B p 0 (l ++ lowBytes v k))) ∧ RPackStep p w wr) (fun i _ _ => n - (intOf i).toNat)
  case atStart => exact ⟨0, v, Nat.zero_le _, rfl, rfl, Lib.hid rfl, HV.out, Lib.hid ⟨by simpa [lowBytes] using HP.out, fun h => absurd h (by decide)⟩, RPackStep.refl _ _⟩
  case round =>
    obtain ⟨k, X, hk, rfl, rfl, HX, hX, HPk, hnx⟩ := hrel
    by_cases hlt : k < n
    · obtain ⟨L, hL⟩ : ∃ L, L = l ++ lowBytes v k := ⟨_, rfl⟩
      rw [← hL] at HPk
      obtain ⟨hBp, vb, hblk, hne, hlk, hown⟩ := HPk.out.1.one
      have c1 : wr.cell? ⟨p, 0, none⟩ = some vb := by rw [cell_of_row wr p _ _ _ _ hblk]; rfl
      have c2 : wr.cell? ⟨p, 1, none⟩ = some (.int .i64 0) := by rw [cell_of_row wr p _ _ _ _ hblk]; rfl
      have HB := Lib.hid hblk
      have HO := Lib.hid hown
      have hsz := heap_lt hblk
      have hlen : L.length ≤ 1000000 - 1 := by have := HN.out; rw [hL, List.length_append, lowBytes_length]; omega
      have HL := Lib.hid hL
      have HS := Lib.hid (lowBytes_succ k v)
      have HS2 := Lib.hid (shr8_succ k v)
      have b0 := Lib.hid (byteV_of X)
      clear hblk hown hL
      have hown' : ∃ g cp w1, (Builtin.append_ #[37, 37] 37 #[vb, .slice (some ⟨wr.heap.size, 0, none⟩) 1 1]).run Try.prog (wr.alloc (.cells #[.int .u8 (X % 256)] 5)) = .ok (.slice (some ⟨g, 0, none⟩) (L.length + 1) cp) w1 ∧
          w1.ownsRow B 5 1 (.slice (some ⟨g, 0, none⟩) (L.length + 1) cp) (L.length + 1) (L.map byteV ++ [.int .u8 (X % 256)]) ∧ (wr.alloc (.cells #[.int .u8 (X % 256)] 5)).grownBy w1 vb.ownBlock ∧ (vb.ownBlock = some g ∨ g = wr.heap.size + 1) := by
        rcases HO.out with hown | ⟨g, rfl, hcells⟩
        · obtain ⟨g, cp, w1, h1, h2, h3, h4, _⟩ := run_append_lies (P := Try.prog) (wr.alloc (.cells #[.int .u8 (X % 256)] 5)) 37 37 B 5 i0 (.int .u8 0) 1 1 Try.underlying37 hi hz0 hz1 hz2 rfl (by decide) _ _ _ (hown.alloc _) ⟨wr.heap.size, 0, none⟩ 1 1 [.int .u8 (X % 256)] rfl (one_cell _ _ _) (by simp [Value.oneCell']) (by decide) (by unfold maxLen; omega) (by omega) (by simp; omega) (wr.heap.size + 1) (by simp)
          exact ⟨g, cp, w1, h1, h2, h3, h4⟩
        · have hgl : g < wr.heap.size := (hlk g rfl).2
          have hr := run_append_grow (P := Try.prog) (wr.alloc (.cells #[.int .u8 (X % 256)] 5)) 37 37 5 i0 (.int .u8 0) Try.underlying37 hi hz0 ⟨g, 0, none⟩ L.length L.length (L.map byteV) (by rw [hz1]; simp) (fun j u hj => by
              have := hcells j u hj
              rw [← this]
              exact (bel_new wr _).cell (by have e : ((⟨g, 0, none⟩ : Addr).add j).block = g := by unfold Addr.add; split <;> simp_all
                                            rw [e]; exact hgl)) ⟨wr.heap.size, 0, none⟩ 1 1 [.int .u8 (X % 256)] (by rw [hz1]; rfl) (one_cell _ _ _) (by omega) (by omega) (growslice_fits (by omega) (by rw [hz2]; omega))
          refine ⟨_, _, _, hr, ⟨by simp, .inr ⟨_, _, _, rfl, by simp; omega, heap_alloc_new _ _, grownCap_ge _ _ _ _, grownCap_le_maxLen _ _ _ _ (by unfold maxLen; omega), ?_, ?_⟩⟩, ⟨rfl, rfl, rfl, by simp, fun k hk _ => heap_alloc_old _ _ hk⟩, .inr (by simp)⟩
          · have := grownCap_ge (wr.alloc (.cells #[.int .u8 (X % 256)] 5)) (L.length + 1) L.length 5
            simp [size_zeroCells, Value.cells]; omega
          · simp only [Array.toList_append, List.append_assoc]
            rw [← List.append_assoc, show (L.length + 1) * 1 = (L.map byteV ++ [Value.int .u8 (X % 256)]).length by simp]
            exact List.take_left
      obtain ⟨g, cp, w1, hrun, hown1, hg, hat⟩ := hown'
      rw [b0.out] at hown1
      obtain ⟨hblk1, hP', hbel⟩ := rpack_put (l := L) (bs := [UInt8.ofNat (X % 256).toNat]) hBp HB.out hne hown1 (grown_alloc hg) (hat.elim (fun h => .inl h.symm) (fun h => .inr ⟨g, rfl, by omega⟩))
      have HP' := Lib.hid hP'
      have hbel' := hnx.trans hbel
      have d1 : w1.cell? ⟨p, 0, none⟩ = some vb := by rw [cell_of_row w1 p _ _ _ _ hblk1]; rfl
      have f1 := frozen_row (o := 0) hblk1
      clear hown1 hg hat hblk1 hP' hbel b0 hne hlk HO
      go_wp2_with (at_builtin; refine Lib.wpList_append_run _ rfl (.tmp 23) (.tmp 27) 37 37 rfl _ _ rfl rfl _ _ hrun ?_)
      go_roundw
      case rel =>
        refine ⟨k + 1, _, by omega, by go_num, rfl, Lib.hid (by rw [HS2.out, ← HX.out]), by omega, Lib.hid ?_, hbel'⟩
        rw [HS.out, ← List.append_assoc, ← HL.out, ← HX.out]; exact ⟨.inl HP'.out, fun _ => HP'.out⟩
      case measure => simp [intOf]; omega
    · have hkn : k = n := by omega
      subst hkn
      go_wp2
      go_end0
      exact ⟨rfl, HPk.out.2 h0n, hnx⟩

set_option maxRecDepth 100000 in
set_option maxHeartbeats 1000000 in
theorem rint_any (B p : Nat) (v : Int) (l : List UInt8) (w : World) (hP : RPackAt w B p 0 l) (hn : l.length + 8 ≤ 1000000) :
    Calls Try.prog 32 #[.pointer (some ⟨p, 0, none⟩), .int .i64 v] w (fun e' w' => e' = .returned (.tuple #[]) ∧ RPackAt w' B p 0 (l ++ lowBytes (u64of v) 8) ∧ RPackStep p w w') := by
  have HP := Lib.hid hP
  have HN := Lib.hid hn
  have HE := Lib.hid (u64_wrapd v)
  clear hP hn
  go_enter Try.func32, Try.ntmps32
  go_wp2_with fail
  rw [HE.out]
  refine (rword_any B p 8 _ _ _ (.inl HP.out) (by decide) (by unfold u64of; omega) (by unfold u64of; omega) HN.out).mono ?_
  rintro e w1 ⟨rfl, hP1, hs⟩
  have HP1 := Lib.hid hP1
  clear hP1
  go_wp2
  go_end0
  exact ⟨rfl, HP1.out, hs⟩


/-- Whether a list of zeros is one of bytes. -/
theorem zero_cells (m : Nat) : (Builtin.zeroCells (Value.int .u8 0).cells m).toList = (List.replicate m (0 : UInt8)).map byteV := by
  apply List.ext_getElem?
  intro i
  simp [Builtin.zeroCells, Value.cells, byteV, List.getElem?_replicate]
  rw [show (fun (j : Nat) => ([Value.int IntKind.u8 0][j % 1]?).getD default) = fun _ => Value.int .u8 0 from funext fun j => by rw [Nat.mod_one]; rfl]
  by_cases h : i < m <;> simp [h]
set_option maxRecDepth 100000 in
set_option maxHeartbeats 1000000 in
theorem rfill_any (B p n : Nat) (l : List UInt8) (w : World) (hP : RPackAt w B p 0 l) (h0 : 0 < l.length) (hn : l.length < n) (hz : n ≤ 60000) :
    Calls Try.prog 33 #[.pointer (some ⟨p, 0, none⟩), .int .i64 n] w (fun e' w' => e' = .returned (.tuple #[]) ∧ RPackAt w' B p 0 (l ++ List.replicate (n - l.length) 0) ∧ RPackStep p w w') := by
  obtain ⟨i0, hi, hz0, hz1, hz2⟩ := info_parts info_u8
  have HP := Lib.hid hP
  obtain ⟨hBp, vb, hblk, hown⟩ := hP
  obtain ⟨g, ca, rfl, hg1, hg2⟩ := hown.form h0
  have c1 : w.cell? ⟨p, 0, none⟩ = some (.slice (some ⟨g, 0, none⟩) l.length ca) := by rw [cell_of_row w p _ _ _ _ hblk]; rfl
  have c2 : w.cell? ⟨p, 1, none⟩ = some (.int .i64 0) := by rw [cell_of_row w p _ _ _ _ hblk]; rfl
  have hn' : (n : Int) ≤ 60000 := by omega
  have hl' : (l.length : Int) < n := by omega
  have hown' : w.drew.ownsRow B 5 1 (.slice (some ⟨g, 0, none⟩) l.length ca) l.length (l.map byteV) := hown
  obtain ⟨g', cap', w1, hr, hown1, hgr, hor⟩ := run_append_own_zeros (P := Try.prog) w.drew B 37 3 37 5 i0 (.int .u8 0) .i64 .i64 1 1 Try.underlying37 Try.underlying3 hi hz0 hz1 hz2 rfl (by decide) _ _ _ hown' h0 (n - l.length) (by omega) _ (zero_cells _) (by intro u hu; obtain ⟨x, _, rfl⟩ := List.mem_map.1 hu; rfl) (by omega) (by decide) (by have := heap_lt hblk; simp; omega)
  rw [show ((n - l.length : Nat) : Int) = IntKind.i64.wrap ((n : Int) - l.length) by rw [IntKind.wrap_i64]; omega] at hr
  obtain ⟨hblk1, hP', hbel⟩ := rpack_put (l := l) hBp (show w.drew.heap[p]? = _ from hblk) (own_ne hown hblk (by decide)) (bs := List.replicate (n - l.length) 0) (v' := .slice (some ⟨g', 0, none⟩) (l.length + (n - l.length)) cap') (by rw [List.length_replicate]; exact hown1) hgr (hor.elim (fun h => .inl h.symm) (fun h => .inr ⟨g', rfl, by omega⟩))
  have HP' := Lib.hid hP'
  have HBEL := Lib.hid ((RPackStep.of_below (Below.refl _ _).drew HP.out.lt).trans hbel)
  have d1 : w1.cell? ⟨p, 0, none⟩ = some (.slice (some ⟨g, 0, none⟩) l.length ca) := by rw [cell_of_row w1 p _ _ _ _ hblk1]; rfl
  have f1 := frozen_row (o := 0) hblk1
  clear hown hg1 hg2 hown' hown1 hgr hor hblk1 hP' hbel
  go_enter Try.func33, Try.ntmps33
  go_wp2_with fail
  refine wp_region_T (S := (fun w' => w'.cell? ⟨p, 0, none⟩ = some (.slice (some ⟨g, 0, none⟩) l.length ca))) 15 (by kernel_rfl) ?_ (fun hHeld => ?_)
  · (first | exact c1 | exact d1)
  -- op 0: Op.move (tmp 0)
  refine wpAnyT_take (i := 0) (v := ?_) rfl (by kernel_rfl) (fun _ _ _ h => h) (Or.inl ⟨by kernel_rfl, fun W hSW => ?_⟩) (by assumption) ?_; rotate_left
  · ((try dsimp only at hSW); go_simp; try (with_reducible rfl))
  simp only [Act.put, List.setIfInBounds_toArray, List.set_cons_zero, List.set_cons_succ]
  -- op 1: Op.move (tmp 0)
  refine wpAnyT_take (i := 1) (v := ?_) rfl (by kernel_rfl) (fun _ _ _ h => h) (Or.inl ⟨by kernel_rfl, fun W hSW => ?_⟩) (by assumption) ?_; rotate_left
  · ((try dsimp only at hSW); go_simp; try (with_reducible rfl))
  simp only [Act.put, List.setIfInBounds_toArray, List.set_cons_zero, List.set_cons_succ]
  -- op 2: Op.nilCheck (tmp 27)
  refine wpAnyT_take (i := 2) (v := ?_) rfl (by kernel_rfl) (fun _ _ _ h => h) (Or.inl ⟨by kernel_rfl, fun W hSW => ?_⟩) (by assumption) ?_; rotate_left
  · ((try dsimp only at hSW); go_simp; try (with_reducible rfl))
  simp only [Act.put, List.setIfInBounds_toArray, List.set_cons_zero, List.set_cons_succ]
  -- op 3: Op.fieldAddr 70 (tmp 28) 0
  refine wpAnyT_take (i := 3) (v := ?_) rfl (by kernel_rfl) (fun _ _ _ h => h) (Or.inl ⟨by kernel_rfl, fun W hSW => ?_⟩) (by assumption) ?_; rotate_left
  · ((try dsimp only at hSW); go_simp; try (with_reducible rfl))
  simp only [Act.put, List.setIfInBounds_toArray, List.set_cons_zero, List.set_cons_succ]
  -- op 4: Op.load 37 (tmp 29)
  refine wpAnyT_take (i := 4) (v := ?_) rfl (by kernel_rfl) (fun _ _ _ h => h) (Or.inl ⟨by kernel_rfl, fun W hSW => ?_⟩) (by assumption) ?_; rotate_left
  · ((try dsimp only at hSW); go_simp; try (with_reducible rfl))
  simp only [Act.put, List.setIfInBounds_toArray, List.set_cons_zero, List.set_cons_succ]
  -- op 5: Op.move (tmp 1)
  refine wpAnyT_take (i := 5) (v := ?_) rfl (by kernel_rfl) (fun _ _ _ h => h) (Or.inl ⟨by kernel_rfl, fun W hSW => ?_⟩) (by assumption) ?_; rotate_left
  · ((try dsimp only at hSW); go_simp; try (with_reducible rfl))
  simp only [Act.put, List.setIfInBounds_toArray, List.set_cons_zero, List.set_cons_succ]
  -- op 6: Op.move (tmp 0)
  refine wpAnyT_take (i := 6) (v := ?_) rfl (by kernel_rfl) (fun _ _ _ h => h) (Or.inl ⟨by kernel_rfl, fun W hSW => ?_⟩) (by assumption) ?_; rotate_left
  · ((try dsimp only at hSW); go_simp; try (with_reducible rfl))
  simp only [Act.put, List.setIfInBounds_toArray, List.set_cons_zero, List.set_cons_succ]
  -- op 7: Op.nilCheck (tmp 32)
  refine wpAnyT_take (i := 7) (v := ?_) rfl (by kernel_rfl) (fun _ _ _ h => h) (Or.inl ⟨by kernel_rfl, fun W hSW => ?_⟩) (by assumption) ?_; rotate_left
  · ((try dsimp only at hSW); go_simp; try (with_reducible rfl))
  simp only [Act.put, List.setIfInBounds_toArray, List.set_cons_zero, List.set_cons_succ]
  -- op 8: Op.fieldAddr 70 (tmp 33) 0
  refine wpAnyT_take (i := 8) (v := ?_) rfl (by kernel_rfl) (fun _ _ _ h => h) (Or.inl ⟨by kernel_rfl, fun W hSW => ?_⟩) (by assumption) ?_; rotate_left
  · ((try dsimp only at hSW); go_simp; try (with_reducible rfl))
  simp only [Act.put, List.setIfInBounds_toArray, List.set_cons_zero, List.set_cons_succ]
  -- op 9: Op.load 37 (tmp 34)
  refine wpAnyT_take (i := 9) (v := ?_) rfl (by kernel_rfl) (fun _ _ _ h => h) (Or.inl ⟨by kernel_rfl, fun W hSW => ?_⟩) (by assumption) ?_; rotate_left
  · ((try dsimp only at hSW); go_simp; try (with_reducible rfl))
  simp only [Act.put, List.setIfInBounds_toArray, List.set_cons_zero, List.set_cons_succ]
  -- op 10: Op.call { callee := Callee.builtin Builtin.len, args := #[Op
  refine wpAnyT_take (i := 10) (v := ?_) rfl (by kernel_rfl) (fun _ _ _ h => h) (Or.inl ⟨by kernel_rfl, fun W hSW => ?_⟩) (by assumption) ?_; rotate_left
  · ((try dsimp only at hSW); go_simp; try (with_reducible rfl))
  simp only [Act.put, List.setIfInBounds_toArray, List.set_cons_zero, List.set_cons_succ]
  -- op 11: Op.binOp BinOp.sub 3 (tmp 31) (tmp 36) 3
  refine wpAnyT_take (i := 11) (v := ?_) rfl (by kernel_rfl) (fun _ _ _ h => h) (Or.inl ⟨by kernel_rfl, fun W hSW => ?_⟩) (by assumption) ?_; rotate_left
  · ((try dsimp only at hSW); go_simp; try (with_reducible rfl))
  simp only [Act.put, List.setIfInBounds_toArray, List.set_cons_zero, List.set_cons_succ]
  -- op 12: Op.call { callee := Callee.builtin Builtin.append, args := #
  refine wpAnyT_one (i := 12) rfl (by kernel_rfl) (fun K hK => ?_)
  rw [if_pos (by simp [Region.wanted])]; refine Lib.wp_append_run _ (.tmp 30) (.tmp 37) 37 3 rfl _ _ rfl rfl _ _ hr ?_
  refine hK.out _ _ ?_ (fun hHeld2 => ?_)
  · (first | exact c1 | exact d1)
  clear hK K hHeld
  have hHeld := hHeld2
  clear hHeld2
  try simp only [Act.put, List.setIfInBounds_toArray, List.set_cons_zero, List.set_cons_succ]
  -- op 13: Op.nilCheck (tmp 26)
  refine wpAnyT_take (i := 13) (v := ?_) rfl (by kernel_rfl) (fun _ _ _ h => h) (Or.inl ⟨by kernel_rfl, fun W hSW => ?_⟩) (by assumption) ?_; rotate_left
  · ((try dsimp only at hSW); go_simp; try (with_reducible rfl))
  simp only [Act.put, List.setIfInBounds_toArray, List.set_cons_zero, List.set_cons_succ]
  -- op 14: Op.fieldAddr 70 (tmp 39) 0
  refine wpAnyT_take (i := 14) (v := ?_) rfl (by kernel_rfl) (fun _ _ _ h => h) (Or.inl ⟨by kernel_rfl, fun W hSW => ?_⟩) (by assumption) ?_; rotate_left
  · ((try dsimp only at hSW); go_simp; try (with_reducible rfl))
  simp only [Act.put, List.setIfInBounds_toArray, List.set_cons_zero, List.set_cons_succ]
  refine wpAnyT_tail rfl (by kernel_rfl) (by kernel_rfl) ?_
  clear hHeld hr c1
  go_wp2
  go_end0
  exact ⟨rfl, HP'.out, HBEL.out⟩
end Go.Proofs.Ytabkeggcaacldaa
