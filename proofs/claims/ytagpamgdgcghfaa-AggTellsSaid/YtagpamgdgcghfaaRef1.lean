/-
  The contracts of sedimentref1.Packer and Unpacker.
-/
import Derived.Test.YtagpamgdgcghfaaUnpack
namespace Go.Proofs.Ytagpamgdgcghfaa
open Go.RowKit
set_option linter.unusedVariables false
set_option linter.unusedSimpArgs false

/-- A Packer lies in block p: its error, and the bytes that it has. -/
def RPackAt (w : World) (p : Nat) (e : Int) (l : List UInt8) : Prop :=
  ∃ vb, w.heap[p]? = some (.cells #[vb, .int .i64 e] 66) ∧ w.ownsRow p 5 1 vb l.length (l.map byteV)

theorem RPackAt.lt {w : World} {p : Nat} {e : Int} {l : List UInt8} (h : RPackAt w p e l) : p < w.heap.size := by
  obtain ⟨vb, h1, _⟩ := h; exact heap_lt h1
theorem RPackAt.keep {w w' : World} {p : Nat} {e : Int} {l : List UInt8} (h : RPackAt w p e l) (hb : Below w.heap.size w w') : RPackAt w' p e l := by
  obtain ⟨vb, h1, h2⟩ := h
  exact ⟨vb, heap_step h1 hb, h2.kept (row := none) ⟨hb.os, hb.tape, hb.output, hb.size, fun k hk _ => hb.block k hk⟩ (by cases h : vb.ownBlock <;> simp)⟩
theorem rpack_new (w : World) : RPackAt (w.alloc (.cells #[.slice none 0 0, .int .i64 0] 66)) w.heap.size 0 [] := ⟨_, heap_alloc_new _ _, World.ownsRow_nil _ _ _ _⟩

/-- The block in which a Packer's bytes lie. -/
def RRowOf (w : World) (p k : Nat) : Prop := ∃ vb, w.cell? ⟨p, 0, none⟩ = some vb ∧ vb.ownBlock = some k
/-- Of what was there a Packer's own two blocks alone may have changed; its bytes lie where they lay, or in a new block. -/
structure RPackStep (p : Nat) (w w' : World) : Prop where
  os : w'.os = w.os
  tape : w'.tape = w.tape
  output : w'.output = w.output
  size : w.heap.size ≤ w'.heap.size
  block : ∀ k, k < w.heap.size → k ≠ p → ¬ RRowOf w p k → w'.heap[k]? = w.heap[k]?
  row : ∀ k, RRowOf w' p k → RRowOf w p k ∨ w.heap.size ≤ k
theorem RPackStep.refl (p : Nat) (w : World) : RPackStep p w w := ⟨rfl, rfl, rfl, Nat.le_refl _, fun _ _ _ _ => rfl, fun _ h => .inl h⟩
theorem RPackStep.trans {p : Nat} {a b c : World} (h : RPackStep p a b) (k : RPackStep p b c) : RPackStep p a c :=
  ⟨k.os.trans h.os, k.tape.trans h.tape, k.output.trans h.output, Nat.le_trans h.size k.size,
    fun i hi hp hr => (k.block i (Nat.lt_of_lt_of_le hi h.size) hp (fun hr' => (h.row i hr').elim hr (fun h' => by omega))).trans (h.block i hi hp hr),
    fun i hr => (k.row i hr).elim (h.row i) (fun h' => .inr (Nat.le_trans h.size h'))⟩
theorem RPackStep.of_below {p : Nat} {w w' : World} (h : Below w.heap.size w w') (hp : p < w.heap.size) : RPackStep p w w' :=
  ⟨h.os, h.tape, h.output, h.size, fun k hk _ _ => h.block k hk, fun k ⟨vb, h1, h2⟩ => .inl ⟨vb, (h.cell (p := ⟨p, 0, none⟩) hp) ▸ h1, h2⟩⟩
theorem RPackAt.row {w : World} {p k : Nat} {e : Int} {l : List UInt8} (h : RPackAt w p e l) (hr : RRowOf w p k) : p < k ∧ k < w.heap.size := by
  obtain ⟨vb, h1, h2⟩ := h
  obtain ⟨vb', h3, h4⟩ := hr
  rw [cell_of_row w p _ _ _ _ h1] at h3
  obtain rfl : vb = vb' := by simpa using h3
  have := h2.lt k h4
  have hne : k ≠ p := fun e1 => own_ne h2 h1 (by decide) (e1 ▸ h4)
  omega
theorem RPackStep.below {p : Nat} {w w' : World} {e : Int} {l : List UInt8} (h : RPackStep p w w') (hP : RPackAt w p e l) : Below p w w' :=
  ⟨h.os, h.tape, h.output, h.size, fun k hk => h.block k (by have := hP.lt; omega) (by omega) (fun hr => by have := hP.row hr; omega)⟩
/-- A block that is none of a Packer's. -/
def RFree (w : World) (p b : Nat) : Prop := b < w.heap.size ∧ b ≠ p ∧ ¬ RRowOf w p b
theorem RFree.step {p b : Nat} {w w' : World} (h : RFree w p b) (hs : RPackStep p w w') : RFree w' p b :=
  ⟨Nat.lt_of_lt_of_le h.1 hs.size, h.2.1, fun hr => (hs.row b hr).elim h.2.2 (fun h' => by have := h.1; omega)⟩
theorem RFree.heap {p b : Nat} {w w' : World} (h : RFree w p b) (hs : RPackStep p w w') : w'.heap[b]? = w.heap[b]? := hs.block b h.1 h.2.1 h.2.2
theorem RFree.new {w : World} {p : Nat} {e : Int} {l : List UInt8} (hP : RPackAt w p e l) (o : Obj) : RFree (w.alloc o) p w.heap.size := by
  refine ⟨by simp, by have := hP.lt; omega, fun hr => ?_⟩
  have := (hP.keep (bel_alloc (o := o) (Below.refl _ _) (Nat.le_refl _)))
  obtain ⟨vb, h1, h2⟩ := hr
  have h3 : RRowOf w p w.heap.size := ⟨vb, by rw [← h1]; exact ((bel_alloc (o := o) (Below.refl _ w) (Nat.le_refl _)).cell (p := ⟨p, 0, none⟩) hP.lt).symm, h2⟩
  have := hP.row h3
  omega

theorem rpack_put {wr w1 : World} {p : Nat} {e : Int} {vb v' : Value} {l bs : List UInt8} {o : Obj} (hblk : wr.heap[p]? = some (.cells #[vb, .int .i64 e] 66)) (hown : wr.ownsRow p 5 1 vb l.length (l.map byteV))
    (hown1 : w1.ownsRow p 5 1 v' (l.length + bs.length) (l.map byteV ++ bs.map byteV)) (hg : (wr.alloc o).grownBy w1 vb.ownBlock) (hv' : v'.ownBlock = vb.ownBlock ∨ ∃ g, v'.ownBlock = some g ∧ wr.heap.size ≤ g) :
    w1.heap[p]? = some (.cells #[vb, .int .i64 e] 66) ∧ RPackAt (w1.setCell ⟨p, 0, none⟩ v') p e (l ++ bs) ∧ RPackStep p wr (w1.setCell ⟨p, 0, none⟩ v') := by
  have hp := heap_lt hblk
  have h1 : w1.heap[p]? = some (.cells #[vb, .int .i64 e] 66) := by
    rw [hg.block p (by simp; omega) (fun h => own_ne hown hblk (by decide) h.symm), Below.heap_alloc _ _ _ hp]; exact hblk
  have h2 : (w1.setCell ⟨p, 0, none⟩ v').heap[p]? = some (.cells #[v', .int .i64 e] 66) := by rw [set_heap h1]; rfl
  refine ⟨h1, ⟨v', h2, ?_⟩, ?_⟩
  · rw [List.length_append, List.map_append]
    exact hown1.kept (row := some p) ⟨rfl, rfl, rfl, by simp [World.setCell], fun k hk hne => set_heap_other _ (fun h => hne (by simp [h]))⟩ (.inr (own_ne hown1 h1 (by decide)))
  · have hsz := hg.size
    have hc : wr.cell? ⟨p, 0, none⟩ = some vb := by rw [cell_of_row wr p _ _ _ _ hblk]; rfl
    refine ⟨hg.os, hg.tape, hg.output, by simp [World.setCell] at hsz ⊢; omega, fun k hk hkp hr => ?_, fun k ⟨u, hu, hk⟩ => ?_⟩
    · rw [set_heap_other _ hkp, hg.block k (by simp; omega) (fun e1 => hr ⟨vb, hc, e1.symm⟩), Below.heap_alloc _ _ _ hk]
    · rw [cell_of_row _ p _ _ _ _ h2] at hu
      obtain rfl : v' = u := by simpa using hu
      rcases hv' with h' | ⟨g, h', hle⟩
      · exact .inl ⟨vb, hc, by rw [← h']; exact hk⟩
      · rw [h'] at hk; obtain rfl : g = k := by simpa using hk
        exact .inr hle


set_option maxRecDepth 100000 in
set_option maxHeartbeats 1000000 in
theorem rword_any (p n : Nat) (v : Int) (l : List UInt8) (w : World) (hP : RPackAt w p 0 l) (hv0 : 0 ≤ v) (hv1 : v ≤ 18446744073709551615) (hn : l.length + n ≤ 1000000) :
    Calls Try.prog 39 #[.pointer (some ⟨p, 0, none⟩), .int .u64 v, .int .i64 n] w (fun e' w' => e' = .returned (.tuple #[]) ∧ RPackAt w' p 0 (l ++ lowBytes v n) ∧ RPackStep p w w') := by
  obtain ⟨i0, hi, hz0, hz1, hz2⟩ := info_parts info_u8
  have HV := Lib.hid (And.intro hv0 hv1)
  have HP := Lib.hid hP
  have HN := Lib.hid hn
  have hnn : (n : Int) ≤ 1000000 := by omega
  clear hP hv0 hv1 hn
  go_enter Try.func39, Try.ntmps39
  go_wp2
  go_loopw [6, 1] (fun i x wr => ∃ (k : Nat) (X : Int), k ≤ n ∧ i = .int .i64 k ∧ x = .int .u64 X ∧ Hid (X = shr8 v k) ∧ (0 ≤ X ∧ X ≤ 18446744073709551615) ∧ Hid (RPackAt wr p 0 (l ++ lowBytes v k)) ∧ RPackStep p w wr) (fun i _ _ => n - (intOf i).toNat)
  case atStart => exact ⟨0, v, Nat.zero_le _, rfl, rfl, Lib.hid rfl, HV.out, Lib.hid (by simpa [lowBytes] using HP.out), RPackStep.refl _ _⟩
  case round =>
    obtain ⟨k, X, hk, rfl, rfl, HX, hX, HPk, hnx⟩ := hrel
    by_cases hlt : k < n
    · obtain ⟨L, hL⟩ : ∃ L, L = l ++ lowBytes v k := ⟨_, rfl⟩
      rw [← hL] at HPk
      obtain ⟨vb, hblk, hown⟩ := HPk.out
      have c1 : wr.cell? ⟨p, 0, none⟩ = some vb := by rw [cell_of_row wr p _ _ _ _ hblk]; rfl
      have c2 : wr.cell? ⟨p, 1, none⟩ = some (.int .i64 0) := by rw [cell_of_row wr p _ _ _ _ hblk]; rfl
      have HB := Lib.hid hblk
      have HO := Lib.hid hown
      have hsz := heap_lt hblk
      have hlen : L.length ≤ 1000000 - 1 := by have := HN.out; rw [hL, List.length_append, lowBytes_length]; omega
      have HL := Lib.hid hL
      have HS := Lib.hid (lowBytes_succ k v)
      have HS2 := Lib.hid (shr8_succ k v)
      have b0 := Lib.hid (byteV_of X)
      clear hblk hown hL
      go_wp2_with (at_builtin; refine wpList_append_lies _ rfl (.tmp 23) (.tmp 27) 54 rfl p 5 i0 (.int .u8 0) 1 1 Try.underlying54 hi hz0 hz1 hz2 rfl (by decide) _ _ _ rfl (HO.out.alloc _) ⟨wr.heap.size, 0, none⟩ 1 1 [.int .u8 (X % 256)] rfl rfl ?c1 ?c2 (by decide) ?c3 ?c4 ?c5 (wr.heap.size + 1) ?c6 ?_)
      case c1 => exact one_cell _ _ _
      case c2 => simp [Value.oneCell']
      case c3 => unfold maxLen; omega
      case c4 => omega
      case c5 => simp; omega
      case c6 => simp
      intro g cp w1 hown1 hg hat hlt1
      rw [b0.out] at hown1
      obtain ⟨hblk1, hP', hbel⟩ := rpack_put (bs := [UInt8.ofNat (X % 256).toNat]) HB.out HO.out hown1 hg (hat.elim (fun h => .inl h.symm) (fun h => .inr ⟨g, rfl, by omega⟩))
      have HP' := Lib.hid hP'
      have hbel' := hnx.trans hbel
      have d1 : w1.cell? ⟨p, 0, none⟩ = some vb := by rw [cell_of_row w1 p _ _ _ _ hblk1]; rfl
      have f1 := frozen_row (o := 0) hblk1
      clear hown1 hg hat hlt1 hblk1 hP' hbel b0
      go_wp2
      go_roundw
      case rel =>
        refine ⟨k + 1, _, by omega, by go_num, rfl, Lib.hid (by rw [HS2.out, ← HX.out]), by omega, Lib.hid ?_, hbel'⟩
        rw [HS.out, ← List.append_assoc, ← HL.out, ← HX.out]; exact HP'.out
      case measure => simp [intOf]; omega
    · have hkn : k = n := by omega
      subst hkn
      go_wp2
      go_end0
      exact ⟨rfl, HPk.out, hnx⟩

set_option maxRecDepth 100000 in
set_option maxHeartbeats 1000000 in
theorem rint_any (p : Nat) (v : Int) (l : List UInt8) (w : World) (hP : RPackAt w p 0 l) (hn : l.length + 8 ≤ 1000000) :
    Calls Try.prog 38 #[.pointer (some ⟨p, 0, none⟩), .int .i64 v] w (fun e' w' => e' = .returned (.tuple #[]) ∧ RPackAt w' p 0 (l ++ lowBytes (u64of v) 8) ∧ RPackStep p w w') := by
  have HP := Lib.hid hP
  have HN := Lib.hid hn
  have HE := Lib.hid (u64_wrapd v)
  clear hP hn
  go_enter Try.func38, Try.ntmps38
  go_wp2_with fail
  rw [HE.out]
  refine (rword_any p 8 _ _ _ HP.out (by unfold u64of; omega) (by unfold u64of; omega) HN.out).mono ?_
  rintro e w1 ⟨rfl, hP1, hs⟩
  have HP1 := Lib.hid hP1
  clear hP1
  go_wp2
  go_end0
  exact ⟨rfl, HP1.out, hs⟩

/-- A reference Unpacker lies in block u. -/
def RUnpAt (w : World) (u : Nat) (e : Int) (s : ByteArray) : Prop := w.heap[u]? = some (.cells #[.string s, .int .i64 e] 71)

set_option maxRecDepth 100000 in
set_option maxHeartbeats 1000000 in
theorem rtake_some (u n : Nat) (s : ByteArray) (w : World) (hU : RUnpAt w u 0 s) (hn : n ≤ s.size) (hs : s.size ≤ 9223372036854775807) :
    Calls Try.prog 48 #[.pointer (some ⟨u, 0, none⟩), .int .i64 n] w (fun e' w' => e' = .returned (.string (s.extract 0 n)) ∧ RUnpAt w' u 0 (s.extract n s.size) ∧ Only u w w') := by
  have c0 : w.cell? ⟨u, 1, none⟩ = some (.int .i64 0) := by rw [cell_of_row w u _ _ _ _ hU]; rfl
  have c1 : w.cell? ⟨u, 0, none⟩ = some (.string s) := by rw [cell_of_row w u _ _ _ _ hU]; rfl
  have f1 := frozen_row (o := 0) hU
  have HU := Lib.hid hU
  clear hU
  go_enter Try.func48, Try.ntmps48
  go_wp2
  go_ret
  exact ⟨rfl, by unfold RUnpAt; rw [set_heap HU.out]; rfl, (Only.refl _ _).set _ _⟩

theorem leVal_drop {l : List UInt8} {k : Nat} (h : k < l.length) : leVal (l.drop k) = (l.getD k 0).toNat + 256 * leVal (l.drop (k + 1)) := by
  rw [List.drop_eq_getElem_cons h]
  simp [leVal, h]

set_option maxRecDepth 100000 in
set_option maxHeartbeats 1000000 in
theorem little_any (s : ByteArray) (w : World) (hs : s.size ≤ 8) : Calls Try.prog 47 #[.string s] w (RetB w (.int .u64 (leVal s.data.toList))) := by
  go_enter Try.func47, Try.ntmps47
  go_wp2
  go_loop [3, 4] (fun v i => ∃ (k : Nat) (V : Int), k ≤ s.size ∧ i = .int .i64 ((k : Int) - 1) ∧ v = .int .u64 V ∧ Hid (V = leVal (s.data.toList.drop k))) (fun _ i => (intOf i + 1).toNat)
  case atStart => exact ⟨s.size, 0, Nat.le_refl _, rfl, rfl, Lib.hid (by rw [List.drop_of_length_le (by simp)]; rfl)⟩
  case round =>
    obtain ⟨k, V, hk, rfl, rfl, HV⟩ := hrel
    by_cases h0 : k = 0
    · subst h0
      go_wp2
      go_ret
      exact ⟨ret_u64 (by rw [HV.out]; rfl), Below.refl _ _⟩
    · obtain ⟨j, rfl⟩ : ∃ j, k = j + 1 := ⟨k - 1, by omega⟩
      have hj : ((j + 1 : Nat) : Int) - 1 = j := by omega
      have hjs : j < s.size := by omega
      have hx := leVal_drop (l := s.data.toList) (k := j) (by simpa using hjs)
      rw [← HV.out] at hx
      have hb := leVal_bd (s.data.toList.drop j)
      rw [hx] at hb
      have hbd := pow256 (s.data.toList.drop j).length (by simp; omega)
      have hg : (s.data.toList.getD j 0) = s[j] := by simp [List.getD, hjs]; rfl
      rw [hg] at hx hb
      have hb8 : 0 ≤ (s[j].toNat : Int) ∧ (s[j].toNat : Int) ≤ 255 := by have := s[j].toNat_lt; omega
      have hV : 0 ≤ V ∧ V ≤ 72057594037927935 := by
        have := leVal_bd (s.data.toList.drop (j + 1)); rw [← HV.out] at this; omega
      have HX := Lib.hid hx
      rw [hj]
      clear hx hb hbd hg hj h0
      go_wp2
      go_round
      case rel => exact ⟨j, _, by omega, rfl, rfl, Lib.hid (by rw [HX.out]; omega)⟩
      case measure => simp [intOf] <;> omega

set_option maxRecDepth 100000 in
theorem rword_some (u : Nat) (s : ByteArray) (w : World) (hU : RUnpAt w u 0 s) (hn : 8 ≤ s.size) (hs : s.size ≤ 9223372036854775807) :
    Calls Try.prog 41 #[.pointer (some ⟨u, 0, none⟩)] w (fun e' w' => e' = .returned (.int .u64 (leVal (s.data.toList.take 8))) ∧ RUnpAt w' u 0 (s.extract 8 s.size) ∧ Only u w w') := by
  have HU := Lib.hid hU
  have HN := Lib.hid hn
  clear hU hn
  go_enter Try.func41, Try.ntmps41
  go_wp2_with fail
  refine (rtake_some u 8 s w HU.out HN.out hs).mono ?_
  rintro e w1 ⟨rfl, hU1, ho⟩
  have HU1 := Lib.hid hU1
  clear hU1
  go_wp2_with fail
  refine (little_any _ w1 (by simp; omega)).mono ?_
  rintro e w2 ⟨rfl, hb⟩
  go_wp2
  go_ret
  exact ⟨ret_u64 (by first | rfl | (rw [extract_list]; rfl)), heap_step HU1.out hb, ho.trans (Only.of_below hb)⟩

set_option maxRecDepth 100000 in
theorem rint_some (u : Nat) (s : ByteArray) (w : World) (hU : RUnpAt w u 0 s) (hn : 8 ≤ s.size) (hs : s.size ≤ 9223372036854775807) :
    Calls Try.prog 40 #[.pointer (some ⟨u, 0, none⟩)] w (fun e' w' => e' = .returned (.int .i64 (i64of (leVal (s.data.toList.take 8)))) ∧ RUnpAt w' u 0 (s.extract 8 s.size) ∧ Only u w w') := by
  have HU := Lib.hid hU
  have HN := Lib.hid hn
  clear hU hn
  have hb := leVal_bd (s.data.toList.take 8)
  rw [show (s.data.toList.take 8).length = 8 by rw [List.length_take]; have := HN.out; simp; omega] at hb
  have hE : wrap64 (leVal (s.data.toList.take 8)) = i64of (leVal (s.data.toList.take 8)) := by
    unfold wrap64 i64of; split <;> omega
  have HE := Lib.hid hE
  clear hE hb
  go_enter Try.func40, Try.ntmps40
  go_wp2_with fail
  refine (rword_some u s w HU.out HN.out hs).mono ?_
  rintro e w1 ⟨rfl, hU1, ho⟩
  have HU1 := Lib.hid hU1
  clear hU1
  go_wp2
  go_ret
  exact ⟨ret_int HE.out, HU1.out, ho⟩
end Go.Proofs.Ytagpamgdgcghfaa
