/-
  The contract of the law package's own put.
-/
import Derived.Test.YtabkeggcaacldaaSuper2
import Derived.Test.YtabkeggcaacldaaRefPack
import Derived.Test.YtabkeggcaacldaaCrcOpens
import Derived.Lib.SlBytesConst
namespace Go.Proofs.Ytabkeggcaacldaa
open Go.RowKit
set_option linter.unusedVariables false
set_option linter.unusedSimpArgs false

/-- Where put stands. -/
structure RSS (w0 : World) (A : SV) (B p : Nat) (l : List UInt8) (w : World) : Prop where
  pk : RPackD w B p l
  b : w.heap[w0.heap.size]? = some (.cells #[.int .u64 A.gen, .int .i64 A.blocks, .int .i64 A.bytes] 24)
  bel : Below w0.heap.size w0 w
  lt : w0.heap.size < B
theorem RSS.step {w0 w w' : World} {A : SV} {B p : Nat} {l l' : List UInt8} (h : RSS w0 A B p l w) (hs : RPackStep p w w') (hP : RPackD w' B p l') : RSS w0 A B p l' w' := by
  have h1 := h.pk.below hs
  exact ⟨hP, below_at h1 h.lt h.b, h.bel.trans (h1.mono (Nat.le_of_lt h.lt)), h.lt⟩
def magicL : List UInt8 := [83, 69, 68, 73, 77, 69, 78, 84]
def magicC : Array Value := #[.int .u8 83, .int .u8 69, .int .u8 68, .int .u8 73, .int .u8 77, .int .u8 69, .int .u8 78, .int .u8 84]
theorem magic_row (w : World) (B : Nat) (hB : w.heap.size = B) : RPackD ((w.alloc (.cells magicC 5 (8, 9))).alloc (.cells #[.slice (some ⟨B, 0, none⟩) 8 8, .int .i64 0] 70)) B (B + 1) magicL := by
  subst hB
  have hk : (w.alloc (.cells magicC 5 (8, 9))).heap.size = w.heap.size + 1 := by simp
  exact .inr ⟨by omega, w.heap.size, (8, 9), hk ▸ heap_alloc_new _ _, Nat.le_refl _, (Below.heap_alloc _ _ _ (by rw [hk]; omega)).trans (heap_alloc_new w _)⟩
theorem ref_bytes (s : SV) : (((magicL ++ lowBytes s.gen 8) ++ lowBytes (u64of s.blocks) 8) ++ lowBytes (u64of s.bytes) 8) = magicL ++ bodyL s := by
  unfold bodyL
  simp [wordBytes, intBytes]
set_option maxRecDepth 100000 in
theorem ref_full (s : SV) : strOf ((magicL ++ bodyL s) ++ List.replicate (252 - (magicL ++ bodyL s).length) 0) = magicB ++ strOf (fullL s) := by
  apply data_inj
  rw [List.length_append, body_len]
  unfold fullL
  rw [body_len]
  show (strOf _).data.toList = _
  rw [ByteArray.data_append]
  simp [strOf, magicB, magicL]

theorem conv_magic (w : World) (b : Nat) (hb : w.heap.size = b) : (convert 37 37 (.slice (some ⟨b, 0, none⟩) 8 8)).run Try.prog (w.alloc (.cells #[.int .u8 83, .int .u8 69, .int .u8 68, .int .u8 73, .int .u8 77, .int .u8 69, .int .u8 78, .int .u8 84] 5)) = .ok (.slice (some ⟨b, 0, none⟩) 8 8) (w.alloc (.cells magicC 5 (8, 9))) := by
  subst hb
  exact Lib.run_convert_bytes_const w 37 5 magicC 8 8 Try.underlying37 Try.underlying5
theorem rpack_str {w : World} {B p : Nat} {l : List UInt8} (h : RPackAt w B p 0 l) (h0 : 0 < l.length) : ∃ g cap, w.cell? ⟨p, 0, none⟩ = some (.slice (some ⟨g, 0, none⟩) l.length cap) ∧ (convert 37 9 (.slice (some ⟨g, 0, none⟩) l.length cap)).run Try.prog w = .ok (.string (strOf l)) w := by
  obtain ⟨_, vb, hblk, hown⟩ := h
  have c1 : w.cell? ⟨p, 0, none⟩ = some vb := by rw [cell_of_row w p _ _ _ _ hblk]; rfl
  rcases hown.2 with ⟨rfl, hl⟩ | ⟨g, cap, cur, rfl, _, hg, _, _, _, htake⟩
  · omega
  · have hcv := run_convert_bytes_arg w 37 5 Try.underlying37 Try.underlying5 g 0 l.length cap (l.map fun b => (b.toNat : Int)) (by simp) (fun i hi => by
      rw [Nat.zero_add, cell_of_row w g _ _ _ _ hg]
      have h1 := congrArg (fun x => x[i]?) htake
      simp only [List.getElem?_take, Nat.mul_one, hi, if_true, List.getElem?_map] at h1
      rw [Array.getElem?_toList] at h1
      rw [h1]; simp [hi, byteV]) 9 Try.underlying9
    rw [strOfNums_bytes] at hcv
    exact ⟨g, cap, c1, hcv⟩
set_option maxRecDepth 100000 in
set_option maxHeartbeats 2000000 in
theorem lput_yes (s : SV) (w : World) (hok : s.ok) (hm : s.may) : Calls Try.prog 13 #[s.val] w (RetB w (.tuple #[.string (putS s), .int .i64 0])) := by
  have HOK := Lib.hid hok
  obtain ⟨⟨m1, m1'⟩, m2, m3, m4⟩ := hm
  have HPL := Lib.hid (show planOk s.blocks from ⟨m1, m1'⟩)
  obtain ⟨⟨k1, k2⟩, k3, k4⟩ := hok
  have m2' : (s.gen == 0) = false := by simp; exact m2
  simp only [SV.val]
  go_enter Try.func13, Try.ntmps13
  go_wp2_with fail
  refine (lplan_yes s.blocks _ HPL.out).mono ?_
  rintro e w1 ⟨rfl, hb1⟩
  have hB1 : w1.heap[w.heap.size]? = _ := heap_step (heap_alloc_new w (.cells #[.int .u64 s.gen, .int .i64 s.blocks, .int .i64 s.bytes] 24)) hb1
  have hs1 : w.heap.size < w1.heap.size := heap_lt hB1
  have hk : ∀ o, (w1.alloc o).heap.size = w1.heap.size + 1 := fun o => by simp
  have hbel1 : Below w.heap.size w w1 := chain (bel_alloc (Below.refl _ _) (Nat.le_refl _)) hb1
  have hR := magic_row (w1.alloc (.cells (layC s.blocks) 27)) (w1.heap.size + 1) (by simp)
  have Q0 := Lib.hid (show RSS w s (w1.heap.size + 1) (w1.heap.size + 1 + 1) magicL _ from
    ⟨hR, (Below.heap_alloc _ _ _ (by simp; omega)).trans ((Below.heap_alloc _ _ _ (by simp; omega)).trans ((Below.heap_alloc w1 _ _ hs1).trans hB1)), bel_step hbel1 (chain (chain (bel_new _ _) (bel_new _ _)) (bel_new _ _)) (Nat.le_of_lt hs1), by omega⟩)
  obtain ⟨c0, c1, c2⟩ := cells3 hB1
  clear hb1 hB1 hbel1 hR
  simp only [layV]
  have hcv := fun o => conv_magic (w1.alloc o) (w1.heap.size + 1) (by simp)
  have hs2 : w.heap.size < w1.heap.size + 1 := by omega
  have hs3 : w.heap.size < w1.heap.size + 1 + 1 := by omega
  go_wp2_with fail
  clear hcv
  refine (rword_any _ _ 8 s.gen _ _ Q0.out.pk (by decide) k1 k2 (by decide)).mono ?_
  rintro e w2 ⟨rfl, hP, hs⟩
  have Q1p := Lib.hid hP
  have Q1 := Lib.hid (Q0.out.step hs (.inl hP))
  clear hP hs c0 c1 c2
  obtain ⟨c0, c1, c2⟩ := cells3 Q1.out.b
  go_wp2_with fail
  refine (rint_any _ _ s.blocks _ _ Q1p.out (by simp [lowBytes_length, magicL])).mono ?_
  rintro e w3 ⟨rfl, hP, hs⟩
  have Q2p := Lib.hid hP
  have Q2 := Lib.hid (Q1.out.step hs (.inl hP))
  clear hP hs c0 c1 c2
  obtain ⟨c0, c1, c2⟩ := cells3 Q2.out.b
  go_wp2_with fail
  refine (rint_any _ _ s.bytes _ _ Q2p.out (by simp [lowBytes_length, magicL])).mono ?_
  rintro e w4 ⟨rfl, hP, hs⟩
  rw [ref_bytes] at hP
  have Q3p := Lib.hid hP
  have Q3 := Lib.hid (Q2.out.step hs (.inl hP))
  have hlen : (magicL ++ bodyL s).length = 32 := by rw [List.length_append, body_len]; rfl
  have HLEN := Lib.hid hlen
  clear hP hs c0 c1 c2 hlen
  go_wp2_with fail
  refine (rfill_any _ _ 252 _ _ Q3p.out (by rw [HLEN.out]; decide) (by rw [HLEN.out]; decide) (by decide)).mono ?_
  rintro e w5 ⟨rfl, hP, hs⟩
  have Q4 := Lib.hid (Q3.out.step hs (.inl hP))
  have hf := ref_full s
  have hlen2 : (magicL ++ bodyL s ++ List.replicate (252 - (magicL ++ bodyL s).length) 0).length = 252 := by rw [List.length_append, List.length_replicate, HLEN.out]
  obtain ⟨F, hF⟩ : ∃ F, F = magicL ++ bodyL s ++ List.replicate (252 - (magicL ++ bodyL s).length) 0 := ⟨_, rfl⟩
  rw [← hF] at hlen2 hP hf
  obtain ⟨g, cap, d1, hcv⟩ := rpack_str hP (by omega)
  rw [hf] at hcv
  have HSZ := Lib.hid (show (magicB ++ strOf (fullL s)).size ≤ 1000000 by rw [pre_size]; decide)
  have HE := Lib.hid (show putS s = closeS (magicB ++ strOf (fullL s)) from rfl)
  obtain ⟨b, hb⟩ : ∃ b, b = magicB ++ strOf (fullL s) := ⟨_, rfl⟩
  rw [← hb] at HE HSZ hcv
  clear hP hs hf hb hlen2 hF
  go_wp2_with fail
  refine (rclose_any b _ HSZ.out).mono ?_
  rintro e w6 ⟨rfl, hb6⟩
  rw [← HE.out]
  go_wp2
  go_ret2
  exact ⟨rfl, chain Q4.out.bel hb6⟩

set_option maxRecDepth 100000 in
set_option maxHeartbeats 2000000 in
theorem lput_no (s : SV) (w : World) (hok : s.ok) (hm : ¬ s.may) : Calls Try.prog 13 #[s.val] w (RetB w (.tuple #[.string ByteArray.empty, .int .i64 1])) := by
  obtain ⟨⟨k1, k2⟩, k3, k4⟩ := hok
  by_cases hp : planOk s.blocks
  · have HPL := Lib.hid hp
    have hd : s.gen = 0 ∨ (s.gen ≠ 0 ∧ (s.bytes < 0 ∨ 40000 < s.bytes)) := by
      by_cases h0 : s.gen = 0
      · exact .inl h0
      · refine .inr ⟨h0, ?_⟩
        by_cases h1 : s.bytes < 0
        · exact .inl h1
        · refine .inr (Int.lt_of_not_ge fun h2 => hm ⟨hp, h0, by omega, by omega⟩)
    have HD := Lib.hid hd
    unfold I64 at k4
    clear hm hp hd
    simp only [SV.val]
    go_enter Try.func13, Try.ntmps13
    go_wp2_with fail
    refine (lplan_yes s.blocks _ HPL.out).mono ?_
    rintro e w1 ⟨rfl, hb1⟩
    have hB1 : w1.heap[w.heap.size]? = _ := heap_step (heap_alloc_new w (.cells #[.int .u64 s.gen, .int .i64 s.blocks, .int .i64 s.bytes] 24)) hb1
    have hs1 : w.heap.size < w1.heap.size := heap_lt hB1
    have HB1 := Lib.hid (chain (bel_alloc (Below.refl _ _) (Nat.le_refl _)) hb1)
    obtain ⟨c0, c1, c2⟩ := cells3 hB1
    clear hb1 hB1
    simp only [layV]
    rcases HD.out with h | ⟨h, h2 | h2⟩
    · have h' : (s.gen == 0) = true := by simp [h]
      clear h HD
      go_wp2
      go_ret2
      exact ⟨rfl, chain HB1.out (bel_new _ _)⟩
    · have h' : (s.gen == 0) = false := by simp [h]
      clear h HD
      go_wp2
      go_ret2
      exact ⟨rfl, chain HB1.out (bel_new _ _)⟩
    · have h' : (s.gen == 0) = false := by simp [h]
      have h3 : ¬ s.bytes < 0 := by omega
      clear h HD
      go_wp2
      go_ret2
      exact ⟨rfl, chain HB1.out (bel_new _ _)⟩
  · have HPL := Lib.hid hp
    have HI := Lib.hid k3
    clear hm hp
    simp only [SV.val]
    go_enter Try.func13, Try.ntmps13
    go_wp2_with fail
    refine (lplan_no s.blocks _ HI.out HPL.out).mono ?_
    rintro e w1 ⟨rfl, hb1⟩
    have hB1 : w1.heap[w.heap.size]? = _ := heap_step (heap_alloc_new w (.cells #[.int .u64 s.gen, .int .i64 s.blocks, .int .i64 s.bytes] 24)) hb1
    have hs1 : w.heap.size < w1.heap.size := heap_lt hB1
    have HB1 := Lib.hid (chain (bel_alloc (Below.refl _ _) (Nat.le_refl _)) hb1)
    obtain ⟨c0, c1, c2⟩ := cells3 hB1
    clear hb1 hB1
    simp only [lay0]
    by_cases h' : (s.gen == 0) = true
    · go_wp2
      go_ret2
      exact ⟨rfl, chain HB1.out (bel_new _ _)⟩
    · have h'' : (s.gen == 0) = false := by simpa using h'
      clear h'
      go_wp2
      go_ret2
      exact ⟨rfl, chain HB1.out (bel_new _ _)⟩
end Go.Proofs.Ytabkeggcaacldaa
