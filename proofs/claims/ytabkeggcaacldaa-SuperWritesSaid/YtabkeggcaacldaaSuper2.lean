/-
  The contract of super.Put.
-/
import Derived.Test.YtabkeggcaacldaaSuper1
import Derived.Test.YtabkeggcaacldaaPackInts
import Derived.Test.YtabkeggcaacldaaCrc
namespace Go.Proofs.Ytabkeggcaacldaa
open Go.RowKit
set_option linter.unusedVariables false
set_option linter.unusedSimpArgs false

structure SV where
  gen : Int
  blocks : Int
  bytes : Int
def SV.zero : SV := ⟨0, 0, 0⟩
def SV.val (s : SV) : Value := .agg #[.int .u64 s.gen, .int .i64 s.blocks, .int .i64 s.bytes]
def SV.ok (s : SV) : Prop := (0 ≤ s.gen ∧ s.gen ≤ 18446744073709551615) ∧ I64 s.blocks ∧ I64 s.bytes
def SV.may (s : SV) : Prop := planOk s.blocks ∧ s.gen ≠ 0 ∧ 0 ≤ s.bytes ∧ s.bytes ≤ 40000
instance (n : Int) : Decidable (planOk n) := by unfold planOk; infer_instance
instance (s : SV) : Decidable s.may := by unfold SV.may; infer_instance
theorem cells3 {w : World} {b : Nat} {T : TypeId} {x0 x1 x2 : Value} (h : w.heap[b]? = some (.cells #[x0, x1, x2] T)) : w.cell? ⟨b, 0, none⟩ = some x0 ∧ w.cell? ⟨b, 1, none⟩ = some x1 ∧ w.cell? ⟨b, 2, none⟩ = some x2 := by
  refine ⟨?_, ?_, ?_⟩ <;> (rw [cell_of_row w b _ _ _ _ h]; rfl)

theorem low_zero : ∀ n : Nat, lowBytes 0 n = List.replicate n 0
  | 0 => rfl
  | n + 1 => by
    rw [List.replicate_succ, ← low_zero n]; rfl
set_option maxRecDepth 100000 in
set_option maxHeartbeats 1000000 in
theorem pfill_any (p : Nat) (n : Nat) (l : List UInt8) (w : World) (hP : PackAt w p 0 l) (hn : n ≤ 60000) (hl : l.length ≤ n) :
    Calls Try.prog 28 #[.pointer (some ⟨p, 0, none⟩), .int .i64 n] w (fun e' w' => e' = .returned (.tuple #[]) ∧ PackAt w' p 0 (l ++ List.replicate (n - l.length) 0) ∧ PackStep p w w') := by
  have HP := Lib.hid hP
  have hc : ∃ va ca, w.cell? ⟨p, 1, none⟩ = some (.slice va l.length ca) := by
    obtain ⟨vb, hblk, hown⟩ := hP
    obtain ⟨va, ca, rfl⟩ := own_form hown
    exact ⟨va, ca, by rw [cell_of_row w p _ _ _ _ hblk]; rfl⟩
  obtain ⟨va, ca, c1⟩ := hc
  have hn' : (n : Int) ≤ 60000 := by omega
  have hl' : (l.length : Int) ≤ n := by omega
  clear hP
  go_enter Try.func28, Try.ntmps28
  go_wp2_with fail
  refine HP.out.fail.mono ?_
  rintro e w1 ⟨rfl, hb⟩
  have HP1 := Lib.hid (HP.out.keep hb)
  have HS1 := Lib.hid (PackStep.of_below hb HP.out.lt)
  have c1' := cell_step c1 hb
  clear hb c1
  go_wp2_with fail
  rw [show (n : Int) - l.length = ((n - l.length : Nat) : Int) by omega]
  refine (low_any p (n - l.length) 0 0 l _ HP1.out (by omega) (by omega) (by omega)).mono ?_
  rintro e w2 ⟨rfl, hp, hs⟩
  rw [low_zero] at hp
  have HP2 := Lib.hid hp
  have HS2 := Lib.hid (HS1.out.trans hs)
  clear hp hs
  go_wp2
  go_end0
  exact ⟨rfl, HP2.out, HS2.out⟩
def magicB : ByteArray := ⟨#[83, 69, 68, 73, 77, 69, 78, 84]⟩
def bodyL (s : SV) : List UInt8 := [] ++ wordBytes [s.gen] ++ intBytes [s.blocks, s.bytes]
def fullL (s : SV) : List UInt8 := bodyL s ++ List.replicate (244 - (bodyL s).length) 0
def putS (s : SV) : ByteArray := closeS (magicB ++ strOf (fullL s))
theorem body_len (s : SV) : (bodyL s).length = 24 := by unfold bodyL; simp [wordBytes_length, intBytes_length]
set_option maxRecDepth 100000 in
theorem full_len (s : SV) : (fullL s).length = 244 := by unfold fullL; simp [body_len]
theorem strOf_size (l : List UInt8) : (strOf l).size = l.length := by unfold strOf; show l.toArray.size = _; simp
set_option maxRecDepth 100000 in
theorem pre_size (s : SV) : (magicB ++ strOf (fullL s)).size = 252 := by rw [ByteArray.size_append, strOf_size, full_len]; rfl
set_option maxRecDepth 100000 in
theorem putS_size (s : SV) : (putS s).size = 256 := by unfold putS closeS; rw [ByteArray.size_append, pre_size, fourS_size]

def layC (n : Int) : Array Value := #[.int .i64 n, .int .i64 2, .int .i64 18, .int .i64 (18 + (n / 200 + 10)), .int .i64 (n / 200 + 10), .int .i64 (18 + 2 * (n / 200 + 10)), .int .i64 ((n - (18 + 2 * (n / 200 + 10))) / 2)]
/-- Where Put stands: its Packer in block p, its argument in the first block. -/
structure PSS (w0 : World) (A : SV) (p : Nat) (l : List UInt8) (w : World) : Prop where
  pk : PackAt w p 0 l
  b : w.heap[w0.heap.size]? = some (.cells #[.int .u64 A.gen, .int .i64 A.blocks, .int .i64 A.bytes] 24)
  bel : Below w0.heap.size w0 w
  lt : w0.heap.size < p
theorem PSS.step {w0 w w' w'' : World} {A : SV} {p : Nat} {l l' : List UInt8} (h : PSS w0 A p l w) (hb : Below w.heap.size w w') (hs : PackStep p w' w'') (hP : PackAt w'' p 0 l') : PSS w0 A p l' w'' := by
  have h1 := hs.below (h.pk.keep hb)
  exact ⟨hP, below_at h1 h.lt (heap_step h.b hb), (bel_step h.bel hb h.bel.size).trans (h1.mono (Nat.le_of_lt h.lt)), h.lt⟩

set_option maxRecDepth 100000 in
set_option maxHeartbeats 2000000 in
theorem put_yes (s : SV) (w : World) (hok : s.ok) (hm : s.may) : Calls Try.prog 12 #[s.val] w (RetB w (.tuple #[.string (putS s), .int .i64 0])) := by
  have HOK := Lib.hid hok
  obtain ⟨⟨m1, m1'⟩, m2, m3, m4⟩ := hm
  have HPL := Lib.hid (show planOk s.blocks from ⟨m1, m1'⟩)
  obtain ⟨⟨k1, k2⟩, k3, k4⟩ := hok
  have m2' : (s.gen == 0) = false := by simp; exact m2
  simp only [SV.val]
  go_enter Try.func12, Try.ntmps12
  go_wp2_with fail
  refine (plan_yes s.blocks _ HPL.out).mono ?_
  rintro e w1 ⟨rfl, hb1⟩
  have hB1 : w1.heap[w.heap.size]? = _ := heap_step (heap_alloc_new w (.cells #[.int .u64 s.gen, .int .i64 s.blocks, .int .i64 s.bytes] 24)) hb1
  have hs1 : w.heap.size < w1.heap.size := heap_lt hB1
  have hk : ∀ o, (w1.alloc o).heap.size = w1.heap.size + 1 := fun o => by simp
  have hbel1 : Below w.heap.size w w1 := chain (bel_alloc (Below.refl _ _) (Nat.le_refl _)) hb1
  have Q0 := Lib.hid (show PSS w s (w1.heap.size + 1) [] ((w1.alloc (.cells (layC s.blocks) 27)).alloc (.cells #[.int .i64 0, .slice none 0 0] 62)) from
    ⟨hk (.cells (layC s.blocks) 27) ▸ pack_new (w1.alloc (.cells (layC s.blocks) 27)), (Below.heap_alloc _ _ _ (by rw [hk]; omega)).trans ((Below.heap_alloc w1 _ _ hs1).trans hB1), bel_step hbel1 (chain (bel_new _ _) (bel_new _ _)) (Nat.le_of_lt hs1), by omega⟩)
  obtain ⟨c0, c1, c2⟩ := cells3 hB1
  clear hb1 hB1 hbel1
  simp only [layV]
  go_wp2_with fail
  refine (words_any _ _ [s.gen] [] _ (Q0.out.pk.keep (bel_new _ _)) (words_out_new Q0.out.pk (by simp) rfl (by have := HOK.out; unfold SV.ok at this; simp; omega)) (by simp)).mono ?_
  rintro e w2 ⟨rfl, hP, hs⟩
  have Q1 := Lib.hid (Q0.out.step (bel_new _ _) hs hP)
  clear hP hs c0 c1 c2
  obtain ⟨c0, c1, c2⟩ := cells3 Q1.out.b
  go_wp2_with fail
  refine (ints_any _ _ [s.blocks, s.bytes] _ _ (Q1.out.pk.keep (bel_new _ _)) (ints_out_new Q1.out.pk (by simp) rfl (by have := HOK.out; unfold SV.ok I64 at this; simp; omega) (by simp)) (by simp [wordBytes_length])).mono ?_
  rintro e w3 ⟨rfl, hP, hs⟩
  have Q2 := Lib.hid (Q1.out.step (bel_new _ _) hs hP)
  clear hP hs c0 c1 c2
  obtain ⟨c0, c1, c2⟩ := cells3 Q2.out.b
  go_wp2_with fail
  refine (pfill_any _ 244 _ _ Q2.out.pk (by decide) (by have := body_len s; unfold bodyL at this; rw [this]; decide)).mono ?_
  rintro e w4 ⟨rfl, hP, hs⟩
  have Q3 := Lib.hid (Q2.out.step (Below.refl _ _) hs hP)
  clear hP hs c0 c1 c2
  go_wp2_with fail
  refine (done_ok _ (fullL s) _ Q3.out.pk).mono ?_
  rintro e w5 ⟨rfl, hb5⟩
  have HB5 := Lib.hid (chain Q3.out.bel hb5)
  have hsz0 : (strOf (fullL s)).size = 244 := by rw [strOf_size, full_len]
  have HE := Lib.hid (show putS s = closeS (magicB ++ strOf (fullL s)) from rfl)
  obtain ⟨b, hb⟩ : ∃ b, b = strOf (fullL s) := ⟨_, rfl⟩
  rw [← hb] at HE hsz0 ⊢
  have hcat : (⟨#[83, 69, 68, 73, 77, 69, 78, 84]⟩ : ByteArray).size + b.size ≤ 9223372036854775807 := by rw [hsz0]; decide
  have hcat2 : 8 + b.size ≤ 9223372036854775807 := by rw [hsz0]; decide
  have HSZ := Lib.hid (show (magicB ++ b).size ≤ 1000000 by rw [hb, pre_size]; decide)
  clear hb5 hb hsz0
  go_wp2_with fail
  refine (close_any (magicB ++ b) _ HSZ.out).mono ?_
  rintro e w6 ⟨rfl, hb6⟩
  rw [← HE.out]
  go_wp2
  go_ret2
  exact ⟨rfl, chain HB5.out hb6⟩

set_option maxRecDepth 100000 in
set_option maxHeartbeats 2000000 in
theorem put_no (s : SV) (w : World) (hok : s.ok) (hm : ¬ s.may) : Calls Try.prog 12 #[s.val] w (RetB w (.tuple #[.string ByteArray.empty, .int .i64 1])) := by
  obtain ⟨⟨k1, k2⟩, k3, k4⟩ := hok
  by_cases hp : planOk s.blocks
  · have HPL := Lib.hid hp
    have hd : s.gen = 0 ∨ (s.gen ≠ 0 ∧ (s.bytes < 0 ∨ 40000 < s.bytes)) := by
      by_cases h0 : s.gen = 0
      · exact .inl h0
      · refine .inr ⟨h0, ?_⟩
        by_cases h1 : s.bytes < 0
        · exact .inl h1
        · refine .inr (Int.lt_of_not_ge fun h2 => hm ⟨hp, h0, by omega, by omega⟩)
    have HD := Lib.hid hd
    unfold I64 at k4
    clear hm hp hd
    simp only [SV.val]
    go_enter Try.func12, Try.ntmps12
    go_wp2_with fail
    refine (plan_yes s.blocks _ HPL.out).mono ?_
    rintro e w1 ⟨rfl, hb1⟩
    have hB1 : w1.heap[w.heap.size]? = _ := heap_step (heap_alloc_new w (.cells #[.int .u64 s.gen, .int .i64 s.blocks, .int .i64 s.bytes] 24)) hb1
    have hs1 : w.heap.size < w1.heap.size := heap_lt hB1
    have HB1 := Lib.hid (chain (bel_alloc (Below.refl _ _) (Nat.le_refl _)) hb1)
    obtain ⟨c0, c1, c2⟩ := cells3 hB1
    clear hb1 hB1
    simp only [layV]
    rcases HD.out with h | ⟨h, h2 | h2⟩
    · have h' : (s.gen == 0) = true := by simp [h]
      clear h HD
      go_wp2
      go_ret2
      exact ⟨rfl, chain HB1.out (bel_new _ _)⟩
    · have h' : (s.gen == 0) = false := by simp [h]
      clear h HD
      go_wp2
      go_ret2
      exact ⟨rfl, chain HB1.out (bel_new _ _)⟩
    · have h' : (s.gen == 0) = false := by simp [h]
      have h3 : ¬ s.bytes < 0 := by omega
      clear h HD
      go_wp2
      go_ret2
      exact ⟨rfl, chain HB1.out (bel_new _ _)⟩
  · have HPL := Lib.hid hp
    have HI := Lib.hid k3
    clear hm hp
    simp only [SV.val]
    go_enter Try.func12, Try.ntmps12
    go_wp2_with fail
    refine (plan_no s.blocks _ HI.out HPL.out).mono ?_
    rintro e w1 ⟨rfl, hb1⟩
    have HB1 := Lib.hid (chain (bel_alloc (Below.refl _ _) (Nat.le_refl _)) hb1)
    clear hb1
    simp only [lay0]
    go_wp2
    go_ret2
    exact ⟨rfl, chain HB1.out (bel_new _ _)⟩
end Go.Proofs.Ytabkeggcaacldaa
