/-
  The contracts of a log's label: head, put; of Blocks.
-/
import Derived.Test.YtjcggkfinhkcoaaGreatPackWords
import Derived.Test.YtjcggkfinhkcoaaGreatPackFill
namespace Go.Proofs.YtjcggkfinhkcoaaGreat
open Go.RowKit
set_option linter.unusedVariables false
set_option linter.unusedSimpArgs false

theorem cells5 {w : World} {b : Nat} {T : TypeId} {x0 x1 x2 x3 x4 : Value} (h : w.heap[b]? = some (.cells #[x0, x1, x2, x3, x4] T)) : w.cell? ⟨b, 0, none⟩ = some x0 ∧ w.cell? ⟨b, 1, none⟩ = some x1 ∧ w.cell? ⟨b, 2, none⟩ = some x2 ∧ w.cell? ⟨b, 3, none⟩ = some x3 ∧ w.cell? ⟨b, 4, none⟩ = some x4 := by
  refine ⟨?_, ?_, ?_, ?_, ?_⟩ <;> (rw [cell_of_row w b _ _ _ _ h]; rfl)
theorem strOf_size (l : List UInt8) : (strOf l).size = l.length := by unfold strOf; show l.toArray.size = _; simp
def wlogB : ByteArray := ⟨#[87, 76, 79, 71]⟩
def labL (g nb pl o by_ : Int) : List UInt8 := [] ++ wordBytes [g] ++ smallBytes 4 [nb] ++ smallBytes 2 [pl, o, by_]
def headL (g nb pl o by_ : Int) : List UInt8 := labL g nb pl o by_ ++ List.replicate (28 - (labL g nb pl o by_).length) 0
def hdB (g nb pl o by_ : Int) : ByteArray := wlogB ++ strOf (headL g nb pl o by_)
theorem lab_len (g nb pl o by_ : Int) : (labL g nb pl o by_).length = 18 := by unfold labL; simp [wordBytes_length, smallBytes_length]
set_option maxRecDepth 100000 in
theorem head_len (g nb pl o by_ : Int) : (headL g nb pl o by_).length = 28 := by unfold headL; simp [lab_len]
set_option maxRecDepth 100000 in
theorem head_size (g nb pl o by_ : Int) : (hdB g nb pl o by_).size = 32 := by unfold hdB; rw [ByteArray.size_append, strOf_size, head_len]; rfl
/-- Where head stands. -/
structure PLS (w0 : World) (g nb pl o by_ : Int) (p : Nat) (l : List UInt8) (w : World) : Prop where
  pk : PackAt w p 0 l
  b : w.heap[w0.heap.size]? = some (.cells #[.int .u64 g, .int .i64 nb, .int .i64 pl, .int .i64 o, .int .i64 by_] 133)
  bel : Below w0.heap.size w0 w
  lt : w0.heap.size < p
theorem PLS.step {w0 w w' w'' : World} {g nb pl o by_ : Int} {p : Nat} {l l' : List UInt8} (h : PLS w0 g nb pl o by_ p l w) (hb : Below w.heap.size w w') (hs : PackStep p w' w'') (hP : PackAt w'' p 0 l') : PLS w0 g nb pl o by_ p l' w'' := by
  have h1 := hs.below (h.pk.keep hb)
  exact ⟨hP, below_at h1 h.lt (heap_step h.b hb), (bel_step h.bel hb h.bel.size).trans (h1.mono (Nat.le_of_lt h.lt)), h.lt⟩

set_option maxRecDepth 100000 in
set_option maxHeartbeats 2000000 in
theorem head_any (g nb pl o by_ : Int) (w : World) (h0 : 0 ≤ g ∧ g ≤ 18446744073709551615) (h1 : 0 ≤ nb ∧ nb < 4294967296) (h2 : 0 ≤ pl ∧ pl < 65536) (h3 : 0 ≤ o ∧ o < 65536) (h4 : 0 ≤ by_ ∧ by_ < 65536) :
    Calls Tryz.prog 104 #[.agg #[.int .u64 g, .int .i64 nb, .int .i64 pl, .int .i64 o, .int .i64 by_]] w (RetB w (.string (hdB g nb pl o by_))) := by
  have hk : ∀ o, (w.alloc o).heap.size = w.heap.size + 1 := fun o => by simp
  have Q0 := Lib.hid (show PLS w g nb pl o by_ (w.heap.size + 1) [] ((w.alloc (.cells #[.int .u64 g, .int .i64 nb, .int .i64 pl, .int .i64 o, .int .i64 by_] 133)).alloc (.cells #[.int .i64 0, .slice none 0 0] 162)) from
    ⟨hk (.cells #[.int .u64 g, .int .i64 nb, .int .i64 pl, .int .i64 o, .int .i64 by_] 133) ▸ pack_new (w.alloc (.cells #[.int .u64 g, .int .i64 nb, .int .i64 pl, .int .i64 o, .int .i64 by_] 133)), (Below.heap_alloc _ _ _ (by rw [hk]; omega)).trans (heap_alloc_new w _), chain (bel_new _ _) (bel_new _ _), by omega⟩)
  go_enter Tryz.func104, Tryz.ntmps104
  go_wp2_with fail
  refine (words_any _ _ [g] [] _ (Q0.out.pk.keep (bel_new _ _)) (words_out_new Q0.out.pk (by simp) rfl (by simp; omega)) (by simp)).mono ?_
  rintro e w2 ⟨rfl, hP, hs⟩
  have Q1 := Lib.hid (Q0.out.step (bel_new _ _) hs hP)
  clear hP hs
  obtain ⟨c0, c1, c2, c3, c4⟩ := cells5 Q1.out.b
  go_wp2_with fail
  refine (small_any _ 4 _ [nb] _ _ (Q1.out.pk.keep (bel_new _ _)) (ints_out_new Q1.out.pk (by simp) rfl (by simp; omega) (by simp)) (.inl rfl) (by simp [lim]; omega) (by simp [wordBytes_length])).mono ?_
  rintro e w3 ⟨rfl, hP, hs⟩
  have Q2 := Lib.hid (Q1.out.step (bel_new _ _) hs hP)
  clear hP hs c0 c1 c2 c3 c4
  obtain ⟨c0, c1, c2, c3, c4⟩ := cells5 Q2.out.b
  go_wp2_with fail
  refine (small_any _ 2 _ [pl, o, by_] _ _ (Q2.out.pk.keep (bel_new _ _)) (ints_out_new Q2.out.pk (by simp) rfl (by simp; omega) (by simp)) (.inr rfl) (by simp [lim]; omega) (by simp [wordBytes_length, smallBytes_length])).mono ?_
  rintro e w4 ⟨rfl, hP, hs⟩
  have Q3 := Lib.hid (Q2.out.step (bel_new _ _) hs hP)
  clear hP hs c0 c1 c2 c3 c4
  obtain ⟨c0, c1, c2, c3, c4⟩ := cells5 Q3.out.b
  go_wp2_with fail
  refine (pfill_any _ 28 _ _ Q3.out.pk (by decide) (by have := lab_len g nb pl o by_; unfold labL at this; rw [this]; decide)).mono ?_
  rintro e w5 ⟨rfl, hP, hs⟩
  have Q4 := Lib.hid (Q3.out.step (Below.refl _ _) hs hP)
  clear hP hs c0 c1 c2 c3 c4
  go_wp2_with fail
  refine (done_ok _ (headL g nb pl o by_) _ Q4.out.pk).mono ?_
  rintro e w6 ⟨rfl, hb6⟩
  have HB6 := Lib.hid (chain Q4.out.bel hb6)
  have hsz0 : (strOf (headL g nb pl o by_)).size = 28 := by rw [strOf_size, head_len]
  have HE := Lib.hid (show hdB g nb pl o by_ = wlogB ++ strOf (headL g nb pl o by_) from rfl)
  obtain ⟨b, hb⟩ : ∃ b, b = strOf (headL g nb pl o by_) := ⟨_, rfl⟩
  rw [← hb] at HE hsz0 ⊢
  have hcat : (⟨#[87, 76, 79, 71]⟩ : ByteArray).size + b.size ≤ 9223372036854775807 := by rw [hsz0]; decide
  have hcat2 : 4 + b.size ≤ 9223372036854775807 := by rw [hsz0]; decide
  clear hb6 hb hsz0
  go_wp2
  go_ret
  exact ⟨by rw [HE.out]; rfl, HB6.out⟩

def putB (g nb pl o : Int) (part : ByteArray) : ByteArray := (hdB g nb pl o part.size ++ part) ++ strOf (List.replicate (224 - part.size) 0)
theorem putB_size (g nb pl o : Int) (part : ByteArray) (h : part.size ≤ 224) : (putB g nb pl o part).size = 256 := by
  unfold putB
  rw [ByteArray.size_append, ByteArray.size_append, head_size, strOf_size, List.length_replicate]; omega
set_option maxRecDepth 100000 in
set_option maxHeartbeats 2000000 in
theorem lput_any (g nb pl o : Int) (part : ByteArray) (by_ : Int) (w : World) (hby : by_ = part.size) (h0 : 0 ≤ g ∧ g ≤ 18446744073709551615) (h1 : 0 ≤ nb ∧ nb < 4294967296) (h2 : 0 ≤ pl ∧ pl < 65536) (h3 : 0 ≤ o ∧ o < 65536) (h4 : part.size ≤ 224) :
    Calls Tryz.prog 87 #[.agg #[.int .u64 g, .int .i64 nb, .int .i64 pl, .int .i64 o, .int .i64 by_], .string part] w (RetB w (.string (putB g nb pl o part))) := by
  have hk : ∀ o, (w.alloc o).heap.size = w.heap.size + 1 := fun o => by simp
  have Q0 := Lib.hid (show PLS w g nb pl o by_ (w.heap.size + 1) [] ((w.alloc (.cells #[.int .u64 g, .int .i64 nb, .int .i64 pl, .int .i64 o, .int .i64 by_] 133)).alloc (.cells #[.int .i64 0, .slice none 0 0] 162)) from
    ⟨hk (.cells #[.int .u64 g, .int .i64 nb, .int .i64 pl, .int .i64 o, .int .i64 by_] 133) ▸ pack_new (w.alloc (.cells #[.int .u64 g, .int .i64 nb, .int .i64 pl, .int .i64 o, .int .i64 by_] 133)), (Below.heap_alloc _ _ _ (by rw [hk]; omega)).trans (heap_alloc_new w _), chain (bel_new _ _) (bel_new _ _), by omega⟩)
  have hI : (part.size : Int) ≤ 224 := by omega
  obtain ⟨m, hm⟩ : ∃ m : Nat, m = 224 - part.size := ⟨_, rfl⟩
  have hmI : (224 : Int) - part.size = (m : Int) := by omega
  have hm2 : m ≤ 224 := by omega
  have HE := Lib.hid (show putB g nb pl o part = (hdB g nb pl o by_ ++ part) ++ strOf (List.replicate m 0) by unfold putB; rw [hby, hm])
  have HPS := Lib.hid h4
  have HBY := Lib.hid (show 0 ≤ by_ ∧ by_ < 65536 by omega)
  have HSZ := Lib.hid (show (hdB g nb pl o by_).size = 32 from head_size _ _ _ _ _)
  clear hby hm h4
  go_enter Tryz.func87, Tryz.ntmps87
  go_wp2_with fail
  refine (pfill_any _ m [] _ Q0.out.pk (by omega) (by simp)).mono ?_
  rintro e w2 ⟨rfl, hP, hs⟩
  rw [List.nil_append, List.length_nil, Nat.sub_zero] at hP
  have Q1 := Lib.hid (Q0.out.step (Below.refl _ _) hs hP)
  clear hP hs
  go_wp2_with fail
  refine (done_ok _ _ _ Q1.out.pk).mono ?_
  rintro e w3 ⟨rfl, hb3⟩
  have HB3 := Lib.hid (chain Q1.out.bel hb3)
  obtain ⟨c0, c1, c2, c3, c4⟩ := cells5 (heap_step Q1.out.b hb3)
  clear hb3
  go_wp2_with fail
  refine (head_any g nb pl o by_ _ h0 h1 h2 h3 HBY.out).mono ?_
  rintro e w4 ⟨rfl, hb4⟩
  have HB4 := Lib.hid (chain HB3.out hb4)
  have hz := HSZ.out
  have hz2 : (strOf (List.replicate m 0)).size = m := by rw [strOf_size, List.length_replicate]
  obtain ⟨H, hH⟩ : ∃ H, H = hdB g nb pl o by_ := ⟨_, rfl⟩
  obtain ⟨Z, hZ⟩ : ∃ Z, Z = strOf (List.replicate m 0) := ⟨_, rfl⟩
  rw [← hH] at HE hz ⊢
  rw [← hZ] at HE hz2 ⊢
  have hcat : H.size + part.size ≤ 9223372036854775807 := by omega
  have hcat2 : (H ++ part).size + Z.size ≤ 9223372036854775807 := by rw [ByteArray.size_append]; omega
  have hcat3 : H.size + part.size + Z.size ≤ 9223372036854775807 := by omega
  clear hb4 hH hZ hz hz2 c0 c1 c2 c3 c4
  go_wp2
  go_ret
  exact ⟨by rw [HE.out]; rfl, HB4.out⟩

/-- How many blocks a record takes. -/
def blks (n : Nat) : Nat := if n = 0 then 1 else (n - 1) / 224 + 1
set_option maxRecDepth 100000 in
theorem blocks_any (n : Nat) (w : World) (hn : n ≤ 9000000000000000000) : Calls Tryz.prog 22 #[.int .i64 n] w (RetB w (.int .i64 (blks n))) := by
  have hnI : (n : Int) ≤ 9000000000000000000 := by omega
  by_cases h : n = 0
  · subst h
    go_enter Tryz.func22, Tryz.ntmps22
    go_wp2
    go_ret
    exact ⟨rfl, Below.refl _ _⟩
  · have h1 : ((n : Int) == 0) = false := by simp; omega
    have h2 : (1 : Int) ≤ n := by omega
    have he : ((blks n : Nat) : Int) = ((n : Int) - 1) / 224 + 1 := by unfold blks; rw [if_neg h]; omega
    rw [he]
    clear h he
    go_enter Tryz.func22, Tryz.ntmps22
    go_wp2
    go_ret
    exact ⟨rfl, Below.refl _ _⟩
end Go.Proofs.YtjcggkfinhkcoaaGreat
