/-
  The contracts of pack.Unpacker: From, take, high, Word, Int.
-/
import Derived.Test.YtjcggkfinhkcoaaGreatClone
import Derived.Test.YtjcggkfinhkcoaaGreatPack
import Derived.Test.YtjcggkfinhkcoaaGreatShelf
namespace Go.Proofs.YtjcggkfinhkcoaaGreat
open Go.RowKit
set_option linter.unusedVariables false
set_option linter.unusedSimpArgs false

/-- An Unpacker lies in block u: its error, and the bytes that are left. -/
def UnpAt (w : World) (u : Nat) (e : Int) (s : ByteArray) : Prop := w.heap[u]? = some (.cells #[.int .i64 e, .string s] 155)
/-- Of what was there block u alone may have changed. -/
structure Only (u : Nat) (w w' : World) : Prop where
  os : w'.os = w.os
  tape : w'.tape = w.tape
  output : w'.output = w.output
  size : w.heap.size ≤ w'.heap.size
  block : ∀ k, k < w.heap.size → k ≠ u → w'.heap[k]? = w.heap[k]?
theorem Only.refl (u : Nat) (w : World) : Only u w w := ⟨rfl, rfl, rfl, Nat.le_refl _, fun _ _ _ => rfl⟩
theorem Only.trans {u : Nat} {a b c : World} (h : Only u a b) (k : Only u b c) : Only u a c :=
  ⟨k.os.trans h.os, k.tape.trans h.tape, k.output.trans h.output, Nat.le_trans h.size k.size, fun i hi hu => (k.block i (Nat.lt_of_lt_of_le hi h.size) hu).trans (h.block i hi hu)⟩
theorem Only.of_below {u : Nat} {w w' : World} (h : Below w.heap.size w w') : Only u w w' := ⟨h.os, h.tape, h.output, h.size, fun k hk _ => h.block k hk⟩
theorem Only.below {u : Nat} {w w' : World} (h : Only u w w') (hu : u ≤ w.heap.size) : Below u w w' := ⟨h.os, h.tape, h.output, h.size, fun k hk => h.block k (by omega) (by omega)⟩
theorem Only.set {u : Nat} {w w' : World} (h : Only u w w') (i : Nat) (v : Value) : Only u w (w'.setCell ⟨u, i, none⟩ v) :=
  ⟨h.os, h.tape, h.output, by simp [World.setCell]; exact h.size, fun k hk hu => (set_heap_other _ hu).trans (h.block k hk hu)⟩

set_option maxHeartbeats 400000 in
theorem fail_ok (t : Nat) (x : Int) (c1 : Value) (T : TypeId) (w : World) (h : w.heap[t]? = some (.cells #[.int .i64 0, c1] T)) (hx : x ≠ 0) (hT : T = T) :
    Calls Tryz.prog 99 #[.pointer (some ⟨t, 0, none⟩), .int .i64 x] w (fun e' w' => e' = .returned (.bool true) ∧ w'.heap[t]? = some (.cells #[.int .i64 x, c1] T) ∧ Only t w w') := by
  have c0 : w.cell? ⟨t, 0, none⟩ = some (.int .i64 0) := by rw [cell_of_row w t _ _ _ _ h]; rfl
  have f0 := frozen_row (o := 0) h
  have H := Lib.hid h
  have hx' : (x == 0) = false := by simpa using hx
  have hx2 : (x != 0) = true := by simpa using hx
  clear h hx hT
  go_enter Tryz.func99, Tryz.ntmps99
  go_wp2
  go_ret
  exact ⟨rfl, by rw [set_heap H.out]; rfl, (Only.refl _ _).set _ _⟩

theorem from_any (s : ByteArray) (w : World) (hs : s.size ≤ 281474976710656) : Calls Tryz.prog 69 #[.string s] w (fun e' w' => ∃ u, e' = .returned (.pointer (some ⟨u, 0, none⟩)) ∧ w.heap.size ≤ u ∧ UnpAt w' u 0 s ∧ Below w.heap.size w w') := by
  go_enter Tryz.func69, Tryz.ntmps69
  go_wp2_with fail
  refine (clone_any s w hs).mono ?_
  rintro e w1 ⟨rfl, hb⟩
  go_wp2
  go_ret
  exact ⟨_, rfl, hb.size, heap_alloc_new _ _, bel_alloc hb hb.size⟩

/-- The number that some bytes make, the lowest first. -/
def leVal : List UInt8 → Int
  | [] => 0
  | b :: l => b.toNat + 256 * leVal l

theorem ret_u64 {a b : Int} (h : a = b) : Ending.returned (.int .u64 a) = .returned (.int .u64 b) := by rw [h]
theorem leVal_snoc : ∀ (l : List UInt8) (b : UInt8), leVal (l ++ [b]) = leVal l + b.toNat * 256 ^ l.length
  | [], b => by simp [leVal]
  | a :: l, b => by
    simp only [List.cons_append, leVal, leVal_snoc l b, List.length_cons, Int.pow_succ]
    rw [Int.mul_add, ← Int.mul_assoc, ← Int.mul_assoc, Int.mul_comm 256 (b.toNat : Int), Int.mul_assoc (b.toNat : Int) 256, Int.mul_comm 256 (256 ^ l.length), Int.mul_assoc]
    omega
theorem leVal_bd : ∀ (l : List UInt8), 0 ≤ leVal l ∧ leVal l < 256 ^ l.length
  | [] => by simp [leVal]
  | a :: l => by
    have h := leVal_bd l
    have ha := a.toNat_lt
    simp only [leVal, List.length_cons, Int.pow_succ]
    omega
theorem pow256 (m : Nat) (h : m ≤ 8) : (256 : Int) ^ m ≤ 18446744073709551616 := by
  have : m = 0 ∨ m = 1 ∨ m = 2 ∨ m = 3 ∨ m = 4 ∨ m = 5 ∨ m = 6 ∨ m = 7 ∨ m = 8 := by omega
  rcases this with rfl | rfl | rfl | rfl | rfl | rfl | rfl | rfl | rfl <;> decide
theorem or_step (V : Int) (b : UInt8) (k : Nat) (h0 : 0 ≤ V) (hV : V < 256 ^ k) (hk : k < 8) : bits .or .u64 V (IntKind.u64.wrap (b.toNat * 2 ^ (8 * k))) = V + b.toNat * 256 ^ k := by
  obtain ⟨v, rfl⟩ : ∃ v : Nat, V = v := ⟨V.toNat, by omega⟩
  have hb := b.toNat_lt
  have hp : (2 : Nat) ^ (8 * k) = 256 ^ k := by rw [Nat.pow_mul]
  have hv : v < 2 ^ (8 * k) := by
    have h1 : ((v : Nat) : Int) < ((256 ^ k : Nat) : Int) := by simpa using hV
    rw [hp]; omega
  have hle : (256 : Nat) ^ k ≤ 256 ^ 7 := Nat.pow_le_pow_right (by omega) (by omega)
  have h7 : (256 : Nat) ^ 7 = 72057594037927936 := by decide
  have hm : b.toNat * 256 ^ k ≤ 255 * 256 ^ k := Nat.mul_le_mul_right _ (by omega)
  have hw : IntKind.u64.wrap ((b.toNat : Int) * 2 ^ (8 * k)) = ((b.toNat * 256 ^ k : Nat) : Int) := by
    have : ((b.toNat : Int) * 2 ^ (8 * k)) = ((b.toNat * 256 ^ k : Nat) : Int) := by rw [← hp]; simp
    rw [this]
    rw [u64_wrapd]; unfold u64of; omega
  rw [hw, u64_or_nat _ _ (by omega) (by omega)]
  have h2 := Nat.shiftLeft_add_eq_or_of_lt hv b.toNat
  rw [Nat.shiftLeft_eq, hp] at h2
  rw [Nat.or_comm, ← h2]
  simp; omega
theorem conv_bytes (w : World) (s : ByteArray) : ∃ (cap : Nat) (C : Array Value), (∀ j (hj : j < s.size), C[j]? = some (.int .u8 (s.data[j].toNat : Int))) ∧
    (convert 9 143 (.string s)).run Tryz.prog w = .ok (.slice (some ⟨w.heap.size, 0, none⟩) s.size cap) (w.drew.alloc (.cells C 5 (C.size, C.size + 1))) :=
  ⟨_, _, fun j hj => bytesRow_at s _ j hj, run_bytes_of_string w 9 143 5 s Tryz.underlying9 Tryz.underlying143 Tryz.underlying5⟩

set_option maxRecDepth 100000 in
set_option maxHeartbeats 1000000 in
theorem high_any (s : ByteArray) (w : World) (hs : s.size ≤ 8) : Calls Tryz.prog 97 #[.string s] w (RetB w (.int .u64 (leVal s.data.toList))) := by
  obtain ⟨cap, C, hC, hcv⟩ := conv_bytes w s
  have HC := Lib.hid hC
  clear hC
  go_enter Tryz.func97, Tryz.ntmps97
  go_wp2
  go_loopw [9, 3] (fun i v wr => ∃ (k : Nat) (V : Int), k ≤ s.size ∧ i = .int .i64 k ∧ v = .int .u64 V ∧ Hid (V = leVal (s.data.toList.take k)) ∧ Hid (wr.heap[w.heap.size]? = some (.cells C 5 (C.size, C.size + 1))) ∧ Below w.heap.size w wr) (fun i _ _ => s.size - (intOf i).toNat)
  case atStart => exact ⟨0, 0, Nat.zero_le _, rfl, rfl, Lib.hid (by simp [leVal]), Lib.hid (heap_alloc_new w _), (bel_alloc (Below.refl _ _) (Nat.le_refl _)).drew⟩
  case round =>
    obtain ⟨k, V, hk, rfl, rfl, HV, HB1, hnx⟩ := hrel
    by_cases hlt : k < s.size
    · have hx : wr.cell? ⟨w.heap.size, k, none⟩ = some (.int .u8 (s.data[k].toNat : Int)) := by
        rw [cell_of_row wr _ _ _ _ _ HB1.out]; exact HC.out k hlt
      obtain ⟨b, hb⟩ : ∃ b, b = s.data[k] := ⟨_, rfl⟩
      rw [← hb] at hx
      have HB := Lib.hid hb
      have hb8 : 0 ≤ (b.toNat : Int) ∧ (b.toNat : Int) ≤ 255 := by have := b.toNat_lt; omega
      clear hb
      have hE := or_step V b k (by rw [HV.out]; exact (leVal_bd _).1) (by rw [HV.out]; have := (leVal_bd (s.data.toList.take k)).2; rwa [List.length_take, Nat.min_eq_left (by simpa using hk)] at this) (by omega)
      have HE := Lib.hid hE
      clear hE
      go_wp2
      go_roundw
      case rel =>
        refine ⟨k + 1, _, by omega, by go_num, rfl, Lib.hid ?_, HB1, hnx⟩
        have hl : (s.data.toList.take k).length = k := by rw [List.length_take]; exact Nat.min_eq_left (by simpa using hk)
        rw [HE.out, List.take_succ_eq_append_getElem (by simpa using hlt), leVal_snoc, hl, HV.out, HB.out]; rfl
      case measure => simp [intOf]; omega
    · have hkn : k = s.size := by omega
      subst hkn
      go_wp2
      go_ret
      exact ⟨ret_u64 (by rw [HV.out, List.take_of_length_le (by simp)]), hnx⟩

/-- The bytes behind the first n, and the first n. -/
theorem extract_list (s : ByteArray) (a b : Nat) : (s.extract a b).data.toList = (s.data.toList.take b).drop a := by
  rw [Lib.extract_data]; simp [List.drop_take]

set_option maxRecDepth 100000 in
set_option maxHeartbeats 1000000 in
/-- As many bytes as are asked for are there. -/
theorem take_some (u n : Nat) (s : ByteArray) (w : World) (hU : UnpAt w u 0 s) (hn : n ≤ s.size) (hs : s.size ≤ 9223372036854775807) :
    Calls Tryz.prog 98 #[.pointer (some ⟨u, 0, none⟩), .int .i64 n] w (fun e' w' => e' = .returned (.string (s.extract 0 n)) ∧ UnpAt w' u 0 (s.extract n s.size) ∧ Only u w w') := by
  have c0 : w.cell? ⟨u, 0, none⟩ = some (.int .i64 0) := by rw [cell_of_row w u _ _ _ _ hU]; rfl
  have c1 : w.cell? ⟨u, 1, none⟩ = some (.string s) := by rw [cell_of_row w u _ _ _ _ hU]; rfl
  have f1 := frozen_row (o := 1) hU
  have HU := Lib.hid hU
  clear hU
  go_enter Tryz.func98, Tryz.ntmps98
  go_wp2
  go_ret
  exact ⟨rfl, by unfold UnpAt; rw [set_heap HU.out]; rfl, (Only.refl _ _).set _ _⟩

set_option maxRecDepth 100000 in
set_option maxHeartbeats 1000000 in
/-- There are fewer. -/
theorem take_none (u n : Nat) (s : ByteArray) (w : World) (hU : UnpAt w u 0 s) (hn : s.size < n) :
    Calls Tryz.prog 98 #[.pointer (some ⟨u, 0, none⟩), .int .i64 n] w (fun e' w' => e' = .returned (.string ByteArray.empty) ∧ UnpAt w' u 5 s ∧ Only u w w') := by
  have c0 : w.cell? ⟨u, 0, none⟩ = some (.int .i64 0) := by rw [cell_of_row w u _ _ _ _ hU]; rfl
  have c1 : w.cell? ⟨u, 1, none⟩ = some (.string s) := by rw [cell_of_row w u _ _ _ _ hU]; rfl
  have HU := Lib.hid hU
  have hn' : (s.size : Int) < n := by omega
  clear hU hn
  go_enter Tryz.func98, Tryz.ntmps98
  go_wp2_with fail
  refine (fail_ok u 5 (.string s) 155 w HU.out (by decide) rfl).mono ?_
  rintro e w1 ⟨rfl, hU1, ho⟩
  have HU1 := Lib.hid hU1
  clear hU1
  go_wp2
  go_ret
  exact ⟨rfl, HU1.out, ho⟩

set_option maxRecDepth 100000 in
theorem word_some (u : Nat) (s : ByteArray) (w : World) (hU : UnpAt w u 0 s) (hn : 8 ≤ s.size) (hs : s.size ≤ 9223372036854775807) :
    Calls Tryz.prog 70 #[.pointer (some ⟨u, 0, none⟩)] w (fun e' w' => e' = .returned (.int .u64 (leVal (s.data.toList.take 8))) ∧ UnpAt w' u 0 (s.extract 8 s.size) ∧ Only u w w') := by
  have HU := Lib.hid hU
  have HN := Lib.hid hn
  clear hU hn
  go_enter Tryz.func70, Tryz.ntmps70
  go_wp2_with fail
  refine (take_some u 8 s w HU.out HN.out hs).mono ?_
  rintro e w1 ⟨rfl, hU1, ho⟩
  have HU1 := Lib.hid hU1
  clear hU1
  go_wp2_with fail
  refine (high_any _ w1 (by simp; omega)).mono ?_
  rintro e w2 ⟨rfl, hb⟩
  go_wp2
  go_ret
  exact ⟨ret_u64 (by first | rfl | (rw [extract_list]; rfl)), heap_step HU1.out hb, ho.trans (Only.of_below hb)⟩

end Go.Proofs.YtjcggkfinhkcoaaGreat
