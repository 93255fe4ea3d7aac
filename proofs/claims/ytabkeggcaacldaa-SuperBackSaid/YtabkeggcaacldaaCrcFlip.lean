/-
  A changed byte of closed bytes; bytes in a block.
-/
import Derived.Test.YtabkeggcaacldaaCrc
import Derived.Laws.IdiomStrings
namespace Go.Proofs.Ytabkeggcaacldaa
open Go.RowKit
set_option linter.unusedVariables false
set_option linter.unusedSimpArgs false

theorem closeS_list (s : ByteArray) : (closeS s).data.toList = s.data.toList ++ lowBytes (crcSum s.data.toList) 4 := by simp [closeS, fourS, strOf]
theorem xor_right_inj {a b c : Nat} (h : a ^^^ c = b ^^^ c) : a = b := by
  have := congrArg (· ^^^ c) h
  simpa [Nat.xor_assoc] using this
theorem bit1_inj {x y : Nat} (hx : x < 4294967296) (hy : y < 4294967296) (h : bit1 x = bit1 y) : x = y := by
  unfold bit1 at h
  have mixed : ∀ a b : Nat, a < 2147483648 → b < 2147483648 → a ^^^ 3945912366 = b → False := fun a b ha hb e => by
    have h1 : a ^^^ b = 3945912366 := by rw [← e, ← Nat.xor_assoc, Nat.xor_self, Nat.zero_xor]
    have h2 : a ^^^ b < 2147483648 := Nat.xor_lt_two_pow (n := 31) ha hb
    omega
  split at h <;> split at h
  · have := xor_right_inj h; omega
  · exact (mixed _ _ (by omega) (by omega) h).elim
  · exact (mixed _ _ (by omega) (by omega) h.symm).elim
  · omega
theorem iterB_inj {x y : Nat} (hx : x < 4294967296) (hy : y < 4294967296) : ∀ n, iterB x n = iterB y n → x = y
  | 0, h => h
  | n + 1, h => iterB_inj hx hy n (bit1_inj (iterB_lt hx n) (iterB_lt hy n) h)
theorem byte_lt {x : Nat} (hx : x < 4294967296) (b : UInt8) : x ^^^ b.toNat < 4294967296 := Nat.xor_lt_two_pow (n := 32) hx (by have := b.toNat_lt; omega)
theorem byte1_inj {x y : Nat} (hx : x < 4294967296) (hy : y < 4294967296) (b : UInt8) (h : byte1 x b = byte1 y b) : x = y :=
  xor_right_inj (iterB_inj (byte_lt hx b) (byte_lt hy b) 8 h)
theorem byte1_inj2 {x : Nat} (hx : x < 4294967296) (b c : UInt8) (h : byte1 x b = byte1 x c) : b = c := by
  have h1 := iterB_inj (byte_lt hx b) (byte_lt hx c) 8 h
  rw [Nat.xor_comm x, Nat.xor_comm x] at h1
  exact UInt8.toNat_inj.1 (xor_right_inj h1)
theorem crcL_inj : ∀ (l : List UInt8) {x y : Nat}, x < 4294967296 → y < 4294967296 → crcL x l = crcL y l → x = y
  | [], _, _, _, _, h => h
  | b :: l, x, y, hx, hy, h => byte1_inj hx hy b (crcL_inj l (byte1_lt hx b) (byte1_lt hy b) h)
theorem crcSum_ne {a b : List UInt8} {c d : UInt8} (h : c ≠ d) : crcSum (a ++ c :: b) ≠ crcSum (a ++ d :: b) := by
  intro e
  have e1 := xor_right_inj e
  rw [crcL_append, crcL_append] at e1
  have hx : crcL 4294967295 a < 4294967296 := crcL_lt a (by omega)
  have e2 : byte1 (crcL 4294967295 a) c = byte1 (crcL 4294967295 a) d := crcL_inj b (byte1_lt hx c) (byte1_lt hx d) e1
  exact h (byte1_inj2 hx c d e2)
theorem lowBytes_inj : ∀ (n : Nat) (x y : Int), 0 ≤ x → 0 ≤ y → x < 256 ^ n → y < 256 ^ n → lowBytes x n = lowBytes y n → x = y
  | 0, x, y, h1, h2, h3, h4, _ => by simp at h3 h4; omega
  | n + 1, x, y, h1, h2, h3, h4, h => by
    simp only [lowBytes, List.cons.injEq] at h
    have e1 : x % 256 = y % 256 := by
      have := congrArg UInt8.toNat h.1
      simp only [UInt8.toNat_ofNat'] at this
      omega
    rw [Int.pow_succ] at h3 h4
    have e2 := lowBytes_inj n (x / 256) (y / 256) (by omega) (by omega) (by omega) (by omega) h.2
    omega
theorem fourS_inj {x y : Nat} (hx : x < 4294967296) (hy : y < 4294967296) (h : fourS x = fourS y) : x = y := by
  have h1 : lowBytes x 4 = lowBytes y 4 := by
    have := congrArg (fun s : ByteArray => s.data.toList) h
    simpa [fourS, strOf] using this
  have := lowBytes_inj 4 x y (by omega) (by omega) (by omega) (by omega) h1
  omega
/-- The closed bytes with one of them changed. -/
def chg (l : List UInt8) (p : Nat) (d : UInt8) : List UInt8 := l.set p (l.getD p 0 ^^^ d)
theorem chg_len (l : List UInt8) (p : Nat) (d : UInt8) : (chg l p d).length = l.length := by simp [chg]
theorem chg_zero (l : List UInt8) (p : Nat) (hp : p < l.length) : chg l p 0 = l := by
  unfold chg
  have : l.getD p 0 ^^^ 0 = l[p] := by simp [hp]
  rw [this, List.set_getElem_self]
theorem xor_ne (c d : UInt8) (h : d ≠ 0) : c ^^^ d ≠ c := by
  intro e
  apply h
  have : c ^^^ (c ^^^ d) = c ^^^ c := by rw [e]
  rwa [← UInt8.xor_assoc, UInt8.xor_self, UInt8.zero_xor] at this
theorem strOf_data (l : List UInt8) : (strOf l).data.toList = l := by simp [strOf]
theorem strOf_back (s : ByteArray) : strOf s.data.toList = s := data_inj (strOf_data _)
theorem split_at (l : List UInt8) (p : Nat) (hp : p < l.length) (c : UInt8) : l = l.take p ++ l.getD p 0 :: l.drop (p + 1) ∧ l.set p c = l.take p ++ c :: l.drop (p + 1) := by
  constructor
  · have e : l.getD p 0 = l[p] := by simp [hp]
    rw [e, List.getElem_cons_drop, List.take_append_drop]
  · exact List.set_eq_take_append_cons_drop ▸ by rw [if_pos hp]
/-- A changed byte is told. -/
theorem changed (s : ByteArray) (p : Nat) (d : UInt8) (hd : d ≠ 0) (hp : p < s.size + 4) :
    (strOf (chg (closeS s).data.toList p d)).extract s.size (s.size + 4) ≠ fourS (crcSum ((strOf (chg (closeS s).data.toList p d)).extract 0 s.size).data.toList) := by
  obtain ⟨L, hL⟩ : ∃ L, L = (closeS s).data.toList := ⟨_, rfl⟩
  rw [← hL]
  have hLl : L.length = s.size + 4 := by rw [hL, Array.length_toList]; rw [show (closeS s).data.size = (closeS s).size from rfl]; unfold closeS; rw [ByteArray.size_append, fourS_size]
  have hLd : L = s.data.toList ++ lowBytes (crcSum s.data.toList) 4 := by rw [hL, closeS_list]
  have hsz : (strOf (chg L p d)).size = s.size + 4 := by show (chg L p d).toArray.size = _; rw [List.size_toArray, chg_len, hLl]
  intro e
  have e1 : ((strOf (chg L p d)).extract 0 s.size).data.toList = (chg L p d).take s.size := by rw [Lib.extract_data, strOf_data, List.drop_zero, Nat.sub_zero]
  have e2 : ((strOf (chg L p d)).extract s.size (s.size + 4)).data.toList = (chg L p d).drop s.size := by
    rw [Lib.extract_data, strOf_data, List.take_of_length_le (by rw [List.length_drop, chg_len, hLl]; exact Nat.le_refl _)]
  have e3 := congrArg (fun x : ByteArray => x.data.toList) e
  replace e3 : ((strOf (chg L p d)).extract s.size (s.size + 4)).data.toList = (fourS (crcSum ((strOf (chg L p d)).extract 0 s.size).data.toList)).data.toList := e3
  rw [e1, e2] at e3
  have hfour : ∀ x, (fourS x).data.toList = lowBytes x 4 := fun x => strOf_data _
  rw [hfour] at e3
  have hn : s.data.toList.length = s.size := by simp
  have hLt : L.take s.size = s.data.toList := by rw [hLd, List.take_left' hn]
  have hLdr : L.drop s.size = lowBytes (crcSum s.data.toList) 4 := by rw [hLd, List.drop_left' hn]
  by_cases hpn : p < s.size
  · have t1 : (chg L p d).drop s.size = lowBytes (crcSum s.data.toList) 4 := by unfold chg; rw [List.drop_set_of_lt hpn, hLdr]
    have t2 : (chg L p d).take s.size = s.data.toList.set p (s.data.toList.getD p 0 ^^^ d) := by
      unfold chg
      rw [List.take_set, hLt]
      congr 2
      rw [hLd, List.getD_eq_getElem?_getD, List.getElem?_append_left (by omega), ← List.getD_eq_getElem?_getD]
    rw [t1, t2] at e3
    have e4 := lowBytes_inj 4 _ _ (by omega) (by omega) (by have := crcSum_lt s.data.toList; omega) (by have := crcSum_lt (s.data.toList.set p (s.data.toList.getD p 0 ^^^ d)); omega) e3
    obtain ⟨q1, q2⟩ := split_at s.data.toList p (by omega) (s.data.toList.getD p 0 ^^^ d)
    have e5 : crcSum s.data.toList = crcSum (s.data.toList.set p (s.data.toList.getD p 0 ^^^ d)) := by omega
    rw [q2] at e5
    conv at e5 => lhs; rw [q1]
    exact crcSum_ne (xor_ne _ _ hd).symm e5
  · have t1 : (chg L p d).take s.size = s.data.toList := by unfold chg; rw [List.take_set_of_le (by omega), hLt]
    rw [t1, ← hLdr] at e3
    have e4 := congrArg (fun l : List UInt8 => l.getD (p - s.size) 0) e3
    simp only [List.getD_eq_getElem?_getD, List.getElem?_drop] at e4
    rw [show s.size + (p - s.size) = p by omega] at e4
    unfold chg at e4
    rw [List.getElem?_set_self (by omega)] at e4
    have e6 : L.getD p 0 = L[p]'(by omega) := by simp [show p < L.length by omega]
    rw [List.getElem?_eq_getElem (show p < L.length by omega)] at e4
    simp only [Option.getD_some] at e4
    rw [e6] at e4
    exact xor_ne _ _ hd e4

/-- These bytes lie at the head of block g, and may be written. -/
def BytesAt (w : World) (g : Nat) (l : List UInt8) : Prop :=
  ∃ cs T lo hi, w.heap[g]? = some (.cells cs T (lo, hi)) ∧ l.length ≤ lo ∧ ∀ j, j < l.length → cs[j]? = some (.int .u8 (l.getD j 0).toNat)
theorem BytesAt.step {w w' : World} {g : Nat} {l : List UInt8} (h : BytesAt w g l) (hb : Below w.heap.size w w') : BytesAt w' g l := by
  obtain ⟨cs, T, lo, hi, h1, h2⟩ := h
  exact ⟨cs, T, lo, hi, heap_step h1 hb, h2⟩
theorem BytesAt.cell {w : World} {g : Nat} {l : List UInt8} (h : BytesAt w g l) (j : Nat) (hj : j < l.length) : w.cell? ⟨g, j, none⟩ = some (.int .u8 (l.getD j 0).toNat) := by
  obtain ⟨cs, T, lo, hi, h1, _, h3⟩ := h
  rw [cell_of_row w g _ _ _ _ h1]; exact h3 j hj
theorem BytesAt.free {w : World} {g : Nat} {l : List UInt8} (h : BytesAt w g l) (j : Nat) (hj : j < l.length) : w.frozen? ⟨g, j, none⟩ = false := by
  obtain ⟨cs, T, lo, hi, h1, h2, _⟩ := h
  simp [World.frozen?, h1]; omega
theorem BytesAt.set {w : World} {g : Nat} {l : List UInt8} (h : BytesAt w g l) (p : Nat) (hp : p < l.length) (c : UInt8) : BytesAt (w.setCell ⟨g, p, none⟩ (.int .u8 c.toNat)) g (l.set p c) := by
  obtain ⟨cs, T, lo, hi, h1, h2, h3⟩ := h
  refine ⟨_, T, lo, hi, set_heap h1 _, by simpa using h2, fun j hj => ?_⟩
  simp only [List.length_set] at hj
  have hcs : p < cs.size := (Array.getElem?_eq_some_iff.1 (h3 p hp)).1
  by_cases hjp : p = j
  · subst hjp
    rw [Array.getElem?_setIfInBounds_self_of_lt hcs]
    simp [hp]
  · rw [Array.getElem?_setIfInBounds_ne hjp, h3 j hj]
    simp only [List.getD_eq_getElem?_getD]
    rw [List.getElem?_set_ne hjp]
theorem BytesAt.conv {w : World} {g n cap : Nat} {l : List UInt8} (h : BytesAt w g l) (hn : l.length = n) :
    (convert 37 9 (.slice (some ⟨g, 0, none⟩) n cap)).run Try.prog w = .ok (.string (strOf l)) w := by
  have := run_convert_bytes_arg w 37 5 Try.underlying37 Try.underlying5 g 0 n cap (l.map fun b => (b.toNat : Int)) (by simpa using hn) (fun i hi => by
    rw [Nat.zero_add, h.cell i (by omega)]
    simp [show i < l.length by omega]) 9 Try.underlying9
  rwa [strOfNums_bytes] at this
theorem bytes_new (w : World) (s : ByteArray) (cap hi : Nat) (T : TypeId) : BytesAt (w.drew.alloc (.cells (bytesRow s cap) T ((bytesRow s cap).size, hi))) w.heap.size s.data.toList := by
  refine ⟨_, T, _, hi, heap_new_at rfl, by simp [bytesRow], fun j hj => ?_⟩
  simp only [Array.length_toList] at hj
  unfold bytesRow
  rw [Array.getElem?_append_left (by simpa using hj)]
  have hj' : j < s.data.size := hj
  rw [Array.getElem?_map, Array.getElem?_eq_getElem hj', List.getD_eq_getElem?_getD, Array.getElem?_toList, Array.getElem?_eq_getElem hj']
  rfl

end Go.Proofs.Ytabkeggcaacldaa
