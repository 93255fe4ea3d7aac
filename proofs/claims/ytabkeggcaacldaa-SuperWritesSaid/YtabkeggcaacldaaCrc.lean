/-
  The contracts of the crc package.
-/
import Derived.Test.YtabkeggcaacldaaClone
import Derived.Test.YtabkeggcaacldaaPackSmall
import Derived.Test.YtabkeggcaacldaaTexts
import Derived.Test.YtabkeggcaacldaaShelf
namespace Go.Proofs.Ytabkeggcaacldaa
open Go.RowKit
set_option linter.unusedVariables false
set_option linter.unusedSimpArgs false

def bit1 (x : Nat) : Nat := if x % 2 = 1 then (x / 2) ^^^ 3945912366 else x / 2
def iterB : Nat → Nat → Nat
  | x, 0 => x
  | x, n + 1 => bit1 (iterB x n)
def byte1 (x : Nat) (b : UInt8) : Nat := iterB (x ^^^ b.toNat) 8
def crcL (x : Nat) (l : List UInt8) : Nat := l.foldl byte1 x
theorem bit1_lt {x : Nat} (h : x < 4294967296) : bit1 x < 4294967296 := by
  unfold bit1
  split
  · exact Nat.xor_lt_two_pow (n := 32) (by omega) (by omega)
  · omega
theorem iterB_lt {x : Nat} (h : x < 4294967296) : ∀ n, iterB x n < 4294967296
  | 0 => h
  | n + 1 => bit1_lt (iterB_lt h n)
theorem byte1_lt {x : Nat} (h : x < 4294967296) (b : UInt8) : byte1 x b < 4294967296 := iterB_lt (Nat.xor_lt_two_pow (n := 32) h (by have := b.toNat_lt; omega)) 8
theorem crcL_lt : ∀ (l : List UInt8) {x : Nat}, x < 4294967296 → crcL x l < 4294967296
  | [], _, h => h
  | b :: l, x, h => crcL_lt l (byte1_lt h b)
theorem crcL_append (x : Nat) (a b : List UInt8) : crcL x (a ++ b) = crcL (crcL x a) b := by simp [crcL]

theorem take_snocS {l : List ByteArray} {k : Nat} (h : k < l.length) : l.take (k + 1) = l.take k ++ [l.getD k ByteArray.empty] := by
  rw [List.take_succ_eq_append_getElem h]; simp [h]
def joinT (l : List ByteArray) : List UInt8 := l.flatMap fun s => s.data.toList
theorem joinT_take {l : List ByteArray} {k : Nat} (h : k < l.length) : joinT (l.take (k + 1)) = joinT (l.take k) ++ (l.getD k ByteArray.empty).data.toList := by
  rw [take_snocS h]; simp [joinT]

/-- A Sum lies in block q; it bears x, the complement's complement. -/
def SumAt (w : World) (q : Nat) (x : Nat) : Prop := w.heap[q]? = some (.cells #[.int .u32 x] 112)

theorem xor_lit (a b : Nat) (ha : a < 4294967296) (hb : b < 4294967296) : bits .xor .u32 (a : Int) (b : Int) = ((a ^^^ b : Nat) : Int) := u32_xor_nat a b ha hb
theorem xor_all (x : Nat) (hx : x < 4294967296) : bits .xor .u32 (((x ^^^ 4294967295 : Nat)) : Int) 4294967295 = (x : Int) := by
  have := xor_lit (x ^^^ 4294967295) 4294967295 (Nat.xor_lt_two_pow (n := 32) hx (by omega)) (by omega)
  rw [Nat.xor_assoc, Nat.xor_self, Nat.xor_zero] at this
  exact this
theorem xor_all2 (x : Nat) (hx : x < 4294967296) : bits .xor .u32 (x : Int) 4294967295 = ((x ^^^ 4294967295 : Nat) : Int) := xor_lit x 4294967295 hx (by omega)
theorem and_one (x : Nat) (hx : x < 4294967296) : bits .and .u32 (x : Int) 1 = ((x % 2 : Nat) : Int) := by
  have := u32_and_nat x 1 hx (by omega)
  rw [Nat.and_one_is_mod] at this
  exact this
theorem xor_odd (x : Nat) (hx : x < 4294967296) (h : x % 2 = 1) : bits .xor .u32 ((x : Int) / 2) 3945912366 = ((bit1 x : Nat) : Int) := by
  have := xor_lit (x / 2) 3945912366 (by omega) (by omega)
  unfold bit1; rw [if_pos h, ← this]; rfl
theorem bit_even (x : Nat) (h : ¬ x % 2 = 1) : (x : Int) / 2 = ((bit1 x : Nat) : Int) := by unfold bit1; rw [if_neg h]; simp
theorem iterB_succ (x n : Nat) : iterB x (n + 1) = bit1 (iterB x n) := rfl
theorem crcL_take {x : Nat} {l : List UInt8} {k : Nat} (h : k < l.length) : crcL x (l.take (k + 1)) = byte1 (crcL x (l.take k)) (l.getD k 0) := by
  rw [List.take_succ_eq_append_getElem h, crcL_append]; simp [crcL, h]

set_option maxRecDepth 100000 in
set_option maxHeartbeats 1000000 in
theorem add_any (q x : Nat) (v : Value) (l : List ByteArray) (w : World) (hq : SumAt w q (x ^^^ 4294967295)) (hx : x < 4294967296) (hv : TextsAt w v l) :
    Calls Try.prog 65 #[.pointer (some ⟨q, 0, none⟩), v] w (fun e' w' => e' = .returned (.tuple #[]) ∧ SumAt w' q (crcL x (joinT l) ^^^ 4294967295) ∧ w' = w.setCell ⟨q, 0, none⟩ (.int .u32 (crcL x (joinT l) ^^^ 4294967295 : Nat))) := by
  obtain ⟨a, ca, rfl, hI, hlen, hc⟩ := hv
  have HC := Lib.hid hc
  have HI := Lib.hid hI
  have HQ := Lib.hid hq
  have c0 : w.cell? ⟨q, 0, none⟩ = some (.int .u32 (x ^^^ 4294967295 : Nat)) := by rw [cell_of_row w q _ _ _ _ hq]; rfl
  have f0 := frozen_row (o := 0) hq
  clear hc hI hq
  go_enter Try.func65, Try.ntmps65
  have bx := xor_all x hx
  go_wp2
  clear bx
  go_loop [18, 4] (fun i y => ∃ (k Y : Nat), k ≤ l.length ∧ i = .int .i64 k ∧ y = .int .u32 Y ∧ Y < 4294967296 ∧ Hid (Y = crcL x (joinT (l.take k)))) (fun i _ => l.length - (intOf i).toNat)
  case atStart => exact ⟨0, x, Nat.zero_le _, rfl, rfl, hx, Lib.hid (by simp [joinT, crcL])⟩
  case round =>
    obtain ⟨k, Y, hk, rfl, rfl, hY, HY⟩ := hrel
    by_cases hlt : k < l.length
    · obtain ⟨b, o, rfl, hbw, hcl⟩ := HC.out (by intro h; simp [h] at hlt)
      have hcell := hcl k hlt
      have hsz := HI.out (l.getD k ByteArray.empty) (by simp [hlt])
      obtain ⟨s, hs⟩ : ∃ s, s = l.getD k ByteArray.empty := ⟨_, rfl⟩
      have HT := Lib.hid (joinT_take hlt)
      rw [← hs] at hcell hsz HT
      have HS := Lib.hid hs
      clear hs hcl
      go_wp2
      go_loop [24, 4] (fun i y => ∃ (j Z : Nat), j ≤ s.size ∧ i = .int .i64 j ∧ y = .int .u32 Z ∧ Z < 4294967296 ∧ Hid (Z = crcL Y (s.data.toList.take j))) (fun i _ => s.size - (intOf i).toNat)
      case atStart => exact ⟨0, Y, Nat.zero_le _, rfl, rfl, hY, Lib.hid (by simp [crcL])⟩
      case round =>
        obtain ⟨j, Z, hj, rfl, rfl, hZ, HZ⟩ := hrel
        by_cases hjt : j < s.size
        · have hx1 := Lib.hid (crcL_take (x := Y) (l := s.data.toList) (k := j) (by simpa using hjt))
          have hg : (s.data.toList.getD j 0) = s[j] := by simp [List.getD, hjt]; rfl
          rw [hg] at hx1
          have bz := xor_lit Z s[j].toNat hZ (by have := s[j].toNat_lt; omega)
          have hc8 : 0 ≤ (s[j].toNat : Int) ∧ (s[j].toNat : Int) ≤ 255 := by have := s[j].toNat_lt; omega
          have hD1 : (Z ^^^ s[j].toNat) < 4294967296 := Nat.xor_lt_two_pow (n := 32) hZ (by have := s[j].toNat_lt; omega)
          obtain ⟨D, hD⟩ : ∃ D, D = Z ^^^ s[j].toNat := ⟨_, rfl⟩
          rw [← hD] at bz hD1
          have HD := Lib.hid hD
          have HX1 := Lib.hid hx1
          clear hg hD hx1
          go_wp2
          clear bz
          go_loop [33, 4] (fun i y => ∃ (n V : Nat), n ≤ 8 ∧ i = .int .i64 n ∧ y = .int .u32 V ∧ V < 4294967296 ∧ Hid (V = iterB D n)) (fun i _ => 8 - (intOf i).toNat)
          case atStart => exact ⟨0, D, by omega, rfl, rfl, hD1, Lib.hid rfl⟩
          case round =>
            obtain ⟨n, V, hn, rfl, rfl, hV, HV⟩ := hrel
            have HN := Lib.hid (iterB_succ D n)
            have HB := Lib.hid (bit1_lt hV)
            by_cases hnt : n < 8
            · by_cases hodd : V % 2 = 1
              · have ba := and_one V hV
                rw [hodd] at ba
                have bx := xor_odd V hV hodd
                clear hodd
                go_wp2
                go_round
                case rel => exact ⟨n + 1, _, by omega, by go_num, rfl, HB.out, Lib.hid (by rw [HN.out, ← HV.out])⟩
                case measure => simp [intOf]; omega
              · have ba := and_one V hV
                have he : V % 2 = 0 := by omega
                rw [he] at ba
                have HE := Lib.hid (bit_even V hodd)
                clear hodd he
                go_wp2
                go_round
                case rel => exact ⟨n + 1, _, by omega, by go_num, by rw [HE.out], HB.out, Lib.hid (by rw [HN.out, ← HV.out])⟩
                case measure => simp [intOf]; omega
            · have hn8 : n = 8 := by omega
              subst hn8
              go_wp2
              go_round
              case rel => exact ⟨j + 1, V, by omega, by go_num, rfl, hV, Lib.hid (by rw [HX1.out, ← HZ.out, HV.out, HD.out]; rfl)⟩
              case measure => simp [intOf]; omega
        · have hjs : j = s.size := by omega
          subst hjs
          go_wp2
          go_round
          case rel =>
            refine ⟨k + 1, Z, by omega, by go_num, rfl, hZ, Lib.hid ?_⟩
            have := HZ.out
            rw [List.take_of_length_le (by simp)] at this
            rw [this, HT.out, crcL_append, ← HY.out]
          case measure => simp [intOf]; omega
    · have hkl : k = l.length := by omega
      subst hkl
      have hF := HY.out
      rw [List.take_length] at hF
      have HF := Lib.hid hF
      have bx := xor_all2 Y hY
      clear hF hlt
      go_wp2
      go_end0
      rw [← HF.out]
      refine ⟨rfl, ?_, rfl⟩
      unfold SumAt
      rw [set_heap HQ.out]; rfl
def crcSum (l : List UInt8) : Nat := crcL 4294967295 l ^^^ 4294967295
theorem crcSum_lt (l : List UInt8) : crcSum l < 4294967296 := Nat.xor_lt_two_pow (n := 32) (crcL_lt l (by omega)) (by omega)

theorem value_any (q x : Nat) (w : World) (hq : SumAt w q x) : Calls Try.prog 66 #[.pointer (some ⟨q, 0, none⟩)] w (RetB w (.int .u32 x)) := by
  have c0 : w.cell? ⟨q, 0, none⟩ = some (.int .u32 x) := by rw [cell_of_row w q _ _ _ _ hq]; rfl
  clear hq
  go_enter Try.func66, Try.ntmps66
  go_wp2
  go_ret
  exact ⟨rfl, Below.refl _ _⟩

set_option maxRecDepth 100000 in
theorem cof_any (v : Value) (l : List ByteArray) (w : World) (hv : TextsAt w v l) : Calls Try.prog 52 #[v] w (RetB w (.int .u32 (crcSum (joinT l)))) := by
  have HV := Lib.hid (hv.below (bel_new w (.cells #[.int .u32 0] 112)))
  have HQ := Lib.hid (show SumAt (w.alloc (.cells #[.int .u32 0] 112)) w.heap.size (4294967295 ^^^ 4294967295) from heap_alloc_new _ _)
  clear hv
  go_enter Try.func52, Try.ntmps52
  go_wp2_with fail
  refine (add_any w.heap.size 4294967295 v l _ HQ.out (by omega) HV.out).mono ?_
  rintro e w1 ⟨rfl, hq, hw⟩
  have HQ1 := Lib.hid hq
  have HB := Lib.hid (show Below w.heap.size w w1 by rw [hw]; exact bel_set (bel_new _ _) (Nat.le_refl _))
  clear hq hw
  go_wp2_with fail
  refine (value_any w.heap.size _ w1 HQ1.out).mono ?_
  rintro e w2 ⟨rfl, hb⟩
  go_wp2
  go_ret
  exact ⟨rfl, chain HB.out hb⟩

def fourS (x : Nat) : ByteArray := strOf (lowBytes x 4)
theorem fourS_size (x : Nat) : (fourS x).size = 4 := by show (lowBytes x 4).length = 4; exact lowBytes_length _ _
set_option maxRecDepth 100000 in
theorem four_any (x : Nat) (w : World) (hx : x < 4294967296) : Calls Try.prog 51 #[.int .u32 x] w (RetB w (.string (fourS x))) := by
  have hx2 : (x : Int) ≤ 4294967295 := by omega
  have P0 := Lib.hid (pack_new w)
  have HX := Lib.hid hx
  clear hx
  go_enter Try.func51, Try.ntmps51
  go_wp2_with fail
  refine (small_any w.heap.size 4 _ [(x : Int)] [] _ (P0.out.keep (bel_new _ _)) (ints_out_new P0.out (by simp) rfl (by simp; omega) (by simp)) (.inl rfl) (by have := HX.out; simp [lim]; omega) (by simp)).mono ?_
  rintro e w1 ⟨rfl, hP, hs⟩
  have HP1 := Lib.hid hP
  have hb := (hs.below (P0.out.keep (bel_new _ _)))
  have HB := Lib.hid (bel_step (bel_new w _) (bel_new _ _) (by simp) |>.trans hb)
  clear hP hs hb
  go_wp2_with fail
  refine (done_ok _ _ _ HP1.out).mono ?_
  rintro e w2 ⟨rfl, hb2⟩
  go_wp2
  go_ret
  exact ⟨by simp [fourS, smallBytes], chain HB.out hb2⟩

def closeS (s : ByteArray) : ByteArray := s ++ fourS (crcSum s.data.toList)
theorem joinT_one (s : ByteArray) : joinT [s] = s.data.toList := by simp [joinT]
set_option maxRecDepth 100000 in
theorem close_any (s : ByteArray) (w : World) (hs : s.size ≤ 1000000) : Calls Try.prog 30 #[.string s] w (RetB w (.string (closeS s))) := by
  have HJ := Lib.hid (joinT_one s)
  have HS := Lib.hid hs
  go_enter Try.func30, Try.ntmps30
  go_wp2_with fail
  refine (cof_any _ [s] _ (texts_new (l := [s]) rfl (by rfl) (by simp; omega) (by simp))).mono ?_
  rintro e w1 ⟨rfl, hb1⟩
  rw [HJ.out]
  have hb1' := chain (bel_new _ _) hb1
  clear hb1
  go_wp2_with fail
  refine (four_any _ _ (crcSum_lt _)).mono ?_
  rintro e w2 ⟨rfl, hb2⟩
  have hcat : s.size + (fourS (crcSum s.data.toList)).size ≤ 9223372036854775807 := by rw [fourS_size]; omega
  go_wp2
  go_ret
  exact ⟨rfl, chain hb1' hb2⟩

theorem open_short (b : ByteArray) (w : World) (hb : b.size < 4) : Calls Try.prog 35 #[.string b] w (RetB w (.tuple #[.string ByteArray.empty, .int .i64 5])) := by
  have h2 : (b.size : Int) < 4 := by omega
  have h3 : (b.size : Int) - 4 < 0 := by omega
  go_enter Try.func35, Try.ntmps35
  go_wp2
  go_ret2
  exact ⟨rfl, Below.refl _ _⟩

theorem data_inj {a b : ByteArray} (h : a.data.toList = b.data.toList) : a = b := by
  cases a; cases b; congr; exact Array.toList_inj.1 h
theorem toList_inj {a b : ByteArray} (h : a.toList = b.toList) : a = b := by
  rw [ByteArray.toList_eq, ByteArray.toList_eq] at h
  exact data_inj h

set_option maxRecDepth 100000 in
set_option maxHeartbeats 1000000 in
theorem open_long (b t u : ByteArray) (n : Nat) (w : World) (hb : b.size = n + 4) (hb2 : n ≤ 1000000) (ht : b.extract 0 n = t) (hu : b.extract n (n + 4) = u) :
    Calls Try.prog 35 #[.string b] w (RetB w (if u = fourS (crcSum t.data.toList) then .tuple #[.string t, .int .i64 0] else .tuple #[.string ByteArray.empty, .int .i64 7])) := by
  have hbI : (b.size : Int) = (n : Int) + 4 := by omega
  have hle : (n : Int) ≤ (n : Int) + 4 := by omega
  have HT := Lib.hid ht
  have hts : t.size ≤ 1000000 := by rw [← ht]; simp; omega
  have HTS := Lib.hid hts
  have HJ := Lib.hid (joinT_one t)
  clear hts
  by_cases he : u = fourS (crcSum t.data.toList)
  · rw [if_pos he]
    have hq : (u.toList == (fourS (crcSum t.data.toList)).toList) = true := by rw [he]; simp
    clear he
    go_enter Try.func35, Try.ntmps35
    go_wp2
    refine wp_region_inv (R := Blw) (S := (fun w' => Below w.heap.size w w')) 11 (Spec.val ?_ :: Spec.val ?_ :: Spec.val ?_ :: Spec.val ?_ :: Spec.val ?_ :: Spec.val ?_ :: (textsS [t]) :: Spec.val ?_ :: Spec.val ?_ :: Spec.val ?_ :: Spec.val ?_ :: []) (by kernel_rfl) (by kernel_rfl) rfl (fun w1 w2 h hb => chain h hb) ((Below.refl _ _).drew) ?hm6
    case' hm6 => skip
    refine inv_val (i := 0) (by kernel_rfl) rfl rfl (fun w1 hS hd K hK => ?_) ?_
    · (try dsimp only at hS); go_simp; exact hK.out _ _ (by simp only [Act.put, List.setIfInBounds_toArray, List.set_cons_zero, List.set_cons_succ, List.nil_append, List.cons_append]; rfl) (Below.refl _ _)
    simp only [Act.put, List.setIfInBounds_toArray, List.set_cons_zero, List.set_cons_succ, List.nil_append, List.cons_append]
    refine inv_val (i := 1) (by kernel_rfl) rfl rfl (fun w1 hS hd K hK => ?_) ?_
    · (try dsimp only at hS); go_simp; exact hK.out _ _ (by simp only [Act.put, List.setIfInBounds_toArray, List.set_cons_zero, List.set_cons_succ, List.nil_append, List.cons_append]; rfl) (Below.refl _ _)
    simp only [Act.put, List.setIfInBounds_toArray, List.set_cons_zero, List.set_cons_succ, List.nil_append, List.cons_append]
    refine inv_val (i := 2) (by kernel_rfl) rfl rfl (fun w1 hS hd K hK => ?_) ?_
    · (try dsimp only at hS); go_simp; exact hK.out _ _ (by simp only [Act.put, List.setIfInBounds_toArray, List.set_cons_zero, List.set_cons_succ, List.nil_append, List.cons_append]; rfl) (Below.refl _ _)
    simp only [Act.put, List.setIfInBounds_toArray, List.set_cons_zero, List.set_cons_succ, List.nil_append, List.cons_append]
    refine inv_val (i := 3) (by kernel_rfl) rfl rfl (fun w1 hS hd K hK => ?_) ?_
    · (try dsimp only at hS); go_simp; exact hK.out _ _ (by simp only [Act.put, List.setIfInBounds_toArray, List.set_cons_zero, List.set_cons_succ, List.nil_append, List.cons_append]; rfl) (Below.refl _ _)
    simp only [Act.put, List.setIfInBounds_toArray, List.set_cons_zero, List.set_cons_succ, List.nil_append, List.cons_append]
    refine inv_val (i := 4) (by kernel_rfl) rfl rfl (fun w1 hS hd K hK => ?_) ?_
    · (try dsimp only at hS); go_simp; exact hK.out _ _ (by simp only [Act.put, List.setIfInBounds_toArray, List.set_cons_zero, List.set_cons_succ, List.nil_append, List.cons_append]; rfl) (Below.refl _ _)
    simp only [Act.put, List.setIfInBounds_toArray, List.set_cons_zero, List.set_cons_succ, List.nil_append, List.cons_append]
    refine inv_val (i := 5) (by kernel_rfl) rfl rfl (fun w1 hS hd K hK => ?_) ?_
    · (try dsimp only at hS); go_simp; exact hK.out _ _ (by simp only [Act.put, List.setIfInBounds_toArray, List.set_cons_zero, List.set_cons_succ, List.nil_append, List.cons_append]; rfl) (Below.refl _ _)
    simp only [Act.put, List.setIfInBounds_toArray, List.set_cons_zero, List.set_cons_succ, List.nil_append, List.cons_append]
    refine inv_rel (i := 6) (by kernel_rfl) rfl rfl (fun w1 hS hd K hK => ?_) (fun v6 => ?_)
    · (try dsimp only at hS); go_simp; refine hK.out _ _ _ (by simp only [Act.put, List.setIfInBounds_toArray, List.set_cons_zero, List.set_cons_succ, List.nil_append, List.cons_append]; rfl) ?_ (bel_new _ _); exact texts_new (l := [t]) rfl (by rfl) (by have := HTS.out; simp; omega) (by simp)
    simp only [Act.put, List.setIfInBounds_toArray, List.set_cons_zero, List.set_cons_succ, List.nil_append, List.cons_append]
    refine inv_val (i := 7) (by kernel_rfl) rfl rfl (fun w1 hS hd K hK => ?_) ?_
    · (try dsimp only at hS); go_simp; refine (cof_any _ [t] _ (hd.out 6 (by kernel_rfl))).mono ?_; rintro e w2 ⟨rfl, hb⟩; rw [HJ.out]; exact hK.out _ _ (by simp only [Act.put, List.setIfInBounds_toArray, List.set_cons_zero, List.set_cons_succ, List.nil_append, List.cons_append]; rfl) hb
    simp only [Act.put, List.setIfInBounds_toArray, List.set_cons_zero, List.set_cons_succ, List.nil_append, List.cons_append]
    refine inv_val (i := 8) (by kernel_rfl) rfl rfl (fun w1 hS hd K hK => ?_) ?_
    · (try dsimp only at hS); go_simp; refine (four_any _ _ (crcSum_lt _)).mono ?_; rintro e w2 ⟨rfl, hb⟩; exact hK.out _ _ (by simp only [Act.put, List.setIfInBounds_toArray, List.set_cons_zero, List.set_cons_succ, List.nil_append, List.cons_append]; rfl) hb
    simp only [Act.put, List.setIfInBounds_toArray, List.set_cons_zero, List.set_cons_succ, List.nil_append, List.cons_append]
    refine inv_val (i := 9) (by kernel_rfl) rfl rfl (fun w1 hS hd K hK => ?_) ?_
    · (try dsimp only at hS); go_simp; exact hK.out _ _ (by simp only [Act.put, List.setIfInBounds_toArray, List.set_cons_zero, List.set_cons_succ, List.nil_append, List.cons_append]; rfl) (Below.refl _ _)
    simp only [Act.put, List.setIfInBounds_toArray, List.set_cons_zero, List.set_cons_succ, List.nil_append, List.cons_append]
    refine inv_val (i := 10) (by kernel_rfl) rfl rfl (fun w1 hS hd K hK => ?_) ?_
    · (try dsimp only at hS); go_simp; exact hK.out _ _ (by simp only [Act.put, List.setIfInBounds_toArray, List.set_cons_zero, List.set_cons_succ, List.nil_append, List.cons_append]; rfl) (Below.refl _ _)
    simp only [Act.put, List.setIfInBounds_toArray, List.set_cons_zero, List.set_cons_succ, List.nil_append, List.cons_append]
    refine inv_done (by kernel_rfl) (fun w3 hS hd => ?_)
    have hb3 : Below w.heap.size w w3 := hS
    go_wp2_with fail
    refine (clone_any t _ (by have := HTS.out; omega)).mono ?_
    rintro e w4 ⟨rfl, hb4⟩
    go_wp2
    go_ret2
    exact ⟨rfl, chain hb3 hb4⟩
  · rw [if_neg he]
    have hq : (u.toList == (fourS (crcSum t.data.toList)).toList) = false := by
      simp only [beq_eq_false_iff_ne]
      exact fun h => he (toList_inj h)
    clear he
    go_enter Try.func35, Try.ntmps35
    go_wp2
    refine wp_region_inv (R := Blw) (S := (fun w' => Below w.heap.size w w')) 11 (Spec.val ?_ :: Spec.val ?_ :: Spec.val ?_ :: Spec.val ?_ :: Spec.val ?_ :: Spec.val ?_ :: (textsS [t]) :: Spec.val ?_ :: Spec.val ?_ :: Spec.val ?_ :: Spec.val ?_ :: []) (by kernel_rfl) (by kernel_rfl) rfl (fun w1 w2 h hb => chain h hb) ((Below.refl _ _).drew) ?hm7
    case' hm7 => skip
    refine inv_val (i := 0) (by kernel_rfl) rfl rfl (fun w1 hS hd K hK => ?_) ?_
    · (try dsimp only at hS); go_simp; exact hK.out _ _ (by simp only [Act.put, List.setIfInBounds_toArray, List.set_cons_zero, List.set_cons_succ, List.nil_append, List.cons_append]; rfl) (Below.refl _ _)
    simp only [Act.put, List.setIfInBounds_toArray, List.set_cons_zero, List.set_cons_succ, List.nil_append, List.cons_append]
    refine inv_val (i := 1) (by kernel_rfl) rfl rfl (fun w1 hS hd K hK => ?_) ?_
    · (try dsimp only at hS); go_simp; exact hK.out _ _ (by simp only [Act.put, List.setIfInBounds_toArray, List.set_cons_zero, List.set_cons_succ, List.nil_append, List.cons_append]; rfl) (Below.refl _ _)
    simp only [Act.put, List.setIfInBounds_toArray, List.set_cons_zero, List.set_cons_succ, List.nil_append, List.cons_append]
    refine inv_val (i := 2) (by kernel_rfl) rfl rfl (fun w1 hS hd K hK => ?_) ?_
    · (try dsimp only at hS); go_simp; exact hK.out _ _ (by simp only [Act.put, List.setIfInBounds_toArray, List.set_cons_zero, List.set_cons_succ, List.nil_append, List.cons_append]; rfl) (Below.refl _ _)
    simp only [Act.put, List.setIfInBounds_toArray, List.set_cons_zero, List.set_cons_succ, List.nil_append, List.cons_append]
    refine inv_val (i := 3) (by kernel_rfl) rfl rfl (fun w1 hS hd K hK => ?_) ?_
    · (try dsimp only at hS); go_simp; exact hK.out _ _ (by simp only [Act.put, List.setIfInBounds_toArray, List.set_cons_zero, List.set_cons_succ, List.nil_append, List.cons_append]; rfl) (Below.refl _ _)
    simp only [Act.put, List.setIfInBounds_toArray, List.set_cons_zero, List.set_cons_succ, List.nil_append, List.cons_append]
    refine inv_val (i := 4) (by kernel_rfl) rfl rfl (fun w1 hS hd K hK => ?_) ?_
    · (try dsimp only at hS); go_simp; exact hK.out _ _ (by simp only [Act.put, List.setIfInBounds_toArray, List.set_cons_zero, List.set_cons_succ, List.nil_append, List.cons_append]; rfl) (Below.refl _ _)
    simp only [Act.put, List.setIfInBounds_toArray, List.set_cons_zero, List.set_cons_succ, List.nil_append, List.cons_append]
    refine inv_val (i := 5) (by kernel_rfl) rfl rfl (fun w1 hS hd K hK => ?_) ?_
    · (try dsimp only at hS); go_simp; exact hK.out _ _ (by simp only [Act.put, List.setIfInBounds_toArray, List.set_cons_zero, List.set_cons_succ, List.nil_append, List.cons_append]; rfl) (Below.refl _ _)
    simp only [Act.put, List.setIfInBounds_toArray, List.set_cons_zero, List.set_cons_succ, List.nil_append, List.cons_append]
    refine inv_rel (i := 6) (by kernel_rfl) rfl rfl (fun w1 hS hd K hK => ?_) (fun v6 => ?_)
    · (try dsimp only at hS); go_simp; refine hK.out _ _ _ (by simp only [Act.put, List.setIfInBounds_toArray, List.set_cons_zero, List.set_cons_succ, List.nil_append, List.cons_append]; rfl) ?_ (bel_new _ _); exact texts_new (l := [t]) rfl (by rfl) (by have := HTS.out; simp; omega) (by simp)
    simp only [Act.put, List.setIfInBounds_toArray, List.set_cons_zero, List.set_cons_succ, List.nil_append, List.cons_append]
    refine inv_val (i := 7) (by kernel_rfl) rfl rfl (fun w1 hS hd K hK => ?_) ?_
    · (try dsimp only at hS); go_simp; refine (cof_any _ [t] _ (hd.out 6 (by kernel_rfl))).mono ?_; rintro e w2 ⟨rfl, hb⟩; rw [HJ.out]; exact hK.out _ _ (by simp only [Act.put, List.setIfInBounds_toArray, List.set_cons_zero, List.set_cons_succ, List.nil_append, List.cons_append]; rfl) hb
    simp only [Act.put, List.setIfInBounds_toArray, List.set_cons_zero, List.set_cons_succ, List.nil_append, List.cons_append]
    refine inv_val (i := 8) (by kernel_rfl) rfl rfl (fun w1 hS hd K hK => ?_) ?_
    · (try dsimp only at hS); go_simp; refine (four_any _ _ (crcSum_lt _)).mono ?_; rintro e w2 ⟨rfl, hb⟩; exact hK.out _ _ (by simp only [Act.put, List.setIfInBounds_toArray, List.set_cons_zero, List.set_cons_succ, List.nil_append, List.cons_append]; rfl) hb
    simp only [Act.put, List.setIfInBounds_toArray, List.set_cons_zero, List.set_cons_succ, List.nil_append, List.cons_append]
    refine inv_val (i := 9) (by kernel_rfl) rfl rfl (fun w1 hS hd K hK => ?_) ?_
    · (try dsimp only at hS); go_simp; exact hK.out _ _ (by simp only [Act.put, List.setIfInBounds_toArray, List.set_cons_zero, List.set_cons_succ, List.nil_append, List.cons_append]; rfl) (Below.refl _ _)
    simp only [Act.put, List.setIfInBounds_toArray, List.set_cons_zero, List.set_cons_succ, List.nil_append, List.cons_append]
    refine inv_val (i := 10) (by kernel_rfl) rfl rfl (fun w1 hS hd K hK => ?_) ?_
    · (try dsimp only at hS); go_simp; exact hK.out _ _ (by simp only [Act.put, List.setIfInBounds_toArray, List.set_cons_zero, List.set_cons_succ, List.nil_append, List.cons_append]; rfl) (Below.refl _ _)
    simp only [Act.put, List.setIfInBounds_toArray, List.set_cons_zero, List.set_cons_succ, List.nil_append, List.cons_append]
    refine inv_done (by kernel_rfl) (fun w3 hS hd => ?_)
    have hb3 : Below w.heap.size w w3 := hS
    go_wp2
    go_ret2
    exact ⟨rfl, hb3⟩
end Go.Proofs.Ytabkeggcaacldaa
