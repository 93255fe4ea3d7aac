/-
  The contracts of the reference's Sum, four, Close, Open.
-/
import Derived.Test.YtabkeggcaacldaaCrc
namespace Go.Proofs.Ytabkeggcaacldaa
open Go.RowKit
set_option linter.unusedVariables false
set_option linter.unusedSimpArgs false

theorem xor_max {x : Nat} (h : x < 4294967296) : ((x ^^^ 4294967295 : Nat) : Int) = 4294967295 - (x : Int) := by
  have h1 : (BitVec.ofNat 32 x ^^^ BitVec.allOnes 32).toNat = x ^^^ 4294967295 := by
    rw [BitVec.toNat_xor, BitVec.toNat_ofNat, BitVec.toNat_allOnes, Nat.mod_eq_of_lt (by omega)]
  have h2 : (BitVec.ofNat 32 x ^^^ BitVec.allOnes 32).toNat = 4294967295 - x := by
    rw [BitVec.xor_allOnes, BitVec.toNat_not, BitVec.toNat_ofNat, Nat.mod_eq_of_lt (by omega)]
  omega

set_option maxRecDepth 100000 in
set_option maxHeartbeats 1000000 in
theorem rsum_any (s : ByteArray) (w : World) (hs : s.size ≤ 9223372036854775807) : Calls Try.prog 40 #[.string s] w (fun e w' => e = .returned (.int .u32 (crcSum s.data.toList)) ∧ w = w') := by
  go_enter Try.func40, Try.ntmps40
  go_wp2
  go_loop [4, 3] (fun i y => ∃ (j Z : Nat), j ≤ s.size ∧ i = .int .i64 j ∧ y = .int .u32 Z ∧ Z < 4294967296 ∧ Hid (Z = crcL 4294967295 (s.data.toList.take j))) (fun i _ => s.size - (intOf i).toNat)
  case atStart => exact ⟨0, 4294967295, Nat.zero_le _, rfl, rfl, by omega, Lib.hid (by simp [crcL])⟩
  case round =>
    obtain ⟨j, Z, hj, rfl, rfl, hZ, HZ⟩ := hrel
    by_cases hjt : j < s.size
    · have hx1 := Lib.hid (crcL_take (x := 4294967295) (l := s.data.toList) (k := j) (by simpa using hjt))
      have hg : (s.data.toList.getD j 0) = s[j] := by simp [List.getD, hjt]; rfl
      rw [hg] at hx1
      have bz := xor_lit Z s[j].toNat hZ (by have := s[j].toNat_lt; omega)
      have hc8 : 0 ≤ (s[j].toNat : Int) ∧ (s[j].toNat : Int) ≤ 255 := by have := s[j].toNat_lt; omega
      have hD1 : (Z ^^^ s[j].toNat) < 4294967296 := Nat.xor_lt_two_pow (n := 32) hZ (by have := s[j].toNat_lt; omega)
      obtain ⟨D, hD⟩ : ∃ D, D = Z ^^^ s[j].toNat := ⟨_, rfl⟩
      rw [← hD] at bz hD1
      have HD := Lib.hid hD
      have HX1 := Lib.hid hx1
      clear hg hD hx1
      go_wp2
      clear bz
      go_loop [5, 3] (fun i y => ∃ (n V : Nat), n ≤ 8 ∧ i = .int .i64 n ∧ y = .int .u32 V ∧ V < 4294967296 ∧ Hid (V = iterB D n)) (fun i _ => 8 - (intOf i).toNat)
      case atStart => exact ⟨0, D, by omega, rfl, rfl, hD1, Lib.hid rfl⟩
      case round =>
        obtain ⟨n, V, hn, rfl, rfl, hV, HV⟩ := hrel
        have HN := Lib.hid (iterB_succ D n)
        have HB := Lib.hid (bit1_lt hV)
        by_cases hnt : n < 8
        · by_cases hodd : V % 2 = 1
          · have ba : (V : Int) % 2 = 1 := by omega
            have bx := xor_odd V hV hodd
            clear hodd
            go_wp2
            go_round
            case rel => exact ⟨n + 1, _, by omega, by go_num, rfl, HB.out, Lib.hid (by rw [HN.out, ← HV.out])⟩
            case measure => simp [intOf]; omega
          · have ba : (V : Int) % 2 = 0 := by omega
            have HE := Lib.hid (bit_even V hodd)
            clear hodd
            go_wp2
            go_round
            case rel => exact ⟨n + 1, _, by omega, by go_num, by rw [HE.out], HB.out, Lib.hid (by rw [HN.out, ← HV.out])⟩
            case measure => simp [intOf]; omega
        · have hn8 : n = 8 := by omega
          subst hn8
          go_wp2
          go_round
          case rel => exact ⟨j + 1, V, by omega, by go_num, rfl, hV, Lib.hid (by rw [HX1.out, ← HZ.out, HV.out, HD.out]; rfl)⟩
          case measure => simp [intOf]; omega
    · have hjs : j = s.size := by omega
      subst hjs
      have hF := HZ.out
      rw [List.take_of_length_le (by simp)] at hF
      have HF := Lib.hid hF
      have HM := Lib.hid (xor_max hZ)
      clear hF hjt
      go_wp2
      go_ret
      exact ⟨ret_int (by unfold crcSum; rw [← HF.out, HM.out]), rfl⟩

theorem four_nums (x : Nat) (hx : x < 4294967296) : strOfNums [(x : Int) % 256, (x : Int) / 256 % 256, (x : Int) / 65536 % 256, (x : Int) / 16777216] = fourS x := by
  have e1 : (x : Int) / 256 / 256 = x / 65536 := by omega
  have e2 : (x : Int) / 65536 / 256 = x / 16777216 := by omega
  have e3 : (x : Int) / 16777216 % 256 = x / 16777216 := by omega
  unfold fourS strOf strOfNums
  simp only [lowBytes, List.map_cons, List.map_nil, e1, e2, e3]
theorem four_conv (x : Nat) (w : World) (hx : x < 4294967296) : (convert 37 9 (.slice (some ⟨w.heap.size, 0, none⟩) 4 4)).run Try.prog (w.alloc (.cells #[.int .u8 ((x : Int) % 256), .int .u8 ((x : Int) / 256 % 256), .int .u8 ((x : Int) / 65536 % 256), .int .u8 ((x : Int) / 16777216)] 5)) =
    .ok (.string (fourS x)) (w.alloc (.cells #[.int .u8 ((x : Int) % 256), .int .u8 ((x : Int) / 256 % 256), .int .u8 ((x : Int) / 65536 % 256), .int .u8 ((x : Int) / 16777216)] 5)) := by
  have := run_convert_bytes_arg (w.alloc (.cells #[.int .u8 ((x : Int) % 256), .int .u8 ((x : Int) / 256 % 256), .int .u8 ((x : Int) / 65536 % 256), .int .u8 ((x : Int) / 16777216)] 5)) 37 5 Try.underlying37 Try.underlying5 w.heap.size 0 4 4
    [(x : Int) % 256, (x : Int) / 256 % 256, (x : Int) / 65536 % 256, (x : Int) / 16777216] rfl (fun i hi => by
      rw [cell_of_row _ _ _ _ _ _ (heap_alloc_new w _), Nat.zero_add]
      match i, hi with
      | 0, _ => rfl
      | 1, _ => rfl
      | 2, _ => rfl
      | 3, _ => rfl) 9 Try.underlying9
  rwa [four_nums x hx] at this
set_option maxRecDepth 100000 in
theorem rfour_any (x : Nat) (w : World) (hx : x < 4294967296) : Calls Try.prog 39 #[.int .u32 x] w (RetB w (.string (fourS x))) := by
  have hx2 : (x : Int) ≤ 4294967295 := by omega
  have hcv := four_conv x w hx
  go_enter Try.func39, Try.ntmps39
  go_wp2
  go_ret
  exact ⟨rfl, bel_new _ _⟩

set_option maxRecDepth 100000 in
theorem rclose_any (s : ByteArray) (w : World) (hs : s.size ≤ 1000000) : Calls Try.prog 34 #[.string s] w (RetB w (.string (closeS s))) := by
  go_enter Try.func34, Try.ntmps34
  go_wp2_with fail
  refine (rsum_any s _ (by omega)).mono ?_
  rintro e w1 ⟨rfl, rfl⟩
  go_wp2_with fail
  refine (rfour_any _ _ (crcSum_lt _)).mono ?_
  rintro e w2 ⟨rfl, hb2⟩
  have hcat : s.size + (fourS (crcSum s.data.toList)).size ≤ 9223372036854775807 := by rw [fourS_size]; omega
  go_wp2
  go_ret
  exact ⟨rfl, hb2⟩

theorem ropen_short (b : ByteArray) (w : World) (hb : b.size < 4) : Calls Try.prog 15 #[.string b] w (RetB w (.tuple #[.string ByteArray.empty, .int .i64 5])) := by
  have h2 : (b.size : Int) < 4 := by omega
  go_enter Try.func15, Try.ntmps15
  go_wp2
  go_ret2
  exact ⟨rfl, Below.refl _ _⟩

set_option maxRecDepth 100000 in
set_option maxHeartbeats 1000000 in
theorem ropen_long (b t u : ByteArray) (n : Nat) (w : World) (hb : b.size = n + 4) (hb2 : n ≤ 1000000) (ht : b.extract 0 n = t) (hu : b.extract n (n + 4) = u) :
    Calls Try.prog 15 #[.string b] w (RetB w (if u = fourS (crcSum t.data.toList) then .tuple #[.string t, .int .i64 0] else .tuple #[.string ByteArray.empty, .int .i64 7])) := by
  have hbI : (b.size : Int) = (n : Int) + 4 := by omega
  have hle : (n : Int) ≤ (n : Int) + 4 := by omega
  have hts : t.size ≤ 9223372036854775807 := by rw [← ht]; simp; omega
  have HTS := Lib.hid hts
  clear hts
  by_cases he : u = fourS (crcSum t.data.toList)
  · rw [if_pos he]
    have hq : ((fourS (crcSum t.data.toList)).toList != u.toList) = false := by rw [he]; simp
    have hq2 : ((fourS (crcSum t.data.toList)).toList == u.toList) = true := by rw [he]; simp
    clear he
    go_enter Try.func15, Try.ntmps15
    go_wp2
    refine wp_region_inv (R := Blw) (S := (fun w' => Below w.heap.size w w')) 9 (Spec.val ?_ :: Spec.val ?_ :: Spec.val ?_ :: Spec.val ?_ :: Spec.val ?_ :: Spec.val ?_ :: Spec.val ?_ :: Spec.val ?_ :: Spec.val ?_ :: []) (by kernel_rfl) (by kernel_rfl) rfl (fun w1 w2 h hb => chain h hb) ((Below.refl _ _).drew) ?hm8
    case' hm8 => skip
    refine inv_val (i := 0) (by kernel_rfl) rfl rfl (fun w1 hS hd K hK => ?_) ?_
    · (try dsimp only at hS); go_simp; exact hK.out _ _ (by simp only [Act.put, List.setIfInBounds_toArray, List.set_cons_zero, List.set_cons_succ, List.nil_append, List.cons_append]; rfl) (Below.refl _ _)
    simp only [Act.put, List.setIfInBounds_toArray, List.set_cons_zero, List.set_cons_succ, List.nil_append, List.cons_append]
    refine inv_val (i := 1) (by kernel_rfl) rfl rfl (fun w1 hS hd K hK => ?_) ?_
    · (try dsimp only at hS); go_simp; exact hK.out _ _ (by simp only [Act.put, List.setIfInBounds_toArray, List.set_cons_zero, List.set_cons_succ, List.nil_append, List.cons_append]; rfl) (Below.refl _ _)
    simp only [Act.put, List.setIfInBounds_toArray, List.set_cons_zero, List.set_cons_succ, List.nil_append, List.cons_append]
    refine inv_val (i := 2) (by kernel_rfl) rfl rfl (fun w1 hS hd K hK => ?_) ?_
    · (try dsimp only at hS); go_simp; exact hK.out _ _ (by simp only [Act.put, List.setIfInBounds_toArray, List.set_cons_zero, List.set_cons_succ, List.nil_append, List.cons_append]; rfl) (Below.refl _ _)
    simp only [Act.put, List.setIfInBounds_toArray, List.set_cons_zero, List.set_cons_succ, List.nil_append, List.cons_append]
    refine inv_val (i := 3) (by kernel_rfl) rfl rfl (fun w1 hS hd K hK => ?_) ?_
    · (try dsimp only at hS); go_simp; refine (rsum_any t _ HTS.out).mono ?_; rintro e w2 ⟨rfl, rfl⟩; exact hK.out _ _ (by simp only [Act.put, List.setIfInBounds_toArray, List.set_cons_zero, List.set_cons_succ, List.nil_append, List.cons_append]; rfl) (Below.refl _ _)
    simp only [Act.put, List.setIfInBounds_toArray, List.set_cons_zero, List.set_cons_succ, List.nil_append, List.cons_append]
    refine inv_val (i := 4) (by kernel_rfl) rfl rfl (fun w1 hS hd K hK => ?_) ?_
    · (try dsimp only at hS); go_simp; refine (rfour_any _ _ (crcSum_lt _)).mono ?_; rintro e w2 ⟨rfl, hb⟩; exact hK.out _ _ (by simp only [Act.put, List.setIfInBounds_toArray, List.set_cons_zero, List.set_cons_succ, List.nil_append, List.cons_append]; rfl) hb
    simp only [Act.put, List.setIfInBounds_toArray, List.set_cons_zero, List.set_cons_succ, List.nil_append, List.cons_append]
    refine inv_val (i := 5) (by kernel_rfl) rfl rfl (fun w1 hS hd K hK => ?_) ?_
    · (try dsimp only at hS); go_simp; exact hK.out _ _ (by simp only [Act.put, List.setIfInBounds_toArray, List.set_cons_zero, List.set_cons_succ, List.nil_append, List.cons_append]; rfl) (Below.refl _ _)
    simp only [Act.put, List.setIfInBounds_toArray, List.set_cons_zero, List.set_cons_succ, List.nil_append, List.cons_append]
    refine inv_val (i := 6) (by kernel_rfl) rfl rfl (fun w1 hS hd K hK => ?_) ?_
    · (try dsimp only at hS); go_simp; exact hK.out _ _ (by simp only [Act.put, List.setIfInBounds_toArray, List.set_cons_zero, List.set_cons_succ, List.nil_append, List.cons_append]; rfl) (Below.refl _ _)
    simp only [Act.put, List.setIfInBounds_toArray, List.set_cons_zero, List.set_cons_succ, List.nil_append, List.cons_append]
    refine inv_val (i := 7) (by kernel_rfl) rfl rfl (fun w1 hS hd K hK => ?_) ?_
    · (try dsimp only at hS); go_simp; exact hK.out _ _ (by simp only [Act.put, List.setIfInBounds_toArray, List.set_cons_zero, List.set_cons_succ, List.nil_append, List.cons_append]; rfl) (Below.refl _ _)
    simp only [Act.put, List.setIfInBounds_toArray, List.set_cons_zero, List.set_cons_succ, List.nil_append, List.cons_append]
    refine inv_val (i := 8) (by kernel_rfl) rfl rfl (fun w1 hS hd K hK => ?_) ?_
    · (try dsimp only at hS); go_simp; exact hK.out _ _ (by simp only [Act.put, List.setIfInBounds_toArray, List.set_cons_zero, List.set_cons_succ, List.nil_append, List.cons_append]; rfl) (Below.refl _ _)
    simp only [Act.put, List.setIfInBounds_toArray, List.set_cons_zero, List.set_cons_succ, List.nil_append, List.cons_append]
    refine inv_done (by kernel_rfl) (fun w3 hS hd => ?_)
    have hb3 : Below w.heap.size w w3 := hS
    go_wp2
    go_ret2
    exact ⟨rfl, hb3⟩
  · rw [if_neg he]
    have hq0 : ¬ (fourS (crcSum t.data.toList)).toList = u.toList := fun h => he (toList_inj h.symm)
    have hq : ((fourS (crcSum t.data.toList)).toList != u.toList) = true := by simpa using hq0
    have hq2 : ((fourS (crcSum t.data.toList)).toList == u.toList) = false := by simpa using hq0
    clear he hq0
    go_enter Try.func15, Try.ntmps15
    go_wp2
    refine wp_region_inv (R := Blw) (S := (fun w' => Below w.heap.size w w')) 9 (Spec.val ?_ :: Spec.val ?_ :: Spec.val ?_ :: Spec.val ?_ :: Spec.val ?_ :: Spec.val ?_ :: Spec.val ?_ :: Spec.val ?_ :: Spec.val ?_ :: []) (by kernel_rfl) (by kernel_rfl) rfl (fun w1 w2 h hb => chain h hb) ((Below.refl _ _).drew) ?hm9
    case' hm9 => skip
    refine inv_val (i := 0) (by kernel_rfl) rfl rfl (fun w1 hS hd K hK => ?_) ?_
    · (try dsimp only at hS); go_simp; exact hK.out _ _ (by simp only [Act.put, List.setIfInBounds_toArray, List.set_cons_zero, List.set_cons_succ, List.nil_append, List.cons_append]; rfl) (Below.refl _ _)
    simp only [Act.put, List.setIfInBounds_toArray, List.set_cons_zero, List.set_cons_succ, List.nil_append, List.cons_append]
    refine inv_val (i := 1) (by kernel_rfl) rfl rfl (fun w1 hS hd K hK => ?_) ?_
    · (try dsimp only at hS); go_simp; exact hK.out _ _ (by simp only [Act.put, List.setIfInBounds_toArray, List.set_cons_zero, List.set_cons_succ, List.nil_append, List.cons_append]; rfl) (Below.refl _ _)
    simp only [Act.put, List.setIfInBounds_toArray, List.set_cons_zero, List.set_cons_succ, List.nil_append, List.cons_append]
    refine inv_val (i := 2) (by kernel_rfl) rfl rfl (fun w1 hS hd K hK => ?_) ?_
    · (try dsimp only at hS); go_simp; exact hK.out _ _ (by simp only [Act.put, List.setIfInBounds_toArray, List.set_cons_zero, List.set_cons_succ, List.nil_append, List.cons_append]; rfl) (Below.refl _ _)
    simp only [Act.put, List.setIfInBounds_toArray, List.set_cons_zero, List.set_cons_succ, List.nil_append, List.cons_append]
    refine inv_val (i := 3) (by kernel_rfl) rfl rfl (fun w1 hS hd K hK => ?_) ?_
    · (try dsimp only at hS); go_simp; refine (rsum_any t _ HTS.out).mono ?_; rintro e w2 ⟨rfl, rfl⟩; exact hK.out _ _ (by simp only [Act.put, List.setIfInBounds_toArray, List.set_cons_zero, List.set_cons_succ, List.nil_append, List.cons_append]; rfl) (Below.refl _ _)
    simp only [Act.put, List.setIfInBounds_toArray, List.set_cons_zero, List.set_cons_succ, List.nil_append, List.cons_append]
    refine inv_val (i := 4) (by kernel_rfl) rfl rfl (fun w1 hS hd K hK => ?_) ?_
    · (try dsimp only at hS); go_simp; refine (rfour_any _ _ (crcSum_lt _)).mono ?_; rintro e w2 ⟨rfl, hb⟩; exact hK.out _ _ (by simp only [Act.put, List.setIfInBounds_toArray, List.set_cons_zero, List.set_cons_succ, List.nil_append, List.cons_append]; rfl) hb
    simp only [Act.put, List.setIfInBounds_toArray, List.set_cons_zero, List.set_cons_succ, List.nil_append, List.cons_append]
    refine inv_val (i := 5) (by kernel_rfl) rfl rfl (fun w1 hS hd K hK => ?_) ?_
    · (try dsimp only at hS); go_simp; exact hK.out _ _ (by simp only [Act.put, List.setIfInBounds_toArray, List.set_cons_zero, List.set_cons_succ, List.nil_append, List.cons_append]; rfl) (Below.refl _ _)
    simp only [Act.put, List.setIfInBounds_toArray, List.set_cons_zero, List.set_cons_succ, List.nil_append, List.cons_append]
    refine inv_val (i := 6) (by kernel_rfl) rfl rfl (fun w1 hS hd K hK => ?_) ?_
    · (try dsimp only at hS); go_simp; exact hK.out _ _ (by simp only [Act.put, List.setIfInBounds_toArray, List.set_cons_zero, List.set_cons_succ, List.nil_append, List.cons_append]; rfl) (Below.refl _ _)
    simp only [Act.put, List.setIfInBounds_toArray, List.set_cons_zero, List.set_cons_succ, List.nil_append, List.cons_append]
    refine inv_val (i := 7) (by kernel_rfl) rfl rfl (fun w1 hS hd K hK => ?_) ?_
    · (try dsimp only at hS); go_simp; exact hK.out _ _ (by simp only [Act.put, List.setIfInBounds_toArray, List.set_cons_zero, List.set_cons_succ, List.nil_append, List.cons_append]; rfl) (Below.refl _ _)
    simp only [Act.put, List.setIfInBounds_toArray, List.set_cons_zero, List.set_cons_succ, List.nil_append, List.cons_append]
    refine inv_val (i := 8) (by kernel_rfl) rfl rfl (fun w1 hS hd K hK => ?_) ?_
    · (try dsimp only at hS); go_simp; exact hK.out _ _ (by simp only [Act.put, List.setIfInBounds_toArray, List.set_cons_zero, List.set_cons_succ, List.nil_append, List.cons_append]; rfl) (Below.refl _ _)
    simp only [Act.put, List.setIfInBounds_toArray, List.set_cons_zero, List.set_cons_succ, List.nil_append, List.cons_append]
    refine inv_done (by kernel_rfl) (fun w3 hS hd => ?_)
    have hb3 : Below w.heap.size w w3 := hS
    go_wp2
    go_ret2
    exact ⟨rfl, hb3⟩

/-- What both Opens answer. -/
theorem opens_both (b : ByteArray) (hb : b.size ≤ 1000000) : ∃ (t : ByteArray) (e : Int), (∀ w, Calls Try.prog 35 #[.string b] w (RetB w (.tuple #[.string t, .int .i64 e]))) ∧ (∀ w, Calls Try.prog 15 #[.string b] w (RetB w (.tuple #[.string t, .int .i64 e]))) := by
  by_cases h : b.size < 4
  · exact ⟨ByteArray.empty, 5, fun w => open_short b w h, fun w => ropen_short b w h⟩
  · obtain ⟨n, hn⟩ : ∃ n, b.size = n + 4 := ⟨b.size - 4, by omega⟩
    have h1 := fun w => open_long b _ _ n w hn (by omega) rfl rfl
    have h2 := fun w => ropen_long b _ _ n w hn (by omega) rfl rfl
    by_cases he : b.extract n (n + 4) = fourS (crcSum (b.extract 0 n).data.toList)
    · refine ⟨b.extract 0 n, 0, fun w => ?_, fun w => ?_⟩
      · have := h1 w; rwa [if_pos he] at this
      · have := h2 w; rwa [if_pos he] at this
    · refine ⟨ByteArray.empty, 7, fun w => ?_, fun w => ?_⟩
      · have := h1 w; rwa [if_neg he] at this
      · have := h2 w; rwa [if_neg he] at this
end Go.Proofs.Ytabkeggcaacldaa
