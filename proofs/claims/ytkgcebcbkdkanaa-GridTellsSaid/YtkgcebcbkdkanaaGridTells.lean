/-
  The walk of the law GridTells.
-/
import Derived.Test.YtkgcebcbkdkanaaBookApartI
import Derived.Test.YtkgcebcbkdkanaaGridRef
import Derived.Test.YtkgcebcbkdkanaaGridAlive
namespace Go.Proofs.Ytkgcebcbkdkanaa
open Go.RowKit
set_option linter.unusedVariables false
set_option linter.unusedSimpArgs false

theorem gstarts_few (a b e m : Int) (hm : m ≤ 300) (ha : I64 a) (hb : I64 b) (he : I64 e) : (gstarts a b e m).1.length ≤ 300 ∧ ∀ x ∈ (gstarts a b e m).1, -9223372036854775808 ≤ x ∧ x ≤ 9223372036854775807 := by
  unfold gstarts
  split
  · simp
  · split
    · rename_i h1 h2
      refine ⟨by simp; omega, fun x hx => ?_⟩
      obtain ⟨j, hj, rfl⟩ := List.mem_map.1 hx
      have hj := List.mem_range.1 hj
      have := (gcount_lt (gceil a e) a b e j (by omega) (by omega)).1 hj
      unfold I64 at ha hb
      omega
    · simp
def book0 : Array Value := #[.slice none 0 0, .slice none 0 0, .slice none 0 0, .slice none 0 0, .slice none 0 0, .slice none 0 0, .slice none 0 0, .slice none 0 0, .slice none 0 0, .slice none 0 0, .slice none 0 0, .slice none 0 0, .slice none 0 0, .slice none 0 0, .slice none 0 0, .slice none 0 0]
theorem book0_nil (j : Nat) (h : j < 16) : book0[j]? = some (.slice none 0 0) := by
  have : j = 0 ∨ j = 1 ∨ j = 2 ∨ j = 3 ∨ j = 4 ∨ j = 5 ∨ j = 6 ∨ j = 7 ∨ j = 8 ∨ j = 9 ∨ j = 10 ∨ j = 11 ∨ j = 12 ∨ j = 13 ∨ j = 14 ∨ j = 15 := by omega
  rcases this with rfl | rfl | rfl | rfl | rfl | rfl | rfl | rfl | rfl | rfl | rfl | rfl | rfl | rfl | rfl | rfl <;> rfl
theorem book_nil (w : World) : ∀ j, (j < 16 ∧ j ≠ 2 ∧ j ≠ 3) → book0[j]? = some (.slice none 0 0) := fun j h => book0_nil j h.1
theorem book_new (w : World) : BB_i (w.alloc (.cells book0 36)) w.heap.size w.heap.size book0 0 (fun _ => undef) (fun _ => []) := by
  refine ⟨⟨heap_alloc_new _ _, ⟨_, book0_nil 2 (by decide), OwnL.nil _ _ _ _ _⟩, Fam.none _ _ _ _ _ _ _, by decide, fun i hi => absurd hi (Nat.not_lt_zero _), fun i hi => absurd hi (Nat.not_lt_zero _), by simp⟩, rfl, _, fun _ => undef, book0_nil 3 (by decide), OwnL.nil _ _ _ _ _, fun i hi => absurd hi (Nat.not_lt_zero _), fun lv g e1 e2 => ?_⟩
  rw [book0_nil 2 (by decide)] at e1
  injection e1 with e1
  rw [← e1] at e2
  cases e2

set_option maxRecDepth 100000 in
set_option maxHeartbeats 8000000 in
theorem walkGridTells (a : Int) (wa : (Lit.int .i64 a).wf = true) (b : Int) (wb : (Lit.int .i64 b).wf = true) (e : Int) (we : (Lit.int .i64 e).wf = true) (m : Int) (wm : (Lit.int .i64 m).wf = true) (w : World) :
    Calls Try.prog 5 #[.int .i64 a, .int .i64 b, .int .i64 e, .int .i64 m] w (BoolPost w true) := by
  have ha : I64 a := wf64' wa
  have hb : I64 b := wf64' wb
  have he : I64 e := wf64' we
  have hm := wf64' wm
  clear wa wb we wm
  by_cases hbig : 300 < m
  · go_enter Try.func5, Try.ntmps5
    go_wp2
    go_loopw [10] (fun x wr => ∃ (k : Nat) (cs : Array Value) (vs : Nat → Value) (ls : Nat → List Int), k ≤ 2 ∧ x = .int .i64 k ∧ Hid (BB_i wr w.heap.size w.heap.size cs k vs ls) ∧ Hid (∀ j, (j < 16 ∧ j ≠ 2 ∧ j ≠ 3) → cs[j]? = some (.slice none 0 0)) ∧ Hid (Below w.heap.size w wr)) (fun x _ => 2 - (intOf x).toNat)
    case atStart => exact ⟨0, _, fun _ => undef, fun _ => [], Nat.zero_le _, rfl, Lib.hid (book_new w), Lib.hid (book_nil w), Lib.hid (bel_new w _)⟩
    case round =>
      obtain ⟨k, cs, vs, ls, hk, rfl, HBB, HC, HX⟩ := hrel
      by_cases hlt : k < 2
      · have hkI : (k : Int) < 2 := by omega
        go_wp2_with fail
        refine (starts_any a b e 300 _ ha hb he (by unfold I64; omega) (by omega)).mono ?_
        rintro x w1 ⟨v1, rfl, ho1, hb1⟩
        have HO1 := Lib.hid ho1
        have HB1 := Lib.hid hb1
        clear ho1 hb1
        go_wp2_with fail
        refine (rstarts_any a b e 300 _ ha hb he (by unfold I64; omega) (by omega)).mono ?_
        rintro x w2 ⟨v2, rfl, ho2, hb2⟩
        have hBw : w.heap.size ≤ wr.heap.size := HX.out.size
        have HBB2 := Lib.hid ((HBB.out.below HB1.out).below hb2)
        have HX2 := Lib.hid ((HX.out.trans (HB1.out.mono hBw)).trans (hb2.mono (Nat.le_trans hBw HB1.out.size)))
        have HV1 := Lib.hid ((OwnL.of_row HO1.out).below hb2)
        have HV2 := Lib.hid (OwnL.of_row ho2)
        have HRW := Lib.hid (show ∀ i g, i < k → rowOf (vs i) = some g → rowOf v1 ≠ some g from fun i g hi hg e => by
          have h1 := ((HBB.out.bk.fam.own i hi).lt hg).2.1
          have h2 := ((OwnL.of_row HO1.out).lt e).1
          omega)
        obtain ⟨L, hL⟩ : ∃ L, L = (gstarts a b e 300).1 := ⟨_, rfl⟩
        obtain ⟨ok, hok⟩ : ∃ ok, ok = (gstarts a b e 300).2 := ⟨_, rfl⟩
        have hlen : L.length ≤ 300 ∧ ∀ x ∈ L, -9223372036854775808 ≤ x ∧ x ≤ 9223372036854775807 := by rw [hL]; exact gstarts_few a b e 300 (by omega) ha hb he
        rw [← hL] at HV1 HV2
        rw [← hok]
        have HLE := Lib.hid hlen
        clear ho2 hb2 hL hok hlen HO1 HB1 HBB HX
        obtain ⟨va, vc, rfl⟩ := HV1.out.form
        obtain ⟨ua, uc, rfl⟩ := HV2.out.form
        go_wp2_with fail
        refine (add_i HBB2.out (by omega) (HV1.out.mono hBw) HRW.out (Nat.le_refl _) (by have := HLE.out.1; omega) HLE.out.2).mono ?_
        rintro x w3 ⟨rfl, lv, uv, hbb3, hb3, hs3⟩
        have HBB3 := Lib.hid hbb3
        have HX3 := Lib.hid (HX2.out.trans hb3)
        have hi3 : OwnL w3 _ _ _ _ _ _ := HV1.out.frame (fun g hg => hs3.2 g (HV1.out.lt hg).2.1 (fun cs fr e2 => by
          obtain ⟨_, _, cur, hc⟩ := HV1.out.lt hg
          rw [hc] at e2
          injection e2 with e2; injection e2 with _ e2; exact absurd e2 (by decide)) (fun cs fr e2 => by
          obtain ⟨_, _, cur, hc⟩ := HV1.out.lt hg
          rw [hc] at e2
          injection e2 with e2; injection e2 with _ e2; exact absurd e2 (by decide)))
        have hj3 : OwnL w3 _ _ _ _ _ _ := HV2.out.frame (fun g hg => hs3.2 g (HV2.out.lt hg).2.1 (fun cs fr e2 => by
          obtain ⟨_, _, cur, hc⟩ := HV2.out.lt hg
          rw [hc] at e2
          injection e2 with e2; injection e2 with _ e2; exact absurd e2 (by decide)) (fun cs fr e2 => by
          obtain ⟨_, _, cur, hc⟩ := HV2.out.lt hg
          rw [hc] at e2
          injection e2 with e2; injection e2 with _ e2; exact absurd e2 (by decide)))
        have HI3 := Lib.hid (ints_of_ownL hi3 HLE.out.2)
        have HJ3 := Lib.hid (ints_of_ownL hj3 HLE.out.2)
        have HC3 := Lib.hid (show ∀ j, (j < 16 ∧ j ≠ 2 ∧ j ≠ 3) → ((cs.setIfInBounds 2 lv).setIfInBounds 3 uv)[j]? = some (.slice none 0 0) from fun j hj => by
          rw [Array.getElem?_setIfInBounds_ne (by omega), Array.getElem?_setIfInBounds_ne (by omega)]; exact HC.out j hj)
        clear hbb3 hb3 hs3 hi3 hj3 HBB2 HX2 HV1 HV2 HRW HC
        go_wp2_with fail
        refine (same_ints _ _ L L _ HI3.out HJ3.out).mono ?_
        rintro x w4 ⟨rfl, hb4⟩
        rw [dec_i]
        have HBB4 := Lib.hid (HBB3.out.below hb4)
        have HX4 := Lib.hid (HX3.out.trans (hb4.mono HX3.out.size))
        clear hb4
        have hqq : (ok != ok) = false := by simp
        go_wp2
        go_roundw
        case rel => exact ⟨k + 1, _, _, _, by omega, by go_num, HBB4, HC3, HX4⟩
        case measure => simp [intOf]; omega
      · have hkI : ¬ (k : Int) < 2 := by omega
        have HBX := Lib.hid HX.out.size
        go_wp2_with fail
        refine (alive_any _).mono ?_
        rintro x w1 ⟨rfl, hb1⟩
        have HBB1 := Lib.hid (HBB.out.below hb1)
        have HX1 := Lib.hid (HX.out.trans (hb1.mono HBX.out))
        clear hb1 HBB HX
        by_cases h1 : e < 1
        · have HG := Lib.hid (show gon a e = false from by unfold gon; simp; omega)
          have ON := Lib.hid (show ∀ w, Calls Try.prog 19 #[.int .i64 a, .int .i64 e] w (fun x w' => x = .returned (.bool false) ∧ w = w') from fun w => by have := on_any a e w ha he; rw [HG.out] at this; exact this)
          have RO := Lib.hid (show ∀ w, Calls Try.prog 20 #[.int .i64 a, .int .i64 e] w (fun x w' => x = .returned (.bool false) ∧ w = w') from fun w => by have := ron_any a e w ha he; rw [HG.out] at this; exact this)
          have DI := Lib.hid (show ∀ w, Calls Try.prog 12 #[.int .i64 e, .int .i64 a] w (fun x w' => x = .returned (.bool false) ∧ w = w') from fun w => by have := divides_any e a w ha he; rw [HG.out] at this; exact this)
          go_wp2_with (first | (go_at_call 10; refine (floor_any _ _ _ ha he).mono ?_; rintro x w' ⟨rfl, rfl⟩) | (go_at_call 17; refine (rfloor_any _ _ _ ha he).mono ?_; rintro x w' ⟨rfl, rfl⟩) | (go_at_call 11; refine (ceil_any _ _ _ ha he).mono ?_; rintro x w' ⟨rfl, rfl⟩) | (go_at_call 18; refine (rceil_any _ _ _ ha he).mono ?_; rintro x w' ⟨rfl, rfl⟩) | (go_at_call 19; refine (ON.out _).mono ?_; rintro x w' ⟨rfl, rfl⟩) | (go_at_call 20; refine (RO.out _).mono ?_; rintro x w' ⟨rfl, rfl⟩) | (go_at_call 12; refine (DI.out _).mono ?_; rintro x w' ⟨rfl, rfl⟩) | (go_at_call 21; refine (back_any _ _ _ _ ha hb he).mono ?_; rintro x w' ⟨rfl, rfl⟩) | (go_at_call 22; refine (rback_any _ _ _ _ ha hb he).mono ?_; rintro x w' ⟨rfl, rfl⟩))
          refine (apart_any HBB1.out (fun j hj => HC.out j hj) (Nat.le_refl _)).mono ?_
          rintro x w5 ⟨rfl, hb5⟩
          go_wp2
          go_ret
          exact ⟨rfl, HX1.out.trans hb5⟩
        · by_cases h2 : a.tmod e = 0
          · have hq : (a.tmod e == 0) = true := by simpa using h2
            have HG := Lib.hid (show gon a e = true from by
              unfold gon
              simp
              have := tmod_eq a e (by omega)
              have := emod_facts a e (by omega)
              split at * <;> omega)
            have ON := Lib.hid (show ∀ w, Calls Try.prog 19 #[.int .i64 a, .int .i64 e] w (fun x w' => x = .returned (.bool true) ∧ w = w') from fun w => by have := on_any a e w ha he; rw [HG.out] at this; exact this)
            have RO := Lib.hid (show ∀ w, Calls Try.prog 20 #[.int .i64 a, .int .i64 e] w (fun x w' => x = .returned (.bool true) ∧ w = w') from fun w => by have := ron_any a e w ha he; rw [HG.out] at this; exact this)
            have DI := Lib.hid (show ∀ w, Calls Try.prog 12 #[.int .i64 e, .int .i64 a] w (fun x w' => x = .returned (.bool true) ∧ w = w') from fun w => by have := divides_any e a w ha he; rw [HG.out] at this; exact this)
            go_wp2_with (first | (go_at_call 10; refine (floor_any _ _ _ ha he).mono ?_; rintro x w' ⟨rfl, rfl⟩) | (go_at_call 17; refine (rfloor_any _ _ _ ha he).mono ?_; rintro x w' ⟨rfl, rfl⟩) | (go_at_call 11; refine (ceil_any _ _ _ ha he).mono ?_; rintro x w' ⟨rfl, rfl⟩) | (go_at_call 18; refine (rceil_any _ _ _ ha he).mono ?_; rintro x w' ⟨rfl, rfl⟩) | (go_at_call 19; refine (ON.out _).mono ?_; rintro x w' ⟨rfl, rfl⟩) | (go_at_call 20; refine (RO.out _).mono ?_; rintro x w' ⟨rfl, rfl⟩) | (go_at_call 12; refine (DI.out _).mono ?_; rintro x w' ⟨rfl, rfl⟩) | (go_at_call 21; refine (back_any _ _ _ _ ha hb he).mono ?_; rintro x w' ⟨rfl, rfl⟩) | (go_at_call 22; refine (rback_any _ _ _ _ ha hb he).mono ?_; rintro x w' ⟨rfl, rfl⟩))
            refine (apart_any HBB1.out (fun j hj => HC.out j hj) (Nat.le_refl _)).mono ?_
            rintro x w5 ⟨rfl, hb5⟩
            go_wp2
            go_ret
            exact ⟨rfl, HX1.out.trans hb5⟩
          · have hq : (a.tmod e == 0) = false := by simpa using h2
            have HG := Lib.hid (show gon a e = false from by
              unfold gon
              simp
              intro _ h3
              have := tmod_eq a e (by omega)
              rw [if_pos (.inr h3)] at this
              omega)
            have ON := Lib.hid (show ∀ w, Calls Try.prog 19 #[.int .i64 a, .int .i64 e] w (fun x w' => x = .returned (.bool false) ∧ w = w') from fun w => by have := on_any a e w ha he; rw [HG.out] at this; exact this)
            have RO := Lib.hid (show ∀ w, Calls Try.prog 20 #[.int .i64 a, .int .i64 e] w (fun x w' => x = .returned (.bool false) ∧ w = w') from fun w => by have := ron_any a e w ha he; rw [HG.out] at this; exact this)
            have DI := Lib.hid (show ∀ w, Calls Try.prog 12 #[.int .i64 e, .int .i64 a] w (fun x w' => x = .returned (.bool false) ∧ w = w') from fun w => by have := divides_any e a w ha he; rw [HG.out] at this; exact this)
            go_wp2_with (first | (go_at_call 10; refine (floor_any _ _ _ ha he).mono ?_; rintro x w' ⟨rfl, rfl⟩) | (go_at_call 17; refine (rfloor_any _ _ _ ha he).mono ?_; rintro x w' ⟨rfl, rfl⟩) | (go_at_call 11; refine (ceil_any _ _ _ ha he).mono ?_; rintro x w' ⟨rfl, rfl⟩) | (go_at_call 18; refine (rceil_any _ _ _ ha he).mono ?_; rintro x w' ⟨rfl, rfl⟩) | (go_at_call 19; refine (ON.out _).mono ?_; rintro x w' ⟨rfl, rfl⟩) | (go_at_call 20; refine (RO.out _).mono ?_; rintro x w' ⟨rfl, rfl⟩) | (go_at_call 12; refine (DI.out _).mono ?_; rintro x w' ⟨rfl, rfl⟩) | (go_at_call 21; refine (back_any _ _ _ _ ha hb he).mono ?_; rintro x w' ⟨rfl, rfl⟩) | (go_at_call 22; refine (rback_any _ _ _ _ ha hb he).mono ?_; rintro x w' ⟨rfl, rfl⟩))
            refine (apart_any HBB1.out (fun j hj => HC.out j hj) (Nat.le_refl _)).mono ?_
            rintro x w5 ⟨rfl, hb5⟩
            go_wp2
            go_ret
            exact ⟨rfl, HX1.out.trans hb5⟩
  · go_enter Try.func5, Try.ntmps5
    go_wp2
    go_loopw [10] (fun x wr => ∃ (k : Nat) (cs : Array Value) (vs : Nat → Value) (ls : Nat → List Int), k ≤ 2 ∧ x = .int .i64 k ∧ Hid (BB_i wr w.heap.size w.heap.size cs k vs ls) ∧ Hid (∀ j, (j < 16 ∧ j ≠ 2 ∧ j ≠ 3) → cs[j]? = some (.slice none 0 0)) ∧ Hid (Below w.heap.size w wr)) (fun x _ => 2 - (intOf x).toNat)
    case atStart => exact ⟨0, _, fun _ => undef, fun _ => [], Nat.zero_le _, rfl, Lib.hid (book_new w), Lib.hid (book_nil w), Lib.hid (bel_new w _)⟩
    case round =>
      obtain ⟨k, cs, vs, ls, hk, rfl, HBB, HC, HX⟩ := hrel
      by_cases hlt : k < 2
      · have hkI : (k : Int) < 2 := by omega
        go_wp2_with fail
        refine (starts_any a b e m _ ha hb he (by unfold I64; omega) (by omega)).mono ?_
        rintro x w1 ⟨v1, rfl, ho1, hb1⟩
        have HO1 := Lib.hid ho1
        have HB1 := Lib.hid hb1
        clear ho1 hb1
        go_wp2_with fail
        refine (rstarts_any a b e m _ ha hb he (by unfold I64; omega) (by omega)).mono ?_
        rintro x w2 ⟨v2, rfl, ho2, hb2⟩
        have hBw : w.heap.size ≤ wr.heap.size := HX.out.size
        have HBB2 := Lib.hid ((HBB.out.below HB1.out).below hb2)
        have HX2 := Lib.hid ((HX.out.trans (HB1.out.mono hBw)).trans (hb2.mono (Nat.le_trans hBw HB1.out.size)))
        have HV1 := Lib.hid ((OwnL.of_row HO1.out).below hb2)
        have HV2 := Lib.hid (OwnL.of_row ho2)
        have HRW := Lib.hid (show ∀ i g, i < k → rowOf (vs i) = some g → rowOf v1 ≠ some g from fun i g hi hg e => by
          have h1 := ((HBB.out.bk.fam.own i hi).lt hg).2.1
          have h2 := ((OwnL.of_row HO1.out).lt e).1
          omega)
        obtain ⟨L, hL⟩ : ∃ L, L = (gstarts a b e m).1 := ⟨_, rfl⟩
        obtain ⟨ok, hok⟩ : ∃ ok, ok = (gstarts a b e m).2 := ⟨_, rfl⟩
        have hlen : L.length ≤ 300 ∧ ∀ x ∈ L, -9223372036854775808 ≤ x ∧ x ≤ 9223372036854775807 := by rw [hL]; exact gstarts_few a b e m (by omega) ha hb he
        rw [← hL] at HV1 HV2
        rw [← hok]
        have HLE := Lib.hid hlen
        clear ho2 hb2 hL hok hlen HO1 HB1 HBB HX
        obtain ⟨va, vc, rfl⟩ := HV1.out.form
        obtain ⟨ua, uc, rfl⟩ := HV2.out.form
        go_wp2_with fail
        refine (add_i HBB2.out (by omega) (HV1.out.mono hBw) HRW.out (Nat.le_refl _) (by have := HLE.out.1; omega) HLE.out.2).mono ?_
        rintro x w3 ⟨rfl, lv, uv, hbb3, hb3, hs3⟩
        have HBB3 := Lib.hid hbb3
        have HX3 := Lib.hid (HX2.out.trans hb3)
        have hi3 : OwnL w3 _ _ _ _ _ _ := HV1.out.frame (fun g hg => hs3.2 g (HV1.out.lt hg).2.1 (fun cs fr e2 => by
          obtain ⟨_, _, cur, hc⟩ := HV1.out.lt hg
          rw [hc] at e2
          injection e2 with e2; injection e2 with _ e2; exact absurd e2 (by decide)) (fun cs fr e2 => by
          obtain ⟨_, _, cur, hc⟩ := HV1.out.lt hg
          rw [hc] at e2
          injection e2 with e2; injection e2 with _ e2; exact absurd e2 (by decide)))
        have hj3 : OwnL w3 _ _ _ _ _ _ := HV2.out.frame (fun g hg => hs3.2 g (HV2.out.lt hg).2.1 (fun cs fr e2 => by
          obtain ⟨_, _, cur, hc⟩ := HV2.out.lt hg
          rw [hc] at e2
          injection e2 with e2; injection e2 with _ e2; exact absurd e2 (by decide)) (fun cs fr e2 => by
          obtain ⟨_, _, cur, hc⟩ := HV2.out.lt hg
          rw [hc] at e2
          injection e2 with e2; injection e2 with _ e2; exact absurd e2 (by decide)))
        have HI3 := Lib.hid (ints_of_ownL hi3 HLE.out.2)
        have HJ3 := Lib.hid (ints_of_ownL hj3 HLE.out.2)
        have HC3 := Lib.hid (show ∀ j, (j < 16 ∧ j ≠ 2 ∧ j ≠ 3) → ((cs.setIfInBounds 2 lv).setIfInBounds 3 uv)[j]? = some (.slice none 0 0) from fun j hj => by
          rw [Array.getElem?_setIfInBounds_ne (by omega), Array.getElem?_setIfInBounds_ne (by omega)]; exact HC.out j hj)
        clear hbb3 hb3 hs3 hi3 hj3 HBB2 HX2 HV1 HV2 HRW HC
        go_wp2_with fail
        refine (same_ints _ _ L L _ HI3.out HJ3.out).mono ?_
        rintro x w4 ⟨rfl, hb4⟩
        rw [dec_i]
        have HBB4 := Lib.hid (HBB3.out.below hb4)
        have HX4 := Lib.hid (HX3.out.trans (hb4.mono HX3.out.size))
        clear hb4
        have hqq : (ok != ok) = false := by simp
        go_wp2
        go_roundw
        case rel => exact ⟨k + 1, _, _, _, by omega, by go_num, HBB4, HC3, HX4⟩
        case measure => simp [intOf]; omega
      · have hkI : ¬ (k : Int) < 2 := by omega
        have HBX := Lib.hid HX.out.size
        go_wp2_with fail
        refine (alive_any _).mono ?_
        rintro x w1 ⟨rfl, hb1⟩
        have HBB1 := Lib.hid (HBB.out.below hb1)
        have HX1 := Lib.hid (HX.out.trans (hb1.mono HBX.out))
        clear hb1 HBB HX
        by_cases h1 : e < 1
        · have HG := Lib.hid (show gon a e = false from by unfold gon; simp; omega)
          have ON := Lib.hid (show ∀ w, Calls Try.prog 19 #[.int .i64 a, .int .i64 e] w (fun x w' => x = .returned (.bool false) ∧ w = w') from fun w => by have := on_any a e w ha he; rw [HG.out] at this; exact this)
          have RO := Lib.hid (show ∀ w, Calls Try.prog 20 #[.int .i64 a, .int .i64 e] w (fun x w' => x = .returned (.bool false) ∧ w = w') from fun w => by have := ron_any a e w ha he; rw [HG.out] at this; exact this)
          have DI := Lib.hid (show ∀ w, Calls Try.prog 12 #[.int .i64 e, .int .i64 a] w (fun x w' => x = .returned (.bool false) ∧ w = w') from fun w => by have := divides_any e a w ha he; rw [HG.out] at this; exact this)
          go_wp2_with (first | (go_at_call 10; refine (floor_any _ _ _ ha he).mono ?_; rintro x w' ⟨rfl, rfl⟩) | (go_at_call 17; refine (rfloor_any _ _ _ ha he).mono ?_; rintro x w' ⟨rfl, rfl⟩) | (go_at_call 11; refine (ceil_any _ _ _ ha he).mono ?_; rintro x w' ⟨rfl, rfl⟩) | (go_at_call 18; refine (rceil_any _ _ _ ha he).mono ?_; rintro x w' ⟨rfl, rfl⟩) | (go_at_call 19; refine (ON.out _).mono ?_; rintro x w' ⟨rfl, rfl⟩) | (go_at_call 20; refine (RO.out _).mono ?_; rintro x w' ⟨rfl, rfl⟩) | (go_at_call 12; refine (DI.out _).mono ?_; rintro x w' ⟨rfl, rfl⟩) | (go_at_call 21; refine (back_any _ _ _ _ ha hb he).mono ?_; rintro x w' ⟨rfl, rfl⟩) | (go_at_call 22; refine (rback_any _ _ _ _ ha hb he).mono ?_; rintro x w' ⟨rfl, rfl⟩))
          refine (apart_any HBB1.out (fun j hj => HC.out j hj) (Nat.le_refl _)).mono ?_
          rintro x w5 ⟨rfl, hb5⟩
          go_wp2
          go_ret
          exact ⟨rfl, HX1.out.trans hb5⟩
        · by_cases h2 : a.tmod e = 0
          · have hq : (a.tmod e == 0) = true := by simpa using h2
            have HG := Lib.hid (show gon a e = true from by
              unfold gon
              simp
              have := tmod_eq a e (by omega)
              have := emod_facts a e (by omega)
              split at * <;> omega)
            have ON := Lib.hid (show ∀ w, Calls Try.prog 19 #[.int .i64 a, .int .i64 e] w (fun x w' => x = .returned (.bool true) ∧ w = w') from fun w => by have := on_any a e w ha he; rw [HG.out] at this; exact this)
            have RO := Lib.hid (show ∀ w, Calls Try.prog 20 #[.int .i64 a, .int .i64 e] w (fun x w' => x = .returned (.bool true) ∧ w = w') from fun w => by have := ron_any a e w ha he; rw [HG.out] at this; exact this)
            have DI := Lib.hid (show ∀ w, Calls Try.prog 12 #[.int .i64 e, .int .i64 a] w (fun x w' => x = .returned (.bool true) ∧ w = w') from fun w => by have := divides_any e a w ha he; rw [HG.out] at this; exact this)
            go_wp2_with (first | (go_at_call 10; refine (floor_any _ _ _ ha he).mono ?_; rintro x w' ⟨rfl, rfl⟩) | (go_at_call 17; refine (rfloor_any _ _ _ ha he).mono ?_; rintro x w' ⟨rfl, rfl⟩) | (go_at_call 11; refine (ceil_any _ _ _ ha he).mono ?_; rintro x w' ⟨rfl, rfl⟩) | (go_at_call 18; refine (rceil_any _ _ _ ha he).mono ?_; rintro x w' ⟨rfl, rfl⟩) | (go_at_call 19; refine (ON.out _).mono ?_; rintro x w' ⟨rfl, rfl⟩) | (go_at_call 20; refine (RO.out _).mono ?_; rintro x w' ⟨rfl, rfl⟩) | (go_at_call 12; refine (DI.out _).mono ?_; rintro x w' ⟨rfl, rfl⟩) | (go_at_call 21; refine (back_any _ _ _ _ ha hb he).mono ?_; rintro x w' ⟨rfl, rfl⟩) | (go_at_call 22; refine (rback_any _ _ _ _ ha hb he).mono ?_; rintro x w' ⟨rfl, rfl⟩))
            refine (apart_any HBB1.out (fun j hj => HC.out j hj) (Nat.le_refl _)).mono ?_
            rintro x w5 ⟨rfl, hb5⟩
            go_wp2
            go_ret
            exact ⟨rfl, HX1.out.trans hb5⟩
          · have hq : (a.tmod e == 0) = false := by simpa using h2
            have HG := Lib.hid (show gon a e = false from by
              unfold gon
              simp
              intro _ h3
              have := tmod_eq a e (by omega)
              rw [if_pos (.inr h3)] at this
              omega)
            have ON := Lib.hid (show ∀ w, Calls Try.prog 19 #[.int .i64 a, .int .i64 e] w (fun x w' => x = .returned (.bool false) ∧ w = w') from fun w => by have := on_any a e w ha he; rw [HG.out] at this; exact this)
            have RO := Lib.hid (show ∀ w, Calls Try.prog 20 #[.int .i64 a, .int .i64 e] w (fun x w' => x = .returned (.bool false) ∧ w = w') from fun w => by have := ron_any a e w ha he; rw [HG.out] at this; exact this)
            have DI := Lib.hid (show ∀ w, Calls Try.prog 12 #[.int .i64 e, .int .i64 a] w (fun x w' => x = .returned (.bool false) ∧ w = w') from fun w => by have := divides_any e a w ha he; rw [HG.out] at this; exact this)
            go_wp2_with (first | (go_at_call 10; refine (floor_any _ _ _ ha he).mono ?_; rintro x w' ⟨rfl, rfl⟩) | (go_at_call 17; refine (rfloor_any _ _ _ ha he).mono ?_; rintro x w' ⟨rfl, rfl⟩) | (go_at_call 11; refine (ceil_any _ _ _ ha he).mono ?_; rintro x w' ⟨rfl, rfl⟩) | (go_at_call 18; refine (rceil_any _ _ _ ha he).mono ?_; rintro x w' ⟨rfl, rfl⟩) | (go_at_call 19; refine (ON.out _).mono ?_; rintro x w' ⟨rfl, rfl⟩) | (go_at_call 20; refine (RO.out _).mono ?_; rintro x w' ⟨rfl, rfl⟩) | (go_at_call 12; refine (DI.out _).mono ?_; rintro x w' ⟨rfl, rfl⟩) | (go_at_call 21; refine (back_any _ _ _ _ ha hb he).mono ?_; rintro x w' ⟨rfl, rfl⟩) | (go_at_call 22; refine (rback_any _ _ _ _ ha hb he).mono ?_; rintro x w' ⟨rfl, rfl⟩))
            refine (apart_any HBB1.out (fun j hj => HC.out j hj) (Nat.le_refl _)).mono ?_
            rintro x w5 ⟨rfl, hb5⟩
            go_wp2
            go_ret
            exact ⟨rfl, HX1.out.trans hb5⟩
end Go.Proofs.Ytkgcebcbkdkanaa
