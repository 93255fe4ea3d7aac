/-
  The walk of the law AggMerges.
-/
import Derived.Test.YtagpamgdgcghfaaAggLaws2
import Derived.Test.YtagpamgdgcghfaaAggAlg
import Derived.Test.YtagpamgdgcghfaaInv
import Derived.Deep.DeepCutAuto
namespace Go.Proofs.Ytagpamgdgcghfaa
open Go.RowKit
set_option linter.unusedVariables false
set_option linter.unusedSimpArgs false

theorem IntsAt.take {w : World} {a : Option Addr} {n ca c : Nat} {l : List Int} (h : IntsAt w (.slice a n ca) l) (hc : c ≤ l.length) : IntsAt w (.slice a c ca) (l.take c) := by
  obtain ⟨a', c', h1, h2, h3, h4⟩ := h
  injection h1 with e1 e2 e3
  subst e1 e3
  have hl : (l.take c).length = c := by simp; omega
  refine ⟨a, ca, by rw [hl], fun x hx => h2 x (List.mem_of_mem_take hx), by rw [hl]; omega, fun hne => ?_⟩
  obtain ⟨b, o, h5, h6, h7⟩ := h4 (by intro h; simp [h] at hne)
  refine ⟨b, o, h5, h6, fun j hj => ?_⟩
  rw [hl] at hj
  rw [h7 j (by omega)]
  simp [List.getD, List.getElem?_take_of_lt hj]
theorem IntsAt.drop {w : World} {a : Option Addr} {n ca c : Nat} {l : List Int} (h : IntsAt w (.slice a n ca) l) (hc : c ≤ l.length) :
    IntsAt w (.slice (if ca = c then a else Option.map (fun x => x.add c) a) (l.length - c) (ca - c)) (l.drop c) := by
  obtain ⟨a', c', h1, h2, h3, h4⟩ := h
  injection h1 with e1 e2 e3
  subst e1 e3
  have hl : (l.drop c).length = l.length - c := by simp
  refine ⟨_, ca - c, by rw [hl], fun x hx => h2 x (List.mem_of_mem_drop hx), by rw [hl]; omega, fun hne => ?_⟩
  have hlt : c < l.length := by
    rcases Nat.lt_or_ge c l.length with h | h
    · exact h
    · exact absurd (List.drop_of_length_le h) hne
  obtain ⟨b, o, h5, h6, h7⟩ := h4 (by intro h; simp [h] at hne)
  refine ⟨b, o + c, ?_, h6, fun j hj => ?_⟩
  · subst h5
    rw [if_neg (by omega)]
    simp only [Option.map_some, Addr.add]
    by_cases h0 : c = 0
    · subst h0; simp
    · simp [h0]
  · rw [hl] at hj
    rw [show o + c + j = o + (c + j) by omega, h7 (c + j) (by omega)]
    simp [List.getD]

/-- The three boxes, and all else that was there. -/
def Three (w0 w : World) (A B C : AggV) : Prop :=
  w.heap[w0.heap.size]? = some (.cells #[.int .i64 A.c, .int .i64 A.hi, .int .u64 A.lo, .int .i64 A.mn, .int .i64 A.mx] 26) ∧ w.heap[w0.heap.size + 1]? = some (.cells #[.int .i64 B.c, .int .i64 B.hi, .int .u64 B.lo, .int .i64 B.mn, .int .i64 B.mx] 26) ∧ w.heap[w0.heap.size + 2]? = some (.cells #[.int .i64 C.c, .int .i64 C.hi, .int .u64 C.lo, .int .i64 C.mn, .int .i64 C.mx] 26) ∧ Below w0.heap.size w0 w
theorem Three.step {w0 w w' : World} {A B C : AggV} (h : Three w0 w A B C) (hb : Below w.heap.size w w') : Three w0 w' A B C :=
  ⟨heap_step h.1 hb, heap_step h.2.1 hb, heap_step h.2.2.1 hb, chain h.2.2.2 hb⟩
theorem Three.drew {w0 w : World} {A B C : AggV} (h : Three w0 w A B C) : Three w0 w.drew A B C := ⟨h.1, h.2.1, h.2.2.1, h.2.2.2.drew⟩
theorem Three.alloc {w0 w : World} {A B C : AggV} (h : Three w0 w A B C) (o : Obj) : Three w0 (w.alloc o) A B C := h.step (bel_alloc (Below.refl _ _) (Nat.le_refl _))
theorem Three.cells {w0 w : World} {A B C : AggV} (h : Three w0 w A B C) : (w.cell? ⟨w0.heap.size, 0, none⟩ = some (.int .i64 A.c) ∧ w.cell? ⟨w0.heap.size, 1, none⟩ = some (.int .i64 A.hi) ∧ w.cell? ⟨w0.heap.size, 2, none⟩ = some (.int .u64 A.lo) ∧ w.cell? ⟨w0.heap.size, 3, none⟩ = some (.int .i64 A.mn) ∧ w.cell? ⟨w0.heap.size, 4, none⟩ = some (.int .i64 A.mx)) ∧ (w.cell? ⟨w0.heap.size + 1, 0, none⟩ = some (.int .i64 B.c) ∧ w.cell? ⟨w0.heap.size + 1, 1, none⟩ = some (.int .i64 B.hi) ∧ w.cell? ⟨w0.heap.size + 1, 2, none⟩ = some (.int .u64 B.lo) ∧ w.cell? ⟨w0.heap.size + 1, 3, none⟩ = some (.int .i64 B.mn) ∧ w.cell? ⟨w0.heap.size + 1, 4, none⟩ = some (.int .i64 B.mx)) ∧ (w.cell? ⟨w0.heap.size + 1 + 1, 0, none⟩ = some (.int .i64 C.c) ∧ w.cell? ⟨w0.heap.size + 1 + 1, 1, none⟩ = some (.int .i64 C.hi) ∧ w.cell? ⟨w0.heap.size + 1 + 1, 2, none⟩ = some (.int .u64 C.lo) ∧ w.cell? ⟨w0.heap.size + 1 + 1, 3, none⟩ = some (.int .i64 C.mn) ∧ w.cell? ⟨w0.heap.size + 1 + 1, 4, none⟩ = some (.int .i64 C.mx)) :=
  ⟨agg_cells h.1, agg_cells h.2.1, agg_cells h.2.2.1⟩
theorem three_new (w : World) (A B C : AggV) : Three w (((w.alloc (.cells #[.int .i64 A.c, .int .i64 A.hi, .int .u64 A.lo, .int .i64 A.mn, .int .i64 A.mx] 26)).alloc (.cells #[.int .i64 B.c, .int .i64 B.hi, .int .u64 B.lo, .int .i64 B.mn, .int .i64 B.mx] 26)).alloc (.cells #[.int .i64 C.c, .int .i64 C.hi, .int .u64 C.lo, .int .i64 C.mn, .int .i64 C.mx] 26)) A B C := by
  refine ⟨?_, ?_, ?_, bel_alloc (bel_alloc (bel_alloc (Below.refl _ _) (Nat.le_refl _)) (by simp)) (by simp <;> omega)⟩
  · rw [Below.heap_alloc _ _ _ (by simp <;> omega), Below.heap_alloc _ _ _ (by simp)]; exact heap_alloc_new _ _
  · rw [Below.heap_alloc _ _ _ (by simp)]; exact heap_new_at (by simp)
  · exact heap_new_at (by simp)

def aggsS (l : List AggV) : Spec := .rel (fun v w => AggsAt w v l) (fun _ _ _ h hb => h.below hb)

/-- How a struct is held against the zero one. -/
theorem vz_of (A : AggV) (h : A.c = 0) (h1 : A.hi = 0) (h2 : A.lo = 0) (h3 : A.mn = 0) (h4 : A.mx = 0) : A = AggV.zero := by
  cases A; simp only at h h1 h2 h3 h4; subst h h1 h2 h3 h4; rfl

set_option maxRecDepth 100000 in
set_option maxHeartbeats 4000000 in
theorem walkAggMergesIn (A B C : AggV) (a : Option Addr) (ca : Nat) (l : List Int) (cut : Int) (w : World) (hA : A.ok) (hB : B.ok) (hC : C.ok) (zA : VZ A) (zB : VZ B) (zC : VZ C)
    (hv : IntsAt w (.slice a l.length ca) l) (hl : l.length ≤ 60) (hc0 : 0 ≤ cut) (hc1 : cut ≤ l.length) :
    Calls Try.prog 4 #[A.val, B.val, C.val, .slice a l.length ca, .int .i64 cut] w (BoolPost w true) := by
  have HA := Lib.hid hA
  have HB := Lib.hid hB
  have HC := Lib.hid hC
  have ZA := Lib.hid zA
  have ZB := Lib.hid zB
  have ZC := Lib.hid zC
  have HV := Lib.hid hv
  clear hA hB hC zA zB zC hv
  have T0 := Lib.hid (three_new w A B C)
  simp only [AggV.val]
  go_enter Try.func4, Try.ntmps4
  go_upto_region 3 with (fail)
  go_cut [52] (fun s wx => s = .bool false ∧ Three w wx A B C)
  case first =>
    have Z0 := zero_invalid
    obtain ⟨⟨c0, c1, c2, c3, c4⟩, ⟨d0, d1, d2, d3, d4⟩, ⟨e0, e1, e2, e3, e4⟩⟩ := T0.out.cells
    go_wp2_with fail
    refine (valid_val A _).mono ?_
    rintro e w1 ⟨rfl, hb1⟩
    have T1 := Lib.hid (T0.out.step hb1)
    clear c0 c1 c2 c3 c4 d0 d1 d2 d3 d4 e0 e1 e2 e3 e4 Z0
    rcases ZA.out with vA | rfl
    · rw [vA]
      obtain ⟨⟨c0, c1, c2, c3, c4⟩, ⟨d0, d1, d2, d3, d4⟩, ⟨e0, e1, e2, e3, e4⟩⟩ := T1.out.cells
      go_wp2_with fail
      refine (valid_val B _).mono ?_
      rintro e w2 ⟨rfl, hb2⟩
      have T2 := Lib.hid (T1.out.step hb2)
      clear c0 c1 c2 c3 c4 d0 d1 d2 d3 d4 e0 e1 e2 e3 e4
      rcases ZB.out with vB | rfl
      · rw [vB]
        obtain ⟨⟨c0, c1, c2, c3, c4⟩, ⟨d0, d1, d2, d3, d4⟩, ⟨e0, e1, e2, e3, e4⟩⟩ := T2.out.cells
        go_wp2_with fail
        refine (valid_val C _).mono ?_
        rintro e w3 ⟨rfl, hb3⟩
        have T3 := Lib.hid (T2.out.step hb3)
        clear c0 c1 c2 c3 c4 d0 d1 d2 d3 d4 e0 e1 e2 e3 e4
        obtain ⟨⟨c0, c1, c2, c3, c4⟩, ⟨d0, d1, d2, d3, d4⟩, ⟨e0, e1, e2, e3, e4⟩⟩ := T3.out.cells
        rcases ZC.out with vC | rfl
        · rw [vC]
          go_wp2_with fail
          go_meet
          exact ⟨rfl, T3.out⟩
        · rw [zero_invalid]
          go_wp2_with fail
          go_meet
          exact ⟨rfl, T3.out⟩
      · rw [zero_invalid]
        obtain ⟨⟨c0, c1, c2, c3, c4⟩, ⟨d0, d1, d2, d3, d4⟩, ⟨e0, e1, e2, e3, e4⟩⟩ := T2.out.cells
        go_wp2_with fail
        refine (valid_val C _).mono ?_
        rintro e w3 ⟨rfl, hb3⟩
        have T3 := Lib.hid (T2.out.step hb3)
        clear c0 c1 c2 c3 c4 d0 d1 d2 d3 d4 e0 e1 e2 e3 e4
        obtain ⟨⟨c0, c1, c2, c3, c4⟩, ⟨d0, d1, d2, d3, d4⟩, ⟨e0, e1, e2, e3, e4⟩⟩ := T3.out.cells
        rcases ZC.out with vC | rfl
        · rw [vC]
          go_wp2_with fail
          go_meet
          exact ⟨rfl, T3.out⟩
        · rw [zero_invalid]
          go_wp2_with fail
          go_meet
          exact ⟨rfl, T3.out⟩
    · rw [zero_invalid]
      obtain ⟨⟨c0, c1, c2, c3, c4⟩, ⟨d0, d1, d2, d3, d4⟩, ⟨e0, e1, e2, e3, e4⟩⟩ := T1.out.cells
      go_wp2_with fail
      refine (valid_val B _).mono ?_
      rintro e w2 ⟨rfl, hb2⟩
      have T2 := Lib.hid (T1.out.step hb2)
      clear c0 c1 c2 c3 c4 d0 d1 d2 d3 d4 e0 e1 e2 e3 e4
      rcases ZB.out with vB | rfl
      · rw [vB]
        obtain ⟨⟨c0, c1, c2, c3, c4⟩, ⟨d0, d1, d2, d3, d4⟩, ⟨e0, e1, e2, e3, e4⟩⟩ := T2.out.cells
        go_wp2_with fail
        refine (valid_val C _).mono ?_
        rintro e w3 ⟨rfl, hb3⟩
        have T3 := Lib.hid (T2.out.step hb3)
        clear c0 c1 c2 c3 c4 d0 d1 d2 d3 d4 e0 e1 e2 e3 e4
        obtain ⟨⟨c0, c1, c2, c3, c4⟩, ⟨d0, d1, d2, d3, d4⟩, ⟨e0, e1, e2, e3, e4⟩⟩ := T3.out.cells
        rcases ZC.out with vC | rfl
        · rw [vC]
          go_wp2_with fail
          go_meet
          exact ⟨rfl, T3.out⟩
        · rw [zero_invalid]
          go_wp2_with fail
          go_meet
          exact ⟨rfl, T3.out⟩
      · rw [zero_invalid]
        obtain ⟨⟨c0, c1, c2, c3, c4⟩, ⟨d0, d1, d2, d3, d4⟩, ⟨e0, e1, e2, e3, e4⟩⟩ := T2.out.cells
        go_wp2_with fail
        refine (valid_val C _).mono ?_
        rintro e w3 ⟨rfl, hb3⟩
        have T3 := Lib.hid (T2.out.step hb3)
        clear c0 c1 c2 c3 c4 d0 d1 d2 d3 d4 e0 e1 e2 e3 e4
        obtain ⟨⟨c0, c1, c2, c3, c4⟩, ⟨d0, d1, d2, d3, d4⟩, ⟨e0, e1, e2, e3, e4⟩⟩ := T3.out.cells
        rcases ZC.out with vC | rfl
        · rw [vC]
          go_wp2_with fail
          go_meet
          exact ⟨rfl, T3.out⟩
        · rw [zero_invalid]
          go_wp2_with fail
          go_meet
          exact ⟨rfl, T3.out⟩
  case rest =>
    obtain ⟨rfl, T⟩ := hcut
    have HT := Lib.hid T
    clear T
    obtain ⟨R1, q1⟩ : ∃ R1, R1 = m2 A B := ⟨_, rfl⟩
    obtain ⟨R3, q3⟩ : ∃ R3, R3 = m2 B C := ⟨_, rfl⟩
    obtain ⟨R2, q2⟩ : ∃ R2, R2 = m2 R1 C := ⟨_, rfl⟩
    obtain ⟨c, rfl⟩ : ∃ c : Nat, cut = c := ⟨cut.toNat, by omega⟩
    obtain ⟨F1, p1⟩ : ∃ F1, F1 = aof (l.take c) := ⟨_, rfl⟩
    obtain ⟨F2, p2⟩ : ∃ F2, F2 = aof (l.drop c) := ⟨_, rfl⟩
    obtain ⟨F, p3⟩ : ∃ F, F = aof l := ⟨_, rfl⟩
    have E5 := Lib.hid (show amerge [A, B] = R1 by rw [amerge_two, q1])
    have E9 := Lib.hid (show amerge [B, A] = R1 by rw [amerge_two, q1, m2_comm])
    have E19 := Lib.hid (show amerge [R1, C] = R2 by rw [amerge_two, q2])
    have E24 := Lib.hid (show amerge [B, C] = R3 by rw [amerge_two, q3])
    have E26 := Lib.hid (show amerge [A, R3] = R2 by rw [amerge_two, q3, q2, q1, m2_assoc])
    have E34 := Lib.hid (show amerge [A, B, C] = R2 by rw [amerge_three, q2, q1])
    have E39 := Lib.hid (show amerge [C, A, B] = R2 by rw [amerge_three, q2, q1, m2_assoc, m2_comm C])
    have E46 := Lib.hid (show amerge [A, AggV.zero] = A by rw [amerge_two, m2_zero _ ZA.out])
    have E60 := Lib.hid (show amerge [F1, F2] = F by rw [amerge_two, p1, p2, p3, ← aof_append, List.take_append_drop])
    have P1 := Lib.hid p1
    have P2 := Lib.hid p2
    have P3 := Lib.hid p3
    have hRok : R1.ok ∧ R3.ok := ⟨by rw [q1, ← amerge_two]; exact amerge_ok _ (by simp; exact ⟨HA.out, HB.out⟩), by rw [q3, ← amerge_two]; exact amerge_ok _ (by simp; exact ⟨HB.out, HC.out⟩)⟩
    have HR := Lib.hid hRok
    have hI : ∀ y ∈ l, -9223372036854775808 ≤ y ∧ y ≤ 9223372036854775807 := by obtain ⟨_, _, _, h, _⟩ := HV.out; exact h
    have hFok : F1.ok ∧ F2.ok := ⟨by rw [p1]; exact aof_ok _ (fun y hy => hI y (List.mem_of_mem_take hy)), by rw [p2]; exact aof_ok _ (fun y hy => hI y (List.mem_of_mem_drop hy))⟩
    have HF := Lib.hid hFok
    clear q1 q2 q3 p1 p2 p3 hRok hFok hI
    have hcl : c ≤ l.length := by omega
    have hca : c ≤ ca := by obtain ⟨_, _, h1, _, h2, _⟩ := HV.out; simp at h1; omega
    go_wp2_with fail
    refine wp_region_inv (S := (fun w' => Three w w' A B C ∧ (w'.cell? ⟨w.heap.size, 0, none⟩ = some (.int .i64 A.c) ∧ w'.cell? ⟨w.heap.size, 1, none⟩ = some (.int .i64 A.hi) ∧ w'.cell? ⟨w.heap.size, 2, none⟩ = some (.int .u64 A.lo) ∧ w'.cell? ⟨w.heap.size, 3, none⟩ = some (.int .i64 A.mn) ∧ w'.cell? ⟨w.heap.size, 4, none⟩ = some (.int .i64 A.mx)) ∧ (w'.cell? ⟨w.heap.size + 1, 0, none⟩ = some (.int .i64 B.c) ∧ w'.cell? ⟨w.heap.size + 1, 1, none⟩ = some (.int .i64 B.hi) ∧ w'.cell? ⟨w.heap.size + 1, 2, none⟩ = some (.int .u64 B.lo) ∧ w'.cell? ⟨w.heap.size + 1, 3, none⟩ = some (.int .i64 B.mn) ∧ w'.cell? ⟨w.heap.size + 1, 4, none⟩ = some (.int .i64 B.mx)) ∧ (w'.cell? ⟨w.heap.size + 1 + 1, 0, none⟩ = some (.int .i64 C.c) ∧ w'.cell? ⟨w.heap.size + 1 + 1, 1, none⟩ = some (.int .i64 C.hi) ∧ w'.cell? ⟨w.heap.size + 1 + 1, 2, none⟩ = some (.int .u64 C.lo) ∧ w'.cell? ⟨w.heap.size + 1 + 1, 3, none⟩ = some (.int .i64 C.mn) ∧ w'.cell? ⟨w.heap.size + 1 + 1, 4, none⟩ = some (.int .i64 C.mx)))) 66 (Spec.val ?_ :: Spec.val ?_ :: Spec.val ?_ :: Spec.val ?_ :: (aggsS [A, B]) :: Spec.val ?_ :: Spec.val ?_ :: Spec.val ?_ :: (aggsS [B, A]) :: Spec.val ?_ :: Spec.val ?_ :: Spec.val ?_ :: Spec.val ?_ :: Spec.val ?_ :: Spec.val ?_ :: (aggsS [A, B]) :: Spec.val ?_ :: Spec.val ?_ :: (aggsS [R1, C]) :: Spec.val ?_ :: Spec.val ?_ :: Spec.val ?_ :: Spec.val ?_ :: (aggsS [B, C]) :: Spec.val ?_ :: (aggsS [A, R3]) :: Spec.val ?_ :: Spec.val ?_ :: Spec.val ?_ :: Spec.val ?_ :: Spec.val ?_ :: Spec.val ?_ :: Spec.val ?_ :: (aggsS [A, B, C]) :: Spec.val ?_ :: Spec.val ?_ :: Spec.val ?_ :: Spec.val ?_ :: (aggsS [C, A, B]) :: Spec.val ?_ :: Spec.val ?_ :: Spec.val ?_ :: Spec.val ?_ :: Spec.val ?_ :: Spec.val ?_ :: (aggsS [A, AggV.zero]) :: Spec.val ?_ :: Spec.val ?_ :: Spec.val ?_ :: Spec.val ?_ :: Spec.val ?_ :: Spec.val ?_ :: Spec.val ?_ :: (intsS (l.take c)) :: Spec.val ?_ :: Spec.val ?_ :: Spec.val ?_ :: (intsS (l.drop c)) :: Spec.val ?_ :: (aggsS [F1, F2]) :: Spec.val ?_ :: Spec.val ?_ :: Spec.val ?_ :: Spec.val ?_ :: Spec.val ?_ :: Spec.val ?_ :: []) (by kernel_rfl) (by kernel_rfl) rfl (fun w1 w2 h hb => ⟨h.1.step hb, (h.1.step hb).cells⟩) (⟨HT.out.drew, HT.out.drew.cells⟩) ?hmain
    case' hmain => skip
    -- op 0: t54 := Op.call { callee := Callee.value (func 10), args := #[], argTy
    refine inv_val (i := 0) (by kernel_rfl) rfl rfl (fun w1 hS hd K hK => ?_) ?_
    · (try dsimp only at hS)
      go_simp
      refine (alive_any _).mono ?_; rintro e w2 ⟨rfl, hb⟩; exact hK.out _ _ (by simp only [Act.put, List.setIfInBounds_toArray, List.set_cons_zero, List.set_cons_succ, List.nil_append, List.cons_append]; rfl) hb
    simp only [Act.put, List.setIfInBounds_toArray, List.set_cons_zero, List.set_cons_succ, List.nil_append, List.cons_append]
    -- op 1: t55 := Op.move (tmp 54)
    refine inv_val (i := 1) (by kernel_rfl) rfl rfl (fun w1 hS hd K hK => ?_) ?_
    · (try dsimp only at hS)
      go_simp
      exact hK.out _ _ (by simp only [Act.put, List.setIfInBounds_toArray, List.set_cons_zero, List.set_cons_succ, List.nil_append, List.cons_append]; rfl) (Below.refl _ _)
    simp only [Act.put, List.setIfInBounds_toArray, List.set_cons_zero, List.set_cons_succ, List.nil_append, List.cons_append]
    -- op 2: t56 := Op.load 26 (tmp 5)
    refine inv_val (i := 2) (by kernel_rfl) rfl rfl (fun w1 hS hd K hK => ?_) ?_
    · (try dsimp only at hS)
      go_simp
      exact hK.out _ _ (by simp only [Act.put, List.setIfInBounds_toArray, List.set_cons_zero, List.set_cons_succ, List.nil_append, List.cons_append]; rfl) (Below.refl _ _)
    simp only [Act.put, List.setIfInBounds_toArray, List.set_cons_zero, List.set_cons_succ, List.nil_append, List.cons_append]
    -- op 3: t57 := Op.load 26 (tmp 6)
    refine inv_val (i := 3) (by kernel_rfl) rfl rfl (fun w1 hS hd K hK => ?_) ?_
    · (try dsimp only at hS)
      go_simp
      exact hK.out _ _ (by simp only [Act.put, List.setIfInBounds_toArray, List.set_cons_zero, List.set_cons_succ, List.nil_append, List.cons_append]; rfl) (Below.refl _ _)
    simp only [Act.put, List.setIfInBounds_toArray, List.set_cons_zero, List.set_cons_succ, List.nil_append, List.cons_append]
    -- op 4: t58 := Op.buildSlice 44 2 #[(0, tmp 56), (1, tmp 57)]
    refine inv_rel (i := 4) (by kernel_rfl) rfl rfl (fun w1 hS hd K hK => ?_) (fun v4 => ?_)
    · (try dsimp only at hS)
      go_simp
      refine hK.out _ _ _ (by simp only [Act.put, List.setIfInBounds_toArray, List.set_cons_zero, List.set_cons_succ, List.nil_append, List.cons_append]; rfl) ?_ (bel_new _ _); exact aggs_new (l := [A, B]) rfl (by rfl) (by simp; exact ⟨HA.out, HB.out⟩) (by simp)
    simp only [Act.put, List.setIfInBounds_toArray, List.set_cons_zero, List.set_cons_succ, List.nil_append, List.cons_append]
    -- op 5: t59 := Op.call { callee := Callee.value (func 13), args := #[
    refine inv_val (i := 5) (by kernel_rfl) rfl rfl (fun w1 hS hd K hK => ?_) ?_
    · (try dsimp only at hS)
      go_simp
      refine (merge_any _ [A, B] _ (hd.out 4 (by kernel_rfl))).mono ?_; rintro e w2 ⟨rfl, hb⟩; rw [E5.out]; simp only [AggV.val]; exact hK.out _ _ (by simp only [Act.put, List.setIfInBounds_toArray, List.set_cons_zero, List.set_cons_succ, List.nil_append, List.cons_append]; rfl) hb
    simp only [Act.put, List.setIfInBounds_toArray, List.set_cons_zero, List.set_cons_succ, List.nil_append, List.cons_append]
    -- op 6: t60 := Op.load 26 (tmp 6)
    refine inv_val (i := 6) (by kernel_rfl) rfl rfl (fun w1 hS hd K hK => ?_) ?_
    · (try dsimp only at hS)
      go_simp
      exact hK.out _ _ (by simp only [Act.put, List.setIfInBounds_toArray, List.set_cons_zero, List.set_cons_succ, List.nil_append, List.cons_append]; rfl) (Below.refl _ _)
    simp only [Act.put, List.setIfInBounds_toArray, List.set_cons_zero, List.set_cons_succ, List.nil_append, List.cons_append]
    -- op 7: t61 := Op.load 26 (tmp 5)
    refine inv_val (i := 7) (by kernel_rfl) rfl rfl (fun w1 hS hd K hK => ?_) ?_
    · (try dsimp only at hS)
      go_simp
      exact hK.out _ _ (by simp only [Act.put, List.setIfInBounds_toArray, List.set_cons_zero, List.set_cons_succ, List.nil_append, List.cons_append]; rfl) (Below.refl _ _)
    simp only [Act.put, List.setIfInBounds_toArray, List.set_cons_zero, List.set_cons_succ, List.nil_append, List.cons_append]
    -- op 8: t62 := Op.buildSlice 44 2 #[(0, tmp 60), (1, tmp 61)]
    refine inv_rel (i := 8) (by kernel_rfl) rfl rfl (fun w1 hS hd K hK => ?_) (fun v8 => ?_)
    · (try dsimp only at hS)
      go_simp
      refine hK.out _ _ _ (by simp only [Act.put, List.setIfInBounds_toArray, List.set_cons_zero, List.set_cons_succ, List.nil_append, List.cons_append]; rfl) ?_ (bel_new _ _); exact aggs_new (l := [B, A]) rfl (by rfl) (by simp; exact ⟨HB.out, HA.out⟩) (by simp)
    simp only [Act.put, List.setIfInBounds_toArray, List.set_cons_zero, List.set_cons_succ, List.nil_append, List.cons_append]
    -- op 9: t63 := Op.call { callee := Callee.value (func 13), args := #[
    refine inv_val (i := 9) (by kernel_rfl) rfl rfl (fun w1 hS hd K hK => ?_) ?_
    · (try dsimp only at hS)
      go_simp
      refine (merge_any _ [B, A] _ (hd.out 8 (by kernel_rfl))).mono ?_; rintro e w2 ⟨rfl, hb⟩; rw [E9.out]; simp only [AggV.val]; exact hK.out _ _ (by simp only [Act.put, List.setIfInBounds_toArray, List.set_cons_zero, List.set_cons_succ, List.nil_append, List.cons_append]; rfl) hb
    simp only [Act.put, List.setIfInBounds_toArray, List.set_cons_zero, List.set_cons_succ, List.nil_append, List.cons_append]
    -- op 10: t64 := Op.binOp BinOp.eql 26 (tmp 59) (tmp 63) 26
    refine inv_val (i := 10) (by kernel_rfl) rfl rfl (fun w1 hS hd K hK => ?_) ?_
    · (try dsimp only at hS)
      go_simp
      exact hK.out _ _ (by simp only [Act.put, List.setIfInBounds_toArray, List.set_cons_zero, List.set_cons_succ, List.nil_append, List.cons_append]; rfl) (Below.refl _ _)
    simp only [Act.put, List.setIfInBounds_toArray, List.set_cons_zero, List.set_cons_succ, List.nil_append, List.cons_append]
    -- op 11: t65 := Op.pick (tmp 55) (tmp 64) (const (Value.bool f
    refine inv_val (i := 11) (by kernel_rfl) rfl rfl (fun w1 hS hd K hK => ?_) ?_
    · (try dsimp only at hS)
      go_simp
      exact hK.out _ _ (by simp only [Act.put, List.setIfInBounds_toArray, List.set_cons_zero, List.set_cons_succ, List.nil_append, List.cons_append]; rfl) (Below.refl _ _)
    simp only [Act.put, List.setIfInBounds_toArray, List.set_cons_zero, List.set_cons_succ, List.nil_append, List.cons_append]
    -- op 12: t66 := Op.move (tmp 65)
    refine inv_val (i := 12) (by kernel_rfl) rfl rfl (fun w1 hS hd K hK => ?_) ?_
    · (try dsimp only at hS)
      go_simp
      exact hK.out _ _ (by simp only [Act.put, List.setIfInBounds_toArray, List.set_cons_zero, List.set_cons_succ, List.nil_append, List.cons_append]; rfl) (Below.refl _ _)
    simp only [Act.put, List.setIfInBounds_toArray, List.set_cons_zero, List.set_cons_succ, List.nil_append, List.cons_append]
    -- op 13: t67 := Op.load 26 (tmp 5)
    refine inv_val (i := 13) (by kernel_rfl) rfl rfl (fun w1 hS hd K hK => ?_) ?_
    · (try dsimp only at hS)
      go_simp
      exact hK.out _ _ (by simp only [Act.put, List.setIfInBounds_toArray, List.set_cons_zero, List.set_cons_succ, List.nil_append, List.cons_append]; rfl) (Below.refl _ _)
    simp only [Act.put, List.setIfInBounds_toArray, List.set_cons_zero, List.set_cons_succ, List.nil_append, List.cons_append]
    -- op 14: t68 := Op.load 26 (tmp 6)
    refine inv_val (i := 14) (by kernel_rfl) rfl rfl (fun w1 hS hd K hK => ?_) ?_
    · (try dsimp only at hS)
      go_simp
      exact hK.out _ _ (by simp only [Act.put, List.setIfInBounds_toArray, List.set_cons_zero, List.set_cons_succ, List.nil_append, List.cons_append]; rfl) (Below.refl _ _)
    simp only [Act.put, List.setIfInBounds_toArray, List.set_cons_zero, List.set_cons_succ, List.nil_append, List.cons_append]
    -- op 15: t69 := Op.buildSlice 44 2 #[(0, tmp 67), (1, tmp 68)]
    refine inv_rel (i := 15) (by kernel_rfl) rfl rfl (fun w1 hS hd K hK => ?_) (fun v15 => ?_)
    · (try dsimp only at hS)
      go_simp
      refine hK.out _ _ _ (by simp only [Act.put, List.setIfInBounds_toArray, List.set_cons_zero, List.set_cons_succ, List.nil_append, List.cons_append]; rfl) ?_ (bel_new _ _); exact aggs_new (l := [A, B]) rfl (by rfl) (by simp; exact ⟨HA.out, HB.out⟩) (by simp)
    simp only [Act.put, List.setIfInBounds_toArray, List.set_cons_zero, List.set_cons_succ, List.nil_append, List.cons_append]
    -- op 16: t70 := Op.call { callee := Callee.value (func 13), args := #[
    refine inv_val (i := 16) (by kernel_rfl) rfl rfl (fun w1 hS hd K hK => ?_) ?_
    · (try dsimp only at hS)
      go_simp
      refine (merge_any _ [A, B] _ (hd.out 15 (by kernel_rfl))).mono ?_; rintro e w2 ⟨rfl, hb⟩; rw [E5.out]; simp only [AggV.val]; exact hK.out _ _ (by simp only [Act.put, List.setIfInBounds_toArray, List.set_cons_zero, List.set_cons_succ, List.nil_append, List.cons_append]; rfl) hb
    simp only [Act.put, List.setIfInBounds_toArray, List.set_cons_zero, List.set_cons_succ, List.nil_append, List.cons_append]
    -- op 17: t71 := Op.load 26 (tmp 7)
    refine inv_val (i := 17) (by kernel_rfl) rfl rfl (fun w1 hS hd K hK => ?_) ?_
    · (try dsimp only at hS)
      go_simp
      exact hK.out _ _ (by simp only [Act.put, List.setIfInBounds_toArray, List.set_cons_zero, List.set_cons_succ, List.nil_append, List.cons_append]; rfl) (Below.refl _ _)
    simp only [Act.put, List.setIfInBounds_toArray, List.set_cons_zero, List.set_cons_succ, List.nil_append, List.cons_append]
    -- op 18: t72 := Op.buildSlice 44 2 #[(0, tmp 70), (1, tmp 71)]
    refine inv_rel (i := 18) (by kernel_rfl) rfl rfl (fun w1 hS hd K hK => ?_) (fun v18 => ?_)
    · (try dsimp only at hS)
      go_simp
      refine hK.out _ _ _ (by simp only [Act.put, List.setIfInBounds_toArray, List.set_cons_zero, List.set_cons_succ, List.nil_append, List.cons_append]; rfl) ?_ (bel_new _ _); exact aggs_new (l := [R1, C]) rfl (by rfl) (by simp; exact ⟨HR.out.1, HC.out⟩) (by simp)
    simp only [Act.put, List.setIfInBounds_toArray, List.set_cons_zero, List.set_cons_succ, List.nil_append, List.cons_append]
    -- op 19: t73 := Op.call { callee := Callee.value (func 13), args := #[
    refine inv_val (i := 19) (by kernel_rfl) rfl rfl (fun w1 hS hd K hK => ?_) ?_
    · (try dsimp only at hS)
      go_simp
      refine (merge_any _ [R1, C] _ (hd.out 18 (by kernel_rfl))).mono ?_; rintro e w2 ⟨rfl, hb⟩; rw [E19.out]; simp only [AggV.val]; exact hK.out _ _ (by simp only [Act.put, List.setIfInBounds_toArray, List.set_cons_zero, List.set_cons_succ, List.nil_append, List.cons_append]; rfl) hb
    simp only [Act.put, List.setIfInBounds_toArray, List.set_cons_zero, List.set_cons_succ, List.nil_append, List.cons_append]
    -- op 20: t74 := Op.load 26 (tmp 5)
    refine inv_val (i := 20) (by kernel_rfl) rfl rfl (fun w1 hS hd K hK => ?_) ?_
    · (try dsimp only at hS)
      go_simp
      exact hK.out _ _ (by simp only [Act.put, List.setIfInBounds_toArray, List.set_cons_zero, List.set_cons_succ, List.nil_append, List.cons_append]; rfl) (Below.refl _ _)
    simp only [Act.put, List.setIfInBounds_toArray, List.set_cons_zero, List.set_cons_succ, List.nil_append, List.cons_append]
    -- op 21: t75 := Op.load 26 (tmp 6)
    refine inv_val (i := 21) (by kernel_rfl) rfl rfl (fun w1 hS hd K hK => ?_) ?_
    · (try dsimp only at hS)
      go_simp
      exact hK.out _ _ (by simp only [Act.put, List.setIfInBounds_toArray, List.set_cons_zero, List.set_cons_succ, List.nil_append, List.cons_append]; rfl) (Below.refl _ _)
    simp only [Act.put, List.setIfInBounds_toArray, List.set_cons_zero, List.set_cons_succ, List.nil_append, List.cons_append]
    -- op 22: t76 := Op.load 26 (tmp 7)
    refine inv_val (i := 22) (by kernel_rfl) rfl rfl (fun w1 hS hd K hK => ?_) ?_
    · (try dsimp only at hS)
      go_simp
      exact hK.out _ _ (by simp only [Act.put, List.setIfInBounds_toArray, List.set_cons_zero, List.set_cons_succ, List.nil_append, List.cons_append]; rfl) (Below.refl _ _)
    simp only [Act.put, List.setIfInBounds_toArray, List.set_cons_zero, List.set_cons_succ, List.nil_append, List.cons_append]
    -- op 23: t77 := Op.buildSlice 44 2 #[(0, tmp 75), (1, tmp 76)]
    refine inv_rel (i := 23) (by kernel_rfl) rfl rfl (fun w1 hS hd K hK => ?_) (fun v23 => ?_)
    · (try dsimp only at hS)
      go_simp
      refine hK.out _ _ _ (by simp only [Act.put, List.setIfInBounds_toArray, List.set_cons_zero, List.set_cons_succ, List.nil_append, List.cons_append]; rfl) ?_ (bel_new _ _); exact aggs_new (l := [B, C]) rfl (by rfl) (by simp; exact ⟨HB.out, HC.out⟩) (by simp)
    simp only [Act.put, List.setIfInBounds_toArray, List.set_cons_zero, List.set_cons_succ, List.nil_append, List.cons_append]
    -- op 24: t78 := Op.call { callee := Callee.value (func 13), args := #[
    refine inv_val (i := 24) (by kernel_rfl) rfl rfl (fun w1 hS hd K hK => ?_) ?_
    · (try dsimp only at hS)
      go_simp
      refine (merge_any _ [B, C] _ (hd.out 23 (by kernel_rfl))).mono ?_; rintro e w2 ⟨rfl, hb⟩; rw [E24.out]; simp only [AggV.val]; exact hK.out _ _ (by simp only [Act.put, List.setIfInBounds_toArray, List.set_cons_zero, List.set_cons_succ, List.nil_append, List.cons_append]; rfl) hb
    simp only [Act.put, List.setIfInBounds_toArray, List.set_cons_zero, List.set_cons_succ, List.nil_append, List.cons_append]
    -- op 25: t79 := Op.buildSlice 44 2 #[(0, tmp 74), (1, tmp 78)]
    refine inv_rel (i := 25) (by kernel_rfl) rfl rfl (fun w1 hS hd K hK => ?_) (fun v25 => ?_)
    · (try dsimp only at hS)
      go_simp
      refine hK.out _ _ _ (by simp only [Act.put, List.setIfInBounds_toArray, List.set_cons_zero, List.set_cons_succ, List.nil_append, List.cons_append]; rfl) ?_ (bel_new _ _); exact aggs_new (l := [A, R3]) rfl (by rfl) (by simp; exact ⟨HA.out, HR.out.2⟩) (by simp)
    simp only [Act.put, List.setIfInBounds_toArray, List.set_cons_zero, List.set_cons_succ, List.nil_append, List.cons_append]
    -- op 26: t80 := Op.call { callee := Callee.value (func 13), args := #[
    refine inv_val (i := 26) (by kernel_rfl) rfl rfl (fun w1 hS hd K hK => ?_) ?_
    · (try dsimp only at hS)
      go_simp
      refine (merge_any _ [A, R3] _ (hd.out 25 (by kernel_rfl))).mono ?_; rintro e w2 ⟨rfl, hb⟩; rw [E26.out]; simp only [AggV.val]; exact hK.out _ _ (by simp only [Act.put, List.setIfInBounds_toArray, List.set_cons_zero, List.set_cons_succ, List.nil_append, List.cons_append]; rfl) hb
    simp only [Act.put, List.setIfInBounds_toArray, List.set_cons_zero, List.set_cons_succ, List.nil_append, List.cons_append]
    -- op 27: t81 := Op.binOp BinOp.eql 26 (tmp 73) (tmp 80) 26
    refine inv_val (i := 27) (by kernel_rfl) rfl rfl (fun w1 hS hd K hK => ?_) ?_
    · (try dsimp only at hS)
      go_simp
      exact hK.out _ _ (by simp only [Act.put, List.setIfInBounds_toArray, List.set_cons_zero, List.set_cons_succ, List.nil_append, List.cons_append]; rfl) (Below.refl _ _)
    simp only [Act.put, List.setIfInBounds_toArray, List.set_cons_zero, List.set_cons_succ, List.nil_append, List.cons_append]
    -- op 28: t82 := Op.pick (tmp 66) (tmp 81) (const (Value.bool f
    refine inv_val (i := 28) (by kernel_rfl) rfl rfl (fun w1 hS hd K hK => ?_) ?_
    · (try dsimp only at hS)
      go_simp
      exact hK.out _ _ (by simp only [Act.put, List.setIfInBounds_toArray, List.set_cons_zero, List.set_cons_succ, List.nil_append, List.cons_append]; rfl) (Below.refl _ _)
    simp only [Act.put, List.setIfInBounds_toArray, List.set_cons_zero, List.set_cons_succ, List.nil_append, List.cons_append]
    -- op 29: t83 := Op.move (tmp 82)
    refine inv_val (i := 29) (by kernel_rfl) rfl rfl (fun w1 hS hd K hK => ?_) ?_
    · (try dsimp only at hS)
      go_simp
      exact hK.out _ _ (by simp only [Act.put, List.setIfInBounds_toArray, List.set_cons_zero, List.set_cons_succ, List.nil_append, List.cons_append]; rfl) (Below.refl _ _)
    simp only [Act.put, List.setIfInBounds_toArray, List.set_cons_zero, List.set_cons_succ, List.nil_append, List.cons_append]
    -- op 30: t84 := Op.load 26 (tmp 5)
    refine inv_val (i := 30) (by kernel_rfl) rfl rfl (fun w1 hS hd K hK => ?_) ?_
    · (try dsimp only at hS)
      go_simp
      exact hK.out _ _ (by simp only [Act.put, List.setIfInBounds_toArray, List.set_cons_zero, List.set_cons_succ, List.nil_append, List.cons_append]; rfl) (Below.refl _ _)
    simp only [Act.put, List.setIfInBounds_toArray, List.set_cons_zero, List.set_cons_succ, List.nil_append, List.cons_append]
    -- op 31: t85 := Op.load 26 (tmp 6)
    refine inv_val (i := 31) (by kernel_rfl) rfl rfl (fun w1 hS hd K hK => ?_) ?_
    · (try dsimp only at hS)
      go_simp
      exact hK.out _ _ (by simp only [Act.put, List.setIfInBounds_toArray, List.set_cons_zero, List.set_cons_succ, List.nil_append, List.cons_append]; rfl) (Below.refl _ _)
    simp only [Act.put, List.setIfInBounds_toArray, List.set_cons_zero, List.set_cons_succ, List.nil_append, List.cons_append]
    -- op 32: t86 := Op.load 26 (tmp 7)
    refine inv_val (i := 32) (by kernel_rfl) rfl rfl (fun w1 hS hd K hK => ?_) ?_
    · (try dsimp only at hS)
      go_simp
      exact hK.out _ _ (by simp only [Act.put, List.setIfInBounds_toArray, List.set_cons_zero, List.set_cons_succ, List.nil_append, List.cons_append]; rfl) (Below.refl _ _)
    simp only [Act.put, List.setIfInBounds_toArray, List.set_cons_zero, List.set_cons_succ, List.nil_append, List.cons_append]
    -- op 33: t87 := Op.buildSlice 44 3 #[(0, tmp 84), (1, tmp 85), (2, Ope
    refine inv_rel (i := 33) (by kernel_rfl) rfl rfl (fun w1 hS hd K hK => ?_) (fun v33 => ?_)
    · (try dsimp only at hS)
      go_simp
      refine hK.out _ _ _ (by simp only [Act.put, List.setIfInBounds_toArray, List.set_cons_zero, List.set_cons_succ, List.nil_append, List.cons_append]; rfl) ?_ (bel_new _ _); exact aggs_new (l := [A, B, C]) rfl (by rfl) (by simp; exact ⟨HA.out, HB.out, HC.out⟩) (by simp)
    simp only [Act.put, List.setIfInBounds_toArray, List.set_cons_zero, List.set_cons_succ, List.nil_append, List.cons_append]
    -- op 34: t88 := Op.call { callee := Callee.value (func 13), args := #[
    refine inv_val (i := 34) (by kernel_rfl) rfl rfl (fun w1 hS hd K hK => ?_) ?_
    · (try dsimp only at hS)
      go_simp
      refine (merge_any _ [A, B, C] _ (hd.out 33 (by kernel_rfl))).mono ?_; rintro e w2 ⟨rfl, hb⟩; rw [E34.out]; simp only [AggV.val]; exact hK.out _ _ (by simp only [Act.put, List.setIfInBounds_toArray, List.set_cons_zero, List.set_cons_succ, List.nil_append, List.cons_append]; rfl) hb
    simp only [Act.put, List.setIfInBounds_toArray, List.set_cons_zero, List.set_cons_succ, List.nil_append, List.cons_append]
    -- op 35: t89 := Op.load 26 (tmp 7)
    refine inv_val (i := 35) (by kernel_rfl) rfl rfl (fun w1 hS hd K hK => ?_) ?_
    · (try dsimp only at hS)
      go_simp
      exact hK.out _ _ (by simp only [Act.put, List.setIfInBounds_toArray, List.set_cons_zero, List.set_cons_succ, List.nil_append, List.cons_append]; rfl) (Below.refl _ _)
    simp only [Act.put, List.setIfInBounds_toArray, List.set_cons_zero, List.set_cons_succ, List.nil_append, List.cons_append]
    -- op 36: t90 := Op.load 26 (tmp 5)
    refine inv_val (i := 36) (by kernel_rfl) rfl rfl (fun w1 hS hd K hK => ?_) ?_
    · (try dsimp only at hS)
      go_simp
      exact hK.out _ _ (by simp only [Act.put, List.setIfInBounds_toArray, List.set_cons_zero, List.set_cons_succ, List.nil_append, List.cons_append]; rfl) (Below.refl _ _)
    simp only [Act.put, List.setIfInBounds_toArray, List.set_cons_zero, List.set_cons_succ, List.nil_append, List.cons_append]
    -- op 37: t91 := Op.load 26 (tmp 6)
    refine inv_val (i := 37) (by kernel_rfl) rfl rfl (fun w1 hS hd K hK => ?_) ?_
    · (try dsimp only at hS)
      go_simp
      exact hK.out _ _ (by simp only [Act.put, List.setIfInBounds_toArray, List.set_cons_zero, List.set_cons_succ, List.nil_append, List.cons_append]; rfl) (Below.refl _ _)
    simp only [Act.put, List.setIfInBounds_toArray, List.set_cons_zero, List.set_cons_succ, List.nil_append, List.cons_append]
    -- op 38: t92 := Op.buildSlice 44 3 #[(0, tmp 89), (1, tmp 90), (2, Ope
    refine inv_rel (i := 38) (by kernel_rfl) rfl rfl (fun w1 hS hd K hK => ?_) (fun v38 => ?_)
    · (try dsimp only at hS)
      go_simp
      refine hK.out _ _ _ (by simp only [Act.put, List.setIfInBounds_toArray, List.set_cons_zero, List.set_cons_succ, List.nil_append, List.cons_append]; rfl) ?_ (bel_new _ _); exact aggs_new (l := [C, A, B]) rfl (by rfl) (by simp; exact ⟨HC.out, HA.out, HB.out⟩) (by simp)
    simp only [Act.put, List.setIfInBounds_toArray, List.set_cons_zero, List.set_cons_succ, List.nil_append, List.cons_append]
    -- op 39: t93 := Op.call { callee := Callee.value (func 13), args := #[
    refine inv_val (i := 39) (by kernel_rfl) rfl rfl (fun w1 hS hd K hK => ?_) ?_
    · (try dsimp only at hS)
      go_simp
      refine (merge_any _ [C, A, B] _ (hd.out 38 (by kernel_rfl))).mono ?_; rintro e w2 ⟨rfl, hb⟩; rw [E39.out]; simp only [AggV.val]; exact hK.out _ _ (by simp only [Act.put, List.setIfInBounds_toArray, List.set_cons_zero, List.set_cons_succ, List.nil_append, List.cons_append]; rfl) hb
    simp only [Act.put, List.setIfInBounds_toArray, List.set_cons_zero, List.set_cons_succ, List.nil_append, List.cons_append]
    -- op 40: t94 := Op.binOp BinOp.eql 26 (tmp 88) (tmp 93) 26
    refine inv_val (i := 40) (by kernel_rfl) rfl rfl (fun w1 hS hd K hK => ?_) ?_
    · (try dsimp only at hS)
      go_simp
      exact hK.out _ _ (by simp only [Act.put, List.setIfInBounds_toArray, List.set_cons_zero, List.set_cons_succ, List.nil_append, List.cons_append]; rfl) (Below.refl _ _)
    simp only [Act.put, List.setIfInBounds_toArray, List.set_cons_zero, List.set_cons_succ, List.nil_append, List.cons_append]
    -- op 41: t95 := Op.pick (tmp 83) (tmp 94) (const (Value.bool f
    refine inv_val (i := 41) (by kernel_rfl) rfl rfl (fun w1 hS hd K hK => ?_) ?_
    · (try dsimp only at hS)
      go_simp
      exact hK.out _ _ (by simp only [Act.put, List.setIfInBounds_toArray, List.set_cons_zero, List.set_cons_succ, List.nil_append, List.cons_append]; rfl) (Below.refl _ _)
    simp only [Act.put, List.setIfInBounds_toArray, List.set_cons_zero, List.set_cons_succ, List.nil_append, List.cons_append]
    -- op 42: t96 := Op.move (tmp 95)
    refine inv_val (i := 42) (by kernel_rfl) rfl rfl (fun w1 hS hd K hK => ?_) ?_
    · (try dsimp only at hS)
      go_simp
      exact hK.out _ _ (by simp only [Act.put, List.setIfInBounds_toArray, List.set_cons_zero, List.set_cons_succ, List.nil_append, List.cons_append]; rfl) (Below.refl _ _)
    simp only [Act.put, List.setIfInBounds_toArray, List.set_cons_zero, List.set_cons_succ, List.nil_append, List.cons_append]
    -- op 43: t97 := Op.load 26 (tmp 5)
    refine inv_val (i := 43) (by kernel_rfl) rfl rfl (fun w1 hS hd K hK => ?_) ?_
    · (try dsimp only at hS)
      go_simp
      exact hK.out _ _ (by simp only [Act.put, List.setIfInBounds_toArray, List.set_cons_zero, List.set_cons_succ, List.nil_append, List.cons_append]; rfl) (Below.refl _ _)
    simp only [Act.put, List.setIfInBounds_toArray, List.set_cons_zero, List.set_cons_succ, List.nil_append, List.cons_append]
    -- op 44: t98 := Op.build 26 #[]
    refine inv_val (i := 44) (by kernel_rfl) rfl rfl (fun w1 hS hd K hK => ?_) ?_
    · (try dsimp only at hS)
      go_simp
      exact hK.out _ _ (by simp only [Act.put, List.setIfInBounds_toArray, List.set_cons_zero, List.set_cons_succ, List.nil_append, List.cons_append]; rfl) (Below.refl _ _)
    simp only [Act.put, List.setIfInBounds_toArray, List.set_cons_zero, List.set_cons_succ, List.nil_append, List.cons_append]
    -- op 45: t99 := Op.buildSlice 44 2 #[(0, tmp 97), (1, tmp 98)]
    refine inv_rel (i := 45) (by kernel_rfl) rfl rfl (fun w1 hS hd K hK => ?_) (fun v45 => ?_)
    · (try dsimp only at hS)
      go_simp
      refine hK.out _ _ _ (by simp only [Act.put, List.setIfInBounds_toArray, List.set_cons_zero, List.set_cons_succ, List.nil_append, List.cons_append]; rfl) ?_ (bel_new _ _); exact aggs_new (l := [A, AggV.zero]) rfl (by rfl) (by simp; exact ⟨HA.out, zero_ok⟩) (by simp)
    simp only [Act.put, List.setIfInBounds_toArray, List.set_cons_zero, List.set_cons_succ, List.nil_append, List.cons_append]
    -- op 46: t100 := Op.call { callee := Callee.value (func 13), args := #[
    refine inv_val (i := 46) (by kernel_rfl) rfl rfl (fun w1 hS hd K hK => ?_) ?_
    · (try dsimp only at hS)
      go_simp
      refine (merge_any _ [A, AggV.zero] _ (hd.out 45 (by kernel_rfl))).mono ?_; rintro e w2 ⟨rfl, hb⟩; rw [E46.out]; simp only [AggV.val]; exact hK.out _ _ (by simp only [Act.put, List.setIfInBounds_toArray, List.set_cons_zero, List.set_cons_succ, List.nil_append, List.cons_append]; rfl) hb
    simp only [Act.put, List.setIfInBounds_toArray, List.set_cons_zero, List.set_cons_succ, List.nil_append, List.cons_append]
    -- op 47: t101 := Op.load 26 (tmp 5)
    refine inv_val (i := 47) (by kernel_rfl) rfl rfl (fun w1 hS hd K hK => ?_) ?_
    · (try dsimp only at hS)
      go_simp
      exact hK.out _ _ (by simp only [Act.put, List.setIfInBounds_toArray, List.set_cons_zero, List.set_cons_succ, List.nil_append, List.cons_append]; rfl) (Below.refl _ _)
    simp only [Act.put, List.setIfInBounds_toArray, List.set_cons_zero, List.set_cons_succ, List.nil_append, List.cons_append]
    -- op 48: t102 := Op.binOp BinOp.eql 26 (tmp 100) (tmp 101) 26
    refine inv_val (i := 48) (by kernel_rfl) rfl rfl (fun w1 hS hd K hK => ?_) ?_
    · (try dsimp only at hS)
      go_simp
      exact hK.out _ _ (by simp only [Act.put, List.setIfInBounds_toArray, List.set_cons_zero, List.set_cons_succ, List.nil_append, List.cons_append]; rfl) (Below.refl _ _)
    simp only [Act.put, List.setIfInBounds_toArray, List.set_cons_zero, List.set_cons_succ, List.nil_append, List.cons_append]
    -- op 49: t103 := Op.pick (tmp 96) (tmp 102) (const (Value.bool 
    refine inv_val (i := 49) (by kernel_rfl) rfl rfl (fun w1 hS hd K hK => ?_) ?_
    · (try dsimp only at hS)
      go_simp
      exact hK.out _ _ (by simp only [Act.put, List.setIfInBounds_toArray, List.set_cons_zero, List.set_cons_succ, List.nil_append, List.cons_append]; rfl) (Below.refl _ _)
    simp only [Act.put, List.setIfInBounds_toArray, List.set_cons_zero, List.set_cons_succ, List.nil_append, List.cons_append]
    -- op 50: t104 := Op.move (tmp 103)
    refine inv_val (i := 50) (by kernel_rfl) rfl rfl (fun w1 hS hd K hK => ?_) ?_
    · (try dsimp only at hS)
      go_simp
      exact hK.out _ _ (by simp only [Act.put, List.setIfInBounds_toArray, List.set_cons_zero, List.set_cons_succ, List.nil_append, List.cons_append]; rfl) (Below.refl _ _)
    simp only [Act.put, List.setIfInBounds_toArray, List.set_cons_zero, List.set_cons_succ, List.nil_append, List.cons_append]
    -- op 51: t105 := Op.move (tmp 3)
    refine inv_val (i := 51) (by kernel_rfl) rfl rfl (fun w1 hS hd K hK => ?_) ?_
    · (try dsimp only at hS)
      go_simp
      exact hK.out _ _ (by simp only [Act.put, List.setIfInBounds_toArray, List.set_cons_zero, List.set_cons_succ, List.nil_append, List.cons_append]; rfl) (Below.refl _ _)
    simp only [Act.put, List.setIfInBounds_toArray, List.set_cons_zero, List.set_cons_succ, List.nil_append, List.cons_append]
    -- op 52: t106 := Op.move (tmp 4)
    refine inv_val (i := 52) (by kernel_rfl) rfl rfl (fun w1 hS hd K hK => ?_) ?_
    · (try dsimp only at hS)
      go_simp
      exact hK.out _ _ (by simp only [Act.put, List.setIfInBounds_toArray, List.set_cons_zero, List.set_cons_succ, List.nil_append, List.cons_append]; rfl) (Below.refl _ _)
    simp only [Act.put, List.setIfInBounds_toArray, List.set_cons_zero, List.set_cons_succ, List.nil_append, List.cons_append]
    -- op 53: t107 := Op.slice 22 (tmp 105) none (some (tmp 106)) none
    refine inv_rel (i := 53) (by kernel_rfl) rfl rfl (fun w1 hS hd K hK => ?_) (fun v53 => ?_)
    · (try dsimp only at hS)
      go_simp
      refine hK.out _ _ _ (by simp only [Act.put, List.setIfInBounds_toArray, List.set_cons_zero, List.set_cons_succ, List.nil_append, List.cons_append]; rfl) ?_ (Below.refl _ _); exact ((HV.out.below hS.1.2.2.2).take hcl)
    simp only [Act.put, List.setIfInBounds_toArray, List.set_cons_zero, List.set_cons_succ, List.nil_append, List.cons_append]
    -- op 54: t108 := Op.call { callee := Callee.value (func 11), args := #[
    refine inv_val (i := 54) (by kernel_rfl) rfl rfl (fun w1 hS hd K hK => ?_) ?_
    · (try dsimp only at hS)
      go_simp
      refine (of_any _ (l.take c) _ (hd.out 53 (by kernel_rfl))).mono ?_; rintro e w2 ⟨rfl, hb⟩; rw [← P1.out]; simp only [AggV.val]; exact hK.out _ _ (by simp only [Act.put, List.setIfInBounds_toArray, List.set_cons_zero, List.set_cons_succ, List.nil_append, List.cons_append]; rfl) hb
    simp only [Act.put, List.setIfInBounds_toArray, List.set_cons_zero, List.set_cons_succ, List.nil_append, List.cons_append]
    -- op 55: t109 := Op.move (tmp 3)
    refine inv_val (i := 55) (by kernel_rfl) rfl rfl (fun w1 hS hd K hK => ?_) ?_
    · (try dsimp only at hS)
      go_simp
      exact hK.out _ _ (by simp only [Act.put, List.setIfInBounds_toArray, List.set_cons_zero, List.set_cons_succ, List.nil_append, List.cons_append]; rfl) (Below.refl _ _)
    simp only [Act.put, List.setIfInBounds_toArray, List.set_cons_zero, List.set_cons_succ, List.nil_append, List.cons_append]
    -- op 56: t110 := Op.move (tmp 4)
    refine inv_val (i := 56) (by kernel_rfl) rfl rfl (fun w1 hS hd K hK => ?_) ?_
    · (try dsimp only at hS)
      go_simp
      exact hK.out _ _ (by simp only [Act.put, List.setIfInBounds_toArray, List.set_cons_zero, List.set_cons_succ, List.nil_append, List.cons_append]; rfl) (Below.refl _ _)
    simp only [Act.put, List.setIfInBounds_toArray, List.set_cons_zero, List.set_cons_succ, List.nil_append, List.cons_append]
    -- op 57: t111 := Op.slice 22 (tmp 109) (some (tmp 110)) none none
    refine inv_rel (i := 57) (by kernel_rfl) rfl rfl (fun w1 hS hd K hK => ?_) (fun v57 => ?_)
    · (try dsimp only at hS)
      go_simp
      refine hK.out _ _ _ (by simp only [Act.put, List.setIfInBounds_toArray, List.set_cons_zero, List.set_cons_succ, List.nil_append, List.cons_append]; rfl) ?_ (Below.refl _ _); exact ((HV.out.below hS.1.2.2.2).drop hcl)
    simp only [Act.put, List.setIfInBounds_toArray, List.set_cons_zero, List.set_cons_succ, List.nil_append, List.cons_append]
    -- op 58: t112 := Op.call { callee := Callee.value (func 11), args := #[
    refine inv_val (i := 58) (by kernel_rfl) rfl rfl (fun w1 hS hd K hK => ?_) ?_
    · (try dsimp only at hS)
      go_simp
      refine (of_any _ (l.drop c) _ (hd.out 57 (by kernel_rfl))).mono ?_; rintro e w2 ⟨rfl, hb⟩; rw [← P2.out]; simp only [AggV.val]; exact hK.out _ _ (by simp only [Act.put, List.setIfInBounds_toArray, List.set_cons_zero, List.set_cons_succ, List.nil_append, List.cons_append]; rfl) hb
    simp only [Act.put, List.setIfInBounds_toArray, List.set_cons_zero, List.set_cons_succ, List.nil_append, List.cons_append]
    -- op 59: t113 := Op.buildSlice 44 2 #[(0, tmp 108), (1, tmp 112)]
    refine inv_rel (i := 59) (by kernel_rfl) rfl rfl (fun w1 hS hd K hK => ?_) (fun v59 => ?_)
    · (try dsimp only at hS)
      go_simp
      refine hK.out _ _ _ (by simp only [Act.put, List.setIfInBounds_toArray, List.set_cons_zero, List.set_cons_succ, List.nil_append, List.cons_append]; rfl) ?_ (bel_new _ _); exact aggs_new (l := [F1, F2]) rfl (by rfl) (by simp; exact HF.out) (by simp)
    simp only [Act.put, List.setIfInBounds_toArray, List.set_cons_zero, List.set_cons_succ, List.nil_append, List.cons_append]
    -- op 60: t114 := Op.call { callee := Callee.value (func 13), args := #[
    refine inv_val (i := 60) (by kernel_rfl) rfl rfl (fun w1 hS hd K hK => ?_) ?_
    · (try dsimp only at hS)
      go_simp
      refine (merge_any _ [F1, F2] _ (hd.out 59 (by kernel_rfl))).mono ?_; rintro e w2 ⟨rfl, hb⟩; rw [E60.out]; simp only [AggV.val]; exact hK.out _ _ (by simp only [Act.put, List.setIfInBounds_toArray, List.set_cons_zero, List.set_cons_succ, List.nil_append, List.cons_append]; rfl) hb
    simp only [Act.put, List.setIfInBounds_toArray, List.set_cons_zero, List.set_cons_succ, List.nil_append, List.cons_append]
    -- op 61: t115 := Op.move (tmp 3)
    refine inv_val (i := 61) (by kernel_rfl) rfl rfl (fun w1 hS hd K hK => ?_) ?_
    · (try dsimp only at hS)
      go_simp
      exact hK.out _ _ (by simp only [Act.put, List.setIfInBounds_toArray, List.set_cons_zero, List.set_cons_succ, List.nil_append, List.cons_append]; rfl) (Below.refl _ _)
    simp only [Act.put, List.setIfInBounds_toArray, List.set_cons_zero, List.set_cons_succ, List.nil_append, List.cons_append]
    -- op 62: t116 := Op.call { callee := Callee.value (func 11), args := #[
    refine inv_val (i := 62) (by kernel_rfl) rfl rfl (fun w1 hS hd K hK => ?_) ?_
    · (try dsimp only at hS)
      go_simp
      refine (of_any _ l _ (HV.out.below hS.1.2.2.2)).mono ?_; rintro e w2 ⟨rfl, hb⟩; rw [← P3.out]; simp only [AggV.val]; exact hK.out _ _ (by simp only [Act.put, List.setIfInBounds_toArray, List.set_cons_zero, List.set_cons_succ, List.nil_append, List.cons_append]; rfl) hb
    simp only [Act.put, List.setIfInBounds_toArray, List.set_cons_zero, List.set_cons_succ, List.nil_append, List.cons_append]
    -- op 63: t117 := Op.binOp BinOp.eql 26 (tmp 114) (tmp 116) 26
    refine inv_val (i := 63) (by kernel_rfl) rfl rfl (fun w1 hS hd K hK => ?_) ?_
    · (try dsimp only at hS)
      go_simp
      exact hK.out _ _ (by simp only [Act.put, List.setIfInBounds_toArray, List.set_cons_zero, List.set_cons_succ, List.nil_append, List.cons_append]; rfl) (Below.refl _ _)
    simp only [Act.put, List.setIfInBounds_toArray, List.set_cons_zero, List.set_cons_succ, List.nil_append, List.cons_append]
    -- op 64: t118 := Op.pick (tmp 104) (tmp 117) (const (Value.bool
    refine inv_val (i := 64) (by kernel_rfl) rfl rfl (fun w1 hS hd K hK => ?_) ?_
    · (try dsimp only at hS)
      go_simp
      exact hK.out _ _ (by simp only [Act.put, List.setIfInBounds_toArray, List.set_cons_zero, List.set_cons_succ, List.nil_append, List.cons_append]; rfl) (Below.refl _ _)
    simp only [Act.put, List.setIfInBounds_toArray, List.set_cons_zero, List.set_cons_succ, List.nil_append, List.cons_append]
    -- op 65: t10 := Op.assign (tmp 118)
    refine inv_val (i := 65) (by kernel_rfl) rfl rfl (fun w1 hS hd K hK => ?_) ?_
    · (try dsimp only at hS)
      go_simp
      exact hK.out _ _ (by simp only [Act.put, List.setIfInBounds_toArray, List.set_cons_zero, List.set_cons_succ, List.nil_append, List.cons_append]; rfl) (Below.refl _ _)
    simp only [Act.put, List.setIfInBounds_toArray, List.set_cons_zero, List.set_cons_succ, List.nil_append, List.cons_append]
    refine inv_done (by kernel_rfl) (fun w1 hS hd => ?_)
    have hfin := hS.1.2.2.2
    go_wp2
    go_ret
    exact ⟨rfl, hfin⟩

set_option maxRecDepth 100000 in
set_option maxHeartbeats 4000000 in
theorem walkAggMergesNotA (A B C : AggV) (a : Option Addr) (ca : Nat) (l : List Int) (cut : Int) (w : World) (vA : A.valid = false) (zA : A ≠ AggV.zero)
    (hl : l.length ≤ 60) (hc0 : 0 ≤ cut) (hc1 : cut ≤ l.length) :
    Calls Try.prog 4 #[A.val, B.val, C.val, .slice a l.length ca, .int .i64 cut] w (BoolPost w true) := by
  have ZX := Lib.hid zA
  clear zA
  have T0 := Lib.hid (three_new w A B C)
  simp only [AggV.val]
  go_enter Try.func4, Try.ntmps4
  obtain ⟨⟨c0, c1, c2, c3, c4⟩, ⟨d0, d1, d2, d3, d4⟩, ⟨e0, e1, e2, e3, e4⟩⟩ := T0.out.cells
  go_wp2_with fail
  refine (valid_val A _).mono ?_
  rintro e w1 ⟨rfl, hb1⟩
  have T1 := Lib.hid (T0.out.step hb1)
  clear c0 c1 c2 c3 c4 d0 d1 d2 d3 d4 e0 e1 e2 e3 e4
  rw [vA]
  obtain ⟨⟨c0, c1, c2, c3, c4⟩, ⟨d0, d1, d2, d3, d4⟩, ⟨e0, e1, e2, e3, e4⟩⟩ := T1.out.cells
  go_wp2_with fail
  all_goals first | exact absurd (vz_of A ‹_› ‹_› ‹_› ‹_› ‹_›) ZX.out | (refine (alive_any _).mono ?_; rintro e w9 ⟨rfl, hb9⟩; go_wp2; go_ret; exact ⟨rfl, chain T1.out.2.2.2 hb9⟩)

set_option maxRecDepth 100000 in
set_option maxHeartbeats 4000000 in
theorem walkAggMergesNotB (A B C : AggV) (a : Option Addr) (ca : Nat) (l : List Int) (cut : Int) (w : World) (zA : VZ A) (vB : B.valid = false) (zB : B ≠ AggV.zero)
    (hl : l.length ≤ 60) (hc0 : 0 ≤ cut) (hc1 : cut ≤ l.length) :
    Calls Try.prog 4 #[A.val, B.val, C.val, .slice a l.length ca, .int .i64 cut] w (BoolPost w true) := by
  have ZX := Lib.hid zB
  have ZA := Lib.hid zA
  have VB := Lib.hid vB
  clear zB zA vB
  have T0 := Lib.hid (three_new w A B C)
  simp only [AggV.val]
  go_enter Try.func4, Try.ntmps4
  obtain ⟨⟨c0, c1, c2, c3, c4⟩, ⟨d0, d1, d2, d3, d4⟩, ⟨e0, e1, e2, e3, e4⟩⟩ := T0.out.cells
  go_wp2_with fail
  refine (valid_val A _).mono ?_
  rintro e w1 ⟨rfl, hb1⟩
  have T1 := Lib.hid (T0.out.step hb1)
  clear c0 c1 c2 c3 c4 d0 d1 d2 d3 d4 e0 e1 e2 e3 e4
  rcases ZA.out with vA | rfl
  · rw [vA]
    obtain ⟨⟨c0, c1, c2, c3, c4⟩, ⟨d0, d1, d2, d3, d4⟩, ⟨e0, e1, e2, e3, e4⟩⟩ := T1.out.cells
    go_wp2_with fail
    refine (valid_val B _).mono ?_
    rintro e w2 ⟨rfl, hb2⟩
    have T2 := Lib.hid (T1.out.step hb2)
    clear c0 c1 c2 c3 c4 d0 d1 d2 d3 d4 e0 e1 e2 e3 e4
    rw [VB.out]
    obtain ⟨⟨c0, c1, c2, c3, c4⟩, ⟨d0, d1, d2, d3, d4⟩, ⟨e0, e1, e2, e3, e4⟩⟩ := T2.out.cells
    go_wp2_with fail
    all_goals first | exact absurd (vz_of B ‹_› ‹_› ‹_› ‹_› ‹_›) ZX.out | (refine (alive_any _).mono ?_; rintro e w9 ⟨rfl, hb9⟩; go_wp2; go_ret; exact ⟨rfl, chain T2.out.2.2.2 hb9⟩)
  · rw [zero_invalid]
    obtain ⟨⟨c0, c1, c2, c3, c4⟩, ⟨d0, d1, d2, d3, d4⟩, ⟨e0, e1, e2, e3, e4⟩⟩ := T1.out.cells
    go_wp2_with fail
    refine (valid_val B _).mono ?_
    rintro e w2 ⟨rfl, hb2⟩
    have T2 := Lib.hid (T1.out.step hb2)
    clear c0 c1 c2 c3 c4 d0 d1 d2 d3 d4 e0 e1 e2 e3 e4
    rw [VB.out]
    obtain ⟨⟨c0, c1, c2, c3, c4⟩, ⟨d0, d1, d2, d3, d4⟩, ⟨e0, e1, e2, e3, e4⟩⟩ := T2.out.cells
    go_wp2_with fail
    all_goals first | exact absurd (vz_of B ‹_› ‹_› ‹_› ‹_› ‹_›) ZX.out | (refine (alive_any _).mono ?_; rintro e w9 ⟨rfl, hb9⟩; go_wp2; go_ret; exact ⟨rfl, chain T2.out.2.2.2 hb9⟩)

set_option maxRecDepth 100000 in
set_option maxHeartbeats 4000000 in
theorem walkAggMergesNotC (A B C : AggV) (a : Option Addr) (ca : Nat) (l : List Int) (cut : Int) (w : World) (zA : VZ A) (zB : VZ B) (vC : C.valid = false) (zC : C ≠ AggV.zero)
    (hl : l.length ≤ 60) (hc0 : 0 ≤ cut) (hc1 : cut ≤ l.length) :
    Calls Try.prog 4 #[A.val, B.val, C.val, .slice a l.length ca, .int .i64 cut] w (BoolPost w true) := by
  have ZX := Lib.hid zC
  have ZA := Lib.hid zA
  have ZB := Lib.hid zB
  have VC := Lib.hid vC
  clear zC zA zB vC
  have T0 := Lib.hid (three_new w A B C)
  simp only [AggV.val]
  go_enter Try.func4, Try.ntmps4
  obtain ⟨⟨c0, c1, c2, c3, c4⟩, ⟨d0, d1, d2, d3, d4⟩, ⟨e0, e1, e2, e3, e4⟩⟩ := T0.out.cells
  go_wp2_with fail
  refine (valid_val A _).mono ?_
  rintro e w1 ⟨rfl, hb1⟩
  have T1 := Lib.hid (T0.out.step hb1)
  clear c0 c1 c2 c3 c4 d0 d1 d2 d3 d4 e0 e1 e2 e3 e4
  rcases ZA.out with vA | rfl
  · rw [vA]
    obtain ⟨⟨c0, c1, c2, c3, c4⟩, ⟨d0, d1, d2, d3, d4⟩, ⟨e0, e1, e2, e3, e4⟩⟩ := T1.out.cells
    go_wp2_with fail
    refine (valid_val B _).mono ?_
    rintro e w2 ⟨rfl, hb2⟩
    have T2 := Lib.hid (T1.out.step hb2)
    clear c0 c1 c2 c3 c4 d0 d1 d2 d3 d4 e0 e1 e2 e3 e4
    rcases ZB.out with vB | rfl
    · rw [vB]
      obtain ⟨⟨c0, c1, c2, c3, c4⟩, ⟨d0, d1, d2, d3, d4⟩, ⟨e0, e1, e2, e3, e4⟩⟩ := T2.out.cells
      go_wp2_with fail
      refine (valid_val C _).mono ?_
      rintro e w3 ⟨rfl, hb3⟩
      have T3 := Lib.hid (T2.out.step hb3)
      clear c0 c1 c2 c3 c4 d0 d1 d2 d3 d4 e0 e1 e2 e3 e4
      rw [VC.out]
      obtain ⟨⟨c0, c1, c2, c3, c4⟩, ⟨d0, d1, d2, d3, d4⟩, ⟨e0, e1, e2, e3, e4⟩⟩ := T3.out.cells
      go_wp2_with fail
      all_goals first | exact absurd (vz_of C ‹_› ‹_› ‹_› ‹_› ‹_›) ZX.out | (refine (alive_any _).mono ?_; rintro e w9 ⟨rfl, hb9⟩; go_wp2; go_ret; exact ⟨rfl, chain T3.out.2.2.2 hb9⟩)
    · rw [zero_invalid]
      obtain ⟨⟨c0, c1, c2, c3, c4⟩, ⟨d0, d1, d2, d3, d4⟩, ⟨e0, e1, e2, e3, e4⟩⟩ := T2.out.cells
      go_wp2_with fail
      refine (valid_val C _).mono ?_
      rintro e w3 ⟨rfl, hb3⟩
      have T3 := Lib.hid (T2.out.step hb3)
      clear c0 c1 c2 c3 c4 d0 d1 d2 d3 d4 e0 e1 e2 e3 e4
      rw [VC.out]
      obtain ⟨⟨c0, c1, c2, c3, c4⟩, ⟨d0, d1, d2, d3, d4⟩, ⟨e0, e1, e2, e3, e4⟩⟩ := T3.out.cells
      go_wp2_with fail
      all_goals first | exact absurd (vz_of C ‹_› ‹_› ‹_› ‹_› ‹_›) ZX.out | (refine (alive_any _).mono ?_; rintro e w9 ⟨rfl, hb9⟩; go_wp2; go_ret; exact ⟨rfl, chain T3.out.2.2.2 hb9⟩)
  · rw [zero_invalid]
    obtain ⟨⟨c0, c1, c2, c3, c4⟩, ⟨d0, d1, d2, d3, d4⟩, ⟨e0, e1, e2, e3, e4⟩⟩ := T1.out.cells
    go_wp2_with fail
    refine (valid_val B _).mono ?_
    rintro e w2 ⟨rfl, hb2⟩
    have T2 := Lib.hid (T1.out.step hb2)
    clear c0 c1 c2 c3 c4 d0 d1 d2 d3 d4 e0 e1 e2 e3 e4
    rcases ZB.out with vB | rfl
    · rw [vB]
      obtain ⟨⟨c0, c1, c2, c3, c4⟩, ⟨d0, d1, d2, d3, d4⟩, ⟨e0, e1, e2, e3, e4⟩⟩ := T2.out.cells
      go_wp2_with fail
      refine (valid_val C _).mono ?_
      rintro e w3 ⟨rfl, hb3⟩
      have T3 := Lib.hid (T2.out.step hb3)
      clear c0 c1 c2 c3 c4 d0 d1 d2 d3 d4 e0 e1 e2 e3 e4
      rw [VC.out]
      obtain ⟨⟨c0, c1, c2, c3, c4⟩, ⟨d0, d1, d2, d3, d4⟩, ⟨e0, e1, e2, e3, e4⟩⟩ := T3.out.cells
      go_wp2_with fail
      all_goals first | exact absurd (vz_of C ‹_› ‹_› ‹_› ‹_› ‹_›) ZX.out | (refine (alive_any _).mono ?_; rintro e w9 ⟨rfl, hb9⟩; go_wp2; go_ret; exact ⟨rfl, chain T3.out.2.2.2 hb9⟩)
    · rw [zero_invalid]
      obtain ⟨⟨c0, c1, c2, c3, c4⟩, ⟨d0, d1, d2, d3, d4⟩, ⟨e0, e1, e2, e3, e4⟩⟩ := T2.out.cells
      go_wp2_with fail
      refine (valid_val C _).mono ?_
      rintro e w3 ⟨rfl, hb3⟩
      have T3 := Lib.hid (T2.out.step hb3)
      clear c0 c1 c2 c3 c4 d0 d1 d2 d3 d4 e0 e1 e2 e3 e4
      rw [VC.out]
      obtain ⟨⟨c0, c1, c2, c3, c4⟩, ⟨d0, d1, d2, d3, d4⟩, ⟨e0, e1, e2, e3, e4⟩⟩ := T3.out.cells
      go_wp2_with fail
      all_goals first | exact absurd (vz_of C ‹_› ‹_› ‹_› ‹_› ‹_›) ZX.out | (refine (alive_any _).mono ?_; rintro e w9 ⟨rfl, hb9⟩; go_wp2; go_ret; exact ⟨rfl, chain T3.out.2.2.2 hb9⟩)

set_option maxRecDepth 100000 in
set_option maxHeartbeats 1000000 in
theorem walkAggMergesOut (A B C : AggV) (a : Option Addr) (ca : Nat) (l : List Int) (cut : Int) (w : World) (hl : 60 < l.length ∨ cut < 0 ∨ l.length < cut) :
    Calls Try.prog 4 #[A.val, B.val, C.val, .slice a l.length ca, .int .i64 cut] w (BoolPost w true) := by
  have T0 := Lib.hid (three_new w A B C)
  simp only [AggV.val]
  by_cases h1 : (60 : Int) < l.length
  all_goals by_cases h2 : cut < 0
  all_goals by_cases h3 : (l.length : Int) < cut
  all_goals first
    | (exfalso; omega)
    | (clear hl
       go_enter Try.func4, Try.ntmps4
       go_wp2_with fail
       refine (alive_any _).mono ?_
       rintro e w9 ⟨rfl, hb9⟩
       go_wp2
       go_ret
       exact ⟨rfl, chain T0.out.2.2.2 hb9⟩)

theorem vz_cases (A : AggV) : VZ A ∨ (A.valid = false ∧ A ≠ AggV.zero) := by
  unfold VZ
  cases h : A.valid
  · by_cases h2 : A = AggV.zero
    · exact .inl (.inr h2)
    · exact .inr ⟨rfl, h2⟩
  · exact .inl (.inl rfl)

theorem walkAggMerges (A B C : AggV) (v : Value) (l : List Int) (cut : Int) (hcut : (Lit.int .i64 cut).wf = true) (w : World) (hA : A.ok) (hB : B.ok) (hC : C.ok) (hv : IntsAt w v l) :
    Calls Try.prog 4 #[A.val, B.val, C.val, v, .int .i64 cut] w (BoolPost w true) := by
  have hv' := hv
  obtain ⟨a, ca, rfl, _⟩ := hv'
  by_cases h1 : l.length ≤ 60 ∧ 0 ≤ cut ∧ cut ≤ l.length
  · obtain ⟨h1, h2, h3⟩ := h1
    rcases vz_cases A with zA | ⟨vA, zA⟩
    · rcases vz_cases B with zB | ⟨vB, zB⟩
      · rcases vz_cases C with zC | ⟨vC, zC⟩
        · exact walkAggMergesIn A B C a ca l cut w hA hB hC zA zB zC hv h1 h2 h3
        · exact walkAggMergesNotC A B C a ca l cut w zA zB vC zC h1 h2 h3
      · exact walkAggMergesNotB A B C a ca l cut w zA vB zB h1 h2 h3
    · exact walkAggMergesNotA A B C a ca l cut w vA zA h1 h2 h3
  · exact walkAggMergesOut A B C a ca l cut w (by omega)
end Go.Proofs.Ytagpamgdgcghfaa
