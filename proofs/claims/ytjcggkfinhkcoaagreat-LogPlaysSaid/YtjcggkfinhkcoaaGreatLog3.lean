/-
  The contracts of a log's New, Left, Len, Gen, Broken, fail, may, Flush.
-/
import Derived.Test.YtjcggkfinhkcoaaGreatLog2
import Derived.Test.YtjcggkfinhkcoaaGreatDevBes
namespace Go.Proofs.YtjcggkfinhkcoaaGreat
open Go.RowKit
set_option linter.unusedVariables false
set_option linter.unusedSimpArgs false

theorem row7 {w : World} {b : Nat} {T : TypeId} {x0 x1 x2 x3 x4 x5 x6 : Value} (h : w.heap[b]? = some (.cells #[x0, x1, x2, x3, x4, x5, x6] T)) :
    w.cell? ⟨b, 0, none⟩ = some x0 ∧ w.cell? ⟨b, 1, none⟩ = some x1 ∧ w.cell? ⟨b, 2, none⟩ = some x2 ∧ w.cell? ⟨b, 3, none⟩ = some x3 ∧ w.cell? ⟨b, 4, none⟩ = some x4 ∧ w.cell? ⟨b, 5, none⟩ = some x5 ∧ w.cell? ⟨b, 6, none⟩ = some x6 := by
  refine ⟨?_, ?_, ?_, ?_, ?_, ?_, ?_⟩ <;> (rw [cell_of_row w b _ _ _ _ h]; rfl)
structure LV where
  frm : Int
  n : Int
  gen : Int
  used : Int
  recs : Int
  bad : Int
/-- A log lies in block t, its disk beside it. -/
structure LgAt (w0 w : World) (B q c : Nat) (d : DV) (t : Nat) (G : LV) : Prop where
  disk : DiskAt w B q c d
  bes : Bes w q t (.cells #[.pointer (some ⟨q, 0, none⟩), .int .i64 G.frm, .int .i64 G.n, .int .u64 G.gen, .int .i64 G.used, .int .i64 G.recs, .int .i64 G.bad] 67)
  bel : Below w0.heap.size w0 w
  ge : w0.heap.size ≤ B ∧ w0.heap.size ≤ t
section
variable {w0 w w' : World} {B q c t : Nat} {d : DV} {G : LV}
theorem LgAt.step_ (h : LgAt w0 w B q c d t G) (hb : Below w.heap.size w w') : LgAt w0 w' B q c d t G :=
  ⟨h.disk.step hb, h.bes.ret (h.disk.dstep hb), h.bel.trans (hb.mono h.bel.size), h.ge⟩
theorem LgAt.ret {c' : Nat} {d' : DV} (h : LgAt w0 w B q c d t G) (hd : DiskAt w' B q c' d') (hs : DStep q w w') : LgAt w0 w' B q c' d' t G :=
  ⟨hd, h.bes.ret hs, h.bel.trans ((h.disk.below hs).mono h.ge.1), h.ge⟩
theorem LgAt.mono {c' : Nat} (h : LgAt w0 w B q c d t G) (hc : c ≤ c') : LgAt w0 w B q c' d t G := ⟨h.disk.mono hc, h.bes, h.bel, h.ge⟩
theorem LgAt.set {i : Nat} {y : Value} {G' : LV} (h : LgAt w0 w B q c d t G) (hr : (#[.pointer (some ⟨q, 0, none⟩), .int .i64 G.frm, .int .i64 G.n, .int .u64 G.gen, .int .i64 G.used, .int .i64 G.recs, .int .i64 G.bad] : Array Value).setIfInBounds i y = #[.pointer (some ⟨q, 0, none⟩), .int .i64 G'.frm, .int .i64 G'.n, .int .u64 G'.gen, .int .i64 G'.used, .int .i64 G'.recs, .int .i64 G'.bad]) : LgAt w0 (w.setCell ⟨t, i, none⟩ y) B q c d t G' := by
  have hd := h.disk.beside (w' := w.setCell ⟨t, i, none⟩ y) h.bes (by decide) (by simp) (fun k hk => by rw [set_heap_other _ hk])
  exact ⟨hd, ⟨fun ho => h.bes.1 ((own_set1 h.bes.ne).1 ho), by rw [set_heap h.bes.2, hr]⟩, bel_set h.bel h.ge.2, h.ge⟩
/-- Of what was there the disk's own blocks and the log's block alone may have changed. -/
structure LStep (q t : Nat) (w w' : World) : Prop where
  size : w.heap.size ≤ w'.heap.size
  block : ∀ k, k < w.heap.size → ¬ Own w q k → k ≠ t → w'.heap[k]? = w.heap[k]?
  own : ∀ k, Own w' q k → Own w q k ∨ w.heap.size ≤ k
theorem LStep.refl (q t : Nat) (w : World) : LStep q t w w := ⟨Nat.le_refl _, fun _ _ _ _ => rfl, fun _ h => .inl h⟩
theorem LStep.trans {q t : Nat} {a b c : World} (h : LStep q t a b) (k : LStep q t b c) : LStep q t a c :=
  ⟨Nat.le_trans h.size k.size, fun i hi ho ht => (k.block i (Nat.lt_of_lt_of_le hi h.size) (fun h' => (h.own i h').elim ho (fun h2 => by omega)) ht).trans (h.block i hi ho ht), fun i hi => (k.own i hi).elim (h.own i) (fun h' => .inr (Nat.le_trans h.size h'))⟩
theorem LStep.of {q t : Nat} {w w' : World} (h : DStep q w w') : LStep q t w w' := ⟨h.size, fun k hk ho _ => h.block k hk ho, h.own⟩
theorem LgAt.lstep (h : LgAt w0 w B q c d t G) (hb : Below w.heap.size w w') : LStep q t w w' := LStep.of (h.disk.dstep hb)
theorem LgAt.lset {i : Nat} {y : Value} (h : LgAt w0 w B q c d t G) : LStep q t w (w.setCell ⟨t, i, none⟩ y) :=
  ⟨by simp, fun k _ _ ht => set_heap_other _ ht, fun k ho => .inl ((own_set1 h.bes.ne).1 ho)⟩
theorem Bes.lret {w w' : World} {q t b : Nat} {o : Obj} (h : Bes w q b o) (hs : LStep q t w w') (hn : b ≠ t) : Bes w' q b o :=
  ⟨fun ho => (hs.own _ ho).elim h.1 (fun hl => by have := heap_lt h.2; omega), (hs.block _ (heap_lt h.2) h.1 hn).trans h.2⟩
/-- What a call of a log leaves. -/
def RetL (w0 w : World) (B q c : Nat) (d : DV) (t : Nat) (G : LV) (v : Value) (e : Ending) (w' : World) : Prop := e = .returned v ∧ LgAt w0 w' B q c d t G ∧ LStep q t w w'

theorem right_any (q : Nat) (n g : Int) (w : World) : Calls Tryz.prog 23 #[.pointer (some ⟨q, 0, none⟩), .int .i64 n, .int .u64 g] w (RetB w (.bool (decide (0 < g) && decide (1 ≤ n) && decide (n ≤ 4096)))) := by
  by_cases h1 : 0 < g
  · by_cases h2 : 1 ≤ n
    · by_cases h3 : n ≤ 4096
      · rw [show (decide (0 < g) && decide (1 ≤ n) && decide (n ≤ 4096)) = true by simp [h1, h2, h3]]
        go_enter Tryz.func23, Tryz.ntmps23
        go_wp2
        go_ret
        exact ⟨rfl, Below.refl _ _⟩
      · rw [show (decide (0 < g) && decide (1 ≤ n) && decide (n ≤ 4096)) = false by simp [h1, h2, h3]]
        go_enter Tryz.func23, Tryz.ntmps23
        go_wp2
        go_ret
        exact ⟨rfl, Below.refl _ _⟩
    · rw [show (decide (0 < g) && decide (1 ≤ n) && decide (n ≤ 4096)) = false by simp [h1, h2]]
      go_enter Tryz.func23, Tryz.ntmps23
      go_wp2
      go_ret
      exact ⟨rfl, Below.refl _ _⟩
  · rw [show (decide (0 < g) && decide (1 ≤ n) && decide (n ≤ 4096)) = false by simp [h1]]
    go_enter Tryz.func23, Tryz.ntmps23
    go_wp2
    go_ret
    exact ⟨rfl, Below.refl _ _⟩
theorem right_nil (n g : Int) (w : World) : Calls Tryz.prog 23 #[.pointer none, .int .i64 n, .int .u64 g] w (RetB w (.bool false)) := by
  go_enter Tryz.func23, Tryz.ntmps23
  go_wp2
  go_ret
  exact ⟨rfl, Below.refl _ _⟩
def LV.new (frm n g : Int) : LV := ⟨frm, n, g, 0, 0, 0⟩
set_option maxRecDepth 100000 in
theorem new_yes (frm n g : Int) (h : DiskAt w B q c d) (hg : 0 < g) (hn : 1 ≤ n ∧ n ≤ 4096) :
    Calls Tryz.prog 7 #[.pointer (some ⟨q, 0, none⟩), .int .i64 frm, .int .i64 n, .int .u64 g] w (fun e w' => ∃ t, e = .returned (.tuple #[.pointer (some ⟨t, 0, none⟩), .int .i64 0]) ∧ w.heap.size ≤ t ∧ DiskAt w' B q c d ∧ Bes w' q t (.cells #[.pointer (some ⟨q, 0, none⟩), .int .i64 (LV.new frm n g).frm, .int .i64 (LV.new frm n g).n, .int .u64 (LV.new frm n g).gen, .int .i64 (LV.new frm n g).used, .int .i64 (LV.new frm n g).recs, .int .i64 (LV.new frm n g).bad] 67) ∧ Below w.heap.size w w') := by
  have HD := Lib.hid h
  have hd : (decide (0 < g) && decide (1 ≤ n) && decide (n ≤ 4096)) = true := by simp [hg, hn.1, hn.2]
  have HX := Lib.hid hd
  clear h hd hg hn
  go_enter Tryz.func7, Tryz.ntmps7
  go_wp2_with fail
  refine (right_any q n g _).mono ?_
  rintro e w1 ⟨rfl, hb1⟩
  rw [HX.out]
  have HB := Lib.hid hb1
  clear hb1
  go_wp2
  go_ret2
  exact ⟨w1.heap.size, rfl, HB.out.size, (HD.out.step HB.out).step (bel_new _ _), ⟨own_old (HD.out.step HB.out) (bel_new _ _) (Nat.le_refl _), heap_alloc_new _ _⟩, chain HB.out (bel_new _ _)⟩
set_option maxRecDepth 100000 in
theorem new_no (frm n g : Int) (hX : ¬ (0 < g ∧ 1 ≤ n ∧ n ≤ 4096)) :
    Calls Tryz.prog 7 #[.pointer (some ⟨q, 0, none⟩), .int .i64 frm, .int .i64 n, .int .u64 g] w (RetB w (.tuple #[.pointer none, .int .i64 1])) := by
  have hd : (decide (0 < g) && decide (1 ≤ n) && decide (n ≤ 4096)) = false := by
    by_cases h1 : 0 < g
    · by_cases h2 : 1 ≤ n
      · have h3 : ¬ n ≤ 4096 := fun h3 => hX ⟨h1, h2, h3⟩
        simp [h1, h2, h3]
      · simp [h2]
    · simp [h1]
  have HX := Lib.hid hd
  clear hd hX
  go_enter Tryz.func7, Tryz.ntmps7
  go_wp2_with fail
  refine (right_any q n g _).mono ?_
  rintro e w1 ⟨rfl, hb1⟩
  rw [HX.out]
  go_wp2
  go_ret2
  exact ⟨rfl, hb1⟩
theorem new_nil (frm n g : Int) : Calls Tryz.prog 7 #[.pointer none, .int .i64 frm, .int .i64 n, .int .u64 g] w (RetB w (.tuple #[.pointer none, .int .i64 1])) := by
  go_enter Tryz.func7, Tryz.ntmps7
  go_wp2_with fail
  refine (right_nil n g _).mono ?_
  rintro e w1 ⟨rfl, hb1⟩
  go_wp2
  go_ret2
  exact ⟨rfl, hb1⟩
def LV.left (G : LV) : Int := G.n - G.used
def LV.ok (G : LV) : Prop := (-1000000 ≤ G.frm ∧ G.frm ≤ 1000000) ∧ (0 ≤ G.n ∧ G.n ≤ 4096) ∧ (0 ≤ G.used ∧ G.used ≤ 4096) ∧ (0 ≤ G.recs ∧ G.recs ≤ 1000000) ∧ (0 ≤ G.gen ∧ G.gen ≤ 18446744073709551615)
set_option maxRecDepth 100000 in
theorem left_any (h : w.heap[t]? = some (.cells #[.pointer (some ⟨q, 0, none⟩), .int .i64 G.frm, .int .i64 G.n, .int .u64 G.gen, .int .i64 G.used, .int .i64 G.recs, .int .i64 G.bad] 67)) (hG : G.ok) : Calls Tryz.prog 16 #[.pointer (some ⟨t, 0, none⟩)] w (RetB w (.int .i64 G.left)) := by
  obtain ⟨_, hn, hu, _, _⟩ := hG
  have hrow := h
  obtain ⟨c0, c1, c2, c3, c4, c5, c6⟩ := row7 hrow
  have HR := Lib.hid (show G.left = G.n - G.used from rfl)
  rw [HR.out]
  have HWR := Lib.hid (show IntKind.i64.wrap (G.n - G.used) = G.n - G.used by rw [IntKind.wrap_i64]; omega)
  clear h hrow
  go_enter Tryz.func16, Tryz.ntmps16
  go_wp2_with fail
  refine wp_region_inv (R := Blw) (S := (fun w' => Below w.heap.size w w' ∧ w'.cell? ⟨t, 2, none⟩ = some (.int .i64 G.n) ∧ w'.cell? ⟨t, 4, none⟩ = some (.int .i64 G.used))) 10 (Spec.val ?_ :: Spec.val ?_ :: Spec.val ?_ :: Spec.val ?_ :: Spec.val ?_ :: Spec.val ?_ :: Spec.val ?_ :: Spec.val ?_ :: Spec.val ?_ :: Spec.val ?_ :: []) (by kernel_rfl) (by kernel_rfl) rfl (fun w1 w2 h hb => ⟨chain h.1 hb, cell_step h.2.1 hb, cell_step h.2.2 hb⟩) (⟨(Below.refl _ _).drew, c2, c4⟩) ?hm4
  case' hm4 => skip
  refine inv_val (i := 0) (by kernel_rfl) rfl rfl (fun w1 hS hd K hK => ?_) ?_
  · (try dsimp only at hS); go_simp; exact hK.out _ _ (by simp only [Act.put, List.setIfInBounds_toArray, List.set_cons_zero, List.set_cons_succ, List.nil_append, List.cons_append]; rfl) (Below.refl _ _)
  simp only [Act.put, List.setIfInBounds_toArray, List.set_cons_zero, List.set_cons_succ, List.nil_append, List.cons_append]
  refine inv_val (i := 1) (by kernel_rfl) rfl rfl (fun w1 hS hd K hK => ?_) ?_
  · (try dsimp only at hS); go_simp; exact hK.out _ _ (by simp only [Act.put, List.setIfInBounds_toArray, List.set_cons_zero, List.set_cons_succ, List.nil_append, List.cons_append]; rfl) (Below.refl _ _)
  simp only [Act.put, List.setIfInBounds_toArray, List.set_cons_zero, List.set_cons_succ, List.nil_append, List.cons_append]
  refine inv_val (i := 2) (by kernel_rfl) rfl rfl (fun w1 hS hd K hK => ?_) ?_
  · (try dsimp only at hS); go_simp; exact hK.out _ _ (by simp only [Act.put, List.setIfInBounds_toArray, List.set_cons_zero, List.set_cons_succ, List.nil_append, List.cons_append]; rfl) (Below.refl _ _)
  simp only [Act.put, List.setIfInBounds_toArray, List.set_cons_zero, List.set_cons_succ, List.nil_append, List.cons_append]
  refine inv_val (i := 3) (by kernel_rfl) rfl rfl (fun w1 hS hd K hK => ?_) ?_
  · (try dsimp only at hS); go_simp; exact hK.out _ _ (by simp only [Act.put, List.setIfInBounds_toArray, List.set_cons_zero, List.set_cons_succ, List.nil_append, List.cons_append]; rfl) (Below.refl _ _)
  simp only [Act.put, List.setIfInBounds_toArray, List.set_cons_zero, List.set_cons_succ, List.nil_append, List.cons_append]
  refine inv_val (i := 4) (by kernel_rfl) rfl rfl (fun w1 hS hd K hK => ?_) ?_
  · (try dsimp only at hS); go_simp; exact hK.out _ _ (by simp only [Act.put, List.setIfInBounds_toArray, List.set_cons_zero, List.set_cons_succ, List.nil_append, List.cons_append]; rfl) (Below.refl _ _)
  simp only [Act.put, List.setIfInBounds_toArray, List.set_cons_zero, List.set_cons_succ, List.nil_append, List.cons_append]
  refine inv_val (i := 5) (by kernel_rfl) rfl rfl (fun w1 hS hd K hK => ?_) ?_
  · (try dsimp only at hS); go_simp; exact hK.out _ _ (by simp only [Act.put, List.setIfInBounds_toArray, List.set_cons_zero, List.set_cons_succ, List.nil_append, List.cons_append]; rfl) (Below.refl _ _)
  simp only [Act.put, List.setIfInBounds_toArray, List.set_cons_zero, List.set_cons_succ, List.nil_append, List.cons_append]
  refine inv_val (i := 6) (by kernel_rfl) rfl rfl (fun w1 hS hd K hK => ?_) ?_
  · (try dsimp only at hS); go_simp; exact hK.out _ _ (by simp only [Act.put, List.setIfInBounds_toArray, List.set_cons_zero, List.set_cons_succ, List.nil_append, List.cons_append]; rfl) (Below.refl _ _)
  simp only [Act.put, List.setIfInBounds_toArray, List.set_cons_zero, List.set_cons_succ, List.nil_append, List.cons_append]
  refine inv_val (i := 7) (by kernel_rfl) rfl rfl (fun w1 hS hd K hK => ?_) ?_
  · (try dsimp only at hS); go_simp; exact hK.out _ _ (by simp only [Act.put, List.setIfInBounds_toArray, List.set_cons_zero, List.set_cons_succ, List.nil_append, List.cons_append]; rfl) (Below.refl _ _)
  simp only [Act.put, List.setIfInBounds_toArray, List.set_cons_zero, List.set_cons_succ, List.nil_append, List.cons_append]
  refine inv_val (i := 8) (by kernel_rfl) rfl rfl (fun w1 hS hd K hK => ?_) ?_
  · (try dsimp only at hS); go_simp; exact hK.out _ _ (by simp only [Act.put, List.setIfInBounds_toArray, List.set_cons_zero, List.set_cons_succ, List.nil_append, List.cons_append]; rfl) (Below.refl _ _)
  simp only [Act.put, List.setIfInBounds_toArray, List.set_cons_zero, List.set_cons_succ, List.nil_append, List.cons_append]
  refine inv_val (i := 9) (by kernel_rfl) rfl rfl (fun w1 hS hd K hK => ?_) ?_
  · (try dsimp only at hS); go_simp; exact hK.out _ _ (by simp only [Act.put, List.setIfInBounds_toArray, List.set_cons_zero, List.set_cons_succ, List.nil_append, List.cons_append]; rfl) (Below.refl _ _)
  simp only [Act.put, List.setIfInBounds_toArray, List.set_cons_zero, List.set_cons_succ, List.nil_append, List.cons_append]
  refine inv_done (by kernel_rfl) (fun w2 hS hd => ?_)
  have HB := Lib.hid hS.1
  clear hS hd
  go_wp2
  go_ret
  exact ⟨congrArg (fun x => Ending.returned (Value.int .i64 x)) HWR.out, HB.out⟩
theorem len_any (h : w.heap[t]? = some (.cells #[.pointer (some ⟨q, 0, none⟩), .int .i64 G.frm, .int .i64 G.n, .int .u64 G.gen, .int .i64 G.used, .int .i64 G.recs, .int .i64 G.bad] 67)) : Calls Tryz.prog 17 #[.pointer (some ⟨t, 0, none⟩)] w (RetB w (.int .i64 G.recs)) := by
  have hrow := h
  obtain ⟨c0, c1, c2, c3, c4, c5, c6⟩ := row7 hrow
  clear h hrow
  go_enter Tryz.func17, Tryz.ntmps17
  go_wp2
  go_ret
  exact ⟨rfl, Below.refl _ _⟩
theorem gen_any (h : w.heap[t]? = some (.cells #[.pointer (some ⟨q, 0, none⟩), .int .i64 G.frm, .int .i64 G.n, .int .u64 G.gen, .int .i64 G.used, .int .i64 G.recs, .int .i64 G.bad] 67)) : Calls Tryz.prog 18 #[.pointer (some ⟨t, 0, none⟩)] w (RetB w (.int .u64 G.gen)) := by
  have hrow := h
  obtain ⟨c0, c1, c2, c3, c4, c5, c6⟩ := row7 hrow
  clear h hrow
  go_enter Tryz.func18, Tryz.ntmps18
  go_wp2
  go_ret
  exact ⟨rfl, Below.refl _ _⟩
theorem broken_any (h : w.heap[t]? = some (.cells #[.pointer (some ⟨q, 0, none⟩), .int .i64 G.frm, .int .i64 G.n, .int .u64 G.gen, .int .i64 G.used, .int .i64 G.recs, .int .i64 G.bad] 67)) : Calls Tryz.prog 19 #[.pointer (some ⟨t, 0, none⟩)] w (RetB w (.bool (G.bad != 0))) := by
  have hrow := h
  obtain ⟨c0, c1, c2, c3, c4, c5, c6⟩ := row7 hrow
  clear h hrow
  go_enter Tryz.func19, Tryz.ntmps19
  go_wp2
  go_ret
  exact ⟨rfl, Below.refl _ _⟩
theorem may_any (h : w.heap[t]? = some (.cells #[.pointer (some ⟨q, 0, none⟩), .int .i64 G.frm, .int .i64 G.n, .int .u64 G.gen, .int .i64 G.used, .int .i64 G.recs, .int .i64 G.bad] 67)) : Calls Tryz.prog 24 #[.pointer (some ⟨t, 0, none⟩)] w (RetB w (.int .i64 G.bad)) := by
  have hrow := h
  obtain ⟨c0, c1, c2, c3, c4, c5, c6⟩ := row7 hrow
  clear h hrow
  go_enter Tryz.func24, Tryz.ntmps24
  go_wp2
  go_ret
  exact ⟨rfl, Below.refl _ _⟩
theorem gfail_any (x : Int) (h : LgAt w0 w B q c d t G) : Calls Tryz.prog 26 #[.pointer (some ⟨t, 0, none⟩), .int .i64 x] w (RetL w0 w B q c d t { G with bad := x } (.int .i64 x)) := by
  have H := Lib.hid h
  have hrow := h.bes.2
  obtain ⟨c0, c1, c2, c3, c4, c5, c6⟩ := row7 hrow
  have f6 := frozen_row (o := 6) hrow
  clear h hrow
  go_enter Tryz.func26, Tryz.ntmps26
  go_wp2
  go_ret
  exact ⟨rfl, H.out.set rfl, H.out.lset⟩
def LV.flush (G : LV) (d : DV) : DV × LV × Int := if G.bad ≠ 0 then (d, G, G.bad) else (d.flush.1, { G with bad := d.flush.2 }, d.flush.2)
set_option maxRecDepth 100000 in
set_option maxHeartbeats 2000000 in
theorem gflush_any (h : LgAt w0 w B q c d t G) (hc : c ≤ 1000000) (hw : 0 ≤ d.writes ∧ d.writes ≤ 1000000000000) : Calls Tryz.prog 12 #[.pointer (some ⟨t, 0, none⟩)] w (RetL w0 w B q c (G.flush d).1 t (G.flush d).2.1 (.int .i64 (G.flush d).2.2)) := by
  have H := Lib.hid h
  by_cases hb : G.bad = 0
  · rw [show G.flush d = (d.flush.1, { G with bad := d.flush.2 }, d.flush.2) from if_neg (by simpa using hb)]
    have HBD := Lib.hid hb
    clear h hb
    go_enter Tryz.func12, Tryz.ntmps12
    go_wp2_with fail
    refine (may_any H.out.bes.2).mono ?_
    rintro e w1 ⟨rfl, hb1⟩
    rw [HBD.out]
    have H1 := Lib.hid (H.out.step_ hb1)
    have S1 := Lib.hid (H.out.lstep hb1)
    have hrow := H1.out.bes.2
    obtain ⟨c0, c1, c2, c3, c4, c5, c6⟩ := row7 hrow
    clear hb1 hrow
    go_wp2_with fail
    refine (flush_any H1.out.disk hc hw).mono ?_
    rintro e w2 ⟨rfl, hd, hs⟩
    have H2 := Lib.hid (H1.out.ret hd hs)
    have S2 := Lib.hid (S1.out.trans (LStep.of hs))
    clear hd hs c0 c1 c2 c3 c4 c5 c6
    go_wp2_with fail
    refine (gfail_any _ H2.out).mono ?_
    rintro e w3 ⟨rfl, h3, s3⟩
    go_wp2
    go_ret
    exact ⟨rfl, h3, S2.out.trans s3⟩
  · rw [show G.flush d = (d, G, G.bad) from if_pos hb]
    have hb' : (G.bad != 0) = true := by simpa using hb
    clear h hb
    go_enter Tryz.func12, Tryz.ntmps12
    go_wp2_with fail
    refine (may_any H.out.bes.2).mono ?_
    rintro e w1 ⟨rfl, hb1⟩
    have H1 := Lib.hid (H.out.step_ hb1)
    have S1 := Lib.hid (H.out.lstep hb1)
    clear hb1
    go_wp2
    go_ret
    exact ⟨rfl, H1.out, S1.out⟩
end
end Go.Proofs.YtjcggkfinhkcoaaGreat
