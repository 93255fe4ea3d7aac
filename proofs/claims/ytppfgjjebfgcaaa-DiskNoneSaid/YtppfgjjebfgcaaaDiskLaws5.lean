/-
  The walk of the law DiskNone: no disk, and one that is all naught.
-/
import Derived.Test.YtppfgjjebfgcaaaDiskAlive
namespace Go.Proofs.Ytppfgjjebfgcaaa
open Go.RowKit
set_option linter.unusedVariables false
set_option linter.unusedSimpArgs false

/-- A disk that is all naught (but its arming) lies in block p. -/
def ZAt (w : World) (p : Nat) : Prop := ∃ (ar : Bool) (lf : Int) (kv : Value), w.heap[p]? = some (.cells #[.bool false, .int .i64 0, .bool ar, .int .i64 lf, kv, .int .i64 0, .map none, .map none, .slice none 0 0] 36)
theorem ZAt.step {w w' : World} {p : Nat} (h : ZAt w p) (hb : Below w.heap.size w w') : ZAt w' p := by obtain ⟨ar, lf, kv, h⟩ := h; exact ⟨ar, lf, kv, heap_step h hb⟩
section
variable (w : World)
theorem off_nil : Calls Try.prog 27 #[.pointer none] w (RetB w (.bool true)) := by
  go_enter Try.func27, Try.ntmps27
  go_wp2
  go_ret
  exact ⟨rfl, Below.refl _ _⟩
theorem restore_nil : Calls Try.prog 15 #[.pointer none] w (RetB w (.tuple #[])) := by
  go_enter Try.func15, Try.ntmps15
  go_wp2
  go_end0
  exact ⟨rfl, Below.refl _ _⟩
theorem read_nil (k : Int) : Calls Try.prog 16 #[.pointer none, .int .i64 k] w (RetB w (.tuple #[.string ByteArray.empty, .int .i64 14])) := by
  go_enter Try.func16, Try.ntmps16
  go_wp2_with fail
  refine (off_nil _).mono ?_
  rintro e w1 ⟨rfl, hb⟩
  go_wp2
  go_ret2
  exact ⟨rfl, hb⟩
theorem write_nil (k : Int) (s : ByteArray) : Calls Try.prog 10 #[.pointer none, .int .i64 k, .string s] w (RetB w (.int .i64 14)) := by
  go_enter Try.func10, Try.ntmps10
  go_wp2_with fail
  refine (off_nil _).mono ?_
  rintro e w1 ⟨rfl, hb⟩
  go_wp2
  go_ret
  exact ⟨rfl, hb⟩
theorem flush_nil : Calls Try.prog 12 #[.pointer none] w (RetB w (.int .i64 14)) := by
  go_enter Try.func12, Try.ntmps12
  go_wp2_with fail
  refine (off_nil _).mono ?_
  rintro e w1 ⟨rfl, hb⟩
  go_wp2
  go_ret
  exact ⟨rfl, hb⟩
theorem cut_nil (v : Value) : Calls Try.prog 19 #[.pointer none, v] w (RetB w (.int .i64 0)) := by
  go_enter Try.func19, Try.ntmps19
  go_wp2
  go_ret
  exact ⟨rfl, Below.refl _ _⟩
theorem blocks_nil : Calls Try.prog 21 #[.pointer none] w (RetB w (.int .i64 0)) := by
  go_enter Try.func21, Try.ntmps21
  go_wp2
  go_ret
  exact ⟨rfl, Below.refl _ _⟩
theorem waiting_nil : Calls Try.prog 18 #[.pointer none] w (RetB w (.int .i64 0)) := by
  go_enter Try.func18, Try.ntmps18
  go_wp2
  go_ret
  exact ⟨rfl, Below.refl _ _⟩
theorem twin_nil : Calls Try.prog 24 #[.pointer none] w (RetB w (.pointer none)) := by
  go_enter Try.func24, Try.ntmps24
  go_wp2
  go_ret
  exact ⟨rfl, Below.refl _ _⟩
end
section
variable {w : World} {p : Nat}
theorem off_z (h : ZAt w p) : Calls Try.prog 27 #[.pointer (some ⟨p, 0, none⟩)] w (RetB w (.bool true)) := by
  obtain ⟨ar, lf, kv, h⟩ := h
  obtain ⟨c0, c1, c2, c3, c4, c5, c6, c7, c8⟩ := row9 h
  clear h
  go_enter Try.func27, Try.ntmps27
  go_wp2
  go_ret
  exact ⟨rfl, Below.refl _ _⟩
theorem on_z (h : ZAt w p) : Calls Try.prog 14 #[.pointer (some ⟨p, 0, none⟩)] w (RetB w (.bool false)) := by
  obtain ⟨ar, lf, kv, h⟩ := h
  obtain ⟨c0, c1, c2, c3, c4, c5, c6, c7, c8⟩ := row9 h
  clear h
  go_enter Try.func14, Try.ntmps14
  go_wp2
  go_ret
  exact ⟨rfl, Below.refl _ _⟩
theorem restore_z (h : ZAt w p) : Calls Try.prog 15 #[.pointer (some ⟨p, 0, none⟩)] w (RetB w (.tuple #[])) := by
  obtain ⟨ar, lf, kv, h⟩ := h
  obtain ⟨c0, c1, c2, c3, c4, c5, c6, c7, c8⟩ := row9 h
  clear h
  go_enter Try.func15, Try.ntmps15
  go_wp2
  go_end0
  exact ⟨rfl, Below.refl _ _⟩
theorem blocks_z (h : ZAt w p) : Calls Try.prog 21 #[.pointer (some ⟨p, 0, none⟩)] w (RetB w (.int .i64 0)) := by
  obtain ⟨ar, lf, kv, h⟩ := h
  obtain ⟨c0, c1, c2, c3, c4, c5, c6, c7, c8⟩ := row9 h
  clear h
  go_enter Try.func21, Try.ntmps21
  go_wp2
  go_ret
  exact ⟨rfl, Below.refl _ _⟩
theorem waiting_z (h : ZAt w p) : Calls Try.prog 18 #[.pointer (some ⟨p, 0, none⟩)] w (RetB w (.int .i64 0)) := by
  obtain ⟨ar, lf, kv, h⟩ := h
  obtain ⟨c0, c1, c2, c3, c4, c5, c6, c7, c8⟩ := row9 h
  clear h
  go_enter Try.func18, Try.ntmps18
  go_wp2
  go_ret
  exact ⟨rfl, Below.refl _ _⟩
theorem read_z (k : Int) (h : ZAt w p) : Calls Try.prog 16 #[.pointer (some ⟨p, 0, none⟩), .int .i64 k] w (RetB w (.tuple #[.string ByteArray.empty, .int .i64 14])) := by
  have H := Lib.hid h
  clear h
  go_enter Try.func16, Try.ntmps16
  go_wp2_with fail
  refine (off_z H.out).mono ?_
  rintro e w1 ⟨rfl, hb⟩
  go_wp2
  go_ret2
  exact ⟨rfl, hb⟩
theorem write_z (k : Int) (s : ByteArray) (h : ZAt w p) : Calls Try.prog 10 #[.pointer (some ⟨p, 0, none⟩), .int .i64 k, .string s] w (RetB w (.int .i64 14)) := by
  have H := Lib.hid h
  clear h
  go_enter Try.func10, Try.ntmps10
  go_wp2_with fail
  refine (off_z H.out).mono ?_
  rintro e w1 ⟨rfl, hb⟩
  go_wp2
  go_ret
  exact ⟨rfl, hb⟩
theorem flush_z (h : ZAt w p) : Calls Try.prog 12 #[.pointer (some ⟨p, 0, none⟩)] w (RetB w (.int .i64 14)) := by
  have H := Lib.hid h
  clear h
  go_enter Try.func12, Try.ntmps12
  go_wp2_with fail
  refine (off_z H.out).mono ?_
  rintro e w1 ⟨rfl, hb⟩
  go_wp2
  go_ret
  exact ⟨rfl, hb⟩
/-- Arm (with no list) of a disk that is all naught. -/
theorem arm_z (h : ZAt w p) : Calls Try.prog 13 #[.pointer (some ⟨p, 0, none⟩), .int .i64 (-1), .slice none 0 0] w (fun e w' => e = .returned (.tuple #[]) ∧ ZAt w' p ∧ Below p w w') := by
  obtain ⟨ar, lf, kv, h⟩ := h
  have H := Lib.hid h
  clear h
  go_enter Try.func13, Try.ntmps13
  go_wp2_with fail
  refine (clone_keep _ [] _ (ints_nil _) (by decide)).mono ?_
  rintro e w1 ⟨a, cc, rfl, hk, hb⟩
  have H1 := Lib.hid (heap_step H.out hb)
  have HB := Lib.hid hb
  obtain ⟨c0, c1, c2, c3, c4, c5, c6, c7, c8⟩ := row9 H1.out
  obtain ⟨f0, f1, f2, f3, f4, f5, f6, f7, f8⟩ := free9 H1.out
  clear hk hb
  go_wp2
  go_end0
  refine ⟨rfl, ⟨false, -1, _, by rw [set_heap (set_heap (set_heap H1.out _) _) _]; rfl⟩, ?_⟩
  exact bel_set (bel_set (bel_set (HB.out.mono (Nat.le_of_lt (heap_lt H.out))) (Nat.le_refl _)) (Nat.le_refl _)) (Nat.le_refl _)
theorem cut_z (v : Value) (h : ZAt w p) : Calls Try.prog 19 #[.pointer (some ⟨p, 0, none⟩), v] w (fun e w' => e = .returned (.int .i64 0) ∧ ZAt w' p ∧ Below p w w') := by
  have H := Lib.hid h
  clear h
  go_enter Try.func19, Try.ntmps19
  go_wp2_with fail
  refine (arm_z H.out).mono ?_
  rintro e w1 ⟨rfl, hz, hb⟩
  have HB := Lib.hid hb
  have HZ := Lib.hid hz
  clear hb
  obtain ⟨ar, lf, kv, h1⟩ := hz
  obtain ⟨c0, c1, c2, c3, c4, c5, c6, c7, c8⟩ := row9 h1
  clear h1
  go_wp2
  go_ret
  exact ⟨rfl, HZ.out, HB.out⟩
end

set_option maxRecDepth 100000 in
set_option maxHeartbeats 4000000 in
theorem walkDiskNone (at_ : Int) (wa : (Lit.int .i64 at_).wf = true) (w : World) : Calls Try.prog 7 #[.int .i64 at_] w (BoolPost w true) := by
  have ha := wf64' wa
  clear wa
  unfold I64 at ha
  go_enter Try.func7, Try.ntmps7
  go_wp2_with fail
  obtain ⟨w1, hw1⟩ : ∃ w1, w1 = w.alloc (.cells #[.bool false, .int .i64 0, .bool false, .int .i64 0, .slice none 0 0, .int .i64 0, .map none, .map none, .slice none 0 0] 36) := ⟨_, rfl⟩
  rw [← hw1]
  have HB1 := Lib.hid (show Below w.heap.size w w1 by rw [hw1]; exact bel_new _ _)
  obtain ⟨p, hp⟩ : ∃ p, p = w.heap.size := ⟨_, rfl⟩
  rw [← hp]
  have HZ1 := Lib.hid (show ZAt w1 p from ⟨false, 0, _, by rw [hw1, hp]; exact heap_new_at rfl⟩)
  have HP := Lib.hid hp
  clear hw1 hp
  refine (restore_z HZ1.out).mono ?_
  rintro e w2 ⟨rfl, hb⟩
  have HZ2 := Lib.hid (HZ1.out.step hb)
  have HB2 := Lib.hid (chain HB1.out hb)
  clear hb
  go_wp2_with fail
  refine (restore_nil w2).mono ?_
  rintro e w3 ⟨rfl, hb⟩
  have HZ3 := Lib.hid (HZ2.out.step hb)
  have HB3 := Lib.hid (chain HB2.out hb)
  clear hb
  go_wp2_with fail
  refine (read_nil w3 at_).mono ?_
  rintro e w4 ⟨rfl, hb⟩
  have HZ4 := Lib.hid (HZ3.out.step hb)
  have HB4 := Lib.hid (chain HB3.out hb)
  clear hb
  go_wp2_with fail
  refine (read_z at_ HZ4.out).mono ?_
  rintro e w5 ⟨rfl, hb⟩
  have HZ5 := Lib.hid (HZ4.out.step hb)
  have HB5 := Lib.hid (chain HB4.out hb)
  clear hb
  go_wp2_with fail
  refine (alive_any _).mono ?_
  rintro e w6 ⟨rfl, hb⟩
  have HZ6 := Lib.hid (HZ5.out.step hb)
  have HB6 := Lib.hid (chain HB5.out hb)
  clear hb
  go_wp2_with fail
  refine (fill_any 120 _ (by omega)).mono ?_; rintro e w7 ⟨rfl, hb⟩; have HZ7 := Lib.hid (HZ6.out.step hb); have HB7 := Lib.hid (chain HB6.out hb); clear hb
  go_wp2_with fail
  refine (write_nil w7 at_ _).mono ?_
  rintro e w8 ⟨rfl, hb⟩
  have HZ8 := Lib.hid (HZ7.out.step hb)
  have HB8 := Lib.hid (chain HB7.out hb)
  clear hb
  go_wp2_with fail
  refine (fill_any 120 _ (by omega)).mono ?_; rintro e w9 ⟨rfl, hb⟩; have HZ9 := Lib.hid (HZ8.out.step hb); have HB9 := Lib.hid (chain HB8.out hb); clear hb
  go_wp2_with fail
  refine (write_z at_ _ HZ9.out).mono ?_
  rintro e w10 ⟨rfl, hb⟩
  have HZ10 := Lib.hid (HZ9.out.step hb)
  have HB10 := Lib.hid (chain HB9.out hb)
  clear hb
  go_wp2_with fail
  refine (flush_nil w10).mono ?_
  rintro e w11 ⟨rfl, hb⟩
  have HZ11 := Lib.hid (HZ10.out.step hb)
  have HB11 := Lib.hid (chain HB10.out hb)
  clear hb
  go_wp2_with fail
  refine (flush_z HZ11.out).mono ?_
  rintro e w12 ⟨rfl, hb⟩
  have HZ12 := Lib.hid (HZ11.out.step hb)
  have HB12 := Lib.hid (chain HB11.out hb)
  clear hb
  go_wp2_with fail
  have hb := bel_new w12 (.cells #[.int .i64 1] 3)
  refine (cut_nil _ _).mono ?_
  rintro e w13 ⟨rfl, hb2⟩
  have HZ13 := Lib.hid ((HZ12.out.step hb).step hb2)
  have HB13 := Lib.hid (chain (chain HB12.out hb) hb2)
  clear hb hb2
  go_wp2_with fail
  have hb := bel_new w13 (.cells #[.int .i64 1] 3)
  refine (cut_z _ (HZ13.out.step hb)).mono ?_
  rintro e w14 ⟨rfl, hz, hb2⟩
  have HZ14 := Lib.hid hz
  have HB14 := Lib.hid ((chain HB13.out hb).trans (hb2.mono (Nat.le_of_eq HP.out.symm)))
  clear hb hb2 hz
  go_wp2_with fail
  refine (blocks_nil w14).mono ?_
  rintro e w15 ⟨rfl, hb⟩
  have HZ15 := Lib.hid (HZ14.out.step hb)
  have HB15 := Lib.hid (chain HB14.out hb)
  clear hb
  go_wp2_with fail
  refine (blocks_z HZ15.out).mono ?_
  rintro e w16 ⟨rfl, hb⟩
  have HZ16 := Lib.hid (HZ15.out.step hb)
  have HB16 := Lib.hid (chain HB15.out hb)
  clear hb
  go_wp2_with fail
  refine (waiting_nil w16).mono ?_
  rintro e w17 ⟨rfl, hb⟩
  have HZ17 := Lib.hid (HZ16.out.step hb)
  have HB17 := Lib.hid (chain HB16.out hb)
  clear hb
  go_wp2_with fail
  refine (waiting_z HZ17.out).mono ?_
  rintro e w18 ⟨rfl, hb⟩
  have HZ18 := Lib.hid (HZ17.out.step hb)
  have HB18 := Lib.hid (chain HB17.out hb)
  clear hb
  go_wp2_with fail
  refine (twin_nil w18).mono ?_
  rintro e w19 ⟨rfl, hb⟩
  have HZ19 := Lib.hid (HZ18.out.step hb)
  have HB19 := Lib.hid (chain HB18.out hb)
  clear hb
  go_wp2_with fail
  refine (on_z HZ19.out).mono ?_
  rintro e w20 ⟨rfl, hb⟩
  have HZ20 := Lib.hid (HZ19.out.step hb)
  have HB20 := Lib.hid (chain HB19.out hb)
  clear hb
  go_wp2
  go_ret
  exact ⟨rfl, HB20.out⟩
end Go.Proofs.Ytppfgjjebfgcaaa
