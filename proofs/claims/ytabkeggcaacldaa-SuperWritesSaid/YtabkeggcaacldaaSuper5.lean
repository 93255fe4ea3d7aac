/-
  The contract of super.Write.
-/
import Derived.Test.YtabkeggcaacldaaSuper2
import Derived.Test.YtabkeggcaacldaaDev5
namespace Go.Proofs.Ytabkeggcaacldaa
open Go.RowKit
set_option linter.unusedVariables false
set_option linter.unusedSimpArgs false

theorem own_old {w w' : World} {B p c : Nat} {d : DV} (h : DiskAt w B p c d) (hb : Below w.heap.size w w') {g : Nat} (hg : w.heap.size ≤ g) : ¬ Own w' p g := by
  obtain ⟨kv, wv, mb, lb, h⟩ := h
  intro ho
  rcases ((h.step hb).own_iff _).1 ho with e | e | e | e
  · have := h.lt; omega
  · have := h.now.lt; omega
  · obtain ⟨n, _, hl⟩ := h.lasts; have := hl.lt; omega
  · have := (own_row h.waits e).2.1; omega
theorem cut_writes (d : DV) (keep : List Int) : (d.cut keep).writes = d.writes := by unfold DV.cut; split <;> rfl
theorem flush_writes (d : DV) : d.writes ≤ d.flush.1.writes ∧ d.flush.1.writes ≤ d.writes + 1 := by
  unfold DV.flush
  split
  · exact ⟨Int.le_refl _, by show d.writes ≤ d.writes + 1; omega⟩
  · split
    · show d.writes ≤ (d.cut d.keep).writes ∧ (d.cut d.keep).writes ≤ d.writes + 1
      rw [cut_writes]; omega
    · show d.writes ≤ d.writes + 1 ∧ d.writes + 1 ≤ d.writes + 1; omega
theorem write_writes (d : DV) (k : Int) (s : ByteArray) : d.writes ≤ (d.write k s).1.writes ∧ (d.write k s).1.writes ≤ d.writes + 1 := by
  unfold DV.write
  split
  · exact ⟨Int.le_refl _, by show d.writes ≤ d.writes + 1; omega⟩
  · split
    · exact ⟨Int.le_refl _, by show d.writes ≤ d.writes + 1; omega⟩
    · split
      · exact ⟨Int.le_refl _, by show d.writes ≤ d.writes + 1; omega⟩
      · split
        · show d.writes ≤ (d.cut d.keep).writes ∧ (d.cut d.keep).writes ≤ d.writes + 1
          rw [cut_writes]; omega
        · show d.writes ≤ d.writes + 1 ∧ d.writes + 1 ≤ d.writes + 1; omega
/-- What Write leaves. -/
def DV.sw (d : DV) (s : SV) : DV × Int :=
  if s.may then
    if d.flush.2 = 0 then
      if (d.flush.1.write (s.gen % 2) (putS s)).2 = 0 then (d.flush.1.write (s.gen % 2) (putS s)).1.flush
      else d.flush.1.write (s.gen % 2) (putS s)
    else d.flush
  else (d, 1)

section
variable {w : World} {B p c : Nat} {d : DV}
theorem swrite_no (s : SV) (h : DiskAt w B p c d) (hok : s.ok) (hm : ¬ s.may) : Calls Try.prog 21 #[.pointer (some ⟨p, 0, none⟩), s.val] w (RetD w B p (c + 1) (d.sw s).1 (.int .i64 (d.sw s).2)) := by
  rw [show d.sw s = (d, 1) from if_neg hm]
  have HD := Lib.hid h
  have HM := Lib.hid hm
  have HO := Lib.hid hok
  clear h hm hok
  simp only [SV.val]
  go_enter Try.func21, Try.ntmps21
  go_wp2_with fail
  refine (put_no s _ HO.out HM.out).mono ?_
  rintro e w1 ⟨rfl, hb1⟩
  have HB := Lib.hid (chain (bel_new w _) hb1)
  clear hb1
  go_wp2
  go_ret
  exact ⟨rfl, (HD.out.step HB.out).mono (by omega), HD.out.dstep HB.out⟩
set_option maxRecDepth 100000 in
set_option maxHeartbeats 2000000 in
theorem swrite_yes (s : SV) (h : DiskAt w B p c d) (hc : c + 1 ≤ 1000000) (hw : 0 ≤ d.writes ∧ d.writes ≤ 999999999990) (hok : s.ok) (hm : s.may) : Calls Try.prog 21 #[.pointer (some ⟨p, 0, none⟩), s.val] w (RetD w B p (c + 1) (d.sw s).1 (.int .i64 (d.sw s).2)) := by
  have HE0 : d.sw s = if d.flush.2 = 0 then
      if (d.flush.1.write (s.gen % 2) (putS s)).2 = 0 then (d.flush.1.write (s.gen % 2) (putS s)).1.flush
      else d.flush.1.write (s.gen % 2) (putS s)
    else d.flush := if_pos hm
  have hfw := flush_writes d
  have hww := write_writes d.flush.1 (s.gen % 2) (putS s)
  have HD := Lib.hid h
  have HM := Lib.hid hm
  have HO := Lib.hid hok
  have HP := Lib.hid (putS_size s)
  obtain ⟨g1, g2⟩ := hok.1
  obtain ⟨d1, e1, h1⟩ : ∃ d1 e1, d.flush = (d1, e1) := ⟨_, _, rfl⟩
  rw [h1] at HE0 hfw hww
  have H1 := Lib.hid h1
  dsimp only at HE0 hfw hww
  obtain ⟨d2, e2, h2⟩ : ∃ d2 e2, d1.write (s.gen % 2) (putS s) = (d2, e2) := ⟨_, _, rfl⟩
  rw [h2] at HE0 hww
  have H2 := Lib.hid h2
  dsimp only at HE0 hww
  obtain ⟨b, hb⟩ : ∃ b, b = putS s := ⟨_, rfl⟩
  rw [← hb] at HP H2
  have HBQ := Lib.hid hb
  have HE := Lib.hid HE0
  have HW := Lib.hid hw
  have HFW := Lib.hid hfw
  have HWW := Lib.hid hww
  have HC := Lib.hid hc
  clear h hm hok h1 h2 HE0 hb hw hfw hww hc
  simp only [SV.val]
  go_enter Try.func21, Try.ntmps21
  go_wp2_with fail
  refine (put_yes s _ HO.out HM.out).mono ?_
  rintro e w1 ⟨rfl, hb1⟩
  rw [← HBQ.out]
  have HX1 := Lib.hid (heap_step (heap_alloc_new w (.cells #[.int .u64 s.gen, .int .i64 s.blocks, .int .i64 s.bytes] 24)) hb1)
  have HD1 := Lib.hid (HD.out.step (chain (bel_new w _) hb1))
  have HS1 := Lib.hid (HD.out.dstep (chain (bel_new w _) hb1))
  have HN1 := Lib.hid (own_old HD.out (chain (bel_new w _) hb1) (Nat.le_refl _))
  clear hb1
  go_wp2_with fail
  refine (flush_any HD1.out (by have := HC.out; omega) (by have := HW.out; omega)).mono ?_
  rintro e w2 ⟨rfl, hd, hs⟩
  rw [H1.out] at hd ⊢
  dsimp only at hd ⊢
  have HD2 := Lib.hid hd
  have HS2 := Lib.hid (HS1.out.trans hs)
  have hx2 := (hs.block w.heap.size (heap_lt HX1.out) HN1.out).trans HX1.out
  obtain ⟨c0, c1, c2⟩ := cells3 hx2
  clear hd hs hx2
  by_cases he1 : e1 = 0
  · subst he1
    rw [if_pos rfl] at HE
    go_wp2_with fail
    refine (write_any (s.gen % 2) b HD2.out (by have := HC.out; omega) (by unfold I64; omega) (by have := HW.out; have := HFW.out; omega) (by rw [HP.out]; decide)).mono ?_
    rintro e w3 ⟨rfl, hd, hs⟩
    rw [H2.out] at hd ⊢
    dsimp only at hd ⊢
    have HD3 := Lib.hid hd
    have HS3 := Lib.hid (HS2.out.trans hs)
    clear hd hs c0 c1 c2
    by_cases he2 : e2 = 0
    · subst he2
      rw [if_pos rfl] at HE
      go_wp2_with fail
      refine (flush_any HD3.out (by have := HC.out; omega) (by have := HW.out; have := HFW.out; have := HWW.out; omega)).mono ?_
      rintro e w4 ⟨rfl, hd, hs⟩
      go_wp2
      go_ret
      rw [HE.out]
      exact ⟨rfl, hd, HS3.out.trans hs⟩
    · rw [if_neg he2] at HE
      have he2' : (e2 != 0) = true := by simpa using he2
      clear he2
      go_wp2
      go_ret
      rw [HE.out]
      exact ⟨rfl, HD3.out, HS3.out⟩
  · rw [if_neg he1] at HE
    have he1' : (e1 != 0) = true := by simpa using he1
    clear he1
    go_wp2
    go_ret
    rw [HE.out]
    exact ⟨rfl, HD2.out.mono (by omega), HS2.out⟩
theorem swrite_any (s : SV) (h : DiskAt w B p c d) (hc : c + 1 ≤ 1000000) (hw : 0 ≤ d.writes ∧ d.writes ≤ 999999999990) (hok : s.ok) : Calls Try.prog 21 #[.pointer (some ⟨p, 0, none⟩), s.val] w (RetD w B p (c + 1) (d.sw s).1 (.int .i64 (d.sw s).2)) := by
  by_cases hm : s.may
  · exact swrite_yes s h hc hw hok hm
  · exact swrite_no s h hok hm
end
end Go.Proofs.Ytabkeggcaacldaa
