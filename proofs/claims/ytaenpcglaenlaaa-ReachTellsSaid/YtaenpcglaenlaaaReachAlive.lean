/-
  The contract of the law package's alive: true.
-/
import Derived.Test.YtaenpcglaenlaaaReach3
namespace Go.Proofs.Ytaenpcglaenlaaa
open Go.RowKit
set_option linter.unusedVariables false
set_option linter.unusedSimpArgs false

def webR (now : Int) : RV := ⟨now, nWeb, webL, []⟩

/-- A Reach that lies in a variable. -/
structure RBox (w : World) (b : Nat) (a : Option Addr) (c : Nat) (fa : Option Addr) (fc : Nat) (r : RV) : Prop where
  blk : w.heap[b]? = some (.cells #[.int .i64 r.now, .string r.name, .slice a r.l.length c, .slice fa r.fl.length fc] 34)
  lies : ReachAt w (.agg #[.int .i64 r.now, .string r.name, .slice a r.l.length c, .slice fa r.fl.length fc]) r
theorem RBox.step {w w' : World} {b c fc : Nat} {a fa : Option Addr} {r : RV} (h : RBox w b a c fa fc r) (hb : Below w.heap.size w w') : RBox w' b a c fa fc r := ⟨heap_step h.blk hb, h.lies.below hb⟩
theorem RBox.cells {w : World} {b c fc : Nat} {a fa : Option Addr} {r : RV} (h : RBox w b a c fa fc r) : w.cell? ⟨b, 0, none⟩ = some (.int .i64 r.now) ∧ w.cell? ⟨b, 1, none⟩ = some (.string r.name) ∧ w.cell? ⟨b, 2, none⟩ = some (.slice a r.l.length c) ∧ w.cell? ⟨b, 3, none⟩ = some (.slice fa r.fl.length fc) := row4 h.blk
theorem ReachAt.form {w : World} {v : Value} {r : RV} (h : ReachAt w v r) : ∃ a c fa fc, v = .agg #[.int .i64 r.now, .string r.name, .slice a r.l.length c, .slice fa r.fl.length fc] := by
  obtain ⟨tv, fv, rfl, ht, hf⟩ := h
  obtain ⟨a, c, rfl, _⟩ := ht
  obtain ⟨fa, fc, rfl, _⟩ := hf
  exact ⟨_, _, _, _, rfl⟩
theorem RBox.new {w : World} {b a c fa fc} {r : RV} (hk : w.heap.size = b) (h : ReachAt w (.agg #[.int .i64 r.now, .string r.name, .slice a r.l.length c, .slice fa r.fl.length fc]) r) :
    RBox (w.alloc (.cells #[.int .i64 r.now, .string r.name, .slice a r.l.length c, .slice fa r.fl.length fc] 34)) b a c fa fc r := ⟨heap_new_at hk, h.below (bel_new _ _)⟩

theorem web_wf (now : Int) (h : I64 now) : (webR now).wf := ⟨h, by show 2 ≤ 1000000; decide, by show 0 ≤ 1000000; decide⟩
set_option maxRecDepth 100000 in
set_option maxHeartbeats 1000000 in
theorem alive_any (w : World) : Calls Try.prog 10 #[] w (BoolPost w true) := by
  obtain ⟨r, hr⟩ : ∃ r, r = webR 257 := ⟨_, rfl⟩
  have HRE := Lib.hid hr
  have E1 := Lib.hid (show r.start 1 57 = (50, true) by rw [hr]; decide +kernel)
  have E2 := Lib.hid (show r.from 0 = 150 by rw [hr]; decide +kernel)
  have E3 := Lib.hid (show r.from 1 = 0 by rw [hr]; decide +kernel)
  have E4 := Lib.hid (show r.cover 150 = 0 by rw [hr]; decide +kernel)
  have E5 := Lib.hid (show r.cover 140 = 1 by rw [hr]; decide +kernel)
  have E6 := Lib.hid (show r.takes ⟨#[97]⟩ 149 = 24 by rw [hr]; decide +kernel)
  have N := Lib.hid (show I64 r.now by rw [hr]; unfold I64 webR; dsimp only; omega)
  have L := Lib.hid (show r.l.length ≤ 1000000 by rw [hr]; decide)
  have K0 := Lib.hid (show I64 0 by unfold I64; omega)
  have K1 := Lib.hid (show I64 1 by unfold I64; omega)
  have K57 := Lib.hid (show I64 57 by unfold I64; omega)
  have K149 := Lib.hid (show I64 149 by unfold I64; omega)
  have K150 := Lib.hid (show I64 150 by unfold I64; omega)
  have K140 := Lib.hid (show I64 140 by unfold I64; omega)
  clear hr
  go_enter Try.func10, Try.ntmps10
  go_wp2_with fail
  refine (web_any _).mono ?_
  rintro e w1 ⟨u, rfl, hp, hb⟩
  have HP := Lib.hid hp
  have HB := Lib.hid hb
  clear hp hb
  go_wp2_with fail
  refine (of_any u (.slice none 0 0) 257 nWeb webL [] _ HP.out (ints_nil _) (by decide) (by decide)).mono ?_
  rintro e w2 ⟨u2, rfl, hu, hb⟩
  have HR := Lib.hid (show ReachAt w2 u2 r by rw [HRE.out]; exact hu.at)
  obtain ⟨a, c, fa, fc, rfl⟩ := HR.out.form
  have HX := Lib.hid (RBox.new rfl HR.out)
  have HB3 := Lib.hid (chain (chain HB.out hb) (bel_new w2 (.cells #[.int .i64 r.now, .string r.name, .slice a r.l.length c, .slice fa r.fl.length fc] 34)))
  clear hu hb
  go_wp2_with fail
  refine (start_any _ r 1 57 _ HX.out.lies N.out K1.out K57.out).mono ?_
  rintro e w4 ⟨rfl, hb⟩
  rw [E1.out]
  have HX4 := Lib.hid (HX.out.step hb)
  have HB4 := Lib.hid (chain HB3.out hb)
  obtain ⟨c0, c1, c2, c3⟩ := HX4.out.cells
  clear hb
  go_wp2_with fail
  refine (from_any _ r 0 _ HX4.out.lies N.out K0.out).mono ?_
  rintro e w5 ⟨rfl, hb⟩
  rw [E2.out]
  have HX5 := Lib.hid (HX4.out.step hb)
  have HB5 := Lib.hid (chain HB4.out hb)
  obtain ⟨c0, c1, c2, c3⟩ := HX5.out.cells
  clear hb
  go_wp2_with fail
  refine (from_any _ r 1 _ HX5.out.lies N.out K1.out).mono ?_
  rintro e w6 ⟨rfl, hb⟩
  rw [E3.out]
  have HX6 := Lib.hid (HX5.out.step hb)
  have HB6 := Lib.hid (chain HB5.out hb)
  obtain ⟨c0, c1, c2, c3⟩ := HX6.out.cells
  clear hb
  go_wp2_with fail
  refine (cover_any _ r 150 _ HX6.out.lies N.out K150.out L.out).mono ?_
  rintro e w7 ⟨rfl, hb⟩
  rw [E4.out]
  have HX7 := Lib.hid (HX6.out.step hb)
  have HB7 := Lib.hid (chain HB6.out hb)
  obtain ⟨c0, c1, c2, c3⟩ := HX7.out.cells
  clear hb
  go_wp2_with fail
  refine (cover_any _ r 140 _ HX7.out.lies N.out K140.out L.out).mono ?_
  rintro e w8 ⟨rfl, hb⟩
  rw [E5.out]
  have HX8 := Lib.hid (HX7.out.step hb)
  have HB8 := Lib.hid (chain HB7.out hb)
  obtain ⟨c0, c1, c2, c3⟩ := HX8.out.cells
  clear hb
  go_wp2_with fail
  refine (takes_any _ r ⟨#[97]⟩ 149 0 _ HX8.out.lies N.out (by decide) K149.out).mono ?_
  rintro e w9 ⟨rfl, hb⟩
  rw [E6.out]
  have HB9 := Lib.hid (chain HB8.out hb)
  clear hb
  go_wp2
  go_ret
  exact ⟨rfl, HB9.out⟩
end Go.Proofs.Ytaenpcglaenlaaa
