/-
  The contracts of Arm, Restore, Read and Cut of a disk.
-/
import Derived.Test.YtjcggkfinhkcoaaGreatDev1
namespace Go.Proofs.YtjcggkfinhkcoaaGreat
open Go.RowKit
set_option linter.unusedVariables false
set_option linter.unusedSimpArgs false

theorem keep_of_own {w : World} {B : Nat} {v : Value} {l : List Int} (h : w.ownsRow B 3 1 v l.length (l.map (Value.int .i64))) (hl : ∀ x ∈ l, -9223372036854775808 ≤ x ∧ x ≤ 9223372036854775807) : KeepAt w v l := by
  have h0 := h
  refine ⟨?_, fun b o s n c e hn => ?_⟩
  · rcases h.2 with ⟨h1, h2⟩ | ⟨g, cap, cur, h1, _, _, h2, h3, _, _⟩
    · subst h1
      obtain rfl := List.eq_nil_of_length_eq_zero h2
      exact ints_nil _
    · subst h1
      refine ⟨_, cap, rfl, hl, ⟨by omega, by unfold maxLen at h3; omega⟩, fun _ => ⟨g, 0, rfl, (h0.lt g rfl).2, fun j hj => ?_⟩⟩
      have := h0.cellAt j (by omega)
      rw [Nat.zero_add, this]
      simp [hj]
  · obtain ⟨_, _, cur, hc⟩ := own_row h0 (g := b) (by rw [e]; rfl)
    exact ⟨cur, _, hc⟩
theorem clone_keep (v : Value) (l : List Int) (w : World) (hv : IntsAt w v l) (hl : l.length ≤ 1000000) :
    Calls Tryz.prog 106 #[v] w (fun e' w' => ∃ a c, e' = .returned (.slice a l.length c) ∧ KeepAt w' (.slice a l.length c) l ∧ Below w.heap.size w w') := by
  obtain ⟨a, ca, rfl, hI, hlen, hc⟩ := hv
  by_cases h0 : l = []
  · subst h0
    cases a with
    | none =>
      refine (Tryz.slices_Clone_int_nil _ _ w).mono ?_
      rintro e w1 ⟨rfl, rfl⟩
      exact ⟨_, _, rfl, keep_nil _, Below.refl _ _⟩
    | some a =>
      refine (Tryz.slices_Clone_int_zero _ _ w).mono ?_
      rintro e w1 ⟨u, rfl, ho, _, hb⟩
      obtain ⟨ao, ca, rfl⟩ := own_form ho
      exact ⟨_, _, rfl, keep_of_own ho (by simp), hb⟩
  · obtain ⟨b, o, rfl, hbw, hcl⟩ := hc h0
    refine (Tryz.slices_Clone_int b o l.length ca l w (Nat.le_refl _) (by omega) hcl).mono ?_
    rintro e w1 ⟨u, rfl, ho, _, hb⟩
    rw [List.take_length] at ho
    obtain ⟨ao, ca, rfl⟩ := own_form ho
    exact ⟨_, _, rfl, keep_of_own ho hI, hb⟩

def DV.arm (d : DV) (n : Int) (l : List Int) : DV := { d with armed := decide (0 ≤ n), left := n, keep := l }
section
variable {w : World} {B p c : Nat} {d : DV}
/-- The disk where its own block p alone has turned, on, writes, armed, left, keep. -/
theorem DP.small {kv wv kv' : Value} {mb lb : Nat} {w' : World} {d' : DV} (h : DP w B p c d kv wv mb lb) (e1 : d'.now = d.now) (e2 : d'.lasts = d.lasts) (e3 : d'.waits = d.waits) (hok : d'.ok) (hk : KeepAt w' kv' d'.keep)
    (hp : w'.heap[p]? = some (.cells #[.bool d'.on, .int .i64 d'.writes, .bool d'.armed, .int .i64 d'.left, kv', .int .i64 d'.blocks, .map (some mb), .map (some lb), wv] 64))
    (h1 : w'.os = w.os) (h2 : w'.tape = w.tape) (h3 : w'.output = w.output) (hs : w.heap.size ≤ w'.heap.size) (hb : ∀ k, k ≠ p → k < w.heap.size → w'.heap[k]? = w.heap[k]?) : DiskAt w' B p c d' ∧ DStep p w w' := by
  obtain ⟨r1, r2, r3, r4⟩ := h.rest hs hb
  have h' : DP w' B p c d' kv' wv mb lb := ⟨hp, hk, by rw [e1]; exact r2, by rw [e2, e3]; exact r3, by rw [e3]; exact r4, h.ne, h.ge, hok⟩
  exact ⟨⟨_, _, _, _, h'⟩, h.dstep h' h1 h2 h3 hs (fun k hk hkp _ _ _ => hb k hkp hk) (.inl rfl) (.inl rfl) (fun g hg => .inl hg)⟩
set_option maxRecDepth 100000 in
set_option maxHeartbeats 1000000 in
theorem arm_any (n : Int) (v : Value) (l : List Int) (h : DiskAt w B p c d) (hv : IntsAt w v l) (hn : I64 n) (hl : l.length ≤ 1000000) :
    Calls Tryz.prog 89 #[.pointer (some ⟨p, 0, none⟩), .int .i64 n, v] w (RetD w B p c (d.arm n l) (.tuple #[])) := by
  obtain ⟨kv, wv, mb, lb, h⟩ := h
  have H := Lib.hid h
  have HV := Lib.hid hv
  have HN := Lib.hid hn
  obtain ⟨va, vc, rfl, _⟩ := hv
  clear h
  unfold I64 at hn
  go_enter Tryz.func89, Tryz.ntmps89
  go_wp2_with fail
  refine (clone_keep _ l _ HV.out hl).mono ?_
  rintro e w1 ⟨a, cc, rfl, hk, hb⟩
  have HK := Lib.hid hk
  have HB := Lib.hid hb
  have H1 := Lib.hid (H.out.step hb)
  obtain ⟨f0, f1, f2, f3, f4, f5, f6, f7, f8⟩ := free9 H1.out.blk
  obtain ⟨c0, c1, c2, c3, c4, c5, c6, c7, c8⟩ := row9 H1.out.blk
  clear hk hb
  go_wp2
  go_end0
  have hfr : ∀ k, k ≠ p → (((w1.setCell ⟨p, 2, none⟩ (.bool (decide (0 ≤ n)))).setCell ⟨p, 3, none⟩ (.int .i64 n)).setCell ⟨p, 4, none⟩ (.slice a l.length cc)).heap[k]? = w1.heap[k]? := fun k hk => by
    rw [set_heap_other _ hk, set_heap_other _ hk, set_heap_other _ hk]
  have hX := DP.small (d' := d.arm n l) (kv' := .slice a l.length cc) (w' := ((w1.setCell ⟨p, 2, none⟩ (.bool (decide (0 ≤ n)))).setCell ⟨p, 3, none⟩ (.int .i64 n)).setCell ⟨p, 4, none⟩ (.slice a l.length cc)) H1.out rfl rfl rfl
    ⟨H.out.ok.1, HN.out, H.out.ok.2.2⟩ (HK.out.step (by simp) (fun b o s m c' e hne => hfr b (fun hbp => by
      obtain ⟨cs, fr, hc⟩ := HK.out.2 b o s m c' e hne
      rw [hbp, H1.out.blk] at hc
      injection hc with hc; injection hc with _ hc; exact absurd hc (by decide)))) (by rw [set_heap (set_heap (set_heap H1.out.blk _) _) _]; rfl) rfl rfl rfl (by simp) (fun k hk _ => hfr k hk)
  exact ⟨rfl, hX.1, (DStep.of_below HB.out H.out.lt).trans hX.2⟩

def DV.restore (d : DV) : DV := if 0 < d.blocks then { d with on := true } else d

def zeroB : ByteArray := ⟨(Lib.repeatL [0] 256).toArray⟩
def readO : Option ByteArray → ByteArray × Int
  | some s => (s, 0)
  | none => (zeroB, 0)
def DV.read (d : DV) (k : Int) : ByteArray × Int :=
  if d.on = false then (ByteArray.empty, 14) else if k < 0 ∨ d.blocks ≤ k then (ByteArray.empty, 15) else readO (d.now k)
set_option maxRecDepth 100000 in
set_option maxHeartbeats 1000000 in
theorem read_any (k : Int) (h : DiskAt w B p c d) (hk : I64 k) : Calls Tryz.prog 28 #[.pointer (some ⟨p, 0, none⟩), .int .i64 k] w (RetB w (.tuple #[.string (d.read k).1, .int .i64 (d.read k).2])) := by
  have HD := Lib.hid h
  obtain ⟨kv, wv, mb, lb, h⟩ := h
  have H := Lib.hid h
  have HK := Lib.hid hk
  have hbI := h.ok.2.2.1
  unfold I64 at hk hbI
  clear h
  by_cases g0 : d.on = false
  · have HE := Lib.hid (show d.read k = (ByteArray.empty, 14) from if_pos g0)
    have G0 := Lib.hid g0
    clear g0
    go_enter Tryz.func28, Tryz.ntmps28
    go_wp2_with fail
    refine (off_any HD.out).mono ?_
    rintro e w1 ⟨rfl, hb⟩
    rw [G0.out]
    go_wp2
    go_ret2
    rw [HE.out]
    exact ⟨rfl, hb⟩
  · have G0 := Lib.hid (show d.on = true by simpa using g0)
    clear g0
    by_cases g1 : k < 0
    · have HE := Lib.hid (show d.read k = (ByteArray.empty, 15) by unfold DV.read; rw [if_neg (by rw [G0.out]; simp), if_pos (.inl g1)])
      go_enter Tryz.func28, Tryz.ntmps28
      go_wp2_with fail
      refine (off_any HD.out).mono ?_
      rintro e w1 ⟨rfl, hb⟩
      rw [G0.out]
      go_wp2
      go_ret2
      rw [HE.out]
      exact ⟨rfl, hb⟩
    · by_cases g2 : d.blocks ≤ k
      · have HE := Lib.hid (show d.read k = (ByteArray.empty, 15) by unfold DV.read; rw [if_neg (by rw [G0.out]; simp), if_pos (.inr g2)])
        go_enter Tryz.func28, Tryz.ntmps28
        go_wp2_with fail
        refine (off_any HD.out).mono ?_
        rintro e w1 ⟨rfl, hb⟩
        rw [G0.out]
        have H1 := Lib.hid (H.out.step hb)
        obtain ⟨c0, c1, c2, c3, c4, c5, c6, c7, c8⟩ := row9 H1.out.blk
        go_wp2
        go_ret2
        rw [HE.out]
        exact ⟨rfl, hb⟩
      · obtain ⟨x, hx⟩ : ∃ x, x = d.now k := ⟨_, rfl⟩
        have HE := Lib.hid (show d.read k = readO x by unfold DV.read; rw [if_neg (by rw [G0.out]; simp), if_neg (by omega), hx])
        have HX := Lib.hid hx
        clear hx
        go_enter Tryz.func28, Tryz.ntmps28
        go_wp2_with fail
        refine (off_any HD.out).mono ?_
        rintro e w1 ⟨rfl, hb⟩
        rw [G0.out]
        have H1 := Lib.hid (H.out.step hb)
        have HB := Lib.hid hb
        obtain ⟨c0, c1, c2, c3, c4, c5, c6, c7, c8⟩ := row9 H1.out.blk
        have hlook := H1.out.now.look (k := k) (inI_of HK.out)
        rw [← HX.out] at hlook
        clear hb
        cases x with
        | some s =>
          simp only [lookV] at hlook
          go_wp2
          go_ret2
          rw [HE.out]
          exact ⟨rfl, HB.out⟩
        | none =>
          simp only [lookV] at hlook
          go_wp2_with fail
          refine (Tryz.strings_Repeat ⟨#[0]⟩ 256 w1 (by decide) (by decide)).mono ?_
          rintro e w2 ⟨rfl, hb⟩
          go_wp2
          go_ret2
          rw [HE.out]
          exact ⟨rfl, chain HB.out hb⟩
end
end Go.Proofs.YtjcggkfinhkcoaaGreat
