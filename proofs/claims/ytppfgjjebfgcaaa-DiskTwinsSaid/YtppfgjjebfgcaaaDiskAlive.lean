/-
  The disk, step by step; the contract of the law package's alive.
-/
import Derived.Test.YtppfgjjebfgcaaaFill
namespace Go.Proofs.Ytppfgjjebfgcaaa
open Go.RowKit
set_option linter.unusedVariables false
set_option linter.unusedSimpArgs false

section
variable {d : DV}
theorem write_ok {k : Int} {s : ByteArray} (h0 : d.on = true) (h1 : s.size = 256) (h2 : 0 ≤ k ∧ k < d.blocks) (h3 : d.armed = true → 0 < d.left) : d.write k s = (d.spent.put k s, 0) := by
  unfold DV.write
  rw [if_neg (by rw [h0]; simp), if_neg (by simpa using h1), if_neg (by omega), if_neg (by intro h; have := h3 h.1; omega)]
theorem flush_ok (h0 : d.on = true) (h3 : d.armed = true → 0 < d.left) : d.flush = (d.spent.flushed, 0) := by
  unfold DV.flush
  rw [if_neg (by rw [h0]; simp), if_neg (by intro h; have := h3 h.1; omega)]
end
/-- A list of ints in a new block. -/
theorem out_new {w : World} {B p c cap : Nat} {d : DV} {l : List Int} {cs : Array Value} {T : TypeId} {fr : Nat × Nat} (h : DiskAt w B p c d) (hcs : cs = (l.map (Value.int .i64)).toArray) (hI : ∀ x ∈ l, -9223372036854775808 ≤ x ∧ x ≤ 9223372036854775807) (hlen : l.length ≤ cap ∧ cap ≤ 9223372036854775807) :
    IntsOut (w.alloc (.cells cs T fr)) p (.slice (some ⟨w.heap.size, 0, none⟩) l.length cap) l := by
  refine ⟨ints_new rfl hcs hI hlen, fun b o s n c e _ ho => ?_⟩
  injection e with e _ _
  injection e with e; injection e with e
  obtain ⟨kv, wv, mb, lb, h'⟩ := h.step (bel_new w (.cells cs T fr))
  obtain ⟨kv2, wv2, mb2, lb2, h⟩ := h
  obtain ⟨_, _, _, _, _, _, q6, q7, q8⟩ := row9 (heap_step h.blk (bel_new w (.cells cs T fr)))
  unfold Own at ho
  rw [q6, q7, q8] at ho
  have := h.lt
  rcases ho with h1 | h1 | h1 | ⟨v, h1, h2⟩
  · omega
  · injection h1 with h1; injection h1 with h1; injection h1 with h1; have := h.now.lt; omega
  · injection h1 with h1; injection h1 with h1; injection h1 with h1
    obtain ⟨n, _, hl⟩ := h.lasts
    have := hl.lt; omega
  · injection h1 with h1; subst h1; have := (own_row h.waits h2).2.1; omega
/-- A list of ints that lay there before the disk. -/
theorem out_arg {w : World} {B p c : Nat} {d : DV} {v : Value} {l : List Int} (h : DiskAt w B p c d) (hv : IntsAt w v l) (hlt : ∀ b o s n c, v = .slice (some ⟨b, o, s⟩) n c → l ≠ [] → b < B) : IntsOut w p v l := by
  obtain ⟨kv, wv, mb, lb, h⟩ := h
  exact ⟨hv, fun b o s n c e hn ho => by have := h.ge_own b ho; have := hlt b o s n c e hn; omega⟩
theorem ints_lt {w : World} {v : Value} {l : List Int} (hv : IntsAt w v l) : ∀ b o s n c, v = .slice (some ⟨b, o, s⟩) n c → l ≠ [] → b < w.heap.size := by
  intro b o s n c e hn
  obtain ⟨a, c', rfl, _, _, h4⟩ := hv
  obtain ⟨b', o', rfl, h6, _⟩ := h4 hn
  injection e with e _ _; injection e with e; injection e with e; omega

def X1 : ByteArray := fillB 120
def Y1 : ByteArray := fillB 121
theorem x1_size : X1.size = 256 := fillB_size 120
theorem y1_size : Y1.size = 256 := fillB_size 121
def da1 : DV := (DV.fresh 2).spent.put 0 X1
def da2 : DV := da1.spent.flushed
def da3 : DV := da2.spent.put 0 Y1
def da5 : DV := (da3.cut [0]).restore
theorem da5_read : da5.read 0 = (X1, 0) := by
  rfl

set_option maxRecDepth 100000 in
set_option maxHeartbeats 4000000 in
theorem alive_any (w : World) : Calls Try.prog 8 #[] w (BoolPost w true) := by
  have E1 := Lib.hid (show (DV.fresh 2).write 0 X1 = (da1, 0) from write_ok rfl x1_size ⟨by decide, by decide⟩ (by intro h; cases h))
  have E2 := Lib.hid (show da1.flush = (da2, 0) from flush_ok rfl (by intro h; cases h))
  have E3 := Lib.hid (show da2.write 0 Y1 = (da3, 0) from write_ok rfl y1_size ⟨by decide, by decide⟩ (by intro h; cases h))
  have E4 := Lib.hid (show da3.cutN = 1 from rfl)
  have E6 := Lib.hid da5_read
  have E7 := Lib.hid (show da5.on = true from rfl)
  have E8 := Lib.hid (show da5.writes = 3 from rfl)
  have FX := Lib.hid (show fillB 120 = X1 from rfl)
  have FY := Lib.hid (show fillB 121 = Y1 from rfl)
  have SX := Lib.hid x1_size
  have SY := Lib.hid y1_size
  have hq : (X1.toList == X1.toList) = true := by simp
  go_enter Try.func8, Try.ntmps8
  go_wp2_with fail
  refine (new_any 2 w (by omega)).mono ?_
  rintro e w1 ⟨p, rfl, hd, hb⟩
  have HD1 := Lib.hid hd
  have HB1 := Lib.hid hb
  clear hd hb
  go_wp2_with fail
  refine (fill_any 120 _ (by omega)).mono ?_; rintro e w2 ⟨rfl, hb⟩; have HD2 := Lib.hid (HD1.out.step hb); have HB2 := Lib.hid (chain HB1.out hb); clear hb
  rw [FX.out]
  go_wp2_with fail
  refine (write_any 0 X1 HD2.out (by omega) (by unfold I64; omega) (by decide) (by have := SX.out; omega)).mono ?_
  rintro e w3 ⟨rfl, hd, hs⟩
  rw [E1.out] at hd ⊢
  have HD3 := Lib.hid hd
  have HB3 := Lib.hid (HB2.out.trans (HD2.out.below hs))
  clear hd hs
  go_wp2_with fail
  refine (flush_any HD3.out (by omega) (by decide)).mono ?_
  rintro e w4 ⟨rfl, hd, hs⟩
  rw [E2.out] at hd ⊢
  have HD4 := Lib.hid hd
  have HB4 := Lib.hid (HB3.out.trans (HD3.out.below hs))
  clear hd hs
  go_wp2_with fail
  refine (fill_any 121 _ (by omega)).mono ?_; rintro e w5 ⟨rfl, hb⟩; have HD5 := Lib.hid (HD4.out.step hb); have HB5 := Lib.hid (chain HB4.out hb); clear hb
  rw [FY.out]
  go_wp2_with fail
  refine (write_any 0 Y1 HD5.out (by omega) (by unfold I64; omega) (by decide) (by have := SY.out; omega)).mono ?_
  rintro e w6 ⟨rfl, hd, hs⟩
  rw [E3.out] at hd ⊢
  have HD6 := Lib.hid hd
  have HB6 := Lib.hid (HB5.out.trans (HD5.out.below hs))
  clear hd hs
  go_wp2_with fail
  have HDa := Lib.hid (HD6.out.step (bel_new w6 (.cells #[.int .i64 0] 3)))
  have HBa := Lib.hid (chain HB6.out (bel_new w6 (.cells #[.int .i64 0] 3)))
  refine (cut_any _ [0] HDa.out (out_new (l := [0]) HD6.out rfl (by decide) (by decide)) (by omega)).mono ?_
  rintro e w7 ⟨rfl, hd, hs⟩
  rw [E4.out]
  have HD7 := Lib.hid hd
  have HB7 := Lib.hid (HBa.out.trans (HDa.out.below hs))
  clear hd hs
  go_wp2_with fail
  refine (restore_any HD7.out).mono ?_
  rintro e w8 ⟨rfl, hd, hs⟩
  have HD8 := Lib.hid hd
  have HB8 := Lib.hid (HB7.out.trans (HD7.out.below hs))
  clear hd hs
  go_wp2_with fail
  refine (read_any 0 HD8.out (by unfold I64; omega)).mono ?_
  rintro e w9 ⟨rfl, hb⟩
  rw [show (da3.cut [0]).restore = da5 from rfl, E6.out]
  have HD9 := Lib.hid (HD8.out.step hb)
  have HB9 := Lib.hid (chain HB8.out hb)
  clear hb
  go_wp2_with fail
  refine (fill_any 120 _ (by omega)).mono ?_; rintro e w10 ⟨rfl, hb⟩; have HD10 := Lib.hid (HD9.out.step hb); have HB10 := Lib.hid (chain HB9.out hb); clear hb
  rw [FX.out]
  go_wp2_with fail
  refine (on_any HD10.out).mono ?_
  rintro e w11 ⟨rfl, hb⟩
  rw [show (da3.cut [0]).restore = da5 from rfl, E7.out]
  have HD11 := Lib.hid (HD10.out.step hb)
  have HB11 := Lib.hid (chain HB10.out hb)
  clear hb
  go_wp2_with fail
  refine (writes_any HD11.out).mono ?_
  rintro e w12 ⟨rfl, hb⟩
  rw [show (da3.cut [0]).restore = da5 from rfl, E8.out]
  have HB12 := Lib.hid (chain HB11.out hb)
  clear hb
  go_wp2
  go_ret
  exact ⟨rfl, HB12.out⟩
end Go.Proofs.Ytppfgjjebfgcaaa
