/-
  Where the power goes while a superblock is written: in plain words, with no program in sight.
-/
import Derived.Test.YtabkeggcaacldaaSuper7
import Derived.Test.YtabkeggcaacldaaFill
namespace Go.Proofs.Ytabkeggcaacldaa
open Go.RowKit
set_option linter.unusedVariables false
set_option linter.unusedSimpArgs false

section
variable {d : DV}
theorem flush_cut (h0 : d.on = true) (h3 : d.armed = true ∧ d.left ≤ 0) : d.flush = (d.cut d.keep, 14) := by
  unfold DV.flush
  rw [if_neg (by rw [h0]; simp), if_pos h3]
theorem write_cut {k : Int} {s : ByteArray} (h0 : d.on = true) (h1 : s.size = 256) (h2 : 0 ≤ k ∧ k < d.blocks) (h3 : d.armed = true ∧ d.left ≤ 0) : d.write k s = (d.cut d.keep, 14) := by
  unfold DV.write
  rw [if_neg (by rw [h0]; simp), if_neg (by simpa using h1), if_neg (by omega), if_pos h3]
theorem cut_state (h0 : d.on = true) (K : List Int) : (d.cut K).on = false ∧ (d.cut K).blocks = d.blocks ∧ (d.cut K).now = cutL K d.waits d.lasts d.waits.length ∧ (d.cut K).writes = d.writes := by
  unfold DV.cut
  rw [if_pos h0]
  exact ⟨rfl, rfl, rfl, rfl⟩
theorem spent_left (h : d.armed = true) : d.spent.left = d.left - 1 := by unfold DV.spent; dsimp only; rw [if_pos h]
end
/-- The block of a superblock's own bytes, and in the other one a lesser one, or none. -/
def Holds (f : Int → Option ByteArray) (s : SV) : Prop := f (s.gen % 2) = some (putS s) ∧ (getR ((f (1 - s.gen % 2)).getD zeroB)).1.gen < s.gen
def Good (s : SV) : Prop := s.ok ∧ s.may ∧ s.blocks = 70
theorem updF_same (f : Int → Option ByteArray) (k : Int) (s : ByteArray) : updF f k s k = some s := if_pos rfl
theorem updF_ne (f : Int → Option ByteArray) {k j : Int} (s : ByteArray) (h : ¬ j = k) : updF f k s j = f j := if_neg h
theorem holds_put {f : Int → Option ByteArray} {L s : SV} (h : Holds f L) (hL : Good L) (hg : s.gen = L.gen + 1) : Holds (updF f (s.gen % 2) (putS s)) s := by
  obtain ⟨h1, h2⟩ := h
  have e : 1 - s.gen % 2 = L.gen % 2 := by omega
  have e2 : ¬ L.gen % 2 = s.gen % 2 := by omega
  refine ⟨updF_same _ _ _, ?_⟩
  rw [e, updF_ne _ _ e2, h1, Option.getD_some, getR_put L hL.1 hL.2.1]
  dsimp only
  omega
/-- Of a disk with power. -/
structure Live (e : DV) (s : SV) : Prop where
  on : e.on = true
  bl : e.blocks = 70
  hold : Holds e.now s
  five : e.now 5 = some (fillB 122)
  sm : e.small
theorem live_sr {e : DV} {s : SV} (h : Live e s) (hs : Good s) : e.sr = (s, 0) := by
  obtain ⟨h1, h2⟩ := h.hold
  have r0 : (e.read 0).1 = (e.now 0).getD zeroB := read_now h.on ⟨by decide, by rw [h.bl]; decide⟩
  have r1 : (e.read 1).1 = (e.now 1).getD zeroB := read_now h.on ⟨by decide, by rw [h.bl]; decide⟩
  have hb : e.best 2 = s := by
    rw [best_two, r0, r1]
    by_cases hg : s.gen % 2 = 0
    · rw [hg] at h1 h2
      rw [show (1 : Int) - 0 = 1 from rfl] at h2
      rw [h1, Option.getD_some, getR_put s hs.1 hs.2.1, if_neg (by show ¬ s.gen < _; omega)]
    · have hg' : s.gen % 2 = 1 := by omega
      rw [hg'] at h1 h2
      rw [show (1 : Int) - 1 = 0 from rfl] at h2
      rw [h1, Option.getD_some, getR_put s hs.1 hs.2.1, if_pos h2]
  rw [sr_on h.on, hb, if_neg]
  rw [h.bl, hs.2.2]
  intro h'
  rcases h' with h' | h'
  · exact hs.2.1.2.1 h'
  · exact h' rfl
theorem live_five {e : DV} {s : SV} (h : Live e s) : e.read 5 = (fillB 122, 0) := by
  unfold DV.read
  rw [if_neg (by rw [h.on]; decide), if_neg (by rw [h.bl]; decide), h.five]
  rfl
/-- A disk without power, opened again. -/
theorem live_again {r : DV} {f : Int → Option ByteArray} {s : SV} (hb : r.blocks = 70) (hn : r.now = f) (h5 : f 5 = some (fillB 122)) (hz : ∀ k b, f k = some b → b.size = 256) (hh : Holds f s) : Live r.restore s := by
  have e : r.restore = { r with on := true } := by unfold DV.restore; rw [if_pos (by rw [hb]; decide)]
  rw [e]
  exact ⟨rfl, hb, by show Holds r.now s; rw [hn]; exact hh, by show r.now 5 = _; rw [hn]; exact h5, by intro k b hk; have hk : r.now k = some b := hk; rw [hn] at hk; exact hz k b hk⟩
/-- An armed disk, all of it flushed. -/
structure Safe (d : DV) (L : SV) : Prop where
  live : Live d L
  ar : d.armed = true
  wt : d.waits = []
  eq : d.lasts = d.now

theorem safe_step {d : DV} {L s : SV} (h : Safe d L) (hL : Good L) (hs : Good s) (hg : s.gen = L.gen + 1) :
    ((d.sw s).2 = 0 ∧ Safe (d.sw s).1.restore s) ∨ ((d.sw s).2 = 14 ∧ (d.sw s).1.on = false ∧ ∃ X, (X = s ∨ X = L) ∧ Live (d.sw s).1.restore X) := by
  have hon := h.live.on
  have hbl := h.live.bl
  have hg0 := hs.1.1.1
  have hk : 0 ≤ s.gen % 2 ∧ s.gen % 2 < 70 := by omega
  have hk5 : ¬ (5 : Int) = s.gen % 2 := by omega
  have hz := h.live.sm
  have hp5 : (updF d.now (s.gen % 2) (putS s)) 5 = some (fillB 122) := by rw [updF_ne _ _ hk5]; exact h.live.five
  have hpz : ∀ k b, (updF d.now (s.gen % 2) (putS s)) k = some b → b.size = 256 := by
    intro k b hb
    unfold updF at hb
    split at hb
    · injection hb with hb; rw [← hb]; exact putS_size s
    · exact hz k b hb
  have hph := holds_put h.live.hold hL hg
  by_cases c1 : d.left ≤ 0
  · right
    have e1 : d.sw s = (d.cut d.keep, 14) := by
      unfold DV.sw
      rw [if_pos hs.2.1, flush_cut hon ⟨h.ar, c1⟩, if_neg (by show ¬ (14 : Int) = 0; decide)]
    obtain ⟨q1, q2, q3, q4⟩ := cut_state hon d.keep
    rw [e1]
    refine ⟨rfl, q1, L, .inr rfl, live_again (q2.trans hbl) (f := d.now) ?_ h.live.five hz h.live.hold⟩
    show (d.cut d.keep).now = d.now
    rw [q3, h.wt, ← h.eq]; rfl
  · have f1 : d.flush = (d.spent.flushed, 0) := flush_ok hon (fun _ => by omega)
    have l1 : d.spent.flushed.left = d.left - 1 := spent_left h.ar
    have n1 : d.spent.flushed.lasts = d.now := by
      show flushL d.waits d.lasts d.waits.length = d.now
      rw [h.wt, ← h.eq]; rfl
    by_cases c2 : d.left ≤ 1
    · right
      have e1 : d.sw s = (d.spent.flushed.cut d.spent.flushed.keep, 14) := by
        unfold DV.sw
        rw [if_pos hs.2.1, f1, if_pos rfl, write_cut (d := d.spent.flushed) hon (putS_size s) ⟨hk.1, by show s.gen % 2 < d.blocks; omega⟩ ⟨h.ar, by rw [l1]; omega⟩, if_neg (by show ¬ (14 : Int) = 0; decide)]
      obtain ⟨q1, q2, q3, q4⟩ := cut_state (d := d.spent.flushed) hon d.spent.flushed.keep
      rw [e1]
      refine ⟨rfl, q1, L, .inr rfl, live_again (q2.trans hbl) (f := d.now) ?_ h.live.five hz h.live.hold⟩
      show (d.spent.flushed.cut d.spent.flushed.keep).now = d.now
      rw [q3]; exact n1
    · have f2 : d.spent.flushed.write (s.gen % 2) (putS s) = (d.spent.flushed.spent.put (s.gen % 2) (putS s), 0) := write_ok (d := d.spent.flushed) hon (putS_size s) ⟨hk.1, by show s.gen % 2 < d.blocks; omega⟩ (fun _ => by rw [l1]; omega)
      obtain ⟨d2, hd2⟩ : ∃ d2, d2 = d.spent.flushed.spent.put (s.gen % 2) (putS s) := ⟨_, rfl⟩
      have a2 : d2.armed = true := by rw [hd2]; exact h.ar
      have o2 : d2.on = true := by rw [hd2]; exact hon
      have b2 : d2.blocks = 70 := by rw [hd2]; exact hbl
      have w2 : d2.waits = [(s.gen % 2, putS s)] := by rw [hd2]; rfl
      have l2 : d2.left = d.left - 2 := by
        rw [hd2]
        show d.spent.flushed.spent.left = _
        rw [spent_left (d := d.spent.flushed) h.ar, l1]; omega
      have n2 : d2.lasts = d.now := by rw [hd2]; exact n1
      have m2 : d2.now = updF d.now (s.gen % 2) (putS s) := by rw [hd2]; rfl
      rw [← hd2] at f2
      by_cases c3 : d.left ≤ 2
      · right
        have e1 : d.sw s = (d2.cut d2.keep, 14) := by
          unfold DV.sw
          rw [if_pos hs.2.1, f1, if_pos rfl, f2, if_pos rfl, flush_cut o2 ⟨a2, by rw [l2]; omega⟩]
        obtain ⟨q1, q2, q3, q4⟩ := cut_state o2 d2.keep
        rw [e1]
        have hc : (d2.cut d2.keep).now = if keepBit d2.keep 0 = true then updF d.now (s.gen % 2) (putS s) else d.now := by
          rw [q3, w2, n2]; rfl
        by_cases hb : keepBit d2.keep 0 = true
        · rw [if_pos hb] at hc
          exact ⟨rfl, q1, s, .inl rfl, live_again (q2.trans b2) hc hp5 hpz hph⟩
        · rw [if_neg hb] at hc
          exact ⟨rfl, q1, L, .inr rfl, live_again (q2.trans b2) hc h.live.five hz h.live.hold⟩
      · left
        have e1 : d.sw s = (d2.spent.flushed, 0) := by
          unfold DV.sw
          rw [if_pos hs.2.1, f1, if_pos rfl, f2, if_pos rfl, flush_ok o2 (fun _ => by rw [l2]; omega)]
        rw [e1]
        refine ⟨rfl, ?_⟩
        have e2 : d2.spent.flushed.restore = { d2.spent.flushed with on := true } := by unfold DV.restore; rw [if_pos (by show 0 < d2.blocks; rw [b2]; decide)]
        have hv := live_again (r := d2.spent.flushed) (s := s) b2 (show d2.spent.flushed.now = _ from m2) hp5 hpz hph
        refine ⟨hv, ?_, ?_, ?_⟩
        · rw [e2]; exact a2
        · rw [e2]; rfl
        · rw [e2]
          show flushL d2.waits d2.lasts d2.waits.length = d2.now
          rw [w2, n2, m2]; rfl
theorem sw_writes (d : DV) (s : SV) : d.writes ≤ (d.sw s).1.writes ∧ (d.sw s).1.writes ≤ d.writes + 3 := by
  have h1 := flush_writes d
  have h2 := write_writes d.flush.1 (s.gen % 2) (putS s)
  have h3 := flush_writes (d.flush.1.write (s.gen % 2) (putS s)).1
  unfold DV.sw
  split
  · split
    · split
      · omega
      · omega
    · omega
  · show d.writes ≤ d.writes ∧ d.writes ≤ d.writes + 3; omega
theorem restore_writes (d : DV) : d.restore.writes = d.writes := by unfold DV.restore; split <;> rfl
def s70 (g : Int) : SV := ⟨g, 70, 0⟩
theorem good70 {g : Int} (h1 : 0 < g) (h2 : g ≤ 18446744073709551615) (x : Int) (h3 : 0 ≤ x) (h4 : x ≤ 1023) : Good ⟨g, 70, x⟩ := by
  refine ⟨⟨⟨?_, ?_⟩, ?_, ?_⟩, ⟨⟨?_, ?_⟩, ?_, ?_, ?_⟩, rfl⟩ <;> (dsimp only; (try unfold I64); omega)
def ZD : DV := (DV.fresh 70).spent.put 5 (fillB 122)
def AD (g n : Int) (K : List Int) : DV := (ZD.swd (s70 g)).arm n K
set_option maxRecDepth 100000 in
theorem zd_sr : ZD.srV = .tuple #[SV.zero.val, .int .i64 28] := by
  unfold DV.srV
  have h0 : ZD.on = true := rfl
  have r0 : (ZD.read 0).1 = zeroB := by rw [read_now h0 ⟨by decide, by show _ < (70 : Int); decide⟩]; rfl
  have r1 : (ZD.read 1).1 = zeroB := by rw [read_now h0 ⟨by decide, by show _ < (70 : Int); decide⟩]; rfl
  have hb : ZD.best 2 = SV.zero := by rw [best_two, r0, r1, getR_zero, if_neg (by decide)]
  rw [sr_on h0, hb, if_pos (.inl rfl)]
set_option maxRecDepth 100000 in
theorem ad_safe {g n : Int} {K : List Int} (h1 : 0 < g) (h2 : g ≤ 18446744073709551615) (hn : 0 ≤ n) : Safe (AD g n K) (s70 g) := by
  have hz : ∀ k b, (AD g n K).now k = some b → b.size = 256 := by
    have : (ZD.swd (s70 g)).small := swd_small (put_small (d := (DV.fresh 70).spent) (fresh_small 70) (fillB_size 122))
    exact this
  have hm : (AD g n K).now = updF (updF (fun _ => none) 5 (fillB 122)) (g % 2) (putS (s70 g)) := rfl
  refine ⟨⟨rfl, rfl, ⟨?_, ?_⟩, ?_, hz⟩, ?_, rfl, ?_⟩
  · rw [hm]; exact updF_same _ _ _
  · rw [hm]
    rw [show (s70 g).gen = g from rfl, updF_ne _ _ (by omega), updF_ne _ _ (by omega), Option.getD_none, getR_zero]
    exact h1
  · rw [hm, updF_ne _ _ (by omega)]; exact updF_same _ _ _
  · show decide (0 ≤ n) = true; simpa using hn
  · rfl
end Go.Proofs.Ytabkeggcaacldaa
