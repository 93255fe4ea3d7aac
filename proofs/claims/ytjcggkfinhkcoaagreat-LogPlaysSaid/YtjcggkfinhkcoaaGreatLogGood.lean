/-
  A log on a disk with power: what it has, and what is read.
-/
import Derived.Test.YtjcggkfinhkcoaaGreatLogPlain
namespace Go.Proofs.YtjcggkfinhkcoaaGreat
open Go.RowKit
set_option linter.unusedVariables false
set_option linter.unusedSimpArgs false

section
variable {d : DV}
theorem write_ok {k : Int} {s : ByteArray} (h0 : d.on = true) (h1 : s.size = 256) (h2 : 0 ≤ k ∧ k < d.blocks) (h3 : d.armed = true → 0 < d.left) : d.write k s = (d.spent.put k s, 0) := by
  unfold DV.write
  rw [if_neg (by rw [h0]; simp), if_neg (by simpa using h1), if_neg (by omega), if_neg (by intro h; have := h3 h.1; omega)]
theorem flush_ok (h0 : d.on = true) (h3 : d.armed = true → 0 < d.left) : d.flush = (d.spent.flushed, 0) := by
  unfold DV.flush
  rw [if_neg (by rw [h0]; simp), if_neg (by intro h; have := h3 h.1; omega)]
theorem read_now {k : Int} (h0 : d.on = true) (h1 : 0 ≤ k ∧ k < d.blocks) : d.read k = ((d.now k).getD zeroB, 0) := by
  unfold DV.read readO
  rw [if_neg (by rw [h0]; decide), if_neg (by omega)]
  cases d.now k <;> rfl
def DV.small (d : DV) : Prop := ∀ k b, d.now k = some b → b.size = 256
theorem zeroB_size : zeroB.size = 256 := by decide +kernel
theorem read_size (h : d.small) (k : Int) (h0 : (d.read k).2 = 0) : (d.read k).1.size = 256 := by
  unfold DV.read readO at h0 ⊢
  split at h0
  · exact absurd h0 (by show ¬ (14 : Int) = 0; decide)
  · rename_i h1
    rw [if_neg h1]
    split at h0
    · exact absurd h0 (by show ¬ (15 : Int) = 0; decide)
    · rename_i h2
      rw [if_neg h2]
      split
      · rename_i b e; exact h _ _ e
      · exact zeroB_size
theorem put_small {k : Int} {s : ByteArray} (h : d.small) (hs : s.size = 256) : (d.put k s).small := by
  intro j b e
  have e : updF d.now k s j = some b := e
  unfold updF at e
  split at e
  · injection e with e; rw [← e]; exact hs
  · exact h _ _ e
theorem updF_same (f : Int → Option ByteArray) (k : Int) (s : ByteArray) : updF f k s k = some s := if_pos rfl
theorem updF_ne (f : Int → Option ByteArray) {k j : Int} (s : ByteArray) (h : ¬ j = k) : updF f k s j = f j := if_neg h
end
/-- A disk behind k writes of a list. -/
def putN (G : LV) (L : List ByteArray) (d : DV) : Nat → DV
  | 0 => d
  | k + 1 => (putN G L d k).spent.put (G.frm + (G.used + k)) (L.getD k ByteArray.empty)
theorem putN_same (G : LV) (L : List ByteArray) (d : DV) : ∀ k : Nat, (putN G L d k).on = d.on ∧ (putN G L d k).armed = d.armed ∧ (putN G L d k).blocks = d.blocks ∧ (putN G L d k).lasts = d.lasts ∧ (putN G L d k).keep = d.keep
  | 0 => ⟨rfl, rfl, rfl, rfl, rfl⟩
  | k + 1 => putN_same G L d k
theorem putN_small {G : LV} {L : List ByteArray} {d : DV} (h : d.small) : ∀ k : Nat, k ≤ L.length → (∀ b ∈ L, b.size = 256) → (putN G L d k).small
  | 0, _, _ => h
  | k + 1, hk, hz => put_small (d := (putN G L d k).spent) (putN_small h k (by omega) hz) (hz _ (by rw [List.getD_eq_getElem?_getD, List.getElem?_eq_getElem (by omega)]; exact List.getElem_mem _))
theorem putN_now {G : LV} {L : List ByteArray} {d : DV} {U : Nat} (hU : G.used = U) (i : Nat) : ∀ k : Nat, (putN G L d k).now (G.frm + i) = if U ≤ i ∧ i < U + k then some (L.getD (i - U) ByteArray.empty) else d.now (G.frm + i)
  | 0 => by rw [if_neg (by omega)]; rfl
  | k + 1 => by
    have ih := putN_now (L := L) (d := d) hU i k
    show updF (putN G L d k).now (G.frm + (G.used + k)) (L.getD k ByteArray.empty) (G.frm + i) = _
    by_cases h : i = U + k
    · rw [show G.frm + (i : Int) = G.frm + (G.used + k) by rw [hU, h]; omega, updF_same, if_pos (by omega), show i - U = k by omega]
    · rw [updF_ne _ _ (by omega), ih]
      by_cases h2 : U ≤ i ∧ i < U + k
      · rw [if_pos h2, if_pos (by omega)]
      · rw [if_neg h2, if_neg (by omega)]
theorem apN_fine {G : LV} {L : List ByteArray} {d : DV} (hon : d.on = true) (har : d.armed = false) (hz : ∀ b ∈ L, b.size = 256) (hr : 0 ≤ G.frm + G.used ∧ G.frm + G.used + L.length ≤ d.blocks) : ∀ k : Nat, k ≤ L.length → apN G L d k = (putN G L d k, k, 0)
  | 0, _ => rfl
  | k + 1, hk => by
    have ih := apN_fine hon har hz hr k (by omega)
    obtain ⟨s1, s2, s3, _, _⟩ := putN_same G L d k
    have hw : (putN G L d k).write (G.frm + (G.used + k)) (L.getD k ByteArray.empty) = ((putN G L d k).spent.put (G.frm + (G.used + k)) (L.getD k ByteArray.empty), 0) :=
      write_ok (s1.trans hon) (hz _ (by rw [List.getD_eq_getElem?_getD, List.getElem?_eq_getElem (by omega)]; exact List.getElem_mem _)) ⟨by omega, by rw [s3]; omega⟩ (by rw [s2, har]; intro h; cases h)
    unfold apN
    rw [ih]
    dsimp only
    rw [if_neg (by decide), hw]
    rfl
/-- A log on a disk with power has these records, and behind them these blocks. -/
structure LI (d : DV) (G : LV) (R rest : List ByteArray) (n : Nat) : Prop where
  on : d.on = true
  ar : d.armed = false
  sm : d.small
  nn : G.n = n
  bad : G.bad = 0
  recs : G.recs = R.length
  used : G.used = (flatR G.gen 0 R).length
  rng : 0 ≤ G.frm ∧ G.frm + n ≤ d.blocks
  hz : ∀ s ∈ R, s.size ≤ 3000
  blk : blkN d G.frm n = flatR G.gen 0 R ++ rest
theorem LI.le {d : DV} {G : LV} {R rest : List ByteArray} {n : Nat} (h : LI d G R rest n) : (flatR G.gen 0 R).length + rest.length = n := by
  have := congrArg List.length h.blk
  rw [blkN_len, List.length_append] at this; omega
theorem blkN_get (d : DV) (frm : Int) {n i : Nat} (h : i < n) (hon : d.on = true) (hr : 0 ≤ frm ∧ frm + n ≤ d.blocks) : (blkN d frm n)[i]? = some ((d.now (frm + i)).getD zeroB) := by
  unfold blkN
  rw [List.getElem?_map, List.getElem?_range h]
  show some (d.read (frm + i)).1 = _
  rw [read_now hon ⟨by omega, by omega⟩]
theorem LI.app {d : DV} {G : LV} {R rest : List ByteArray} {n : Nat} (h : LI d G R rest n) (s : ByteArray) (hs : s.size ≤ 3000) (hl : blks s.size ≤ rest.length) :
    (G.app d s).2.2 = 0 ∧ LI (G.app d s).1 (G.app d s).2.1 (R ++ [s]) (rest.drop (blks s.size)) n ∧ (G.app d s).1.lasts = d.lasts ∧ (G.app d s).1.blocks = d.blocks := by
  obtain ⟨N, hN⟩ : ∃ N, N = blks s.size := ⟨_, rfl⟩
  obtain ⟨U, hU⟩ : ∃ U, U = (flatR G.gen 0 R).length := ⟨_, rfl⟩
  have hle := h.le
  have hu : G.used = U := by rw [h.used, hU]
  have hLl : (layL G.gen G.recs s).length = N := by rw [layL_len, hN]
  rw [← hU] at hle
  rw [← hN] at hl
  have hfine := apN_fine (G := G) (L := layL G.gen G.recs s) (d := d) h.on h.ar (layL_size _ _ _) ⟨by have := h.rng; omega, by rw [hLl]; have := h.rng; omega⟩ N (by rw [hLl]; exact Nat.le_refl _)
  have happ : G.app d s = (putN G (layL G.gen G.recs s) d N, { G.at N with recs := G.recs + 1 }, 0) := by
    unfold LV.app
    rw [if_neg (by omega), if_neg (by unfold LV.left; rw [h.nn, hu, ← hN]; omega), ← hN]
    dsimp only
    rw [hfine, if_neg (by show ¬ (0 : Int) ≠ 0; decide)]
  obtain ⟨s1, s2, s3, s4, _⟩ := putN_same G (layL G.gen G.recs s) d N
  rw [happ]
  refine ⟨rfl, ⟨s1.trans h.on, s2.trans h.ar, putN_small h.sm N (by rw [hLl]; exact Nat.le_refl _) (layL_size _ _ _), h.nn, h.bad, ?_, ?_, ?_, ?_, ?_⟩, s4, s3⟩
  · show G.recs + 1 = _; rw [h.recs, List.length_append]; simp
  · show G.used + N = ((flatR G.gen 0 (R ++ [s])).length : Int)
    rw [flatR_snoc, List.length_append, layL_len, ← hN, ← hU, hu]; omega
  · exact ⟨h.rng.1, by rw [s3]; exact h.rng.2⟩
  · intro x hx
    rcases List.mem_append.1 hx with h' | h'
    · exact h.hz x h'
    · rw [List.mem_singleton.1 h']; exact hs
  · show blkN _ G.frm n = flatR G.gen 0 (R ++ [s]) ++ rest.drop (blks s.size)
    rw [flatR_snoc, ← hN, Nat.zero_add, ← h.recs]
    apply List.ext_getElem?
    intro i
    by_cases hi : i < n
    · rw [blkN_get _ _ hi (s1.trans h.on) ⟨h.rng.1, by rw [s3]; exact h.rng.2⟩, putN_now hu]
      have hold := blkN_get d G.frm hi h.on h.rng
      rw [h.blk] at hold
      by_cases h1 : i < U
      · rw [if_neg (by omega), ← hold, List.append_assoc, List.getElem?_append_left (by omega), List.getElem?_append_left (by omega)]
      · by_cases h2 : i < U + N
        · rw [if_pos (by omega), List.append_assoc, List.getElem?_append_right (by omega), ← hU, List.getElem?_append_left (by omega), List.getD_eq_getElem?_getD, List.getElem?_eq_getElem (by omega)]
          rfl
        · rw [if_neg (by omega), ← hold, List.append_assoc, List.getElem?_append_right (by omega), List.getElem?_append_right (by omega), ← hU, List.getElem?_append_right (by omega), hLl, List.getElem?_drop, show N + (i - U - N) = i - U by omega]
    · rw [List.getElem?_eq_none (by rw [blkN_len]; omega), List.getElem?_eq_none (by rw [List.length_append, List.length_append, List.length_drop, hLl, ← hU]; omega)]
theorem LI.full {d : DV} {G : LV} {R rest : List ByteArray} {n : Nat} (h : LI d G R rest n) (s : ByteArray) (hs : s.size ≤ 3000) (hl : ¬ blks s.size ≤ rest.length) : G.app d s = (d, G, 20) := by
  unfold LV.app
  rw [if_neg (by omega), if_pos (by unfold LV.left; have := h.le; have := h.used; have := h.nn; omega)]
theorem LI.err {d : DV} {G : LV} {R rest : List ByteArray} {n : Nat} (h : LI d G R rest n) : ∀ k : Nat, k ≤ n → errN d G.frm k = 0
  | 0, _ => rfl
  | k + 1, hk => by
    show (if errN d G.frm k ≠ 0 then _ else (d.read (G.frm + k)).2) = 0
    rw [if_neg (by simpa using h.err k (by omega)), read_now h.on ⟨by have := h.rng; omega, by have := h.rng; omega⟩]
/-- What is read of it. -/
theorem LI.read {d : DV} {G : LV} {R rest : List ByteArray} {n : Nat} (h : LI d G R rest n) (hc : rest ≠ [] → (rest.getD 0 ByteArray.empty).data.toList.take 16 ≠ sigL G.gen R.length) : rdL d G.frm n G.gen = R := by
  unfold rdL
  rw [if_neg (by simpa using h.err n (Nat.le_refl _)), h.blk]
  exact play_all G.gen R rest h.hz hc
theorem LI.other {d : DV} {G : LV} {R rest : List ByteArray} {n : Nat} {g : Int} (h : LI d G R rest n) (hg : 0 ≤ g ∧ g ≤ 18446744073709551615) (hG : 0 ≤ G.gen ∧ G.gen ≤ 18446744073709551615) (hne : g ≠ G.gen) (hc : rest ≠ [] → (rest.getD 0 ByteArray.empty).data.toList.take 16 ≠ sigL g 0) : rdL d G.frm n g = [] := by
  unfold rdL
  rw [if_neg (by simpa using h.err n (Nat.le_refl _)), h.blk]
  cases R with
  | nil =>
    show play g [] ([] ++ rest) = []
    rw [List.nil_append]
    by_cases h0 : rest = []
    · rw [h0]; exact play_nil _ _
    · exact play_stop (whole_none (hc h0))
  | cons s R =>
    refine play_stop (whole_none ?_)
    have hN : 0 < blks s.size := by unfold blks; split <;> omega
    show ((layL G.gen (0 : Nat) s ++ flatR G.gen (0 + 1) R ++ rest).getD 0 ByteArray.empty).data.toList.take 16 ≠ sigL g (0 : Nat)
    rw [List.append_assoc, getD_app _ _ (by rw [layL_len]; exact hN), layL_get _ _ _ hN]
    unfold blkB
    rw [put_sig]
    exact fun e => hne (sig_inj hg hG e.symm)
theorem zero_sig (g nb : Int) : zeroB.data.toList.take 16 ≠ sigL g nb := by
  intro h
  have h2 : (zeroB.data.toList.take 16).getD 0 0 = (sigL g nb).getD 0 0 := by rw [h]
  have h3 : (zeroB.data.toList.take 16).getD 0 0 = 0 := by decide +kernel
  have h4 : (sigL g nb).getD 0 0 = 87 := rfl
  rw [h3, h4] at h2
  exact absurd h2 (by decide)
/-- A new log on a new disk. -/
theorem li_new (b frm g : Int) (n : Nat) (h1 : 0 ≤ frm ∧ frm + n ≤ b) : LI (DV.fresh b) (LV.new frm n g) [] (List.replicate n zeroB) n := by
  refine ⟨rfl, rfl, (fun k x e => nomatch (show (none : Option ByteArray) = some x from e)), rfl, rfl, rfl, rfl, h1, (fun s hs => nomatch hs), ?_⟩
  show blkN (DV.fresh b) frm n = [] ++ List.replicate n zeroB
  rw [List.nil_append]
  apply List.ext_getElem?
  intro i
  by_cases hi : i < n
  · rw [blkN_get _ _ hi rfl h1, List.getElem?_replicate, if_pos hi]; rfl
  · rw [List.getElem?_eq_none (by rw [blkN_len]; omega), List.getElem?_eq_none (by simp; omega)]
theorem clean_rep {m : Nat} (g nb : Int) : List.replicate m zeroB ≠ [] → ((List.replicate m zeroB).getD 0 ByteArray.empty).data.toList.take 16 ≠ sigL g nb := by
  intro h
  cases m with
  | zero => exact absurd rfl h
  | succ m => exact zero_sig g nb
end Go.Proofs.YtjcggkfinhkcoaaGreat
