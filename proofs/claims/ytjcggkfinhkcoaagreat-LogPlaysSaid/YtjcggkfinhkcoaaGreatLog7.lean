/-
  The contract of a log's Read.
-/
import Derived.Test.YtjcggkfinhkcoaaGreatLog6
import Derived.Test.YtjcggkfinhkcoaaGreatLog3
namespace Go.Proofs.YtjcggkfinhkcoaaGreat
open Go.RowKit
set_option linter.unusedVariables false
set_option linter.unusedSimpArgs false

theorem wholeR_le (g nb : Int) (bs : List ByteArray) : (wholeR g nb bs).2 ≤ bs.length ∧ (wholeR g nb bs).1.size ≤ 3000 := by
  unfold wholeR
  split
  · rename_i h; exact ⟨h.1.2, h.2.2.1.1⟩
  · exact ⟨Nat.zero_le _, by decide⟩
/-- The records that are read, behind some. -/
def play (g : Int) (out bs : List ByteArray) : List ByteArray :=
  if h : bs = [] then out else if hr : (wholeR g out.length bs).2 = 0 then out else play g (out ++ [(wholeR g out.length bs).1]) (bs.drop (wholeR g out.length bs).2)
termination_by bs.length
decreasing_by
  have : 0 < bs.length := List.length_pos_iff.2 h
  rw [List.length_drop]; omega
theorem play_nil (g : Int) (out : List ByteArray) : play g out [] = out := by rw [play]; simp
theorem play_stop {g : Int} {out bs : List ByteArray} (hr : (wholeR g out.length bs).2 = 0) : play g out bs = out := by
  rw [play]
  split
  · rfl
  · first | rfl | rw [dif_pos hr]
theorem play_go {g : Int} {out bs : List ByteArray} (h : bs ≠ []) (hr : (wholeR g out.length bs).2 ≠ 0) : play g out bs = play g (out ++ [(wholeR g out.length bs).1]) (bs.drop (wholeR g out.length bs).2) := by
  rw [play, dif_neg h, dif_neg hr]
def blkN (d : DV) (frm : Int) (k : Nat) : List ByteArray := (List.range k).map (fun i : Nat => (d.read (frm + i)).1)
theorem blkN_succ (d : DV) (frm : Int) (k : Nat) : blkN d frm (k + 1) = blkN d frm k ++ [(d.read (frm + k)).1] := by unfold blkN; rw [List.range_succ, List.map_append]; rfl
theorem blkN_len (d : DV) (frm : Int) (k : Nat) : (blkN d frm k).length = k := by simp [blkN]
/-- The first error among k reads. -/
def errN (d : DV) (frm : Int) : Nat → Int
  | 0 => 0
  | k + 1 => if errN d frm k ≠ 0 then errN d frm k else (d.read (frm + k)).2
theorem errN_stay {d : DV} {frm : Int} {k : Nat} (h : errN d frm k ≠ 0) : ∀ j, errN d frm (k + j) = errN d frm k
  | 0 => rfl
  | j + 1 => by
    have e := errN_stay h j
    show (if errN d frm (k + j) ≠ 0 then errN d frm (k + j) else _) = _
    rw [e, if_pos h]
def rdL (d : DV) (frm : Int) (n : Nat) (g : Int) : List ByteArray := if errN d frm n ≠ 0 then [] else play g [] (blkN d frm n)
/-- What Read leaves. -/
def RetRd (w : World) (l : List ByteArray) (x : Int) (e : Ending) (w' : World) : Prop := ∃ v, e = .returned (.tuple #[v, .int .i64 x]) ∧ w'.ownsRow w.heap.size 9 1 v l.length (l.map Value.string) ∧ Below w.heap.size w w'
def slLen : Value → Nat
  | .slice _ n _ => n
  | _ => 0
theorem TextsAt.drop {w : World} {b o n c : Nat} {l : List ByteArray} (h : TextsAt w (.slice (some ⟨b, o, none⟩) n c) l) (k : Nat) (hk : k ≤ l.length) (hb : b < w.heap.size) : TextsAt w (.slice (some ⟨b, o + k, none⟩) (n - k) (c - k)) (l.drop k) := by
  obtain ⟨a, c', e1, h2, h3, h4⟩ := h
  injection e1 with e1 e2 e3
  subst e2 e3
  refine ⟨_, _, by rw [List.length_drop], fun s hs => h2 s (List.mem_of_mem_drop hs), ⟨by rw [List.length_drop]; omega, by omega⟩, fun hn => ⟨b, o + k, rfl, hb, fun j hj => ?_⟩⟩
  rw [List.length_drop] at hj
  obtain ⟨b', o', e5, _, e7⟩ := h4 (fun hh => hn (by rw [hh]; simp))
  rw [e5] at e1; injection e1 with e1; injection e1 with q1 q2
  subst q1 q2
  have := e7 (k + j) (by omega)
  rw [Nat.add_assoc, this]
  rw [List.getD_eq_getElem?_getD, List.getD_eq_getElem?_getD, List.getElem?_drop]

section
variable {w : World} {B q c : Nat} {d : DV}
set_option maxRecDepth 100000 in
theorem lread_no (frm n g : Int) (hX : ¬ (0 < g ∧ 1 ≤ n ∧ n ≤ 4096)) : Calls Tryz.prog 13 #[.pointer (some ⟨q, 0, none⟩), .int .i64 frm, .int .i64 n, .int .u64 g] w (RetB w (.tuple #[.slice none 0 0, .int .i64 1])) := by
  have hd : (decide (0 < g) && decide (1 ≤ n) && decide (n ≤ 4096)) = false := by
    by_cases h1 : 0 < g
    · by_cases h2 : 1 ≤ n
      · have h3 : ¬ n ≤ 4096 := fun h3 => hX ⟨h1, h2, h3⟩
        simp [h1, h2, h3]
      · simp [h2]
    · simp [h1]
  have HX := Lib.hid hd
  clear hd hX
  go_enter Tryz.func13, Tryz.ntmps13
  go_wp2_with fail
  refine (right_any q n g _).mono ?_
  rintro e w1 ⟨rfl, hb1⟩
  rw [HX.out]
  go_wp2
  go_ret2
  exact ⟨rfl, hb1⟩
theorem lread_nil (frm n g : Int) : Calls Tryz.prog 13 #[.pointer none, .int .i64 frm, .int .i64 n, .int .u64 g] w (RetB w (.tuple #[.slice none 0 0, .int .i64 1])) := by
  go_enter Tryz.func13, Tryz.ntmps13
  go_wp2_with fail
  refine (right_nil n g _).mono ?_
  rintro e w1 ⟨rfl, hb1⟩
  go_wp2
  go_ret2
  exact ⟨rfl, hb1⟩
set_option maxRecDepth 100000 in
set_option maxHeartbeats 8000000 in
theorem lread_any (frm g : Int) (n : Nat) (h : DiskAt w B q c d) (hg : 0 < g ∧ g ≤ 18446744073709551615) (hn : 1 ≤ n ∧ n ≤ 4096) (hf : -1000000 ≤ frm ∧ frm ≤ 1000000) (hz : ∀ k, (d.read k).2 = 0 → (d.read k).1.size = 256) :
    Calls Tryz.prog 13 #[.pointer (some ⟨q, 0, none⟩), .int .i64 frm, .int .i64 n, .int .u64 g] w (RetRd w (rdL d frm n g) (errN d frm n)) := by
  obtain ⟨i0, hi, hz0, hz1, hz2⟩ := info_parts info_strS
  have HD := Lib.hid h
  have HZ := Lib.hid hz
  have hd : (decide (0 < g) && decide (1 ≤ (n : Int)) && decide ((n : Int) ≤ 4096)) = true := by
    have h1 : (1 : Int) ≤ n := by omega
    have h2 : (n : Int) ≤ 4096 := by omega
    simp [hg.1, h1, h2]
  have HX := Lib.hid hd
  have HG := Lib.hid hg
  have hnI : (n : Int) ≤ 4096 := by omega
  obtain ⟨n1, n2⟩ := hn
  clear h hz hd hg
  go_enter Tryz.func13, Tryz.ntmps13
  go_wp2_with fail
  refine (right_any q n g _).mono ?_
  rintro e w1 ⟨rfl, hb1⟩
  rw [HX.out]
  have HB1 := Lib.hid hb1
  clear hb1
  go_wp2
  go_loopw [10, 23] (fun vb x wr => ∃ k : Nat, k ≤ n ∧ x = .int .i64 k ∧ Hid (errN d frm k = 0) ∧ Hid (wr.ownsRow w.heap.size 9 1 vb k ((blkN d frm k).map Value.string)) ∧ Hid (Below w.heap.size w wr) ∧ Hid (∀ b ∈ blkN d frm k, b.size = 256)) (fun _ x _ => n - (intOf x).toNat)
  case atStart => exact ⟨0, Nat.zero_le _, rfl, Lib.hid rfl, Lib.hid (World.ownsRow_nil _ _ _ _), HB1, Lib.hid (by intro b hb; simp [blkN] at hb)⟩
  case round =>
    obtain ⟨k, hk, rfl, HE, HO, HB, HS⟩ := hrel
    by_cases hlt : k < n
    · have hkI : (k : Int) < 4096 := by omega
      go_wp2_with fail
      refine (read_any (frm + k) (HD.out.step HB.out) (by unfold I64; omega)).mono ?_
      rintro e w2 ⟨rfl, hb2⟩
      have HO2 := Lib.hid (own_step HO.out hb2)
      have HB2 := Lib.hid (chain HB.out hb2)
      have HSUC := Lib.hid (blkN_succ d frm k)
      have HES := Lib.hid (show errN d frm (k + 1) = (d.read (frm + k)).2 by show (if errN d frm k ≠ 0 then _ else _) = _; rw [if_neg (by simpa using HE.out)])
      have HZK := Lib.hid (HZ.out (frm + k))
      obtain ⟨b, hb⟩ : ∃ b, b = (d.read (frm + k)).1 := ⟨_, rfl⟩
      obtain ⟨x, hx⟩ : ∃ b, b = (d.read (frm + k)).2 := ⟨_, rfl⟩
      rw [← hb] at HSUC HZK ⊢
      rw [← hx] at HES HZK ⊢
      have hsz : w.heap.size ≤ w2.heap.size := HB2.out.size
      obtain ⟨v0, ca, rfl⟩ := own_form HO.out
      clear hb2 hb hx
      by_cases he : x = 0
      · subst he
        go_wp2_with (at_builtin; refine wpList_append_lies _ rfl (.tmp 37) (.tmp 39) 32 rfl w.heap.size 9 i0 (.string ByteArray.empty) 1 16 Tryz.underlying32 hi hz0 hz1 hz2 rfl (by decide) _ k ((blkN d frm k).map Value.string) rfl (HO2.out.alloc _) ⟨w2.heap.size, 0, none⟩ 1 1 [.string b] rfl rfl ?c1 ?c2 (by decide) ?c3 ?c4 ?c5 (w2.heap.size + 1) ?c6 ?_)
        case c1 => exact one_cell _ _ _
        case c2 => simp [Value.oneCell']
        case c3 => unfold maxLen; omega
        case c4 => omega
        case c5 => simp; omega
        case c6 => simp
        intro g3 cp w3 hown hg3 hat hlt3
        have HO3 := Lib.hid (show w3.ownsRow w.heap.size 9 1 (.slice (some ⟨g3, 0, none⟩) (k + 1) cp) (k + 1) ((blkN d frm (k + 1)).map Value.string) by rw [HSUC.out, List.map_append]; exact hown)
        have HB3 := Lib.hid (Below.grown (bel_alloc (o := .cells #[.string b] 9) HB2.out hsz) hg3 (by simp; omega) (fun j hj => (HO2.out.lt j hj).1))
        clear hown hg3 hat hlt3
        go_wp2
        go_roundw
        case rel => exact ⟨k + 1, hlt, by go_num, HES, HO3, HB3, Lib.hid (by
          rw [HSUC.out]; intro y hy
          rcases List.mem_append.1 hy with h | h
          · exact HS.out y h
          · rw [List.mem_singleton.1 h]; exact HZK.out (by trivial))⟩
        case measure => simp [intOf]; omega
      · have he' : (x != 0) = true := by simpa using he
        have hstay : errN d frm n = x := by
          have h9 := errN_stay (d := d) (frm := frm) (k := k + 1) (by rw [HES.out]; exact he) (n - (k + 1))
          rw [show k + 1 + (n - (k + 1)) = n by omega] at h9
          rw [h9, HES.out]
        have HR1 := Lib.hid hstay
        have HR2 := Lib.hid (show rdL d frm n g = [] by unfold rdL; rw [if_pos (by rw [hstay]; exact he)])
        clear he hstay
        go_wp2
        go_ret2
        exact ⟨_, by rw [HR1.out]; rfl, by rw [HR2.out]; exact World.ownsRow_nil _ _ _ _, HB2.out⟩
    · have hkn : k = n := by omega
      have HEN := Lib.hid (show errN d frm n = 0 by rw [← hkn]; exact HE.out)
      have HRL := Lib.hid (show rdL d frm n g = play g [] (blkN d frm n) by unfold rdL; rw [if_neg (by rw [← hkn]; simpa using HE.out)])
      have HSN := Lib.hid (show ∀ b ∈ blkN d frm n, b.size = 256 by rw [← hkn]; exact HS.out)
      obtain ⟨v0, ca, rfl⟩ := own_form HO.out
      have hov : wr.ownsRow w.heap.size 9 1 (.slice v0 n ca) n ((blkN d frm n).map Value.string) := by have := HO.out; rw [hkn] at this; exact this
      have htx : TextsAt wr (.slice v0 n ca) (blkN d frm n) := texts_of_own (B := w.heap.size) (by rw [blkN_len]; exact hov) (fun s hs => by rw [HSN.out s hs]; decide)
      obtain ⟨b0, rfl⟩ : ∃ b0, v0 = some ⟨b0, 0, none⟩ := by
        rcases hov.2 with ⟨_, h⟩ | ⟨gg, cc, cur, h, _⟩
        · omega
        · injection h with h _ _; exact ⟨gg, h⟩
      have hbl : b0 < wr.heap.size := (hov.lt b0 rfl).2
      have hkk : (Value.slice (some ⟨b0, 0, none⟩) k ca) = .slice (some ⟨b0, 0, none⟩) n ca := by rw [hkn]
      rw [hkk]
      have HT0 := Lib.hid htx
      clear hkn hkk hov htx HO HE HS
      go_wp2
      go_loopw [10, 11] (fun v10 v11 wr2 => ∃ (rest out : List ByteArray) (off cp : Nat), v10 = .slice (some ⟨b0, off, none⟩) rest.length cp ∧ Hid (TextsAt wr2 (.slice (some ⟨b0, off, none⟩) rest.length cp) rest) ∧ Hid (wr2.ownsRow w.heap.size 9 1 v11 out.length (out.map Value.string)) ∧ Hid (play g out rest = rdL d frm n g) ∧ Hid (out.length + rest.length ≤ n) ∧ Hid (∀ b ∈ rest, b.size = 256) ∧ Hid (Below w.heap.size w wr2) ∧ Hid (b0 < wr2.heap.size) ∧ Hid (v11.ownBlock ≠ some b0)) (fun v _ _ => slLen v)
      case atStart => exact ⟨blkN d frm n, [], 0, ca, by rw [blkN_len], Lib.hid (by rw [blkN_len]; exact HT0.out), Lib.hid (World.ownsRow_nil _ _ _ _), Lib.hid HRL.out.symm, Lib.hid (by rw [blkN_len]; simp), HSN, HB, Lib.hid hbl, Lib.hid (by simp [Value.ownBlock])⟩
      case round =>
        obtain ⟨rest, out, off, cp, rfl, HT, HO, HP, HLL, HSZ, HB2, HBL, HNB⟩ := hrel
        by_cases h0 : rest = []
        · have HRES := Lib.hid (show rdL d frm n g = out by rw [← HP.out, h0]; exact play_nil _ _)
          have hl0 : rest.length = 0 := by rw [h0]; rfl
          have hl1 : ¬ (0 : Int) < rest.length := by omega
          clear h0
          go_wp2
          go_ret2
          exact ⟨_, by rw [HEN.out]; rfl, by rw [HRES.out]; exact HO.out, HB2.out⟩
        · have hlp : 0 < rest.length := List.length_pos_iff.2 h0
          have hlpI : (0 : Int) < rest.length := by omega
          have HNE := Lib.hid h0
          obtain ⟨v1, c1, rfl⟩ := own_form HO.out
          have HRL2 := Lib.hid (wholeR_le g out.length rest)
          obtain ⟨r1, r2, hr⟩ : ∃ a b, wholeR g out.length rest = (a, b) := ⟨_, _, rfl⟩
          rw [hr] at HRL2
          have HR := Lib.hid hr
          have hoI : (out.length : Int) ≤ 4096 := by have := HLL.out; omega
          have hcp : (rest.length : Int) ≤ cp := by
            obtain ⟨_, _, e1, _, e3, _⟩ := HT.out
            injection e1 with _ e1 e2
            omega
          clear h0 hr
          go_wp2_with fail
          have hwh := whole_any g out.length (.slice (some ⟨b0, off, none⟩) rest.length cp) rest wr ⟨by have := HG.out; omega, HG.out.2⟩ ⟨by omega, by omega⟩ HT.out (fun k hk => HSZ.out _ (by rw [List.getD_eq_getElem?_getD, List.getElem?_eq_getElem hk]; exact List.getElem_mem hk)) ⟨by omega, by have := HLL.out; omega⟩
          rw [HR.out] at hwh
          refine hwh.mono ?_
          rintro e w2 ⟨rfl, hb2⟩
          have HO2 := Lib.hid (own_step HO.out hb2)
          have HB3 := Lib.hid (chain HB2.out hb2)
          have HT2 := Lib.hid (HT.out.below hb2)
          have HBL2 := Lib.hid (show b0 < w2.heap.size by have := HBL.out; have := hb2.size; omega)
          have hsz : w.heap.size ≤ w2.heap.size := HB3.out.size
          have hr2 : r2 ≤ rest.length := HRL2.out.1
          clear hb2 hwh
          by_cases hz0' : r2 = 0
          · subst hz0'
            have HRES := Lib.hid (show rdL d frm n g = out by rw [← HP.out]; exact play_stop (by rw [HR.out]))
            go_wp2
            go_ret2
            exact ⟨_, by rw [HEN.out]; rfl, by rw [HRES.out]; exact HO2.out, HB3.out⟩
          · have hz1' : ((r2 : Int) == 0) = false := by simp; omega
            have HGO := Lib.hid (show play g (out ++ [r1]) (rest.drop r2) = rdL d frm n g by rw [← HP.out, play_go HNE.out (by rw [HR.out]; exact hz0'), HR.out])
            have hr2I : (r2 : Int) ≤ cp := by omega
            have hr2I2 : (r2 : Int) ≤ rest.length := by omega
            have hr2p : 0 < r2 := by omega
            clear hz0'
            go_wp2_with (at_builtin; refine wpList_append_lies _ rfl (.tmp 55) (.tmp 57) 32 rfl w.heap.size 9 i0 (.string ByteArray.empty) 1 16 Tryz.underlying32 hi hz0 hz1 hz2 rfl (by decide) _ out.length (out.map Value.string) rfl (HO2.out.alloc _) ⟨w2.heap.size, 0, none⟩ 1 1 [.string r1] rfl rfl ?c1 ?c2 (by decide) ?c3 ?c4 ?c5 (w2.heap.size + 1) ?c6 ?_)
            case c1 => exact one_cell _ _ _
            case c2 => simp [Value.oneCell']
            case c3 => unfold maxLen; omega
            case c4 => omega
            case c5 => simp; omega
            case c6 => simp
            intro g3 cp3 w3 hown hg3 hat hlt3
            have HO3 := Lib.hid (show w3.ownsRow w.heap.size 9 1 (.slice (some ⟨g3, 0, none⟩) (out.length + 1) cp3) (out ++ [r1]).length ((out ++ [r1]).map Value.string) by rw [List.map_append, List.length_append]; exact hown)
            have HB4 := Lib.hid (Below.grown (bel_alloc (o := .cells #[.string r1] 9) HB3.out hsz) hg3 (by simp; omega) (fun j hj => (HO2.out.lt j hj).1))
            have HT3 := Lib.hid (show TextsAt w3 (.slice (some ⟨b0, if cp = r2 then off else off + r2, none⟩) (rest.drop r2).length (cp - r2)) (rest.drop r2) by
              by_cases hcr : cp = r2
              · have hnil : rest.drop r2 = [] := List.drop_eq_nil_of_le (by omega)
                rw [hnil]
                exact ⟨_, _, rfl, by simp, ⟨by simp, by have := HT2.out; obtain ⟨_, _, e1, _, e3, _⟩ := this; injection e1 with _ _ e1; omega⟩, fun h => absurd rfl h⟩
              rw [if_neg hcr, List.length_drop]
              have hold : w3.heap[b0]? = w2.heap[b0]? := by
                rw [hg3.block b0 (by simp; have := HBL2.out; omega) (fun e => HNB.out e.symm), Below.heap_alloc _ _ _ HBL2.out]
              have h5 := HT2.out.drop r2 hr2 HBL2.out
              obtain ⟨a', c', e1, e2, e3, e4⟩ := h5
              refine ⟨a', c', e1, e2, e3, fun hn => ?_⟩
              obtain ⟨b', o', e5, e6, e7⟩ := e4 hn
              have hbb : b' = b0 := by rw [e5] at e1; injection e1 with e1 _ _; injection e1 with e1; injection e1 with e1 _; exact e1.symm
              subst hbb
              exact ⟨b', o', e5, by have := hg3.size; simp at this; omega, fun j hj => (World.cell?_of_block hold).trans (e7 j hj)⟩)
            have HBL3 := Lib.hid (show b0 < w3.heap.size by have := hg3.size; simp at this; have := HBL2.out; omega)
            have HNB3 := Lib.hid (show (Value.slice (some ⟨g3, 0, none⟩) (out.length + 1) cp3).ownBlock ≠ some b0 by
              intro e
              have e : g3 = b0 := by simpa [Value.ownBlock] using e
              rcases hat with h | h
              · exact HNB.out (by rw [h, e])
              · have := HBL2.out; omega)
            clear hown hg3 hat hlt3
            go_wp2
            go_roundw
            case rel => exact ⟨rest.drop r2, out ++ [r1], if cp = r2 then off else off + r2, cp - r2, by rw [List.length_drop]; split <;> rfl, HT3, HO3, HGO, Lib.hid (by rw [List.length_append, List.length_drop]; have := HLL.out; simp; omega), Lib.hid (fun b hb => HSZ.out b (List.mem_of_mem_drop hb)), HB4, HBL3, HNB3⟩
            case measure => simp [slLen]; omega
end
end Go.Proofs.YtjcggkfinhkcoaaGreat
